-- Written by a program of this session; it walks the functions that the law reaches.
import Derived.Test.YtlgegdgilkaldaaQx0
import Derived.Test.YtlgegdgilkaldaaQx10
import Derived.Test.YtlgegdgilkaldaaQx12
import Derived.Test.YtlgegdgilkaldaaQx15
import Derived.Test.YtlgegdgilkaldaaQx17
import Derived.Test.YtlgegdgilkaldaaQx19
namespace Go.Proofs.Ytlgegdgilkaldaa.Q
open Go.RowKit Go.Proofs.YtlgegdgilkaldaaW.PrintWords Go.Proofs.YtlgegdgilkaldaaW.PrintLast Go.Proofs.YtlgegdgilkaldaaW.PrintMore
attribute [local go_sem] max2_int min2_int max_two min_two max_three min_three max_four min_four   -- for this text's walks alone
set_option linter.unusedVariables false
set_option linter.unusedSimpArgs false

/-! ### laws_FnRoom: function 10 -/
mutual
def laws_FnRoom.j0 : Nat → List (S46) → Int → Bool → Int → List Int → Bool → Option (Bool)
 | 0, _, _, _, _, _, _ => none
 | k + 1, x3, x4, x5, x6, x8, x86 => if x86 = true then (some false) else (if x5 = true then (if x6 = 1 then (if x6 = 0 then (none) else (if (Int.tmod x4 x6) = 0 then (laws_FnRoom.j1 k x3 x4 x8 (decide (x4 < x6))) else (laws_FnRoom.j1 k x3 x4 x8 true))) else (if x6 = 2 then (if x6 = 0 then (none) else (if (Int.tmod x4 x6) = 0 then (laws_FnRoom.j1 k x3 x4 x8 (decide (x4 < x6))) else (laws_FnRoom.j1 k x3 x4 x8 true))) else (if x6 = 4 then (if x6 = 0 then (none) else (if (Int.tmod x4 x6) = 0 then (laws_FnRoom.j1 k x3 x4 x8 (decide (x4 < x6))) else (laws_FnRoom.j1 k x3 x4 x8 true))) else (if x6 = 8 then (if x6 = 0 then (none) else (if (Int.tmod x4 x6) = 0 then (laws_FnRoom.j1 k x3 x4 x8 (decide (x4 < x6))) else (laws_FnRoom.j1 k x3 x4 x8 true))) else (laws_FnRoom.j1 k x3 x4 x8 true))))) else (some (x4 == 0)))
def laws_FnRoom.j1 : Nat → List (S46) → Int → List Int → Bool → Option (Bool)
 | 0, _, _, _, _ => none
 | k + 1, x3, x4, x8, x115 => if x115 = true then (some false) else (laws_FnRoom.l0 k x3 x4 0 x8 (x8.length : Int) 0)
def laws_FnRoom.l0 : Nat → List (S46) → Int → Int → List Int → Int → Int → Option (Bool)
 | 0, _, _, _, _, _, _ => none
 | k + 1, x3, x4, x16, x116, x117, x118 => if x118 < x117 then (if 0 ≤ x118 then (if x118 < (x116.length : Int) then (if (rd x116 x118) < 0 then (some false) else (if (rd x116 x118) ≥ x4 then (some false) else (if 0 < (x3.length : Int) then (if ((rd_T46 x3 0).f0) = 14 then (if (rd x116 x118) < x16 then (some false) else (laws_FnRoom.l0 k x3 x4 (wrap64 ((rd x116 x118) + 1)) x116 x117 (wrap64 (x118 + 1)))) else (laws_FnRoom.l0 k x3 x4 (wrap64 ((rd x116 x118) + 1)) x116 x117 (wrap64 (x118 + 1)))) else (none)))) else (none)) else (none)) else ((impl_FlatOf.f k x3).bind fun bt598 => ((spec_FlatOf.f k x3).bind fun bt602 => (if (bt598.2 == bt602.2) = true then ((laws_sameInts.f k bt598.1 bt602.1).bind fun t606 => (if t606 = true then (if bt598.2 = true then (some (decide ((bt598.1.length : Int) > 0))) else (some true)) else (some false))) else (some false))))
end
def laws_FnRoom.f (k : Nat) (l0 : List Int) : Option (Bool) := if (l0.length : Int) > 1048576 then (some true) else ((spec_DrawOffsetsOf.f k l0).bind fun t576 => ((impl_SizeOf.f k t576).bind fun bt579 => ((impl_AlignOf.f k t576).bind fun bt581 => ((impl_OffsetsOf.f k t576).bind fun bt583 => ((spec_SizeOf.f k t576).bind fun bt587 => ((spec_AlignOf.f k t576).bind fun bt589 => ((spec_OffsetsOf.f k t576).bind fun bt591 => (if (bt579.2 != bt587.2) = true then (laws_FnRoom.j0 k t576 bt579.1 bt579.2 bt581.1 bt583.1 true) else (if (bt581.2 != bt587.2) = true then (laws_FnRoom.j0 k t576 bt579.1 bt579.2 bt581.1 bt583.1 true) else (if (bt583.2 != bt591.2) = true then (laws_FnRoom.j0 k t576 bt579.1 bt579.2 bt581.1 bt583.1 true) else (if bt579.1 = bt587.1 then (if bt581.1 = bt589.1 then ((laws_sameInts.f k bt583.1 bt591.1).bind fun t595 => (laws_FnRoom.j0 k t576 bt579.1 bt579.2 bt581.1 bt583.1 (!t595))) else (laws_FnRoom.j0 k t576 bt579.1 bt579.2 bt581.1 bt583.1 true)) else (laws_FnRoom.j0 k t576 bt579.1 bt579.2 bt581.1 bt583.1 true))))))))))))
theorem laws_FnRoom.mono_l : ∀ k, (∀ y0 y1 y2 y3 y4 y5, LeO (laws_FnRoom.j0 k y0 y1 y2 y3 y4 y5) (laws_FnRoom.j0 (k + 1) y0 y1 y2 y3 y4 y5)) ∧ (∀ y0 y1 y2 y3, LeO (laws_FnRoom.j1 k y0 y1 y2 y3) (laws_FnRoom.j1 (k + 1) y0 y1 y2 y3)) ∧ (∀ y0 y1 y2 y3 y4 y5, LeO (laws_FnRoom.l0 k y0 y1 y2 y3 y4 y5) (laws_FnRoom.l0 (k + 1) y0 y1 y2 y3 y4 y5))
 | 0 => ⟨fun _ _ _ _ _ _ r h => by simp [laws_FnRoom.j0] at h, fun _ _ _ _ r h => by simp [laws_FnRoom.j1] at h, fun _ _ _ _ _ _ r h => by simp [laws_FnRoom.l0] at h⟩
 | k + 1 => by
  obtain ⟨ih0, ih1, ih2⟩ := laws_FnRoom.mono_l k
  refine ⟨?_, ?_, ?_⟩
  ·
   intro y0 y1 y2 y3 y4 y5
   unfold laws_FnRoom.j0
   repeat' first
   | (with_reducible exact ih0 _ _ _ _ _ _)
   | (with_reducible exact ih1 _ _ _ _)
   | (with_reducible exact ih2 _ _ _ _ _ _)
   | (with_reducible exact impl_AlignOf.mono _ _)
   | (with_reducible exact impl_FlatOf.mono _ _)
   | (with_reducible exact impl_OffsetsOf.mono _ _)
   | (with_reducible exact impl_SizeOf.mono _ _)
   | (with_reducible exact laws_sameInts.mono _ _ _)
   | (with_reducible exact spec_AlignOf.mono _ _)
   | (with_reducible exact spec_DrawOffsetsOf.mono _ _)
   | (with_reducible exact spec_FlatOf.mono _ _)
   | (with_reducible exact spec_OffsetsOf.mono _ _)
   | (with_reducible exact spec_SizeOf.mono _ _)
   | (with_reducible exact LeO.refl _)
   | (with_reducible exact LeO.none _)
   | (with_reducible refine LeO.ite ?_ ?_)
   | (with_reducible refine LeO.bind ?_ (fun _ => ?_))
   | exact ih0 _ _ _ _ _ _
   | exact ih1 _ _ _ _
   | exact ih2 _ _ _ _ _ _
   | exact impl_AlignOf.mono _ _
   | exact impl_FlatOf.mono _ _
   | exact impl_OffsetsOf.mono _ _
   | exact impl_SizeOf.mono _ _
   | exact laws_sameInts.mono _ _ _
   | exact spec_AlignOf.mono _ _
   | exact spec_DrawOffsetsOf.mono _ _
   | exact spec_FlatOf.mono _ _
   | exact spec_OffsetsOf.mono _ _
   | exact spec_SizeOf.mono _ _
   | exact LeO.none _
   | refine LeO.ite ?_ ?_
   | refine LeO.bind ?_ (fun _ => ?_)
  ·
   intro y0 y1 y2 y3
   unfold laws_FnRoom.j1
   repeat' first
   | (with_reducible exact ih0 _ _ _ _ _ _)
   | (with_reducible exact ih1 _ _ _ _)
   | (with_reducible exact ih2 _ _ _ _ _ _)
   | (with_reducible exact impl_AlignOf.mono _ _)
   | (with_reducible exact impl_FlatOf.mono _ _)
   | (with_reducible exact impl_OffsetsOf.mono _ _)
   | (with_reducible exact impl_SizeOf.mono _ _)
   | (with_reducible exact laws_sameInts.mono _ _ _)
   | (with_reducible exact spec_AlignOf.mono _ _)
   | (with_reducible exact spec_DrawOffsetsOf.mono _ _)
   | (with_reducible exact spec_FlatOf.mono _ _)
   | (with_reducible exact spec_OffsetsOf.mono _ _)
   | (with_reducible exact spec_SizeOf.mono _ _)
   | (with_reducible exact LeO.refl _)
   | (with_reducible exact LeO.none _)
   | (with_reducible refine LeO.ite ?_ ?_)
   | (with_reducible refine LeO.bind ?_ (fun _ => ?_))
   | exact ih0 _ _ _ _ _ _
   | exact ih1 _ _ _ _
   | exact ih2 _ _ _ _ _ _
   | exact impl_AlignOf.mono _ _
   | exact impl_FlatOf.mono _ _
   | exact impl_OffsetsOf.mono _ _
   | exact impl_SizeOf.mono _ _
   | exact laws_sameInts.mono _ _ _
   | exact spec_AlignOf.mono _ _
   | exact spec_DrawOffsetsOf.mono _ _
   | exact spec_FlatOf.mono _ _
   | exact spec_OffsetsOf.mono _ _
   | exact spec_SizeOf.mono _ _
   | exact LeO.none _
   | refine LeO.ite ?_ ?_
   | refine LeO.bind ?_ (fun _ => ?_)
  ·
   intro y0 y1 y2 y3 y4 y5
   unfold laws_FnRoom.l0
   repeat' first
   | (with_reducible exact ih0 _ _ _ _ _ _)
   | (with_reducible exact ih1 _ _ _ _)
   | (with_reducible exact ih2 _ _ _ _ _ _)
   | (with_reducible exact impl_AlignOf.mono _ _)
   | (with_reducible exact impl_FlatOf.mono _ _)
   | (with_reducible exact impl_OffsetsOf.mono _ _)
   | (with_reducible exact impl_SizeOf.mono _ _)
   | (with_reducible exact laws_sameInts.mono _ _ _)
   | (with_reducible exact spec_AlignOf.mono _ _)
   | (with_reducible exact spec_DrawOffsetsOf.mono _ _)
   | (with_reducible exact spec_FlatOf.mono _ _)
   | (with_reducible exact spec_OffsetsOf.mono _ _)
   | (with_reducible exact spec_SizeOf.mono _ _)
   | (with_reducible exact LeO.refl _)
   | (with_reducible exact LeO.none _)
   | (with_reducible refine LeO.ite ?_ ?_)
   | (with_reducible refine LeO.bind ?_ (fun _ => ?_))
   | exact ih0 _ _ _ _ _ _
   | exact ih1 _ _ _ _
   | exact ih2 _ _ _ _ _ _
   | exact impl_AlignOf.mono _ _
   | exact impl_FlatOf.mono _ _
   | exact impl_OffsetsOf.mono _ _
   | exact impl_SizeOf.mono _ _
   | exact laws_sameInts.mono _ _ _
   | exact spec_AlignOf.mono _ _
   | exact spec_DrawOffsetsOf.mono _ _
   | exact spec_FlatOf.mono _ _
   | exact spec_OffsetsOf.mono _ _
   | exact spec_SizeOf.mono _ _
   | exact LeO.none _
   | refine LeO.ite ?_ ?_
   | refine LeO.bind ?_ (fun _ => ?_)
theorem laws_FnRoom.mono : ∀ a0 k, LeO (laws_FnRoom.f k a0) (laws_FnRoom.f (k + 1) a0) := by
 intro a0 k
 obtain ⟨ih0, ih1, ih2⟩ := laws_FnRoom.mono_l k
 unfold laws_FnRoom.f
 repeat' first
   | (with_reducible exact ih0 _ _ _ _ _ _)
   | (with_reducible exact ih1 _ _ _ _)
   | (with_reducible exact ih2 _ _ _ _ _ _)
   | (with_reducible exact impl_AlignOf.mono _ _)
   | (with_reducible exact impl_FlatOf.mono _ _)
   | (with_reducible exact impl_OffsetsOf.mono _ _)
   | (with_reducible exact impl_SizeOf.mono _ _)
   | (with_reducible exact laws_sameInts.mono _ _ _)
   | (with_reducible exact spec_AlignOf.mono _ _)
   | (with_reducible exact spec_DrawOffsetsOf.mono _ _)
   | (with_reducible exact spec_FlatOf.mono _ _)
   | (with_reducible exact spec_OffsetsOf.mono _ _)
   | (with_reducible exact spec_SizeOf.mono _ _)
   | (with_reducible exact LeO.refl _)
   | (with_reducible exact LeO.none _)
   | (with_reducible refine LeO.ite ?_ ?_)
   | (with_reducible refine LeO.bind ?_ (fun _ => ?_))
   | exact ih0 _ _ _ _ _ _
   | exact ih1 _ _ _ _
   | exact ih2 _ _ _ _ _ _
   | exact impl_AlignOf.mono _ _
   | exact impl_FlatOf.mono _ _
   | exact impl_OffsetsOf.mono _ _
   | exact impl_SizeOf.mono _ _
   | exact laws_sameInts.mono _ _ _
   | exact spec_AlignOf.mono _ _
   | exact spec_DrawOffsetsOf.mono _ _
   | exact spec_FlatOf.mono _ _
   | exact spec_OffsetsOf.mono _ _
   | exact spec_SizeOf.mono _ _
   | exact LeO.none _
   | refine LeO.ite ?_ ?_
   | refine LeO.bind ?_ (fun _ => ?_)
set_option maxHeartbeats 8000000 in
set_option maxRecDepth 100000 in
theorem laws_FnRoom.calls (k : Nat) (A0 : Option Addr) (c0 : Nat) (l0 : List Int) (r : Bool) (w : World) (hr0 : Kd.C (Kd.int .u8) w A0 l0.length l0) (hc0 : l0.length ≤ c0) (hTrue : r = true) (h : laws_FnRoom.f k l0 = some r) :
  Calls Try.prog 10 #[.slice A0 l0.length c0] w fun e w' => e = .returned (.bool r) ∧ Below w.heap.size w w' := by
 have HR0 := Aside0.mk hr0
 have HC0 := Aside0.mk hc0
 clear hr0 hc0
 have HB := Aside0.mk (Below.refl w.heap.size w)
 have H : (if (l0.length : Int) > 1048576 then (some true) else ((spec_DrawOffsetsOf.f k l0).bind fun t576 => ((impl_SizeOf.f k t576).bind fun bt579 => ((impl_AlignOf.f k t576).bind fun bt581 => ((impl_OffsetsOf.f k t576).bind fun bt583 => ((spec_SizeOf.f k t576).bind fun bt587 => ((spec_AlignOf.f k t576).bind fun bt589 => ((spec_OffsetsOf.f k t576).bind fun bt591 => (if (bt579.2 != bt587.2) = true then (laws_FnRoom.j0 k t576 bt579.1 bt579.2 bt581.1 bt583.1 true) else (if (bt581.2 != bt587.2) = true then (laws_FnRoom.j0 k t576 bt579.1 bt579.2 bt581.1 bt583.1 true) else (if (bt583.2 != bt591.2) = true then (laws_FnRoom.j0 k t576 bt579.1 bt579.2 bt581.1 bt583.1 true) else (if bt579.1 = bt587.1 then (if bt581.1 = bt589.1 then ((laws_sameInts.f k bt583.1 bt591.1).bind fun t595 => (laws_FnRoom.j0 k t576 bt579.1 bt579.2 bt581.1 bt583.1 (!t595))) else (laws_FnRoom.j0 k t576 bt579.1 bt579.2 bt581.1 bt583.1 true)) else (laws_FnRoom.j0 k t576 bt579.1 bt579.2 bt581.1 bt583.1 true))))))))))))) = some r := h
 clear h
 have HT := Aside0.mk hTrue
 clear hTrue
 by_cases c2 : (l0.length : Int) > 1048576
 ·
  rw [if_pos c2] at H
  have c2b0 : decide (1048576 < (l0.length : Int)) = true := decide_eq_true c2
  have c2b1 : decide (1048576 < l0.length) = true := decide_eq_true (by omega)
  clear c2
  obtain rfl := Option.some.inj H
  simp only [Option.some.injEq, Prod.mk.injEq] at H
  obtain ⟨rfl⟩ := H
  go_enter Try.func10, Try.ntmps10
  go_wp2
  go_ret
  exact ⟨by first | rfl | (simp [errW_none, errW_some] <;> rfl) | (simp [*, errW_none, errW_some] <;> rfl), bw HB.out⟩
 ·
  rw [if_neg c2] at H
  have c2b0 : decide (1048576 < (l0.length : Int)) = false := decide_eq_false c2
  have c2b1 : decide (1048576 < l0.length) = false := decide_eq_false (by omega)
  clear c2
  replace H := Option.bind_eq_some_iff.mp H
  obtain ⟨t576, A30, H⟩ := H
  replace H : ((impl_SizeOf.f k t576).bind fun bt579 => ((impl_AlignOf.f k t576).bind fun bt581 => ((impl_OffsetsOf.f k t576).bind fun bt583 => ((spec_SizeOf.f k t576).bind fun bt587 => ((spec_AlignOf.f k t576).bind fun bt589 => ((spec_OffsetsOf.f k t576).bind fun bt591 => (if (bt579.2 != bt587.2) = true then (laws_FnRoom.j0 k t576 bt579.1 bt579.2 bt581.1 bt583.1 true) else (if (bt581.2 != bt587.2) = true then (laws_FnRoom.j0 k t576 bt579.1 bt579.2 bt581.1 bt583.1 true) else (if (bt583.2 != bt591.2) = true then (laws_FnRoom.j0 k t576 bt579.1 bt579.2 bt581.1 bt583.1 true) else (if bt579.1 = bt587.1 then (if bt581.1 = bt589.1 then ((laws_sameInts.f k bt583.1 bt591.1).bind fun t595 => (laws_FnRoom.j0 k t576 bt579.1 bt579.2 bt581.1 bt583.1 (!t595))) else (laws_FnRoom.j0 k t576 bt579.1 bt579.2 bt581.1 bt583.1 true)) else (laws_FnRoom.j0 k t576 bt579.1 bt579.2 bt581.1 bt583.1 true))))))))))) = some r := H
  have A3 := Aside0.mk A30
  clear A30
  replace H := Option.bind_eq_some_iff.mp H
  obtain ⟨⟨t579, t580⟩, A40, H⟩ := H
  replace H : ((impl_AlignOf.f k t576).bind fun bt581 => ((impl_OffsetsOf.f k t576).bind fun bt583 => ((spec_SizeOf.f k t576).bind fun bt587 => ((spec_AlignOf.f k t576).bind fun bt589 => ((spec_OffsetsOf.f k t576).bind fun bt591 => (if (t580 != bt587.2) = true then (laws_FnRoom.j0 k t576 t579 t580 bt581.1 bt583.1 true) else (if (bt581.2 != bt587.2) = true then (laws_FnRoom.j0 k t576 t579 t580 bt581.1 bt583.1 true) else (if (bt583.2 != bt591.2) = true then (laws_FnRoom.j0 k t576 t579 t580 bt581.1 bt583.1 true) else (if t579 = bt587.1 then (if bt581.1 = bt589.1 then ((laws_sameInts.f k bt583.1 bt591.1).bind fun t595 => (laws_FnRoom.j0 k t576 t579 t580 bt581.1 bt583.1 (!t595))) else (laws_FnRoom.j0 k t576 t579 t580 bt581.1 bt583.1 true)) else (laws_FnRoom.j0 k t576 t579 t580 bt581.1 bt583.1 true)))))))))) = some r := H
  have A4 := Aside0.mk A40
  clear A40
  replace H := Option.bind_eq_some_iff.mp H
  obtain ⟨⟨t581, t582⟩, A50, H⟩ := H
  replace H : ((impl_OffsetsOf.f k t576).bind fun bt583 => ((spec_SizeOf.f k t576).bind fun bt587 => ((spec_AlignOf.f k t576).bind fun bt589 => ((spec_OffsetsOf.f k t576).bind fun bt591 => (if (t580 != bt587.2) = true then (laws_FnRoom.j0 k t576 t579 t580 t581 bt583.1 true) else (if (t582 != bt587.2) = true then (laws_FnRoom.j0 k t576 t579 t580 t581 bt583.1 true) else (if (bt583.2 != bt591.2) = true then (laws_FnRoom.j0 k t576 t579 t580 t581 bt583.1 true) else (if t579 = bt587.1 then (if t581 = bt589.1 then ((laws_sameInts.f k bt583.1 bt591.1).bind fun t595 => (laws_FnRoom.j0 k t576 t579 t580 t581 bt583.1 (!t595))) else (laws_FnRoom.j0 k t576 t579 t580 t581 bt583.1 true)) else (laws_FnRoom.j0 k t576 t579 t580 t581 bt583.1 true))))))))) = some r := H
  have A5 := Aside0.mk A50
  clear A50
  replace H := Option.bind_eq_some_iff.mp H
  obtain ⟨⟨t583, t584⟩, A60, H⟩ := H
  replace H : ((spec_SizeOf.f k t576).bind fun bt587 => ((spec_AlignOf.f k t576).bind fun bt589 => ((spec_OffsetsOf.f k t576).bind fun bt591 => (if (t580 != bt587.2) = true then (laws_FnRoom.j0 k t576 t579 t580 t581 t583 true) else (if (t582 != bt587.2) = true then (laws_FnRoom.j0 k t576 t579 t580 t581 t583 true) else (if (t584 != bt591.2) = true then (laws_FnRoom.j0 k t576 t579 t580 t581 t583 true) else (if t579 = bt587.1 then (if t581 = bt589.1 then ((laws_sameInts.f k t583 bt591.1).bind fun t595 => (laws_FnRoom.j0 k t576 t579 t580 t581 t583 (!t595))) else (laws_FnRoom.j0 k t576 t579 t580 t581 t583 true)) else (laws_FnRoom.j0 k t576 t579 t580 t581 t583 true)))))))) = some r := H
  have A6 := Aside0.mk A60
  clear A60
  replace H := Option.bind_eq_some_iff.mp H
  obtain ⟨⟨t587, t588⟩, A70, H⟩ := H
  replace H : ((spec_AlignOf.f k t576).bind fun bt589 => ((spec_OffsetsOf.f k t576).bind fun bt591 => (if (t580 != t588) = true then (laws_FnRoom.j0 k t576 t579 t580 t581 t583 true) else (if (t582 != t588) = true then (laws_FnRoom.j0 k t576 t579 t580 t581 t583 true) else (if (t584 != bt591.2) = true then (laws_FnRoom.j0 k t576 t579 t580 t581 t583 true) else (if t579 = t587 then (if t581 = bt589.1 then ((laws_sameInts.f k t583 bt591.1).bind fun t595 => (laws_FnRoom.j0 k t576 t579 t580 t581 t583 (!t595))) else (laws_FnRoom.j0 k t576 t579 t580 t581 t583 true)) else (laws_FnRoom.j0 k t576 t579 t580 t581 t583 true))))))) = some r := H
  have A7 := Aside0.mk A70
  clear A70
  replace H := Option.bind_eq_some_iff.mp H
  obtain ⟨⟨t589, t590⟩, A80, H⟩ := H
  replace H : ((spec_OffsetsOf.f k t576).bind fun bt591 => (if (t580 != t588) = true then (laws_FnRoom.j0 k t576 t579 t580 t581 t583 true) else (if (t582 != t588) = true then (laws_FnRoom.j0 k t576 t579 t580 t581 t583 true) else (if (t584 != bt591.2) = true then (laws_FnRoom.j0 k t576 t579 t580 t581 t583 true) else (if t579 = t587 then (if t581 = t589 then ((laws_sameInts.f k t583 bt591.1).bind fun t595 => (laws_FnRoom.j0 k t576 t579 t580 t581 t583 (!t595))) else (laws_FnRoom.j0 k t576 t579 t580 t581 t583 true)) else (laws_FnRoom.j0 k t576 t579 t580 t581 t583 true)))))) = some r := H
  have A8 := Aside0.mk A80
  clear A80
  replace H := Option.bind_eq_some_iff.mp H
  obtain ⟨⟨t591, t592⟩, A90, H⟩ := H
  replace H : (if (t580 != t588) = true then (laws_FnRoom.j0 k t576 t579 t580 t581 t583 true) else (if (t582 != t588) = true then (laws_FnRoom.j0 k t576 t579 t580 t581 t583 true) else (if (t584 != t592) = true then (laws_FnRoom.j0 k t576 t579 t580 t581 t583 true) else (if t579 = t587 then (if t581 = t589 then ((laws_sameInts.f k t583 t591).bind fun t595 => (laws_FnRoom.j0 k t576 t579 t580 t581 t583 (!t595))) else (laws_FnRoom.j0 k t576 t579 t580 t581 t583 true)) else (laws_FnRoom.j0 k t576 t579 t580 t581 t583 true))))) = some r := H
  have A9 := Aside0.mk A90
  clear A90
  have HC10 := Aside0.mk H
  clear H
  go_enter Try.func10, Try.ntmps10
  go_upto_region 10 with (first | ((with_reducible refine gate_callee (f := 35) rfl ?_); refine goesL_ (some 27) rfl rfl Try.func35 (by kernel_rfl) rfl #[.slice A0 l0.length c0] rfl ar ?_; (with_reducible refine (spec_DrawOffsetsOf.calls k _ _ l0 t576 _ ?side1 ?side2 A3.out).mono ?_); (case side1 => repeat (first | exact HR0.out | (with_reducible refine Kd.C_alloc ?_ _) | (with_reducible refine Kd.C_drewN ?_ _) | (with_reducible refine Kd.C_drew ?_))); (case side2 => exact HC0.out); rintro e w11 ⟨v577, rfl, ho0, hb⟩; refine ⟨_, rfl, ?_⟩; have n0_ := Aside0.mk (Kd.R_lower ho0 (below_size (bw HB.out))); have n1_ := Aside0.mk (below_step (bw HB.out) hb); clear HB; have HO578 := n0_; have HB := n1_; clear n0_ n1_; (try clear hb); (try clear hb2); (try clear hk); (try clear hi); (try clear ho0); obtain ⟨Ao12, co12, eo12⟩ := Kd.R_slice HO578.out; subst eo12) | ((with_reducible refine gate_callee (f := 21) rfl ?_); refine goesL_ (some 30) rfl rfl Try.func21 (by kernel_rfl) rfl #[.slice Ao12 t576.length co12] rfl ar ?_; (with_reducible refine (impl_SizeOf.calls k _ _ t576 t579 t580 _ ?side1 ?side2 A4.out).mono ?_); (case side1 => repeat (first | exact (Kd.R_reads' HO578.out).2.2 | (with_reducible refine Kd.C_alloc ?_ _) | (with_reducible refine Kd.C_drewN ?_ _) | (with_reducible refine Kd.C_drew ?_))); (case side2 => exact (Kd.R_reads' HO578.out).2.1); rintro e w13 ⟨rfl, hb⟩; refine ⟨_, rfl, ?_⟩; have n0_ := Aside0.mk (Kd.R_below (by (with_reducible repeat (first | apply Kd.R_alloc | apply Kd.R_drewN | apply Kd.R_drew)); exact HO578.out) hb); have n1_ := Aside0.mk (below_step (bw HB.out) hb); clear HO578; clear HB; have HO578 := n0_; have HB := n1_; clear n0_ n1_; (try clear hb)) | ((with_reducible refine gate_callee (f := 19) rfl ?_); refine goesL_ (some 35) rfl rfl Try.func19 (by kernel_rfl) rfl #[.slice Ao12 t576.length co12] rfl ar ?_; (with_reducible refine (impl_AlignOf.calls k _ _ t576 t581 t582 _ ?side1 ?side2 A5.out).mono ?_); (case side1 => repeat (first | exact (Kd.R_reads' HO578.out).2.2 | (with_reducible refine Kd.C_alloc ?_ _) | (with_reducible refine Kd.C_drewN ?_ _) | (with_reducible refine Kd.C_drew ?_))); (case side2 => exact (Kd.R_reads' HO578.out).2.1); rintro e w14 ⟨rfl, hb⟩; refine ⟨_, rfl, ?_⟩; have n0_ := Aside0.mk (Kd.R_below (by (with_reducible repeat (first | apply Kd.R_alloc | apply Kd.R_drewN | apply Kd.R_drew)); exact HO578.out) hb); have n1_ := Aside0.mk (below_step (bw HB.out) hb); clear HO578; clear HB; have HO578 := n0_; have HB := n1_; clear n0_ n1_; (try clear hb)) | ((with_reducible refine gate_callee (f := 34) rfl ?_); refine goesL_ (some 40) rfl rfl Try.func34 (by kernel_rfl) rfl #[.slice Ao12 t576.length co12] rfl ar ?_; (with_reducible refine (impl_OffsetsOf.calls k _ _ t576 t583 t584 _ ?side1 ?side2 A6.out).mono ?_); (case side1 => repeat (first | exact (Kd.R_reads' HO578.out).2.2 | (with_reducible refine Kd.C_alloc ?_ _) | (with_reducible refine Kd.C_drewN ?_ _) | (with_reducible refine Kd.C_drew ?_))); (case side2 => exact (Kd.R_reads' HO578.out).2.1); rintro e w15 ⟨v585, rfl, ho0, hb⟩; refine ⟨_, rfl, ?_⟩; have n0_ := Aside0.mk (Kd.R_below (by (with_reducible repeat (first | apply Kd.R_alloc | apply Kd.R_drewN | apply Kd.R_drew)); exact HO578.out) hb); have n1_ := Aside0.mk (Kd.R_lower ho0 (below_size (bw HB.out))); have n2_ := Aside0.mk (below_step (bw HB.out) hb); clear HO578; clear HB; have HO578 := n0_; have HO586 := n1_; have HB := n2_; clear n0_ n1_ n2_; (try clear hb); (try clear hb2); (try clear hk); (try clear hi); (try clear ho0)) | ((with_reducible refine gate_callee (f := 20) rfl ?_); refine goesL_ (some 45) rfl rfl Try.func20 (by kernel_rfl) rfl #[.slice Ao12 t576.length co12] rfl ar ?_; (with_reducible refine (spec_SizeOf.calls k _ _ t576 t587 t588 _ ?side1 ?side2 A7.out).mono ?_); (case side1 => repeat (first | exact (Kd.R_reads' HO578.out).2.2 | (with_reducible refine Kd.C_alloc ?_ _) | (with_reducible refine Kd.C_drewN ?_ _) | (with_reducible refine Kd.C_drew ?_))); (case side2 => exact (Kd.R_reads' HO578.out).2.1); rintro e w16 ⟨rfl, hb⟩; refine ⟨_, rfl, ?_⟩; have n0_ := Aside0.mk (Kd.R_below (by (with_reducible repeat (first | apply Kd.R_alloc | apply Kd.R_drewN | apply Kd.R_drew)); exact HO578.out) hb); have n1_ := Aside0.mk (Kd.R_below (by (with_reducible repeat (first | apply Kd.R_alloc | apply Kd.R_drewN | apply Kd.R_drew)); exact HO586.out) hb); have n2_ := Aside0.mk (below_step (bw HB.out) hb); clear HO578; clear HO586; clear HB; have HO578 := n0_; have HO586 := n1_; have HB := n2_; clear n0_ n1_ n2_; (try clear hb)) | ((with_reducible refine gate_callee (f := 18) rfl ?_); refine goesL_ (some 50) rfl rfl Try.func18 (by kernel_rfl) rfl #[.slice Ao12 t576.length co12] rfl ar ?_; (with_reducible refine (spec_AlignOf.calls k _ _ t576 t589 t590 _ ?side1 ?side2 A8.out).mono ?_); (case side1 => repeat (first | exact (Kd.R_reads' HO578.out).2.2 | (with_reducible refine Kd.C_alloc ?_ _) | (with_reducible refine Kd.C_drewN ?_ _) | (with_reducible refine Kd.C_drew ?_))); (case side2 => exact (Kd.R_reads' HO578.out).2.1); rintro e w17 ⟨rfl, hb⟩; refine ⟨_, rfl, ?_⟩; have n0_ := Aside0.mk (Kd.R_below (by (with_reducible repeat (first | apply Kd.R_alloc | apply Kd.R_drewN | apply Kd.R_drew)); exact HO578.out) hb); have n1_ := Aside0.mk (Kd.R_below (by (with_reducible repeat (first | apply Kd.R_alloc | apply Kd.R_drewN | apply Kd.R_drew)); exact HO586.out) hb); have n2_ := Aside0.mk (below_step (bw HB.out) hb); clear HO578; clear HO586; clear HB; have HO578 := n0_; have HO586 := n1_; have HB := n2_; clear n0_ n1_ n2_; (try clear hb)) | ((with_reducible refine gate_callee (f := 33) rfl ?_); refine goesL_ (some 55) rfl rfl Try.func33 (by kernel_rfl) rfl #[.slice Ao12 t576.length co12] rfl ar ?_; (with_reducible refine (spec_OffsetsOf.calls k _ _ t576 t591 t592 _ ?side1 ?side2 A9.out).mono ?_); (case side1 => repeat (first | exact (Kd.R_reads' HO578.out).2.2 | (with_reducible refine Kd.C_alloc ?_ _) | (with_reducible refine Kd.C_drewN ?_ _) | (with_reducible refine Kd.C_drew ?_))); (case side2 => exact (Kd.R_reads' HO578.out).2.1); rintro e w18 ⟨v593, rfl, ho0, hb⟩; refine ⟨_, rfl, ?_⟩; have n0_ := Aside0.mk (Kd.R_below (by (with_reducible repeat (first | apply Kd.R_alloc | apply Kd.R_drewN | apply Kd.R_drew)); exact HO578.out) hb); have n1_ := Aside0.mk (Kd.R_elder' (by (with_reducible repeat (first | apply Kd.R_alloc | apply Kd.R_drewN | apply Kd.R_drew)); exact HO586.out) (Kd.R_base ho0) hb); have n2_ := Aside0.mk (Kd.R_lower (Kd.R_new' ho0 (Kd.R_lt (by (with_reducible repeat (first | apply Kd.R_alloc | apply Kd.R_drewN | apply Kd.R_drew)); exact HO586.out))) (below_size (bw HB.out))); have n3_ := Aside0.mk (below_step (bw HB.out) hb); clear HO578; clear HO586; clear HB; have HO578 := n0_; have HO586 := n1_; have HO594 := n2_; have HB := n3_; clear n0_ n1_ n2_ n3_; (try clear hb); (try clear hb2); (try clear hk); (try clear hi); (try clear ho0)))
  (try simp only [Act.put, List.setIfInBounds_toArray, List.set_cons_zero, List.set_cons_succ])
  go_cut [86] (fun v86 wc => ∃ (kq : Nat) (x86_9 : Bool), v86 = .bool x86_9 ∧ Aside0 (laws_FnRoom.j0 kq t576 t579 t580 t581 t583 x86_9 = some r) ∧ Aside0 (kq ≤ k) ∧ Aside0 (Kd.R k46 46 wc w.heap.size (fun _ => True) (.slice Ao12 t576.length co12) t576) ∧ Aside0 (Kd.R (Kd.int .i64) 3 wc w.heap.size (fun _ => True) v585 t583) ∧ Aside0 (Below w.heap.size w wc))
  case first =>
   have H := HC10.out
   clear HC10
   by_cases c19 : (t580 != t588) = true
   ·
    rw [if_pos c19] at H
    have c19b0 : (t580 != t588) = true := c19
    (try (have c19b1 : decide (t580 = t588) = false := by simpa using c19))
    (try (have c19b2 : (t580 == t588) = false := by simpa using c19))
    (try (have c19b3 : ¬ (t580 = t588) := by simpa using c19))
    clear c19
    (first | rw [c19b0] | (simp only [i64_w, i32_w]; rw [c19b0]) | skip)
    have H' := Aside0.mk H
    clear H
    go_wp2
    go_meet
    case rel => exact ⟨_, (true), (by first | rfl | (simp; done) | (simp [*]; done)), H', ⟨by first | omega | exact Nat.le_refl _⟩, ⟨by (with_reducible repeat (first | apply Kd.R_alloc | apply Kd.R_drewN | apply Kd.R_drew)); exact HO578.out⟩, ⟨by (with_reducible repeat (first | apply Kd.R_alloc | apply Kd.R_drewN | apply Kd.R_drew)); exact Kd.R_mono HO586.out (fun _ hk => trivial)⟩, ⟨bw HB.out⟩⟩
   ·
    rw [if_neg c19] at H
    have c19b0 : (t580 != t588) = false := by simpa using c19
    (try (have c19b1 : decide (t580 = t588) = true := by simpa using c19))
    (try (have c19b2 : (t580 == t588) = true := by simpa using c19))
    clear c19
    (first | rw [c19b0] | (simp only [i64_w, i32_w]; rw [c19b0]) | skip)
    by_cases c20 : (t582 != t588) = true
    ·
     rw [if_pos c20] at H
     have c20b0 : (t582 != t588) = true := c20
     (try (have c20b1 : decide (t582 = t588) = false := by simpa using c20))
     (try (have c20b2 : (t582 == t588) = false := by simpa using c20))
     (try (have c20b3 : ¬ (t582 = t588) := by simpa using c20))
     clear c20
     have H' := Aside0.mk H
     clear H
     go_wp2
     go_meet
     case rel => exact ⟨_, (true), (by first | rfl | (simp; done) | (simp [*]; done)), H', ⟨by first | omega | exact Nat.le_refl _⟩, ⟨by (with_reducible repeat (first | apply Kd.R_alloc | apply Kd.R_drewN | apply Kd.R_drew)); exact HO578.out⟩, ⟨by (with_reducible repeat (first | apply Kd.R_alloc | apply Kd.R_drewN | apply Kd.R_drew)); exact Kd.R_mono HO586.out (fun _ hk => trivial)⟩, ⟨bw HB.out⟩⟩
    ·
     rw [if_neg c20] at H
     have c20b0 : (t582 != t588) = false := by simpa using c20
     (try (have c20b1 : decide (t582 = t588) = true := by simpa using c20))
     (try (have c20b2 : (t582 == t588) = true := by simpa using c20))
     clear c20
     by_cases c21 : (t584 != t592) = true
     ·
      rw [if_pos c21] at H
      have c21b0 : (t584 != t592) = true := c21
      (try (have c21b1 : decide (t584 = t592) = false := by simpa using c21))
      (try (have c21b2 : (t584 == t592) = false := by simpa using c21))
      (try (have c21b3 : ¬ (t584 = t592) := by simpa using c21))
      clear c21
      have H' := Aside0.mk H
      clear H
      go_wp2
      go_meet
      case rel => exact ⟨_, (true), (by first | rfl | (simp; done) | (simp [*]; done)), H', ⟨by first | omega | exact Nat.le_refl _⟩, ⟨by (with_reducible repeat (first | apply Kd.R_alloc | apply Kd.R_drewN | apply Kd.R_drew)); exact HO578.out⟩, ⟨by (with_reducible repeat (first | apply Kd.R_alloc | apply Kd.R_drewN | apply Kd.R_drew)); exact Kd.R_mono HO586.out (fun _ hk => trivial)⟩, ⟨bw HB.out⟩⟩
     ·
      rw [if_neg c21] at H
      have c21b0 : (t584 != t592) = false := by simpa using c21
      (try (have c21b1 : decide (t584 = t592) = true := by simpa using c21))
      (try (have c21b2 : (t584 == t592) = true := by simpa using c21))
      clear c21
      by_cases c22 : t579 = t587
      ·
       rw [if_pos c22] at H
       have c22b0 : (t579 == t587) = true := beq_iff_eq.mpr c22
       have c22b1 : (t579 != t587) = false := bne_eq_false_iff_eq.mpr c22
       clear c22
       by_cases c23 : t581 = t589
       ·
        rw [if_pos c23] at H
        have c23b0 : (t581 == t589) = true := beq_iff_eq.mpr c23
        have c23b1 : (t581 != t589) = false := bne_eq_false_iff_eq.mpr c23
        clear c23
        replace H := Option.bind_eq_some_iff.mp H
        obtain ⟨t595, A240, H⟩ := H
        replace H : (laws_FnRoom.j0 k t576 t579 t580 t581 t583 (!t595)) = some r := H
        have A24 := Aside0.mk A240
        clear A240
        have H' := Aside0.mk H
        clear H
        obtain ⟨Ao25, co25, eo25⟩ := Kd.R_slice HO586.out
        subst eo25
        obtain ⟨Ao26, co26, eo26⟩ := Kd.R_slice HO594.out
        subst eo26
        go_wp2_with (first | (go_at_call 36; (with_reducible refine (laws_sameInts.calls k _ _ t583 _ _ t591 t595 _ ?side1 ?side2 ?side3 ?side4 A24.out).mono ?_); (case side1 => repeat (first | exact (Kd.R_reads' HO586.out).2.2 | (with_reducible refine Kd.C_alloc ?_ _) | (with_reducible refine Kd.C_drewN ?_ _) | (with_reducible refine Kd.C_drew ?_))); (case side2 => exact (Kd.R_reads' HO586.out).2.1); (case side3 => repeat (first | exact (Kd.R_reads' HO594.out).2.2 | (with_reducible refine Kd.C_alloc ?_ _) | (with_reducible refine Kd.C_drewN ?_ _) | (with_reducible refine Kd.C_drew ?_))); (case side4 => exact (Kd.R_reads' HO594.out).2.1); rintro e w' ⟨rfl, ⟨nd, rfl⟩⟩))
        go_meet
        case rel => exact ⟨_, (!t595), (by first | rfl | (simp; done) | (simp [*]; done)), H', ⟨by first | omega | exact Nat.le_refl _⟩, ⟨by (with_reducible repeat (first | apply Kd.R_alloc | apply Kd.R_drewN | apply Kd.R_drew)); exact HO578.out⟩, ⟨by (with_reducible repeat (first | apply Kd.R_alloc | apply Kd.R_drewN | apply Kd.R_drew)); exact Kd.R_mono HO586.out (fun _ hk => trivial)⟩, ⟨bw HB.out⟩⟩
       ·
        rw [if_neg c23] at H
        have c23b0 : (t581 == t589) = false := beq_eq_false_iff_ne.mpr c23
        have c23b1 : (t581 != t589) = true := bne_iff_ne.mpr c23
        have H' := Aside0.mk H
        clear H
        go_wp2
        go_meet
        case rel => exact ⟨_, (true), (by first | rfl | (simp; done) | (simp [*]; done)), H', ⟨by first | omega | exact Nat.le_refl _⟩, ⟨by (with_reducible repeat (first | apply Kd.R_alloc | apply Kd.R_drewN | apply Kd.R_drew)); exact HO578.out⟩, ⟨by (with_reducible repeat (first | apply Kd.R_alloc | apply Kd.R_drewN | apply Kd.R_drew)); exact Kd.R_mono HO586.out (fun _ hk => trivial)⟩, ⟨bw HB.out⟩⟩
      ·
       rw [if_neg c22] at H
       have c22b0 : (t579 == t587) = false := beq_eq_false_iff_ne.mpr c22
       have c22b1 : (t579 != t587) = true := bne_iff_ne.mpr c22
       have H' := Aside0.mk H
       clear H
       go_wp2
       go_meet
       case rel => exact ⟨_, (true), (by first | rfl | (simp; done) | (simp [*]; done)), H', ⟨by first | omega | exact Nat.le_refl _⟩, ⟨by (with_reducible repeat (first | apply Kd.R_alloc | apply Kd.R_drewN | apply Kd.R_drew)); exact HO578.out⟩, ⟨by (with_reducible repeat (first | apply Kd.R_alloc | apply Kd.R_drewN | apply Kd.R_drew)); exact Kd.R_mono HO586.out (fun _ hk => trivial)⟩, ⟨bw HB.out⟩⟩
  case rest =>
   clear HC10
   try clear c1
   try clear c2
   try clear c2b0
   try clear c2b1
   try clear p2
   try clear c3
   try clear c10
   try clear c18
   try clear c19
   try clear c19b0
   try clear c19b1
   try clear c19b2
   try clear c20
   try clear c20b0
   try clear c20b1
   try clear c20b2
   try clear c21
   try clear c21b0
   try clear c21b1
   try clear c21b2
   try clear c22
   try clear c22b0
   try clear c22b1
   try clear c23
   try clear c23b0
   try clear c23b1
   obtain ⟨kq, x86_9, rfl, HA, HJ9, HO_3, HO_8, HB⟩ := hcut
   cases kq with
   | zero => exact absurd HA.out (by simp [laws_FnRoom.j0])
   | succ kj9 =>
    have H := HA.out
    clear HA
    simp only [laws_FnRoom.j0] at H
    by_cases c27 : x86_9 = true
    ·
     subst c27
     have H1 : (some false) = some r := by rw [if_pos rfl] at H; exact H
     clear H
     have H := H1
     clear H1
     obtain rfl := Option.some.inj H
     exact absurd HT.out (by decide)
    ·
     replace c27 := Bool.eq_false_iff.mpr c27
     subst c27
     have H1 : (if t580 = true then (if t581 = 1 then (if t581 = 0 then (none) else (if (Int.tmod t579 t581) = 0 then (laws_FnRoom.j1 kj9 t576 t579 t583 (decide (t579 < t581))) else (laws_FnRoom.j1 kj9 t576 t579 t583 true))) else (if t581 = 2 then (if t581 = 0 then (none) else (if (Int.tmod t579 t581) = 0 then (laws_FnRoom.j1 kj9 t576 t579 t583 (decide (t579 < t581))) else (laws_FnRoom.j1 kj9 t576 t579 t583 true))) else (if t581 = 4 then (if t581 = 0 then (none) else (if (Int.tmod t579 t581) = 0 then (laws_FnRoom.j1 kj9 t576 t579 t583 (decide (t579 < t581))) else (laws_FnRoom.j1 kj9 t576 t579 t583 true))) else (if t581 = 8 then (if t581 = 0 then (none) else (if (Int.tmod t579 t581) = 0 then (laws_FnRoom.j1 kj9 t576 t579 t583 (decide (t579 < t581))) else (laws_FnRoom.j1 kj9 t576 t579 t583 true))) else (laws_FnRoom.j1 kj9 t576 t579 t583 true))))) else (some (t579 == 0))) = some r := by rw [if_neg (show ¬ (false = true) by decide)] at H; exact H
     clear H
     have H := H1
     clear H1
     by_cases c28 : t580 = true
     ·
      subst c28
      have H1 : (if t581 = 1 then (if t581 = 0 then (none) else (if (Int.tmod t579 t581) = 0 then (laws_FnRoom.j1 kj9 t576 t579 t583 (decide (t579 < t581))) else (laws_FnRoom.j1 kj9 t576 t579 t583 true))) else (if t581 = 2 then (if t581 = 0 then (none) else (if (Int.tmod t579 t581) = 0 then (laws_FnRoom.j1 kj9 t576 t579 t583 (decide (t579 < t581))) else (laws_FnRoom.j1 kj9 t576 t579 t583 true))) else (if t581 = 4 then (if t581 = 0 then (none) else (if (Int.tmod t579 t581) = 0 then (laws_FnRoom.j1 kj9 t576 t579 t583 (decide (t579 < t581))) else (laws_FnRoom.j1 kj9 t576 t579 t583 true))) else (if t581 = 8 then (if t581 = 0 then (none) else (if (Int.tmod t579 t581) = 0 then (laws_FnRoom.j1 kj9 t576 t579 t583 (decide (t579 < t581))) else (laws_FnRoom.j1 kj9 t576 t579 t583 true))) else (laws_FnRoom.j1 kj9 t576 t579 t583 true))))) = some r := by rw [if_pos rfl] at H; exact H
      clear H
      have H := H1
      clear H1
      have HC29 := Aside0.mk H
      clear H
      go_upto_region 14 with (fail)
      go_cut [115] (fun v115 wc => ∃ (kq : Nat) (x115_28 : Bool), v115 = .bool x115_28 ∧ Aside0 (laws_FnRoom.j1 kq t576 t579 t583 x115_28 = some r) ∧ Aside0 (kq ≤ kj9) ∧ Aside0 (Kd.R k46 46 wc w.heap.size (fun _ => True) (.slice Ao12 t576.length co12) t576) ∧ Aside0 (Kd.R (Kd.int .i64) 3 wc w.heap.size (fun _ => True) v585 t583) ∧ Aside0 (Below w.heap.size w wc))
      case first =>
       have H := HC29.out
       clear HC29
       by_cases c30 : t581 = 1
       ·
        rw [if_pos c30] at H
        have c30b0 : (t581 == 1) = true := beq_iff_eq.mpr c30
        have c30b1 : (t581 != 1) = false := bne_eq_false_iff_eq.mpr c30
        clear c30
        (first | rw [c30b0] | (simp only [i64_w, i32_w]; rw [c30b0]) | skip)
        by_cases c31 : t581 = 0
        ·
         rw [if_pos c31] at H
         exact absurd H (by simp)
        ·
         rw [if_neg c31] at H
         have c31b0 : (t581 == 0) = false := beq_eq_false_iff_ne.mpr c31
         have c31b1 : (t581 != 0) = true := bne_iff_ne.mpr c31
         by_cases c32 : (Int.tmod t579 t581) = 0
         ·
          rw [if_pos c32] at H
          have c32b0 : ((Int.tmod t579 t581) == 0) = true := beq_iff_eq.mpr c32
          have c32b1 : ((Int.tmod t579 t581) != 0) = false := bne_eq_false_iff_eq.mpr c32
          clear c32
          have H' := Aside0.mk H
          clear H
          go_wp2
          go_meet
          case rel => exact ⟨_, (decide (t579 < t581)), (by first | rfl | (simp; done) | (simp [*]; done)), H', ⟨by have := HJ9.out; first | omega | exact Nat.le_refl _⟩, ⟨by (with_reducible repeat (first | apply Kd.R_alloc | apply Kd.R_drewN | apply Kd.R_drew)); exact HO_3.out⟩, ⟨by (with_reducible repeat (first | apply Kd.R_alloc | apply Kd.R_drewN | apply Kd.R_drew)); exact HO_8.out⟩, ⟨bw HB.out⟩⟩
         ·
          rw [if_neg c32] at H
          have c32b0 : ((Int.tmod t579 t581) == 0) = false := beq_eq_false_iff_ne.mpr c32
          have c32b1 : ((Int.tmod t579 t581) != 0) = true := bne_iff_ne.mpr c32
          have H' := Aside0.mk H
          clear H
          go_wp2
          go_meet
          case rel => exact ⟨_, (true), (by first | rfl | (simp; done) | (simp [*]; done)), H', ⟨by have := HJ9.out; first | omega | exact Nat.le_refl _⟩, ⟨by (with_reducible repeat (first | apply Kd.R_alloc | apply Kd.R_drewN | apply Kd.R_drew)); exact HO_3.out⟩, ⟨by (with_reducible repeat (first | apply Kd.R_alloc | apply Kd.R_drewN | apply Kd.R_drew)); exact HO_8.out⟩, ⟨bw HB.out⟩⟩
       ·
        rw [if_neg c30] at H
        have c30b0 : (t581 == 1) = false := beq_eq_false_iff_ne.mpr c30
        have c30b1 : (t581 != 1) = true := bne_iff_ne.mpr c30
        (first | rw [c30b0] | (simp only [i64_w, i32_w]; rw [c30b0]) | skip)
        by_cases c33 : t581 = 2
        ·
         rw [if_pos c33] at H
         have c33b0 : (t581 == 2) = true := beq_iff_eq.mpr c33
         have c33b1 : (t581 != 2) = false := bne_eq_false_iff_eq.mpr c33
         clear c33
         by_cases c34 : t581 = 0
         ·
          rw [if_pos c34] at H
          exact absurd H (by simp)
         ·
          rw [if_neg c34] at H
          have c34b0 : (t581 == 0) = false := beq_eq_false_iff_ne.mpr c34
          have c34b1 : (t581 != 0) = true := bne_iff_ne.mpr c34
          by_cases c35 : (Int.tmod t579 t581) = 0
          ·
           rw [if_pos c35] at H
           have c35b0 : ((Int.tmod t579 t581) == 0) = true := beq_iff_eq.mpr c35
           have c35b1 : ((Int.tmod t579 t581) != 0) = false := bne_eq_false_iff_eq.mpr c35
           clear c35
           have H' := Aside0.mk H
           clear H
           go_wp2
           go_meet
           case rel => exact ⟨_, (decide (t579 < t581)), (by first | rfl | (simp; done) | (simp [*]; done)), H', ⟨by have := HJ9.out; first | omega | exact Nat.le_refl _⟩, ⟨by (with_reducible repeat (first | apply Kd.R_alloc | apply Kd.R_drewN | apply Kd.R_drew)); exact HO_3.out⟩, ⟨by (with_reducible repeat (first | apply Kd.R_alloc | apply Kd.R_drewN | apply Kd.R_drew)); exact HO_8.out⟩, ⟨bw HB.out⟩⟩
          ·
           rw [if_neg c35] at H
           have c35b0 : ((Int.tmod t579 t581) == 0) = false := beq_eq_false_iff_ne.mpr c35
           have c35b1 : ((Int.tmod t579 t581) != 0) = true := bne_iff_ne.mpr c35
           have H' := Aside0.mk H
           clear H
           go_wp2
           go_meet
           case rel => exact ⟨_, (true), (by first | rfl | (simp; done) | (simp [*]; done)), H', ⟨by have := HJ9.out; first | omega | exact Nat.le_refl _⟩, ⟨by (with_reducible repeat (first | apply Kd.R_alloc | apply Kd.R_drewN | apply Kd.R_drew)); exact HO_3.out⟩, ⟨by (with_reducible repeat (first | apply Kd.R_alloc | apply Kd.R_drewN | apply Kd.R_drew)); exact HO_8.out⟩, ⟨bw HB.out⟩⟩
        ·
         rw [if_neg c33] at H
         have c33b0 : (t581 == 2) = false := beq_eq_false_iff_ne.mpr c33
         have c33b1 : (t581 != 2) = true := bne_iff_ne.mpr c33
         by_cases c36 : t581 = 4
         ·
          rw [if_pos c36] at H
          have c36b0 : (t581 == 4) = true := beq_iff_eq.mpr c36
          have c36b1 : (t581 != 4) = false := bne_eq_false_iff_eq.mpr c36
          clear c36
          by_cases c37 : t581 = 0
          ·
           rw [if_pos c37] at H
           exact absurd H (by simp)
          ·
           rw [if_neg c37] at H
           have c37b0 : (t581 == 0) = false := beq_eq_false_iff_ne.mpr c37
           have c37b1 : (t581 != 0) = true := bne_iff_ne.mpr c37
           by_cases c38 : (Int.tmod t579 t581) = 0
           ·
            rw [if_pos c38] at H
            have c38b0 : ((Int.tmod t579 t581) == 0) = true := beq_iff_eq.mpr c38
            have c38b1 : ((Int.tmod t579 t581) != 0) = false := bne_eq_false_iff_eq.mpr c38
            clear c38
            have H' := Aside0.mk H
            clear H
            go_wp2
            go_meet
            case rel => exact ⟨_, (decide (t579 < t581)), (by first | rfl | (simp; done) | (simp [*]; done)), H', ⟨by have := HJ9.out; first | omega | exact Nat.le_refl _⟩, ⟨by (with_reducible repeat (first | apply Kd.R_alloc | apply Kd.R_drewN | apply Kd.R_drew)); exact HO_3.out⟩, ⟨by (with_reducible repeat (first | apply Kd.R_alloc | apply Kd.R_drewN | apply Kd.R_drew)); exact HO_8.out⟩, ⟨bw HB.out⟩⟩
           ·
            rw [if_neg c38] at H
            have c38b0 : ((Int.tmod t579 t581) == 0) = false := beq_eq_false_iff_ne.mpr c38
            have c38b1 : ((Int.tmod t579 t581) != 0) = true := bne_iff_ne.mpr c38
            have H' := Aside0.mk H
            clear H
            go_wp2
            go_meet
            case rel => exact ⟨_, (true), (by first | rfl | (simp; done) | (simp [*]; done)), H', ⟨by have := HJ9.out; first | omega | exact Nat.le_refl _⟩, ⟨by (with_reducible repeat (first | apply Kd.R_alloc | apply Kd.R_drewN | apply Kd.R_drew)); exact HO_3.out⟩, ⟨by (with_reducible repeat (first | apply Kd.R_alloc | apply Kd.R_drewN | apply Kd.R_drew)); exact HO_8.out⟩, ⟨bw HB.out⟩⟩
         ·
          rw [if_neg c36] at H
          have c36b0 : (t581 == 4) = false := beq_eq_false_iff_ne.mpr c36
          have c36b1 : (t581 != 4) = true := bne_iff_ne.mpr c36
          by_cases c39 : t581 = 8
          ·
           rw [if_pos c39] at H
           have c39b0 : (t581 == 8) = true := beq_iff_eq.mpr c39
           have c39b1 : (t581 != 8) = false := bne_eq_false_iff_eq.mpr c39
           clear c39
           by_cases c40 : t581 = 0
           ·
            rw [if_pos c40] at H
            exact absurd H (by simp)
           ·
            rw [if_neg c40] at H
            have c40b0 : (t581 == 0) = false := beq_eq_false_iff_ne.mpr c40
            have c40b1 : (t581 != 0) = true := bne_iff_ne.mpr c40
            by_cases c41 : (Int.tmod t579 t581) = 0
            ·
             rw [if_pos c41] at H
             have c41b0 : ((Int.tmod t579 t581) == 0) = true := beq_iff_eq.mpr c41
             have c41b1 : ((Int.tmod t579 t581) != 0) = false := bne_eq_false_iff_eq.mpr c41
             clear c41
             have H' := Aside0.mk H
             clear H
             go_wp2
             go_meet
             case rel => exact ⟨_, (decide (t579 < t581)), (by first | rfl | (simp; done) | (simp [*]; done)), H', ⟨by have := HJ9.out; first | omega | exact Nat.le_refl _⟩, ⟨by (with_reducible repeat (first | apply Kd.R_alloc | apply Kd.R_drewN | apply Kd.R_drew)); exact HO_3.out⟩, ⟨by (with_reducible repeat (first | apply Kd.R_alloc | apply Kd.R_drewN | apply Kd.R_drew)); exact HO_8.out⟩, ⟨bw HB.out⟩⟩
            ·
             rw [if_neg c41] at H
             have c41b0 : ((Int.tmod t579 t581) == 0) = false := beq_eq_false_iff_ne.mpr c41
             have c41b1 : ((Int.tmod t579 t581) != 0) = true := bne_iff_ne.mpr c41
             have H' := Aside0.mk H
             clear H
             go_wp2
             go_meet
             case rel => exact ⟨_, (true), (by first | rfl | (simp; done) | (simp [*]; done)), H', ⟨by have := HJ9.out; first | omega | exact Nat.le_refl _⟩, ⟨by (with_reducible repeat (first | apply Kd.R_alloc | apply Kd.R_drewN | apply Kd.R_drew)); exact HO_3.out⟩, ⟨by (with_reducible repeat (first | apply Kd.R_alloc | apply Kd.R_drewN | apply Kd.R_drew)); exact HO_8.out⟩, ⟨bw HB.out⟩⟩
          ·
           rw [if_neg c39] at H
           have c39b0 : (t581 == 8) = false := beq_eq_false_iff_ne.mpr c39
           have c39b1 : (t581 != 8) = true := bne_iff_ne.mpr c39
           have H' := Aside0.mk H
           clear H
           go_wp2
           go_meet
           case rel => exact ⟨_, (true), (by first | rfl | (simp; done) | (simp [*]; done)), H', ⟨by have := HJ9.out; first | omega | exact Nat.le_refl _⟩, ⟨by (with_reducible repeat (first | apply Kd.R_alloc | apply Kd.R_drewN | apply Kd.R_drew)); exact HO_3.out⟩, ⟨by (with_reducible repeat (first | apply Kd.R_alloc | apply Kd.R_drewN | apply Kd.R_drew)); exact HO_8.out⟩, ⟨bw HB.out⟩⟩
      case rest =>
       clear HC29
       try clear c1
       try clear c2
       try clear c2b0
       try clear c2b1
       try clear p2
       try clear c3
       try clear c4
       try clear c10
       try clear c18
       try clear c19
       try clear c19b0
       try clear c19b1
       try clear c19b2
       try clear c20
       try clear c20b0
       try clear c20b1
       try clear c20b2
       try clear c21
       try clear c21b0
       try clear c21b1
       try clear c21b2
       try clear c22
       try clear c22b0
       try clear c22b1
       try clear c23
       try clear c23b0
       try clear c23b1
       try clear c27
       try clear c28
       try clear c30
       try clear c30b0
       try clear c30b1
       try clear c31
       try clear c31b0
       try clear c31b1
       try clear c32
       try clear c32b0
       try clear c32b1
       try clear c33
       try clear c33b0
       try clear c33b1
       try clear c34
       try clear c34b0
       try clear c34b1
       try clear c35
       try clear c35b0
       try clear c35b1
       try clear c36
       try clear c36b0
       try clear c36b1
       try clear c37
       try clear c37b0
       try clear c37b1
       try clear c38
       try clear c38b0
       try clear c38b1
       try clear c39
       try clear c39b0
       try clear c39b1
       try clear c40
       try clear c40b0
       try clear c40b1
       try clear c41
       try clear c41b0
       try clear c41b1
       try clear p2
       obtain ⟨kq, x115_28, rfl, HA, HJ28, HO_3, HO_8, HB⟩ := hcut
       cases kq with
       | zero => exact absurd HA.out (by simp [laws_FnRoom.j1])
       | succ kj28 =>
        have H := HA.out
        clear HA
        simp only [laws_FnRoom.j1] at H
        by_cases c42 : x115_28 = true
        ·
         subst c42
         have H1 : (some false) = some r := by rw [if_pos rfl] at H; exact H
         clear H
         have H := H1
         clear H1
         obtain rfl := Option.some.inj H
         exact absurd HT.out (by decide)
        ·
         replace c42 := Bool.eq_false_iff.mpr c42
         subst c42
         have H1 : (laws_FnRoom.l0 kj28 t576 t579 0 t583 (t583.length : Int) 0) = some r := by rw [if_neg (show ¬ (false = true) by decide)] at H; exact H
         clear H
         have H := H1
         clear H1
         have H' := Aside0.mk H
         clear H
         obtain ⟨Ao43, co43, eo43⟩ := Kd.R_slice HO_8.out
         subst eo43
         go_wp2
         (try simp only [Act.put, List.setIfInBounds_toArray, List.set_cons_zero, List.set_cons_succ])
         go_loopg [16, 118] kj28 (fun kq v16 v118 w' => ∃ (x16_3 : Int) (x118_3 : Int), v16 = .int .i64 x16_3 ∧ v118 = .int .i64 x118_3 ∧ Aside0 (laws_FnRoom.l0 kq t576 t579 x16_3 t583 (t583.length : Int) x118_3 = some r) ∧ Aside0 (kq ≤ kj28) ∧ Aside0 (Kd.R k46 46 w' w.heap.size (fun _ => True) (.slice Ao12 t576.length co12) t576) ∧ Aside0 (Kd.R (Kd.int .i64) 3 w' w.heap.size (fun _ => True) (.slice Ao43 t583.length co43) t583) ∧ Aside0 (Below w.heap.size w w'))
         case atStart => exact ⟨(0), (0), (by first | rfl | (simp; done) | (simp [*]; done)), (by first | rfl | (simp; done) | (simp [*]; done)), H', ⟨Nat.le_refl _⟩, ⟨by (with_reducible repeat (first | apply Kd.R_alloc | apply Kd.R_drewN | apply Kd.R_drew)); exact HO_3.out⟩, ⟨by (with_reducible repeat (first | apply Kd.R_alloc | apply Kd.R_drewN | apply Kd.R_drew)); exact HO_8.out⟩, ⟨bw HB.out⟩⟩
         case round =>
          clear H'
          try clear c1
          try clear c2
          try clear c2b0
          try clear c2b1
          try clear p2
          try clear c3
          try clear c4
          try clear c10
          try clear c18
          try clear c19
          try clear c19b0
          try clear c19b1
          try clear c19b2
          try clear c20
          try clear c20b0
          try clear c20b1
          try clear c20b2
          try clear c21
          try clear c21b0
          try clear c21b1
          try clear c21b2
          try clear c22
          try clear c22b0
          try clear c22b1
          try clear c23
          try clear c23b0
          try clear c23b1
          try clear c27
          try clear c28
          try clear c30
          try clear c30b0
          try clear c30b1
          try clear c31
          try clear c31b0
          try clear c31b1
          try clear c32
          try clear c32b0
          try clear c32b1
          try clear c33
          try clear c33b0
          try clear c33b1
          try clear c34
          try clear c34b0
          try clear c34b1
          try clear c35
          try clear c35b0
          try clear c35b1
          try clear c36
          try clear c36b0
          try clear c36b1
          try clear c37
          try clear c37b0
          try clear c37b1
          try clear c38
          try clear c38b0
          try clear c38b1
          try clear c39
          try clear c39b0
          try clear c39b1
          try clear c40
          try clear c40b0
          try clear c40b1
          try clear c41
          try clear c41b0
          try clear c41b1
          try clear c42
          try clear p2
          obtain ⟨x16_3, x118_3, rfl, rfl, HA, HK3, HO_3, HO_116, HB⟩ := hrel
          cases gk with
          | zero => exact absurd HA.out (by simp [laws_FnRoom.l0])
          | succ k3 =>
           have H := HA.out
           clear HA
           simp only [laws_FnRoom.l0] at H
           by_cases c44 : x118_3 < (t583.length : Int)
           ·
            rw [if_pos c44] at H
            have c44b0 : decide (x118_3 < (t583.length : Int)) = true := decide_eq_true c44
            clear c44
            by_cases c45 : 0 ≤ x118_3
            ·
             rw [if_pos c45] at H
             have c45b0 : decide (0 ≤ x118_3) = true := decide_eq_true c45
             clear c45
             by_cases c46 : x118_3 < (t583.length : Int)
             ·
              rw [if_pos c46] at H
              have c46b0 : decide (x118_3 < (t583.length : Int)) = true := decide_eq_true c46
              clear c46
              by_cases c47 : (rd t583 x118_3) < 0
              ·
               rw [if_pos c47] at H
               have c47b0 : decide ((rd t583 x118_3) < 0) = true := decide_eq_true c47
               clear c47
               obtain rfl := Option.some.inj H
               exact absurd HT.out (by decide)
              ·
               rw [if_neg c47] at H
               have c47b0 : decide ((rd t583 x118_3) < 0) = false := decide_eq_false c47
               clear c47
               by_cases c48 : (rd t583 x118_3) ≥ t579
               ·
                rw [if_pos c48] at H
                have c48b0 : decide (t579 ≤ (rd t583 x118_3)) = true := decide_eq_true c48
                clear c48
                obtain rfl := Option.some.inj H
                exact absurd HT.out (by decide)
               ·
                rw [if_neg c48] at H
                have c48b0 : decide (t579 ≤ (rd t583 x118_3)) = false := decide_eq_false c48
                clear c48
                by_cases c49 : 0 < (t576.length : Int)
                ·
                 rw [if_pos c49] at H
                 have c49b0 : decide (0 < (t576.length : Int)) = true := decide_eq_true c49
                 have c49b1 : decide (0 < t576.length) = true := decide_eq_true (by omega)
                 clear c49
                 by_cases c50 : ((rd_T46 t576 0).f0) = 14
                 ·
                  rw [if_pos c50] at H
                  have c50b0 : (((rd_T46 t576 0).f0) == 14) = true := beq_iff_eq.mpr c50
                  have c50b1 : (((rd_T46 t576 0).f0) != 14) = false := bne_eq_false_iff_eq.mpr c50
                  clear c50
                  by_cases c51 : (rd t583 x118_3) < x16_3
                  ·
                   rw [if_pos c51] at H
                   have c51b0 : decide ((rd t583 x118_3) < x16_3) = true := decide_eq_true c51
                   clear c51
                   obtain rfl := Option.some.inj H
                   exact absurd HT.out (by decide)
                  ·
                   rw [if_neg c51] at H
                   have c51b0 : decide ((rd t583 x118_3) < x16_3) = false := decide_eq_false c51
                   clear c51
                   have H' := Aside0.mk H
                   clear H
                   have p596 : 0 ≤ (x118_3 : Int) := of_decide_eq_true (by first | (with_reducible assumption) | assumption)
                   have q596 : x118_3 < (t583.length : Int) := of_decide_eq_true (by first | (with_reducible assumption) | assumption)
                   obtain ⟨ad596, e596, hx596_0⟩ := Kd.at_int (Kd.R_reads' HO_116.out).2.2 x118_3 p596 q596
                   cases e596
                   replace p596 := eq_true p596
                   replace q596 := eq_true q596
                   have p597 : 0 ≤ (0 : Int) := (by omega)
                   have q597 : 0 < (t576.length : Int) := of_decide_eq_true (by first | (with_reducible assumption) | assumption)
                   obtain ⟨ad597, e597, hx597_0, hx597_1, hx597_2⟩ := at_T46 (Kd.R_reads' HO_3.out).2.2 0 p597 q597
                   cases e597
                   have qi597 : (0 < t576.length) = True := eq_true (by omega)
                   (try rw [show ((0 : Int)).toNat = 0 from rfl] at hx597_0)
                   (try rw [show 0 * 3 = 0 from rfl] at hx597_0)
                   (try rw [Addr.add_zero'] at hx597_0)
                   (try rw [show ((0 : Int)).toNat = 0 from rfl] at hx597_1)
                   (try rw [show 0 * 3 = 0 from rfl] at hx597_1)
                   (try rw [Addr.add_zero'] at hx597_1)
                   (try rw [show ((0 : Int)).toNat = 0 from rfl] at hx597_2)
                   (try rw [show 0 * 3 = 0 from rfl] at hx597_2)
                   (try rw [Addr.add_zero'] at hx597_2)
                   replace p597 := eq_true p597
                   replace q597 := eq_true q597
                   go_wp2
                   go_roundg k3
                   case measure => have := HJ9.out; have := HJ28.out; have := HK3.out; omega
                   case rel => exact ⟨(wrap64 ((rd t583 x118_3) + 1)), (wrap64 (x118_3 + 1)), (by first | rfl | (simp; done) | (simp [*]; done)), (by first | rfl | (simp; done) | (simp [*]; done)), H', ⟨by have := HJ9.out; have := HJ28.out; have := HK3.out; omega⟩, ⟨by (with_reducible repeat (first | apply Kd.R_alloc | apply Kd.R_drewN | apply Kd.R_drew)); exact HO_3.out⟩, ⟨by (with_reducible repeat (first | apply Kd.R_alloc | apply Kd.R_drewN | apply Kd.R_drew)); exact HO_116.out⟩, ⟨bw HB.out⟩⟩
                 ·
                  rw [if_neg c50] at H
                  have c50b0 : (((rd_T46 t576 0).f0) == 14) = false := beq_eq_false_iff_ne.mpr c50
                  have c50b1 : (((rd_T46 t576 0).f0) != 14) = true := bne_iff_ne.mpr c50
                  have H' := Aside0.mk H
                  clear H
                  have p596 : 0 ≤ (x118_3 : Int) := of_decide_eq_true (by first | (with_reducible assumption) | assumption)
                  have q596 : x118_3 < (t583.length : Int) := of_decide_eq_true (by first | (with_reducible assumption) | assumption)
                  obtain ⟨ad596, e596, hx596_0⟩ := Kd.at_int (Kd.R_reads' HO_116.out).2.2 x118_3 p596 q596
                  cases e596
                  replace p596 := eq_true p596
                  replace q596 := eq_true q596
                  have p597 : 0 ≤ (0 : Int) := (by omega)
                  have q597 : 0 < (t576.length : Int) := of_decide_eq_true (by first | (with_reducible assumption) | assumption)
                  obtain ⟨ad597, e597, hx597_0, hx597_1, hx597_2⟩ := at_T46 (Kd.R_reads' HO_3.out).2.2 0 p597 q597
                  cases e597
                  have qi597 : (0 < t576.length) = True := eq_true (by omega)
                  (try rw [show ((0 : Int)).toNat = 0 from rfl] at hx597_0)
                  (try rw [show 0 * 3 = 0 from rfl] at hx597_0)
                  (try rw [Addr.add_zero'] at hx597_0)
                  (try rw [show ((0 : Int)).toNat = 0 from rfl] at hx597_1)
                  (try rw [show 0 * 3 = 0 from rfl] at hx597_1)
                  (try rw [Addr.add_zero'] at hx597_1)
                  (try rw [show ((0 : Int)).toNat = 0 from rfl] at hx597_2)
                  (try rw [show 0 * 3 = 0 from rfl] at hx597_2)
                  (try rw [Addr.add_zero'] at hx597_2)
                  replace p597 := eq_true p597
                  replace q597 := eq_true q597
                  go_wp2
                  go_roundg k3
                  case measure => have := HJ9.out; have := HJ28.out; have := HK3.out; omega
                  case rel => exact ⟨(wrap64 ((rd t583 x118_3) + 1)), (wrap64 (x118_3 + 1)), (by first | rfl | (simp; done) | (simp [*]; done)), (by first | rfl | (simp; done) | (simp [*]; done)), H', ⟨by have := HJ9.out; have := HJ28.out; have := HK3.out; omega⟩, ⟨by (with_reducible repeat (first | apply Kd.R_alloc | apply Kd.R_drewN | apply Kd.R_drew)); exact HO_3.out⟩, ⟨by (with_reducible repeat (first | apply Kd.R_alloc | apply Kd.R_drewN | apply Kd.R_drew)); exact HO_116.out⟩, ⟨bw HB.out⟩⟩
                ·
                 rw [if_neg c49] at H
                 exact absurd H (by simp)
             ·
              rw [if_neg c46] at H
              exact absurd H (by simp)
            ·
             rw [if_neg c45] at H
             exact absurd H (by simp)
           ·
            rw [if_neg c44] at H
            have c44b0 : decide (x118_3 < (t583.length : Int)) = false := decide_eq_false c44
            clear c44
            replace H := Option.bind_eq_some_iff.mp H
            obtain ⟨⟨t598, t599⟩, A520, H⟩ := H
            replace H : ((spec_FlatOf.f k3 t576).bind fun bt602 => (if (t599 == bt602.2) = true then ((laws_sameInts.f k3 t598 bt602.1).bind fun t606 => (if t606 = true then (if t599 = true then (some (decide ((t598.length : Int) > 0))) else (some true)) else (some false))) else (some false))) = some r := H
            have A52 := Aside0.mk A520
            clear A520
            replace H := Option.bind_eq_some_iff.mp H
            obtain ⟨⟨t602, t603⟩, A530, H⟩ := H
            replace H : (if (t599 == t603) = true then ((laws_sameInts.f k3 t598 t602).bind fun t606 => (if t606 = true then (if t599 = true then (some (decide ((t598.length : Int) > 0))) else (some true)) else (some false))) else (some false)) = some r := H
            have A53 := Aside0.mk A530
            clear A530
            by_cases c54 : (t599 == t603) = true
            ·
             rw [if_pos c54] at H
             have c54b0 : (t599 == t603) = true := c54
             (try (have c54b1 : decide (t599 = t603) = true := by simpa using c54))
             (try (have c54b2 : (t599 == t603) = true := by simpa using c54))
             clear c54
             replace H := Option.bind_eq_some_iff.mp H
             obtain ⟨t606, A550, H⟩ := H
             replace H : (if t606 = true then (if t599 = true then (some (decide ((t598.length : Int) > 0))) else (some true)) else (some false)) = some r := H
             have A55 := Aside0.mk A550
             clear A550
             by_cases c56 : t606 = true
             ·
              subst c56
              have H1 : (if t599 = true then (some (decide ((t598.length : Int) > 0))) else (some true)) = some r := by rw [if_pos rfl] at H; exact H
              clear H
              have H := H1
              clear H1
              by_cases c57 : t599 = true
              ·
               subst c57
               have H1 : (some (decide ((t598.length : Int) > 0))) = some r := by rw [if_pos rfl] at H; exact H
               clear H
               have H := H1
               clear H1
               obtain rfl := Option.some.inj H
               simp only [Option.some.injEq, Prod.mk.injEq] at H
               obtain ⟨rfl⟩ := H
               go_wp2_with (first | ((with_reducible refine gate_callee (f := 29) rfl ?_); refine goesL_ (some 146) rfl rfl Try.func29 (by kernel_rfl) rfl #[.slice Ao12 t576.length co12] rfl ar ?_; (with_reducible refine (impl_FlatOf.calls k3 _ _ t576 t598 true _ ?side1 ?side2 A52.out).mono ?_); (case side1 => repeat (first | exact (Kd.R_reads' HO_3.out).2.2 | (with_reducible refine Kd.C_alloc ?_ _) | (with_reducible refine Kd.C_drewN ?_ _) | (with_reducible refine Kd.C_drew ?_))); (case side2 => exact (Kd.R_reads' HO_3.out).2.1); rintro e w58 ⟨v600, rfl, ho0, hb⟩; refine ⟨_, rfl, ?_⟩; have n0_ := Aside0.mk (Kd.R_below (by (with_reducible repeat (first | apply Kd.R_alloc | apply Kd.R_drewN | apply Kd.R_drew)); exact HO_3.out) hb); have n1_ := Aside0.mk (Kd.R_elder' (by (with_reducible repeat (first | apply Kd.R_alloc | apply Kd.R_drewN | apply Kd.R_drew)); exact HO_116.out) (Kd.R_base ho0) hb); have n2_ := Aside0.mk (Kd.R_lower (Kd.R_new' ho0 (Kd.R_lt (by (with_reducible repeat (first | apply Kd.R_alloc | apply Kd.R_drewN | apply Kd.R_drew)); exact HO_116.out))) (below_size (bw HB.out))); have n3_ := Aside0.mk (below_step (bw HB.out) hb); clear HO_3; clear HO_116; clear HB; have HO_3 := n0_; have HO_116 := n1_; have HO601 := n2_; have HB := n3_; clear n0_ n1_ n2_ n3_; (try clear hb); (try clear hb2); (try clear hk); (try clear hi); (try clear ho0)) | ((with_reducible refine gate_callee (f := 28) rfl ?_); refine goesL_ (some 151) rfl rfl Try.func28 (by kernel_rfl) rfl #[.slice Ao12 t576.length co12] rfl ar ?_; (with_reducible refine (spec_FlatOf.calls k3 _ _ t576 t602 t603 _ ?side1 ?side2 A53.out).mono ?_); (case side1 => repeat (first | exact (Kd.R_reads' HO_3.out).2.2 | (with_reducible refine Kd.C_alloc ?_ _) | (with_reducible refine Kd.C_drewN ?_ _) | (with_reducible refine Kd.C_drew ?_))); (case side2 => exact (Kd.R_reads' HO_3.out).2.1); rintro e w59 ⟨v604, rfl, ho0, hb⟩; refine ⟨_, rfl, ?_⟩; have n0_ := Aside0.mk (Kd.R_below (by (with_reducible repeat (first | apply Kd.R_alloc | apply Kd.R_drewN | apply Kd.R_drew)); exact HO_3.out) hb); have n1_ := Aside0.mk (Kd.R_elder' (by (with_reducible repeat (first | apply Kd.R_alloc | apply Kd.R_drewN | apply Kd.R_drew)); exact HO_116.out) (Kd.R_base ho0) hb); have n2_ := Aside0.mk (Kd.R_elder' (by (with_reducible repeat (first | apply Kd.R_alloc | apply Kd.R_drewN | apply Kd.R_drew)); exact HO601.out) (Kd.R_base ho0) hb); have n3_ := Aside0.mk (Kd.R_lower (Kd.R_new' (Kd.R_new' ho0 (Kd.R_lt (by (with_reducible repeat (first | apply Kd.R_alloc | apply Kd.R_drewN | apply Kd.R_drew)); exact HO_116.out))) (Kd.R_lt (by (with_reducible repeat (first | apply Kd.R_alloc | apply Kd.R_drewN | apply Kd.R_drew)); exact HO601.out))) (below_size (bw HB.out))); have n4_ := Aside0.mk (below_step (bw HB.out) hb); clear HO_3; clear HO_116; clear HO601; clear HB; have HO_3 := n0_; have HO_116 := n1_; have HO601 := n2_; have HO605 := n3_; have HB := n4_; clear n0_ n1_ n2_ n3_ n4_; (try clear hb); (try clear hb2); (try clear hk); (try clear hi); (try clear ho0); obtain ⟨Ao60, co60, eo60⟩ := Kd.R_slice HO601.out; subst eo60; obtain ⟨Ao61, co61, eo61⟩ := Kd.R_slice HO605.out; subst eo61) | (go_at_call 36; (with_reducible refine (laws_sameInts.calls k3 _ _ t598 _ _ t602 true _ ?side1 ?side2 ?side3 ?side4 A55.out).mono ?_); (case side1 => repeat (first | exact (Kd.R_reads' HO601.out).2.2 | (with_reducible refine Kd.C_alloc ?_ _) | (with_reducible refine Kd.C_drewN ?_ _) | (with_reducible refine Kd.C_drew ?_))); (case side2 => exact (Kd.R_reads' HO601.out).2.1); (case side3 => repeat (first | exact (Kd.R_reads' HO605.out).2.2 | (with_reducible refine Kd.C_alloc ?_ _) | (with_reducible refine Kd.C_drewN ?_ _) | (with_reducible refine Kd.C_drew ?_))); (case side4 => exact (Kd.R_reads' HO605.out).2.1); rintro e w' ⟨rfl, ⟨nd, rfl⟩⟩))
               go_ret
               exact ⟨by first | rfl | (simp [errW_none, errW_some] <;> rfl) | (simp [*, errW_none, errW_some] <;> rfl), bw HB.out⟩
              ·
               replace c57 := Bool.eq_false_iff.mpr c57
               subst c57
               have H1 : (some true) = some r := by rw [if_neg (show ¬ (false = true) by decide)] at H; exact H
               clear H
               have H := H1
               clear H1
               obtain rfl := Option.some.inj H
               simp only [Option.some.injEq, Prod.mk.injEq] at H
               obtain ⟨rfl⟩ := H
               go_wp2_with (first | ((with_reducible refine gate_callee (f := 29) rfl ?_); refine goesL_ (some 146) rfl rfl Try.func29 (by kernel_rfl) rfl #[.slice Ao12 t576.length co12] rfl ar ?_; (with_reducible refine (impl_FlatOf.calls k3 _ _ t576 t598 false _ ?side1 ?side2 A52.out).mono ?_); (case side1 => repeat (first | exact (Kd.R_reads' HO_3.out).2.2 | (with_reducible refine Kd.C_alloc ?_ _) | (with_reducible refine Kd.C_drewN ?_ _) | (with_reducible refine Kd.C_drew ?_))); (case side2 => exact (Kd.R_reads' HO_3.out).2.1); rintro e w62 ⟨v600, rfl, ho0, hb⟩; refine ⟨_, rfl, ?_⟩; have n0_ := Aside0.mk (Kd.R_below (by (with_reducible repeat (first | apply Kd.R_alloc | apply Kd.R_drewN | apply Kd.R_drew)); exact HO_3.out) hb); have n1_ := Aside0.mk (Kd.R_elder' (by (with_reducible repeat (first | apply Kd.R_alloc | apply Kd.R_drewN | apply Kd.R_drew)); exact HO_116.out) (Kd.R_base ho0) hb); have n2_ := Aside0.mk (Kd.R_lower (Kd.R_new' ho0 (Kd.R_lt (by (with_reducible repeat (first | apply Kd.R_alloc | apply Kd.R_drewN | apply Kd.R_drew)); exact HO_116.out))) (below_size (bw HB.out))); have n3_ := Aside0.mk (below_step (bw HB.out) hb); clear HO_3; clear HO_116; clear HB; have HO_3 := n0_; have HO_116 := n1_; have HO601 := n2_; have HB := n3_; clear n0_ n1_ n2_ n3_; (try clear hb); (try clear hb2); (try clear hk); (try clear hi); (try clear ho0)) | ((with_reducible refine gate_callee (f := 28) rfl ?_); refine goesL_ (some 151) rfl rfl Try.func28 (by kernel_rfl) rfl #[.slice Ao12 t576.length co12] rfl ar ?_; (with_reducible refine (spec_FlatOf.calls k3 _ _ t576 t602 t603 _ ?side1 ?side2 A53.out).mono ?_); (case side1 => repeat (first | exact (Kd.R_reads' HO_3.out).2.2 | (with_reducible refine Kd.C_alloc ?_ _) | (with_reducible refine Kd.C_drewN ?_ _) | (with_reducible refine Kd.C_drew ?_))); (case side2 => exact (Kd.R_reads' HO_3.out).2.1); rintro e w63 ⟨v604, rfl, ho0, hb⟩; refine ⟨_, rfl, ?_⟩; have n0_ := Aside0.mk (Kd.R_below (by (with_reducible repeat (first | apply Kd.R_alloc | apply Kd.R_drewN | apply Kd.R_drew)); exact HO_3.out) hb); have n1_ := Aside0.mk (Kd.R_elder' (by (with_reducible repeat (first | apply Kd.R_alloc | apply Kd.R_drewN | apply Kd.R_drew)); exact HO_116.out) (Kd.R_base ho0) hb); have n2_ := Aside0.mk (Kd.R_elder' (by (with_reducible repeat (first | apply Kd.R_alloc | apply Kd.R_drewN | apply Kd.R_drew)); exact HO601.out) (Kd.R_base ho0) hb); have n3_ := Aside0.mk (Kd.R_lower (Kd.R_new' (Kd.R_new' ho0 (Kd.R_lt (by (with_reducible repeat (first | apply Kd.R_alloc | apply Kd.R_drewN | apply Kd.R_drew)); exact HO_116.out))) (Kd.R_lt (by (with_reducible repeat (first | apply Kd.R_alloc | apply Kd.R_drewN | apply Kd.R_drew)); exact HO601.out))) (below_size (bw HB.out))); have n4_ := Aside0.mk (below_step (bw HB.out) hb); clear HO_3; clear HO_116; clear HO601; clear HB; have HO_3 := n0_; have HO_116 := n1_; have HO601 := n2_; have HO605 := n3_; have HB := n4_; clear n0_ n1_ n2_ n3_ n4_; (try clear hb); (try clear hb2); (try clear hk); (try clear hi); (try clear ho0); obtain ⟨Ao64, co64, eo64⟩ := Kd.R_slice HO601.out; subst eo64; obtain ⟨Ao65, co65, eo65⟩ := Kd.R_slice HO605.out; subst eo65) | (go_at_call 36; (with_reducible refine (laws_sameInts.calls k3 _ _ t598 _ _ t602 true _ ?side1 ?side2 ?side3 ?side4 A55.out).mono ?_); (case side1 => repeat (first | exact (Kd.R_reads' HO601.out).2.2 | (with_reducible refine Kd.C_alloc ?_ _) | (with_reducible refine Kd.C_drewN ?_ _) | (with_reducible refine Kd.C_drew ?_))); (case side2 => exact (Kd.R_reads' HO601.out).2.1); (case side3 => repeat (first | exact (Kd.R_reads' HO605.out).2.2 | (with_reducible refine Kd.C_alloc ?_ _) | (with_reducible refine Kd.C_drewN ?_ _) | (with_reducible refine Kd.C_drew ?_))); (case side4 => exact (Kd.R_reads' HO605.out).2.1); rintro e w' ⟨rfl, ⟨nd, rfl⟩⟩))
               go_ret
               exact ⟨by first | rfl | (simp [errW_none, errW_some] <;> rfl) | (simp [*, errW_none, errW_some] <;> rfl), bw HB.out⟩
             ·
              replace c56 := Bool.eq_false_iff.mpr c56
              subst c56
              have H1 : (some false) = some r := by rw [if_neg (show ¬ (false = true) by decide)] at H; exact H
              clear H
              have H := H1
              clear H1
              obtain rfl := Option.some.inj H
              exact absurd HT.out (by decide)
            ·
             rw [if_neg c54] at H
             have c54b0 : (t599 == t603) = false := by simpa using c54
             (try (have c54b1 : decide (t599 = t603) = false := by simpa using c54))
             (try (have c54b2 : (t599 == t603) = false := by simpa using c54))
             (try (have c54b3 : ¬ (t599 = t603) := by simpa using c54))
             clear c54
             obtain rfl := Option.some.inj H
             exact absurd HT.out (by decide)
     ·
      replace c28 := Bool.eq_false_iff.mpr c28
      subst c28
      have H1 : (some (t579 == 0)) = some r := by rw [if_neg (show ¬ (false = true) by decide)] at H; exact H
      clear H
      have H := H1
      clear H1
      obtain rfl := Option.some.inj H
      simp only [Option.some.injEq, Prod.mk.injEq] at H
      obtain ⟨rfl⟩ := H
      go_wp2
      go_ret
      exact ⟨by first | rfl | (simp [errW_none, errW_some] <;> rfl) | (simp [*, errW_none, errW_some] <;> rfl), bw HB.out⟩

/-- THE ONE PURE STATEMENT of laws_FnRoom: yours. -/
def laws_FnRoom.Pure : Prop := ∀ (l0 : List Int), l0.length ≤ maxLen → l0.length * 1 ≤ 140737488351232 → (∀ x ∈ l0, (Lit.int .u8 x).wf = true) → ∃ k, laws_FnRoom.f k l0 = some true
theorem laws_FnRoom.walk (P : laws_FnRoom.Pure) (a0 : Option Addr) (len0 cap0 : Nat) (z0 : List Int) (w : World) (w0 : (a0 = none ∧ len0 = 0 ∧ cap0 = 0 ∧ z0 = []) ∨ ∃ x, a0 = some x ∧ len0 ≤ cap0 ∧ cap0 ≤ maxLen ∧ z0.length = cap0 ∧ (∀ i, i < z0.length → w.cell? (x.add i) = some (.int .u8 (z0.getD i 0))) ∧ ∀ n ∈ z0, (Lit.int .u8 n).wf = true) (y0 : len0 * 1 ≤ 140737488351232) :
  Calls Try.prog 10 #[.slice a0 len0 cap0] w fun e w' => e = .returned (.bool true) ∧ Below w.heap.size w w' := by
 obtain ⟨l0, rfl, hr0, hm0, hw0, hc0⟩ := ReadsInt.ofRowC w0
 obtain ⟨k, h⟩ := P l0 hm0 y0 hw0
 refine (laws_FnRoom.calls k _ _ l0 true w (Kd.C_of_reads (d := (0 : Int)) (h1 := fun _ => rfl) hr0) hc0 rfl h).mono ?_
 rintro e w' ⟨rfl, hd⟩
 exact ⟨rfl, hd⟩

end Go.Proofs.Ytlgegdgilkaldaa.Q

