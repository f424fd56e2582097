-- Written by a program of this session; it walks the functions that the law reaches.
import Derived.Test.YtdeogandkgiggaaQx0
import Derived.Test.YtdeogandkgiggaaQx4
import Derived.Test.YtdeogandkgiggaaQx5
import Derived.Test.YtdeogandkgiggaaQx2
namespace Go.Proofs.Ytdeogandkgiggaa.Q
open Go.RowKit Go.Proofs.YtdeogandkgiggaaW.PrintWords Go.Proofs.YtdeogandkgiggaaW.PrintLast Go.Proofs.YtdeogandkgiggaaW.PrintMore
attribute [local go_sem] max2_int min2_int max_two min_two max_three min_three max_four min_four   -- for this text's walks alone
set_option linter.unusedVariables false
set_option linter.unusedSimpArgs false

/-! ### spec_SignedOf: function 45 -/
def spec_SignedOf.f (a0 : Int) (a1 : Int) : Option (Int × Bool) := (spec_l3Bits.f a0).bind fun t295 => (if t295 = true then ((spec_l3Signed.f a0 a1).bind fun t296 => (some (t296, true))) else (some (0, false)))
set_option maxHeartbeats 8000000 in
set_option maxRecDepth 100000 in
theorem spec_SignedOf.calls (a0 : Int) (a1 : Int) (r1 : Int) (r2 : Bool) (w : World) (h : spec_SignedOf.f a0 a1 = some (r1, r2)) :
  Calls Try.prog 45 #[.int .i64 a0, .int .u64 a1] w fun e w' => e = .returned (.tuple #[.int .i64 r1, .bool r2]) ∧ Drawn0 w w' := by
 have H : ((spec_l3Bits.f a0).bind fun t295 => (if t295 = true then ((spec_l3Signed.f a0 a1).bind fun t296 => (some (t296, true))) else (some (0, false)))) = some (r1, r2) := h
 clear h
 replace H := Option.bind_eq_some_iff.mp H
 obtain ⟨t295, A30, H⟩ := H
 replace H : (if t295 = true then ((spec_l3Signed.f a0 a1).bind fun t296 => (some (t296, true))) else (some (0, false))) = some (r1, r2) := H
 have A3 := Aside0.mk A30
 clear A30
 by_cases c4 : t295 = true
 ·
  subst c4
  have H1 : ((spec_l3Signed.f a0 a1).bind fun t296 => (some (t296, true))) = some (r1, r2) := by rw [if_pos rfl] at H; exact H
  clear H
  have H := H1
  clear H1
  replace H := Option.bind_eq_some_iff.mp H
  obtain ⟨t296, A50, H⟩ := H
  replace H : (some (t296, true)) = some (r1, r2) := H
  have A5 := Aside0.mk A50
  clear A50
  simp only [Option.some.injEq, Prod.mk.injEq] at H
  obtain ⟨rfl, rfl⟩ := H
  go_enter Try.func45, Try.ntmps45
  go_wp2_with (first | ((with_reducible refine gate_callee (f := 68) rfl ?_); refine goesL_ (some 7) rfl rfl Try.func68 (by kernel_rfl) rfl #[.int .i64 a0] rfl ar ?_; (with_reducible refine (spec_l3Bits.calls a0 true _ A3.out).mono ?_); rintro e w' ⟨rfl, ⟨nd, rfl⟩⟩; refine ⟨_, rfl, ?_⟩) | ((with_reducible refine gate_callee (f := 81) rfl ?_); refine goesL_ (some 11) rfl rfl Try.func81 (by kernel_rfl) rfl #[.int .i64 a0, .int .u64 a1] rfl ar ?_; (with_reducible refine (spec_l3Signed.calls a0 a1 t296 _ A5.out).mono ?_); rintro e w' ⟨rfl, ⟨nd, rfl⟩⟩; refine ⟨_, rfl, ?_⟩))
  go_ret2
  exact ⟨by first | rfl | (simp; done) | (simp [*]; done), by repeat (first | exact Drawn0.refl _ | apply Drawn0.step)⟩
 ·
  replace c4 := Bool.eq_false_iff.mpr c4
  subst c4
  have H1 : (some (0, false)) = some (r1, r2) := by rw [if_neg (show ¬ (false = true) by decide)] at H; exact H
  clear H
  have H := H1
  clear H1
  simp only [Option.some.injEq, Prod.mk.injEq] at H
  obtain ⟨rfl, rfl⟩ := H
  go_enter Try.func45, Try.ntmps45
  go_wp2_with (first | ((with_reducible refine gate_callee (f := 68) rfl ?_); refine goesL_ (some 7) rfl rfl Try.func68 (by kernel_rfl) rfl #[.int .i64 a0] rfl ar ?_; (with_reducible refine (spec_l3Bits.calls a0 false _ A3.out).mono ?_); rintro e w' ⟨rfl, ⟨nd, rfl⟩⟩; refine ⟨_, rfl, ?_⟩))
  go_ret2
  exact ⟨by first | rfl | (simp; done) | (simp [*]; done), by repeat (first | exact Drawn0.refl _ | apply Drawn0.step)⟩

end Go.Proofs.Ytdeogandkgiggaa.Q

namespace Go.Proofs.Ytdeogandkgiggaa.Q
open Go.RowKit Go.Proofs.YtdeogandkgiggaaW.PrintWords Go.Proofs.YtdeogandkgiggaaW.PrintLast Go.Proofs.YtdeogandkgiggaaW.PrintMore
attribute [local go_sem] max2_int min2_int max_two min_two max_three min_three max_four min_four   -- for this text's walks alone
set_option linter.unusedVariables false
set_option linter.unusedSimpArgs false

/-! ### laws_FnWhole: function 15 -/
mutual
def laws_FnWhole.j0 : Nat → List Int → Int → Int → Int → Bool → Option (Bool)
 | 0, _, _, _, _, _ => none
 | k + 1, x1, x5, x7, x9, x57 => if x57 = true then ((impl_FRound.f k x5 2 x7).bind fun t304 => ((laws_exact.f t304).bind fun bt305 => ((impl_FRound.f k x5 1 x7).bind fun t307 => ((laws_exact.f t307).bind fun bt308 => ((impl_FRound.f k x5 3 x7).bind fun t310 => ((laws_exact.f t310).bind fun bt311 => ((impl_FRound.f k x5 4 x7).bind fun t313 => ((laws_exact.f t313).bind fun bt314 => (if bt305.2 = true then (if bt308.2 = true then (if bt311.2 = true then (if bt314.2 = true then (if bt305.1 > x9 then (laws_FnWhole.j1 k x1 x9 bt305.1 bt308.1 bt311.1 bt314.1 true) else (if bt308.1 < x9 then (laws_FnWhole.j1 k x1 x9 bt305.1 bt308.1 bt311.1 bt314.1 true) else (if (wrap64 (bt308.1 - bt305.1)) > 16777216 then (laws_FnWhole.j1 k x1 x9 bt305.1 bt308.1 bt311.1 bt314.1 true) else (if (Int.tmod bt305.1 16777216) = 0 then (laws_FnWhole.j1 k x1 x9 bt305.1 bt308.1 bt311.1 bt314.1 ((Int.tmod bt308.1 16777216) != 0)) else (laws_FnWhole.j1 k x1 x9 bt305.1 bt308.1 bt311.1 bt314.1 true))))) else (laws_FnWhole.j1 k x1 x9 bt305.1 bt308.1 bt311.1 bt314.1 true)) else (laws_FnWhole.j1 k x1 x9 bt305.1 bt308.1 bt311.1 bt314.1 true)) else (laws_FnWhole.j1 k x1 x9 bt305.1 bt308.1 bt311.1 bt314.1 true)) else (laws_FnWhole.j1 k x1 x9 bt305.1 bt308.1 bt311.1 bt314.1 true)))))))))) else (laws_FnWhole.j2 k x1)
def laws_FnWhole.j2 : Nat → List Int → Option (Bool)
 | 0, _ => none
 | k + 1, x1 => (laws_numberOf.f k x1).bind fun t322 => ((some (([16, 32] : List Int) : List Int)).bind fun y323 => (laws_FnWhole.l0 k (wrap64 ((Int.tmod t322 4097) - 2048)) y323 (y323.length : Int) 0))
def laws_FnWhole.l0 : Nat → Int → List Int → Int → Int → Option (Bool)
 | 0, _, _, _, _ => none
 | k + 1, x19, x163, x164, x165 => if x165 < x164 then (if 0 ≤ x165 then (if x165 < (x163.length : Int) then ((impl_FOfInt.f k (rd x163 x165) x19).bind fun t327 => ((impl_FToInt.f k (rd x163 x165) t327 32 true).bind fun bt328 => ((spec_SignedOf.f 32 bt328.1).bind fun bt330 => (if bt328.2 = 0 then (if bt330.1 = x19 then (laws_FnWhole.l0 k x19 x163 x164 (wrap64 (x165 + 1))) else (some false)) else (some false))))) else (none)) else (none)) else (some true)
def laws_FnWhole.j1 : Nat → List Int → Int → Int → Int → Int → Int → Bool → Option (Bool)
 | 0, _, _, _, _, _, _, _ => none
 | k + 1, x1, x9, x11, x13, x15, x17, x125 => if x125 = true then (some false) else ((laws_size.f x15).bind fun t316 => ((laws_size.f x9).bind fun t317 => (if t316 > t317 then (some false) else (if x15 = x11 then (if x17 = x11 then ((laws_size.f (wrap64 (x17 - x9))).bind fun t318 => (if (wrap64 (2 * t318)) > 16777216 then (some false) else (laws_FnWhole.j2 k x1))) else (if x17 = x13 then ((laws_size.f (wrap64 (x17 - x9))).bind fun t319 => (if (wrap64 (2 * t319)) > 16777216 then (some false) else (laws_FnWhole.j2 k x1))) else (some false))) else (if x15 = x13 then (if x17 = x11 then ((laws_size.f (wrap64 (x17 - x9))).bind fun t320 => (if (wrap64 (2 * t320)) > 16777216 then (some false) else (laws_FnWhole.j2 k x1))) else (if x17 = x13 then ((laws_size.f (wrap64 (x17 - x9))).bind fun t321 => (if (wrap64 (2 * t321)) > 16777216 then (some false) else (laws_FnWhole.j2 k x1))) else (some false))) else (some false))))))
end
def laws_FnWhole.f (k : Nat) (l0 : List Int) (l1 : List Int) : Option (Bool) := if (wrap64 ((l0.length : Int) + (l1.length : Int))) > 1048576 then (some true) else ((spec_DrawFRound.f k l0).bind fun bt297 => ((impl_FRound.f k bt297.1 bt297.2.1 bt297.2.2).bind fun t300 => ((spec_FRound.f k bt297.1 bt297.2.1 bt297.2.2).bind fun t301 => (if t300 = t301 then ((laws_exact.f bt297.2.2).bind fun bt302 => (if bt302.2 = true then (laws_FnWhole.j0 k l1 bt297.1 bt297.2.2 bt302.1 (bt297.1 == 16)) else (laws_FnWhole.j0 k l1 bt297.1 bt297.2.2 bt302.1 false))) else (some false)))))
theorem laws_FnWhole.mono_l : ∀ k, (∀ y0 y1 y2 y3 y4, LeO (laws_FnWhole.j0 k y0 y1 y2 y3 y4) (laws_FnWhole.j0 (k + 1) y0 y1 y2 y3 y4)) ∧ (∀ y0, LeO (laws_FnWhole.j2 k y0) (laws_FnWhole.j2 (k + 1) y0)) ∧ (∀ y0 y1 y2 y3, LeO (laws_FnWhole.l0 k y0 y1 y2 y3) (laws_FnWhole.l0 (k + 1) y0 y1 y2 y3)) ∧ (∀ y0 y1 y2 y3 y4 y5 y6, LeO (laws_FnWhole.j1 k y0 y1 y2 y3 y4 y5 y6) (laws_FnWhole.j1 (k + 1) y0 y1 y2 y3 y4 y5 y6))
 | 0 => ⟨fun _ _ _ _ _ r h => by simp [laws_FnWhole.j0] at h, fun _ r h => by simp [laws_FnWhole.j2] at h, fun _ _ _ _ r h => by simp [laws_FnWhole.l0] at h, fun _ _ _ _ _ _ _ r h => by simp [laws_FnWhole.j1] at h⟩
 | k + 1 => by
  obtain ⟨ih0, ih1, ih2, ih3⟩ := laws_FnWhole.mono_l k
  refine ⟨?_, ?_, ?_, ?_⟩
  ·
   intro y0 y1 y2 y3 y4
   unfold laws_FnWhole.j0
   repeat' first
   | (with_reducible exact ih0 _ _ _ _ _)
   | (with_reducible exact ih1 _)
   | (with_reducible exact ih2 _ _ _ _)
   | (with_reducible exact ih3 _ _ _ _ _ _ _)
   | (with_reducible exact impl_FOfInt.mono _ _ _)
   | (with_reducible exact impl_FRound.mono _ _ _ _)
   | (with_reducible exact impl_FToInt.mono _ _ _ _ _)
   | (with_reducible exact laws_numberOf.mono _ _)
   | (with_reducible exact spec_DrawFRound.mono _ _)
   | (with_reducible exact spec_FRound.mono _ _ _ _)
   | (with_reducible exact LeO.refl _)
   | (with_reducible exact LeO.none _)
   | (with_reducible refine LeO.ite ?_ ?_)
   | (with_reducible refine LeO.bind ?_ (fun _ => ?_))
   | exact ih0 _ _ _ _ _
   | exact ih1 _
   | exact ih2 _ _ _ _
   | exact ih3 _ _ _ _ _ _ _
   | exact impl_FOfInt.mono _ _ _
   | exact impl_FRound.mono _ _ _ _
   | exact impl_FToInt.mono _ _ _ _ _
   | exact laws_numberOf.mono _ _
   | exact spec_DrawFRound.mono _ _
   | exact spec_FRound.mono _ _ _ _
   | exact LeO.none _
   | refine LeO.ite ?_ ?_
   | refine LeO.bind ?_ (fun _ => ?_)
  ·
   intro y0
   unfold laws_FnWhole.j2
   repeat' first
   | (with_reducible exact ih0 _ _ _ _ _)
   | (with_reducible exact ih1 _)
   | (with_reducible exact ih2 _ _ _ _)
   | (with_reducible exact ih3 _ _ _ _ _ _ _)
   | (with_reducible exact impl_FOfInt.mono _ _ _)
   | (with_reducible exact impl_FRound.mono _ _ _ _)
   | (with_reducible exact impl_FToInt.mono _ _ _ _ _)
   | (with_reducible exact laws_numberOf.mono _ _)
   | (with_reducible exact spec_DrawFRound.mono _ _)
   | (with_reducible exact spec_FRound.mono _ _ _ _)
   | (with_reducible exact LeO.refl _)
   | (with_reducible exact LeO.none _)
   | (with_reducible refine LeO.ite ?_ ?_)
   | (with_reducible refine LeO.bind ?_ (fun _ => ?_))
   | exact ih0 _ _ _ _ _
   | exact ih1 _
   | exact ih2 _ _ _ _
   | exact ih3 _ _ _ _ _ _ _
   | exact impl_FOfInt.mono _ _ _
   | exact impl_FRound.mono _ _ _ _
   | exact impl_FToInt.mono _ _ _ _ _
   | exact laws_numberOf.mono _ _
   | exact spec_DrawFRound.mono _ _
   | exact spec_FRound.mono _ _ _ _
   | exact LeO.none _
   | refine LeO.ite ?_ ?_
   | refine LeO.bind ?_ (fun _ => ?_)
  ·
   intro y0 y1 y2 y3
   unfold laws_FnWhole.l0
   repeat' first
   | (with_reducible exact ih0 _ _ _ _ _)
   | (with_reducible exact ih1 _)
   | (with_reducible exact ih2 _ _ _ _)
   | (with_reducible exact ih3 _ _ _ _ _ _ _)
   | (with_reducible exact impl_FOfInt.mono _ _ _)
   | (with_reducible exact impl_FRound.mono _ _ _ _)
   | (with_reducible exact impl_FToInt.mono _ _ _ _ _)
   | (with_reducible exact laws_numberOf.mono _ _)
   | (with_reducible exact spec_DrawFRound.mono _ _)
   | (with_reducible exact spec_FRound.mono _ _ _ _)
   | (with_reducible exact LeO.refl _)
   | (with_reducible exact LeO.none _)
   | (with_reducible refine LeO.ite ?_ ?_)
   | (with_reducible refine LeO.bind ?_ (fun _ => ?_))
   | exact ih0 _ _ _ _ _
   | exact ih1 _
   | exact ih2 _ _ _ _
   | exact ih3 _ _ _ _ _ _ _
   | exact impl_FOfInt.mono _ _ _
   | exact impl_FRound.mono _ _ _ _
   | exact impl_FToInt.mono _ _ _ _ _
   | exact laws_numberOf.mono _ _
   | exact spec_DrawFRound.mono _ _
   | exact spec_FRound.mono _ _ _ _
   | exact LeO.none _
   | refine LeO.ite ?_ ?_
   | refine LeO.bind ?_ (fun _ => ?_)
  ·
   intro y0 y1 y2 y3 y4 y5 y6
   unfold laws_FnWhole.j1
   repeat' first
   | (with_reducible exact ih0 _ _ _ _ _)
   | (with_reducible exact ih1 _)
   | (with_reducible exact ih2 _ _ _ _)
   | (with_reducible exact ih3 _ _ _ _ _ _ _)
   | (with_reducible exact impl_FOfInt.mono _ _ _)
   | (with_reducible exact impl_FRound.mono _ _ _ _)
   | (with_reducible exact impl_FToInt.mono _ _ _ _ _)
   | (with_reducible exact laws_numberOf.mono _ _)
   | (with_reducible exact spec_DrawFRound.mono _ _)
   | (with_reducible exact spec_FRound.mono _ _ _ _)
   | (with_reducible exact LeO.refl _)
   | (with_reducible exact LeO.none _)
   | (with_reducible refine LeO.ite ?_ ?_)
   | (with_reducible refine LeO.bind ?_ (fun _ => ?_))
   | exact ih0 _ _ _ _ _
   | exact ih1 _
   | exact ih2 _ _ _ _
   | exact ih3 _ _ _ _ _ _ _
   | exact impl_FOfInt.mono _ _ _
   | exact impl_FRound.mono _ _ _ _
   | exact impl_FToInt.mono _ _ _ _ _
   | exact laws_numberOf.mono _ _
   | exact spec_DrawFRound.mono _ _
   | exact spec_FRound.mono _ _ _ _
   | exact LeO.none _
   | refine LeO.ite ?_ ?_
   | refine LeO.bind ?_ (fun _ => ?_)
theorem laws_FnWhole.mono : ∀ a0 a1 k, LeO (laws_FnWhole.f k a0 a1) (laws_FnWhole.f (k + 1) a0 a1) := by
 intro a0 a1 k
 obtain ⟨ih0, ih1, ih2, ih3⟩ := laws_FnWhole.mono_l k
 unfold laws_FnWhole.f
 repeat' first
   | (with_reducible exact ih0 _ _ _ _ _)
   | (with_reducible exact ih1 _)
   | (with_reducible exact ih2 _ _ _ _)
   | (with_reducible exact ih3 _ _ _ _ _ _ _)
   | (with_reducible exact impl_FOfInt.mono _ _ _)
   | (with_reducible exact impl_FRound.mono _ _ _ _)
   | (with_reducible exact impl_FToInt.mono _ _ _ _ _)
   | (with_reducible exact laws_numberOf.mono _ _)
   | (with_reducible exact spec_DrawFRound.mono _ _)
   | (with_reducible exact spec_FRound.mono _ _ _ _)
   | (with_reducible exact LeO.refl _)
   | (with_reducible exact LeO.none _)
   | (with_reducible refine LeO.ite ?_ ?_)
   | (with_reducible refine LeO.bind ?_ (fun _ => ?_))
   | exact ih0 _ _ _ _ _
   | exact ih1 _
   | exact ih2 _ _ _ _
   | exact ih3 _ _ _ _ _ _ _
   | exact impl_FOfInt.mono _ _ _
   | exact impl_FRound.mono _ _ _ _
   | exact impl_FToInt.mono _ _ _ _ _
   | exact laws_numberOf.mono _ _
   | exact spec_DrawFRound.mono _ _
   | exact spec_FRound.mono _ _ _ _
   | exact LeO.none _
   | refine LeO.ite ?_ ?_
   | refine LeO.bind ?_ (fun _ => ?_)
set_option maxHeartbeats 8000000 in
set_option maxRecDepth 100000 in
theorem laws_FnWhole.calls (k : Nat) (A0 : Option Addr) (c0 : Nat) (l0 : List Int) (A1 : Option Addr) (c1 : Nat) (l1 : List Int) (r : Bool) (w : World) (hr0 : Kd.C (Kd.int .u8) w A0 l0.length l0) (hc0 : l0.length ≤ c0) (hr1 : Kd.C (Kd.int .u8) w A1 l1.length l1) (hc1 : l1.length ≤ c1) (hTrue : r = true) (h : laws_FnWhole.f k l0 l1 = some r) :
  Calls Try.prog 15 #[.slice A0 l0.length c0, .slice A1 l1.length c1] w fun e w' => e = .returned (.bool r) ∧ Below w.heap.size w w' := by
 have HR0 := Aside0.mk hr0
 have HC0 := Aside0.mk hc0
 clear hr0 hc0
 have HR1 := Aside0.mk hr1
 have HC1 := Aside0.mk hc1
 clear hr1 hc1
 have HB := Aside0.mk (Below.refl w.heap.size w)
 have H : (if (wrap64 ((l0.length : Int) + (l1.length : Int))) > 1048576 then (some true) else ((spec_DrawFRound.f k l0).bind fun bt297 => ((impl_FRound.f k bt297.1 bt297.2.1 bt297.2.2).bind fun t300 => ((spec_FRound.f k bt297.1 bt297.2.1 bt297.2.2).bind fun t301 => (if t300 = t301 then ((laws_exact.f bt297.2.2).bind fun bt302 => (if bt302.2 = true then (laws_FnWhole.j0 k l1 bt297.1 bt297.2.2 bt302.1 (bt297.1 == 16)) else (laws_FnWhole.j0 k l1 bt297.1 bt297.2.2 bt302.1 false))) else (some false)))))) = some r := h
 clear h
 have HT := Aside0.mk hTrue
 clear hTrue
 by_cases c3 : (wrap64 ((l0.length : Int) + (l1.length : Int))) > 1048576
 ·
  rw [if_pos c3] at H
  have c3b0 : decide (1048576 < (wrap64 ((l0.length : Int) + (l1.length : Int)))) = true := decide_eq_true c3
  clear c3
  obtain rfl := Option.some.inj H
  simp only [Option.some.injEq, Prod.mk.injEq] at H
  obtain ⟨rfl⟩ := H
  go_enter Try.func15, Try.ntmps15
  go_wp2
  go_ret
  exact ⟨by first | rfl | (simp [errW_none, errW_some] <;> rfl) | (simp [*, errW_none, errW_some] <;> rfl), bw HB.out⟩
 ·
  rw [if_neg c3] at H
  have c3b0 : decide (1048576 < (wrap64 ((l0.length : Int) + (l1.length : Int)))) = false := decide_eq_false c3
  clear c3
  replace H := Option.bind_eq_some_iff.mp H
  obtain ⟨⟨t297, t298, t299⟩, A40, H⟩ := H
  replace H : ((impl_FRound.f k t297 t298 t299).bind fun t300 => ((spec_FRound.f k t297 t298 t299).bind fun t301 => (if t300 = t301 then ((laws_exact.f t299).bind fun bt302 => (if bt302.2 = true then (laws_FnWhole.j0 k l1 t297 t299 bt302.1 (t297 == 16)) else (laws_FnWhole.j0 k l1 t297 t299 bt302.1 false))) else (some false)))) = some r := H
  have A4 := Aside0.mk A40
  clear A40
  replace H := Option.bind_eq_some_iff.mp H
  obtain ⟨t300, A50, H⟩ := H
  replace H : ((spec_FRound.f k t297 t298 t299).bind fun t301 => (if t300 = t301 then ((laws_exact.f t299).bind fun bt302 => (if bt302.2 = true then (laws_FnWhole.j0 k l1 t297 t299 bt302.1 (t297 == 16)) else (laws_FnWhole.j0 k l1 t297 t299 bt302.1 false))) else (some false))) = some r := H
  have A5 := Aside0.mk A50
  clear A50
  replace H := Option.bind_eq_some_iff.mp H
  obtain ⟨t301, A60, H⟩ := H
  replace H : (if t300 = t301 then ((laws_exact.f t299).bind fun bt302 => (if bt302.2 = true then (laws_FnWhole.j0 k l1 t297 t299 bt302.1 (t297 == 16)) else (laws_FnWhole.j0 k l1 t297 t299 bt302.1 false))) else (some false)) = some r := H
  have A6 := Aside0.mk A60
  clear A60
  by_cases c7 : t300 = t301
  ·
   rw [if_pos c7] at H
   have c7b0 : (t300 == t301) = true := beq_iff_eq.mpr c7
   have c7b1 : (t300 != t301) = false := bne_eq_false_iff_eq.mpr c7
   clear c7
   replace H := Option.bind_eq_some_iff.mp H
   obtain ⟨⟨t302, t303⟩, A80, H⟩ := H
   replace H : (if t303 = true then (laws_FnWhole.j0 k l1 t297 t299 t302 (t297 == 16)) else (laws_FnWhole.j0 k l1 t297 t299 t302 false)) = some r := H
   have A8 := Aside0.mk A80
   clear A80
   have HC9 := Aside0.mk H
   clear H
   go_enter Try.func15, Try.ntmps15
   go_upto_region 8 with (first | ((with_reducible refine gate_callee (f := 41) rfl ?_); refine goesL_ (some 34) rfl rfl Try.func41 (by kernel_rfl) rfl #[.slice A0 l0.length c0] rfl ar ?_; (with_reducible refine (spec_DrawFRound.calls k _ _ l0 t297 t298 t299 _ ?side1 ?side2 A4.out).mono ?_); (case side1 => repeat (first | exact HR0.out | (with_reducible refine Kd.C_alloc ?_ _) | (with_reducible refine Kd.C_drewN ?_ _) | (with_reducible refine Kd.C_drew ?_))); (case side2 => exact HC0.out); rintro e w10 ⟨rfl, hb⟩; refine ⟨_, rfl, ?_⟩; have n0_ := Aside0.mk (below_step (bw HB.out) hb); clear HB; have HB := n0_; clear n0_; (try clear hb)) | ((with_reducible refine gate_callee (f := 25) rfl ?_); refine goesL_ (some 41) rfl rfl Try.func25 (by kernel_rfl) rfl #[.int .i64 t297, .int .i64 t298, .int .u32 t299] rfl ar ?_; (with_reducible refine (impl_FRound.calls k t297 t298 t299 t300 _ A5.out).mono ?_); rintro e w11 ⟨rfl, hb⟩; refine ⟨_, rfl, ?_⟩; have n0_ := Aside0.mk (below_step (bw HB.out) hb); clear HB; have HB := n0_; clear n0_; (try clear hb)) | ((with_reducible refine gate_callee (f := 24) rfl ?_); refine goesL_ (some 46) rfl rfl Try.func24 (by kernel_rfl) rfl #[.int .i64 t297, .int .i64 t298, .int .u32 t299] rfl ar ?_; (with_reducible refine (spec_FRound.calls k t297 t298 t299 t301 _ A6.out).mono ?_); rintro e w12 ⟨rfl, hb⟩; refine ⟨_, rfl, ?_⟩; have n0_ := Aside0.mk (below_step (bw HB.out) hb); clear HB; have HB := n0_; clear n0_; (try clear hb)) | ((with_reducible refine gate_callee (f := 39) rfl ?_); refine goesL_ (some 50) rfl rfl Try.func39 (by kernel_rfl) rfl #[.int .u32 t299] rfl ar ?_; (with_reducible refine (laws_exact.calls t299 t302 t303 _ A8.out).mono ?_); rintro e w13 ⟨rfl, hb⟩; refine ⟨_, rfl, ?_⟩; have n0_ := Aside0.mk (below_step (bw HB.out) hb); clear HB; have HB := n0_; clear n0_; (try clear hb)))
   (try simp only [Act.put, List.setIfInBounds_toArray, List.set_cons_zero, List.set_cons_succ])
   go_cut [57] (fun v57 wc => ∃ (kq : Nat) (x57_8 : Bool), v57 = .bool x57_8 ∧ Aside0 (laws_FnWhole.j0 kq l1 t297 t299 t302 x57_8 = some r) ∧ Aside0 (kq ≤ k) ∧ Aside0 (Below w.heap.size w wc))
   case first =>
    have H := HC9.out
    clear HC9
    by_cases c14 : t303 = true
    ·
     subst c14
     have H1 : (laws_FnWhole.j0 k l1 t297 t299 t302 (t297 == 16)) = some r := by rw [if_pos rfl] at H; exact H
     clear H
     have H := H1
     clear H1
     have H' := Aside0.mk H
     clear H
     go_wp2
     go_meet
     case rel => exact ⟨_, ((t297 == 16)), (by first | rfl | (simp; done) | (simp [*]; done)), H', ⟨by first | omega | exact Nat.le_refl _⟩, ⟨bw HB.out⟩⟩
    ·
     replace c14 := Bool.eq_false_iff.mpr c14
     subst c14
     have H1 : (laws_FnWhole.j0 k l1 t297 t299 t302 false) = some r := by rw [if_neg (show ¬ (false = true) by decide)] at H; exact H
     clear H
     have H := H1
     clear H1
     have H' := Aside0.mk H
     clear H
     go_wp2
     go_meet
     case rel => exact ⟨_, (false), (by first | rfl | (simp; done) | (simp [*]; done)), H', ⟨by first | omega | exact Nat.le_refl _⟩, ⟨bw HB.out⟩⟩
   case rest =>
    clear HC9
    try clear c1
    try clear c2
    try clear p2
    try clear c3
    try clear c3b0
    try clear c4
    try clear p6
    try clear c7
    try clear c7b0
    try clear c7b1
    try clear c14
    obtain ⟨kq, x57_8, rfl, HA, HJ8, HB⟩ := hcut
    cases kq with
    | zero => exact absurd HA.out (by simp [laws_FnWhole.j0])
    | succ kj8 =>
     have H := HA.out
     clear HA
     simp only [laws_FnWhole.j0] at H
     have HC15 := Aside0.mk H
     clear H
     go_upto_if 57 with (fail)
     go_cut [] (fun wc => ∃ (kq : Nat), Aside0 (laws_FnWhole.j2 kq l1 = some r) ∧ Aside0 (kq ≤ kj8) ∧ Aside0 (Below w.heap.size w wc))
     case first =>
      have H := HC15.out
      clear HC15
      by_cases c16 : x57_8 = true
      ·
       subst c16
       have H1 : ((impl_FRound.f kj8 t297 2 t299).bind fun t304 => ((laws_exact.f t304).bind fun bt305 => ((impl_FRound.f kj8 t297 1 t299).bind fun t307 => ((laws_exact.f t307).bind fun bt308 => ((impl_FRound.f kj8 t297 3 t299).bind fun t310 => ((laws_exact.f t310).bind fun bt311 => ((impl_FRound.f kj8 t297 4 t299).bind fun t313 => ((laws_exact.f t313).bind fun bt314 => (if bt305.2 = true then (if bt308.2 = true then (if bt311.2 = true then (if bt314.2 = true then (if bt305.1 > t302 then (laws_FnWhole.j1 kj8 l1 t302 bt305.1 bt308.1 bt311.1 bt314.1 true) else (if bt308.1 < t302 then (laws_FnWhole.j1 kj8 l1 t302 bt305.1 bt308.1 bt311.1 bt314.1 true) else (if (wrap64 (bt308.1 - bt305.1)) > 16777216 then (laws_FnWhole.j1 kj8 l1 t302 bt305.1 bt308.1 bt311.1 bt314.1 true) else (if (Int.tmod bt305.1 16777216) = 0 then (laws_FnWhole.j1 kj8 l1 t302 bt305.1 bt308.1 bt311.1 bt314.1 ((Int.tmod bt308.1 16777216) != 0)) else (laws_FnWhole.j1 kj8 l1 t302 bt305.1 bt308.1 bt311.1 bt314.1 true))))) else (laws_FnWhole.j1 kj8 l1 t302 bt305.1 bt308.1 bt311.1 bt314.1 true)) else (laws_FnWhole.j1 kj8 l1 t302 bt305.1 bt308.1 bt311.1 bt314.1 true)) else (laws_FnWhole.j1 kj8 l1 t302 bt305.1 bt308.1 bt311.1 bt314.1 true)) else (laws_FnWhole.j1 kj8 l1 t302 bt305.1 bt308.1 bt311.1 bt314.1 true)))))))))) = some r := by rw [if_pos rfl] at H; exact H
       clear H
       have H := H1
       clear H1
       replace H := Option.bind_eq_some_iff.mp H
       obtain ⟨t304, A170, H⟩ := H
       replace H : ((laws_exact.f t304).bind fun bt305 => ((impl_FRound.f kj8 t297 1 t299).bind fun t307 => ((laws_exact.f t307).bind fun bt308 => ((impl_FRound.f kj8 t297 3 t299).bind fun t310 => ((laws_exact.f t310).bind fun bt311 => ((impl_FRound.f kj8 t297 4 t299).bind fun t313 => ((laws_exact.f t313).bind fun bt314 => (if bt305.2 = true then (if bt308.2 = true then (if bt311.2 = true then (if bt314.2 = true then (if bt305.1 > t302 then (laws_FnWhole.j1 kj8 l1 t302 bt305.1 bt308.1 bt311.1 bt314.1 true) else (if bt308.1 < t302 then (laws_FnWhole.j1 kj8 l1 t302 bt305.1 bt308.1 bt311.1 bt314.1 true) else (if (wrap64 (bt308.1 - bt305.1)) > 16777216 then (laws_FnWhole.j1 kj8 l1 t302 bt305.1 bt308.1 bt311.1 bt314.1 true) else (if (Int.tmod bt305.1 16777216) = 0 then (laws_FnWhole.j1 kj8 l1 t302 bt305.1 bt308.1 bt311.1 bt314.1 ((Int.tmod bt308.1 16777216) != 0)) else (laws_FnWhole.j1 kj8 l1 t302 bt305.1 bt308.1 bt311.1 bt314.1 true))))) else (laws_FnWhole.j1 kj8 l1 t302 bt305.1 bt308.1 bt311.1 bt314.1 true)) else (laws_FnWhole.j1 kj8 l1 t302 bt305.1 bt308.1 bt311.1 bt314.1 true)) else (laws_FnWhole.j1 kj8 l1 t302 bt305.1 bt308.1 bt311.1 bt314.1 true)) else (laws_FnWhole.j1 kj8 l1 t302 bt305.1 bt308.1 bt311.1 bt314.1 true))))))))) = some r := H
       have A17 := Aside0.mk A170
       clear A170
       replace H := Option.bind_eq_some_iff.mp H
       obtain ⟨⟨t305, t306⟩, A180, H⟩ := H
       replace H : ((impl_FRound.f kj8 t297 1 t299).bind fun t307 => ((laws_exact.f t307).bind fun bt308 => ((impl_FRound.f kj8 t297 3 t299).bind fun t310 => ((laws_exact.f t310).bind fun bt311 => ((impl_FRound.f kj8 t297 4 t299).bind fun t313 => ((laws_exact.f t313).bind fun bt314 => (if t306 = true then (if bt308.2 = true then (if bt311.2 = true then (if bt314.2 = true then (if t305 > t302 then (laws_FnWhole.j1 kj8 l1 t302 t305 bt308.1 bt311.1 bt314.1 true) else (if bt308.1 < t302 then (laws_FnWhole.j1 kj8 l1 t302 t305 bt308.1 bt311.1 bt314.1 true) else (if (wrap64 (bt308.1 - t305)) > 16777216 then (laws_FnWhole.j1 kj8 l1 t302 t305 bt308.1 bt311.1 bt314.1 true) else (if (Int.tmod t305 16777216) = 0 then (laws_FnWhole.j1 kj8 l1 t302 t305 bt308.1 bt311.1 bt314.1 ((Int.tmod bt308.1 16777216) != 0)) else (laws_FnWhole.j1 kj8 l1 t302 t305 bt308.1 bt311.1 bt314.1 true))))) else (laws_FnWhole.j1 kj8 l1 t302 t305 bt308.1 bt311.1 bt314.1 true)) else (laws_FnWhole.j1 kj8 l1 t302 t305 bt308.1 bt311.1 bt314.1 true)) else (laws_FnWhole.j1 kj8 l1 t302 t305 bt308.1 bt311.1 bt314.1 true)) else (laws_FnWhole.j1 kj8 l1 t302 t305 bt308.1 bt311.1 bt314.1 true)))))))) = some r := H
       have A18 := Aside0.mk A180
       clear A180
       replace H := Option.bind_eq_some_iff.mp H
       obtain ⟨t307, A190, H⟩ := H
       replace H : ((laws_exact.f t307).bind fun bt308 => ((impl_FRound.f kj8 t297 3 t299).bind fun t310 => ((laws_exact.f t310).bind fun bt311 => ((impl_FRound.f kj8 t297 4 t299).bind fun t313 => ((laws_exact.f t313).bind fun bt314 => (if t306 = true then (if bt308.2 = true then (if bt311.2 = true then (if bt314.2 = true then (if t305 > t302 then (laws_FnWhole.j1 kj8 l1 t302 t305 bt308.1 bt311.1 bt314.1 true) else (if bt308.1 < t302 then (laws_FnWhole.j1 kj8 l1 t302 t305 bt308.1 bt311.1 bt314.1 true) else (if (wrap64 (bt308.1 - t305)) > 16777216 then (laws_FnWhole.j1 kj8 l1 t302 t305 bt308.1 bt311.1 bt314.1 true) else (if (Int.tmod t305 16777216) = 0 then (laws_FnWhole.j1 kj8 l1 t302 t305 bt308.1 bt311.1 bt314.1 ((Int.tmod bt308.1 16777216) != 0)) else (laws_FnWhole.j1 kj8 l1 t302 t305 bt308.1 bt311.1 bt314.1 true))))) else (laws_FnWhole.j1 kj8 l1 t302 t305 bt308.1 bt311.1 bt314.1 true)) else (laws_FnWhole.j1 kj8 l1 t302 t305 bt308.1 bt311.1 bt314.1 true)) else (laws_FnWhole.j1 kj8 l1 t302 t305 bt308.1 bt311.1 bt314.1 true)) else (laws_FnWhole.j1 kj8 l1 t302 t305 bt308.1 bt311.1 bt314.1 true))))))) = some r := H
       have A19 := Aside0.mk A190
       clear A190
       replace H := Option.bind_eq_some_iff.mp H
       obtain ⟨⟨t308, t309⟩, A200, H⟩ := H
       replace H : ((impl_FRound.f kj8 t297 3 t299).bind fun t310 => ((laws_exact.f t310).bind fun bt311 => ((impl_FRound.f kj8 t297 4 t299).bind fun t313 => ((laws_exact.f t313).bind fun bt314 => (if t306 = true then (if t309 = true then (if bt311.2 = true then (if bt314.2 = true then (if t305 > t302 then (laws_FnWhole.j1 kj8 l1 t302 t305 t308 bt311.1 bt314.1 true) else (if t308 < t302 then (laws_FnWhole.j1 kj8 l1 t302 t305 t308 bt311.1 bt314.1 true) else (if (wrap64 (t308 - t305)) > 16777216 then (laws_FnWhole.j1 kj8 l1 t302 t305 t308 bt311.1 bt314.1 true) else (if (Int.tmod t305 16777216) = 0 then (laws_FnWhole.j1 kj8 l1 t302 t305 t308 bt311.1 bt314.1 ((Int.tmod t308 16777216) != 0)) else (laws_FnWhole.j1 kj8 l1 t302 t305 t308 bt311.1 bt314.1 true))))) else (laws_FnWhole.j1 kj8 l1 t302 t305 t308 bt311.1 bt314.1 true)) else (laws_FnWhole.j1 kj8 l1 t302 t305 t308 bt311.1 bt314.1 true)) else (laws_FnWhole.j1 kj8 l1 t302 t305 t308 bt311.1 bt314.1 true)) else (laws_FnWhole.j1 kj8 l1 t302 t305 t308 bt311.1 bt314.1 true)))))) = some r := H
       have A20 := Aside0.mk A200
       clear A200
       replace H := Option.bind_eq_some_iff.mp H
       obtain ⟨t310, A210, H⟩ := H
       replace H : ((laws_exact.f t310).bind fun bt311 => ((impl_FRound.f kj8 t297 4 t299).bind fun t313 => ((laws_exact.f t313).bind fun bt314 => (if t306 = true then (if t309 = true then (if bt311.2 = true then (if bt314.2 = true then (if t305 > t302 then (laws_FnWhole.j1 kj8 l1 t302 t305 t308 bt311.1 bt314.1 true) else (if t308 < t302 then (laws_FnWhole.j1 kj8 l1 t302 t305 t308 bt311.1 bt314.1 true) else (if (wrap64 (t308 - t305)) > 16777216 then (laws_FnWhole.j1 kj8 l1 t302 t305 t308 bt311.1 bt314.1 true) else (if (Int.tmod t305 16777216) = 0 then (laws_FnWhole.j1 kj8 l1 t302 t305 t308 bt311.1 bt314.1 ((Int.tmod t308 16777216) != 0)) else (laws_FnWhole.j1 kj8 l1 t302 t305 t308 bt311.1 bt314.1 true))))) else (laws_FnWhole.j1 kj8 l1 t302 t305 t308 bt311.1 bt314.1 true)) else (laws_FnWhole.j1 kj8 l1 t302 t305 t308 bt311.1 bt314.1 true)) else (laws_FnWhole.j1 kj8 l1 t302 t305 t308 bt311.1 bt314.1 true)) else (laws_FnWhole.j1 kj8 l1 t302 t305 t308 bt311.1 bt314.1 true))))) = some r := H
       have A21 := Aside0.mk A210
       clear A210
       replace H := Option.bind_eq_some_iff.mp H
       obtain ⟨⟨t311, t312⟩, A220, H⟩ := H
       replace H : ((impl_FRound.f kj8 t297 4 t299).bind fun t313 => ((laws_exact.f t313).bind fun bt314 => (if t306 = true then (if t309 = true then (if t312 = true then (if bt314.2 = true then (if t305 > t302 then (laws_FnWhole.j1 kj8 l1 t302 t305 t308 t311 bt314.1 true) else (if t308 < t302 then (laws_FnWhole.j1 kj8 l1 t302 t305 t308 t311 bt314.1 true) else (if (wrap64 (t308 - t305)) > 16777216 then (laws_FnWhole.j1 kj8 l1 t302 t305 t308 t311 bt314.1 true) else (if (Int.tmod t305 16777216) = 0 then (laws_FnWhole.j1 kj8 l1 t302 t305 t308 t311 bt314.1 ((Int.tmod t308 16777216) != 0)) else (laws_FnWhole.j1 kj8 l1 t302 t305 t308 t311 bt314.1 true))))) else (laws_FnWhole.j1 kj8 l1 t302 t305 t308 t311 bt314.1 true)) else (laws_FnWhole.j1 kj8 l1 t302 t305 t308 t311 bt314.1 true)) else (laws_FnWhole.j1 kj8 l1 t302 t305 t308 t311 bt314.1 true)) else (laws_FnWhole.j1 kj8 l1 t302 t305 t308 t311 bt314.1 true)))) = some r := H
       have A22 := Aside0.mk A220
       clear A220
       replace H := Option.bind_eq_some_iff.mp H
       obtain ⟨t313, A230, H⟩ := H
       replace H : ((laws_exact.f t313).bind fun bt314 => (if t306 = true then (if t309 = true then (if t312 = true then (if bt314.2 = true then (if t305 > t302 then (laws_FnWhole.j1 kj8 l1 t302 t305 t308 t311 bt314.1 true) else (if t308 < t302 then (laws_FnWhole.j1 kj8 l1 t302 t305 t308 t311 bt314.1 true) else (if (wrap64 (t308 - t305)) > 16777216 then (laws_FnWhole.j1 kj8 l1 t302 t305 t308 t311 bt314.1 true) else (if (Int.tmod t305 16777216) = 0 then (laws_FnWhole.j1 kj8 l1 t302 t305 t308 t311 bt314.1 ((Int.tmod t308 16777216) != 0)) else (laws_FnWhole.j1 kj8 l1 t302 t305 t308 t311 bt314.1 true))))) else (laws_FnWhole.j1 kj8 l1 t302 t305 t308 t311 bt314.1 true)) else (laws_FnWhole.j1 kj8 l1 t302 t305 t308 t311 bt314.1 true)) else (laws_FnWhole.j1 kj8 l1 t302 t305 t308 t311 bt314.1 true)) else (laws_FnWhole.j1 kj8 l1 t302 t305 t308 t311 bt314.1 true))) = some r := H
       have A23 := Aside0.mk A230
       clear A230
       replace H := Option.bind_eq_some_iff.mp H
       obtain ⟨⟨t314, t315⟩, A240, H⟩ := H
       replace H : (if t306 = true then (if t309 = true then (if t312 = true then (if t315 = true then (if t305 > t302 then (laws_FnWhole.j1 kj8 l1 t302 t305 t308 t311 t314 true) else (if t308 < t302 then (laws_FnWhole.j1 kj8 l1 t302 t305 t308 t311 t314 true) else (if (wrap64 (t308 - t305)) > 16777216 then (laws_FnWhole.j1 kj8 l1 t302 t305 t308 t311 t314 true) else (if (Int.tmod t305 16777216) = 0 then (laws_FnWhole.j1 kj8 l1 t302 t305 t308 t311 t314 ((Int.tmod t308 16777216) != 0)) else (laws_FnWhole.j1 kj8 l1 t302 t305 t308 t311 t314 true))))) else (laws_FnWhole.j1 kj8 l1 t302 t305 t308 t311 t314 true)) else (laws_FnWhole.j1 kj8 l1 t302 t305 t308 t311 t314 true)) else (laws_FnWhole.j1 kj8 l1 t302 t305 t308 t311 t314 true)) else (laws_FnWhole.j1 kj8 l1 t302 t305 t308 t311 t314 true)) = some r := H
       have A24 := Aside0.mk A240
       clear A240
       have HC25 := Aside0.mk H
       clear H
       go_upto_region 13 with (first | ((with_reducible refine gate_callee (f := 25) rfl ?_); refine goesL_ (some 61) rfl rfl Try.func25 (by kernel_rfl) rfl #[.int .i64 t297, .int .i64 2, .int .u32 t299] rfl ar ?_; (with_reducible refine (impl_FRound.calls kj8 t297 2 t299 t304 _ A17.out).mono ?_); rintro e w26 ⟨rfl, hb⟩; refine ⟨_, rfl, ?_⟩; have n0_ := Aside0.mk (below_step (bw HB.out) hb); clear HB; have HB := n0_; clear n0_; (try clear hb)) | ((with_reducible refine gate_callee (f := 39) rfl ?_); refine goesL_ (some 62) rfl rfl Try.func39 (by kernel_rfl) rfl #[.int .u32 t304] rfl ar ?_; (with_reducible refine (laws_exact.calls t304 t305 t306 _ A18.out).mono ?_); rintro e w27 ⟨rfl, hb⟩; refine ⟨_, rfl, ?_⟩; have n0_ := Aside0.mk (below_step (bw HB.out) hb); clear HB; have HB := n0_; clear n0_; (try clear hb)) | ((with_reducible refine gate_callee (f := 25) rfl ?_); refine goesL_ (some 68) rfl rfl Try.func25 (by kernel_rfl) rfl #[.int .i64 t297, .int .i64 1, .int .u32 t299] rfl ar ?_; (with_reducible refine (impl_FRound.calls kj8 t297 1 t299 t307 _ A19.out).mono ?_); rintro e w28 ⟨rfl, hb⟩; refine ⟨_, rfl, ?_⟩; have n0_ := Aside0.mk (below_step (bw HB.out) hb); clear HB; have HB := n0_; clear n0_; (try clear hb)) | ((with_reducible refine gate_callee (f := 39) rfl ?_); refine goesL_ (some 69) rfl rfl Try.func39 (by kernel_rfl) rfl #[.int .u32 t307] rfl ar ?_; (with_reducible refine (laws_exact.calls t307 t308 t309 _ A20.out).mono ?_); rintro e w29 ⟨rfl, hb⟩; refine ⟨_, rfl, ?_⟩; have n0_ := Aside0.mk (below_step (bw HB.out) hb); clear HB; have HB := n0_; clear n0_; (try clear hb)) | ((with_reducible refine gate_callee (f := 25) rfl ?_); refine goesL_ (some 75) rfl rfl Try.func25 (by kernel_rfl) rfl #[.int .i64 t297, .int .i64 3, .int .u32 t299] rfl ar ?_; (with_reducible refine (impl_FRound.calls kj8 t297 3 t299 t310 _ A21.out).mono ?_); rintro e w30 ⟨rfl, hb⟩; refine ⟨_, rfl, ?_⟩; have n0_ := Aside0.mk (below_step (bw HB.out) hb); clear HB; have HB := n0_; clear n0_; (try clear hb)) | ((with_reducible refine gate_callee (f := 39) rfl ?_); refine goesL_ (some 76) rfl rfl Try.func39 (by kernel_rfl) rfl #[.int .u32 t310] rfl ar ?_; (with_reducible refine (laws_exact.calls t310 t311 t312 _ A22.out).mono ?_); rintro e w31 ⟨rfl, hb⟩; refine ⟨_, rfl, ?_⟩; have n0_ := Aside0.mk (below_step (bw HB.out) hb); clear HB; have HB := n0_; clear n0_; (try clear hb)) | ((with_reducible refine gate_callee (f := 25) rfl ?_); refine goesL_ (some 82) rfl rfl Try.func25 (by kernel_rfl) rfl #[.int .i64 t297, .int .i64 4, .int .u32 t299] rfl ar ?_; (with_reducible refine (impl_FRound.calls kj8 t297 4 t299 t313 _ A23.out).mono ?_); rintro e w32 ⟨rfl, hb⟩; refine ⟨_, rfl, ?_⟩; have n0_ := Aside0.mk (below_step (bw HB.out) hb); clear HB; have HB := n0_; clear n0_; (try clear hb)) | ((with_reducible refine gate_callee (f := 39) rfl ?_); refine goesL_ (some 83) rfl rfl Try.func39 (by kernel_rfl) rfl #[.int .u32 t313] rfl ar ?_; (with_reducible refine (laws_exact.calls t313 t314 t315 _ A24.out).mono ?_); rintro e w33 ⟨rfl, hb⟩; refine ⟨_, rfl, ?_⟩; have n0_ := Aside0.mk (below_step (bw HB.out) hb); clear HB; have HB := n0_; clear n0_; (try clear hb)))
       (try simp only [Act.put, List.setIfInBounds_toArray, List.set_cons_zero, List.set_cons_succ])
       go_cut [125] (fun v125 wc => ∃ (kq : Nat) (x125_24 : Bool), v125 = .bool x125_24 ∧ Aside0 (laws_FnWhole.j1 kq l1 t302 t305 t308 t311 t314 x125_24 = some r) ∧ Aside0 (kq ≤ kj8) ∧ Aside0 (Below w.heap.size w wc))
       case first =>
        have H := HC25.out
        clear HC25
        by_cases c34 : t306 = true
        ·
         subst c34
         have H1 : (if t309 = true then (if t312 = true then (if t315 = true then (if t305 > t302 then (laws_FnWhole.j1 kj8 l1 t302 t305 t308 t311 t314 true) else (if t308 < t302 then (laws_FnWhole.j1 kj8 l1 t302 t305 t308 t311 t314 true) else (if (wrap64 (t308 - t305)) > 16777216 then (laws_FnWhole.j1 kj8 l1 t302 t305 t308 t311 t314 true) else (if (Int.tmod t305 16777216) = 0 then (laws_FnWhole.j1 kj8 l1 t302 t305 t308 t311 t314 ((Int.tmod t308 16777216) != 0)) else (laws_FnWhole.j1 kj8 l1 t302 t305 t308 t311 t314 true))))) else (laws_FnWhole.j1 kj8 l1 t302 t305 t308 t311 t314 true)) else (laws_FnWhole.j1 kj8 l1 t302 t305 t308 t311 t314 true)) else (laws_FnWhole.j1 kj8 l1 t302 t305 t308 t311 t314 true)) = some r := by rw [if_pos rfl] at H; exact H
         clear H
         have H := H1
         clear H1
         by_cases c35 : t309 = true
         ·
          subst c35
          have H1 : (if t312 = true then (if t315 = true then (if t305 > t302 then (laws_FnWhole.j1 kj8 l1 t302 t305 t308 t311 t314 true) else (if t308 < t302 then (laws_FnWhole.j1 kj8 l1 t302 t305 t308 t311 t314 true) else (if (wrap64 (t308 - t305)) > 16777216 then (laws_FnWhole.j1 kj8 l1 t302 t305 t308 t311 t314 true) else (if (Int.tmod t305 16777216) = 0 then (laws_FnWhole.j1 kj8 l1 t302 t305 t308 t311 t314 ((Int.tmod t308 16777216) != 0)) else (laws_FnWhole.j1 kj8 l1 t302 t305 t308 t311 t314 true))))) else (laws_FnWhole.j1 kj8 l1 t302 t305 t308 t311 t314 true)) else (laws_FnWhole.j1 kj8 l1 t302 t305 t308 t311 t314 true)) = some r := by rw [if_pos rfl] at H; exact H
          clear H
          have H := H1
          clear H1
          by_cases c36 : t312 = true
          ·
           subst c36
           have H1 : (if t315 = true then (if t305 > t302 then (laws_FnWhole.j1 kj8 l1 t302 t305 t308 t311 t314 true) else (if t308 < t302 then (laws_FnWhole.j1 kj8 l1 t302 t305 t308 t311 t314 true) else (if (wrap64 (t308 - t305)) > 16777216 then (laws_FnWhole.j1 kj8 l1 t302 t305 t308 t311 t314 true) else (if (Int.tmod t305 16777216) = 0 then (laws_FnWhole.j1 kj8 l1 t302 t305 t308 t311 t314 ((Int.tmod t308 16777216) != 0)) else (laws_FnWhole.j1 kj8 l1 t302 t305 t308 t311 t314 true))))) else (laws_FnWhole.j1 kj8 l1 t302 t305 t308 t311 t314 true)) = some r := by rw [if_pos rfl] at H; exact H
           clear H
           have H := H1
           clear H1
           by_cases c37 : t315 = true
           ·
            subst c37
            have H1 : (if t305 > t302 then (laws_FnWhole.j1 kj8 l1 t302 t305 t308 t311 t314 true) else (if t308 < t302 then (laws_FnWhole.j1 kj8 l1 t302 t305 t308 t311 t314 true) else (if (wrap64 (t308 - t305)) > 16777216 then (laws_FnWhole.j1 kj8 l1 t302 t305 t308 t311 t314 true) else (if (Int.tmod t305 16777216) = 0 then (laws_FnWhole.j1 kj8 l1 t302 t305 t308 t311 t314 ((Int.tmod t308 16777216) != 0)) else (laws_FnWhole.j1 kj8 l1 t302 t305 t308 t311 t314 true))))) = some r := by rw [if_pos rfl] at H; exact H
            clear H
            have H := H1
            clear H1
            by_cases c38 : t305 > t302
            ·
             rw [if_pos c38] at H
             have c38b0 : decide (t302 < t305) = true := decide_eq_true c38
             clear c38
             (first | rw [c38b0] | (simp only [i64_w, i32_w]; rw [c38b0]) | skip)
             have H' := Aside0.mk H
             clear H
             go_wp2
             go_meet
             case rel => exact ⟨_, (true), (by first | rfl | (simp; done) | (simp [*]; done)), H', ⟨by have := HJ8.out; first | omega | exact Nat.le_refl _⟩, ⟨bw HB.out⟩⟩
            ·
             rw [if_neg c38] at H
             have c38b0 : decide (t302 < t305) = false := decide_eq_false c38
             clear c38
             (first | rw [c38b0] | (simp only [i64_w, i32_w]; rw [c38b0]) | skip)
             by_cases c39 : t308 < t302
             ·
              rw [if_pos c39] at H
              have c39b0 : decide (t308 < t302) = true := decide_eq_true c39
              clear c39
              have H' := Aside0.mk H
              clear H
              go_wp2
              go_meet
              case rel => exact ⟨_, (true), (by first | rfl | (simp; done) | (simp [*]; done)), H', ⟨by have := HJ8.out; first | omega | exact Nat.le_refl _⟩, ⟨bw HB.out⟩⟩
             ·
              rw [if_neg c39] at H
              have c39b0 : decide (t308 < t302) = false := decide_eq_false c39
              clear c39
              by_cases c40 : (wrap64 (t308 - t305)) > 16777216
              ·
               rw [if_pos c40] at H
               have c40b0 : decide (16777216 < (wrap64 (t308 - t305))) = true := decide_eq_true c40
               clear c40
               have H' := Aside0.mk H
               clear H
               go_wp2
               go_meet
               case rel => exact ⟨_, (true), (by first | rfl | (simp; done) | (simp [*]; done)), H', ⟨by have := HJ8.out; first | omega | exact Nat.le_refl _⟩, ⟨bw HB.out⟩⟩
              ·
               rw [if_neg c40] at H
               have c40b0 : decide (16777216 < (wrap64 (t308 - t305))) = false := decide_eq_false c40
               clear c40
               by_cases c41 : (Int.tmod t305 16777216) = 0
               ·
                rw [if_pos c41] at H
                have c41b0 : ((Int.tmod t305 16777216) == 0) = true := beq_iff_eq.mpr c41
                have c41b1 : ((Int.tmod t305 16777216) != 0) = false := bne_eq_false_iff_eq.mpr c41
                clear c41
                have H' := Aside0.mk H
                clear H
                go_wp2
                go_meet
                case rel => exact ⟨_, (((Int.tmod t308 16777216) != 0)), (by first | rfl | (simp; done) | (simp [*]; done)), H', ⟨by have := HJ8.out; first | omega | exact Nat.le_refl _⟩, ⟨bw HB.out⟩⟩
               ·
                rw [if_neg c41] at H
                have c41b0 : ((Int.tmod t305 16777216) == 0) = false := beq_eq_false_iff_ne.mpr c41
                have c41b1 : ((Int.tmod t305 16777216) != 0) = true := bne_iff_ne.mpr c41
                have H' := Aside0.mk H
                clear H
                go_wp2
                go_meet
                case rel => exact ⟨_, (true), (by first | rfl | (simp; done) | (simp [*]; done)), H', ⟨by have := HJ8.out; first | omega | exact Nat.le_refl _⟩, ⟨bw HB.out⟩⟩
           ·
            replace c37 := Bool.eq_false_iff.mpr c37
            subst c37
            have H1 : (laws_FnWhole.j1 kj8 l1 t302 t305 t308 t311 t314 true) = some r := by rw [if_neg (show ¬ (false = true) by decide)] at H; exact H
            clear H
            have H := H1
            clear H1
            have H' := Aside0.mk H
            clear H
            go_wp2
            go_meet
            case rel => exact ⟨_, (true), (by first | rfl | (simp; done) | (simp [*]; done)), H', ⟨by have := HJ8.out; first | omega | exact Nat.le_refl _⟩, ⟨bw HB.out⟩⟩
          ·
           replace c36 := Bool.eq_false_iff.mpr c36
           subst c36
           have H1 : (laws_FnWhole.j1 kj8 l1 t302 t305 t308 t311 t314 true) = some r := by rw [if_neg (show ¬ (false = true) by decide)] at H; exact H
           clear H
           have H := H1
           clear H1
           have H' := Aside0.mk H
           clear H
           go_wp2
           go_meet
           case rel => exact ⟨_, (true), (by first | rfl | (simp; done) | (simp [*]; done)), H', ⟨by have := HJ8.out; first | omega | exact Nat.le_refl _⟩, ⟨bw HB.out⟩⟩
         ·
          replace c35 := Bool.eq_false_iff.mpr c35
          subst c35
          have H1 : (laws_FnWhole.j1 kj8 l1 t302 t305 t308 t311 t314 true) = some r := by rw [if_neg (show ¬ (false = true) by decide)] at H; exact H
          clear H
          have H := H1
          clear H1
          have H' := Aside0.mk H
          clear H
          go_wp2
          go_meet
          case rel => exact ⟨_, (true), (by first | rfl | (simp; done) | (simp [*]; done)), H', ⟨by have := HJ8.out; first | omega | exact Nat.le_refl _⟩, ⟨bw HB.out⟩⟩
        ·
         replace c34 := Bool.eq_false_iff.mpr c34
         subst c34
         have H1 : (laws_FnWhole.j1 kj8 l1 t302 t305 t308 t311 t314 true) = some r := by rw [if_neg (show ¬ (false = true) by decide)] at H; exact H
         clear H
         have H := H1
         clear H1
         have H' := Aside0.mk H
         clear H
         go_wp2
         go_meet
         case rel => exact ⟨_, (true), (by first | rfl | (simp; done) | (simp [*]; done)), H', ⟨by have := HJ8.out; first | omega | exact Nat.le_refl _⟩, ⟨bw HB.out⟩⟩
       case rest =>
        clear HC25
        try clear c1
        try clear c2
        try clear p2
        try clear c3
        try clear c3b0
        try clear c4
        try clear p6
        try clear c7
        try clear c7b0
        try clear c7b1
        try clear c14
        try clear c15
        try clear c16
        try clear c24
        try clear c25
        try clear c34
        try clear c35
        try clear c36
        try clear c37
        try clear c38
        try clear c38b0
        try clear c39
        try clear c39b0
        try clear c40
        try clear c40b0
        try clear c41
        try clear c41b0
        try clear c41b1
        try clear p2
        try clear p6
        obtain ⟨kq, x125_24, rfl, HA, HJ24, HB⟩ := hcut
        cases kq with
        | zero => exact absurd HA.out (by simp [laws_FnWhole.j1])
        | succ kj24 =>
         have H := HA.out
         clear HA
         simp only [laws_FnWhole.j1] at H
         by_cases c42 : x125_24 = true
         ·
          subst c42
          have H1 : (some false) = some r := by rw [if_pos rfl] at H; exact H
          clear H
          have H := H1
          clear H1
          obtain rfl := Option.some.inj H
          exact absurd HT.out (by decide)
         ·
          replace c42 := Bool.eq_false_iff.mpr c42
          subst c42
          have H1 : ((laws_size.f t311).bind fun t316 => ((laws_size.f t302).bind fun t317 => (if t316 > t317 then (some false) else (if t311 = t305 then (if t314 = t305 then ((laws_size.f (wrap64 (t314 - t302))).bind fun t318 => (if (wrap64 (2 * t318)) > 16777216 then (some false) else (laws_FnWhole.j2 kj24 l1))) else (if t314 = t308 then ((laws_size.f (wrap64 (t314 - t302))).bind fun t319 => (if (wrap64 (2 * t319)) > 16777216 then (some false) else (laws_FnWhole.j2 kj24 l1))) else (some false))) else (if t311 = t308 then (if t314 = t305 then ((laws_size.f (wrap64 (t314 - t302))).bind fun t320 => (if (wrap64 (2 * t320)) > 16777216 then (some false) else (laws_FnWhole.j2 kj24 l1))) else (if t314 = t308 then ((laws_size.f (wrap64 (t314 - t302))).bind fun t321 => (if (wrap64 (2 * t321)) > 16777216 then (some false) else (laws_FnWhole.j2 kj24 l1))) else (some false))) else (some false)))))) = some r := by rw [if_neg (show ¬ (false = true) by decide)] at H; exact H
          clear H
          have H := H1
          clear H1
          replace H := Option.bind_eq_some_iff.mp H
          obtain ⟨t316, A430, H⟩ := H
          replace H : ((laws_size.f t302).bind fun t317 => (if t316 > t317 then (some false) else (if t311 = t305 then (if t314 = t305 then ((laws_size.f (wrap64 (t314 - t302))).bind fun t318 => (if (wrap64 (2 * t318)) > 16777216 then (some false) else (laws_FnWhole.j2 kj24 l1))) else (if t314 = t308 then ((laws_size.f (wrap64 (t314 - t302))).bind fun t319 => (if (wrap64 (2 * t319)) > 16777216 then (some false) else (laws_FnWhole.j2 kj24 l1))) else (some false))) else (if t311 = t308 then (if t314 = t305 then ((laws_size.f (wrap64 (t314 - t302))).bind fun t320 => (if (wrap64 (2 * t320)) > 16777216 then (some false) else (laws_FnWhole.j2 kj24 l1))) else (if t314 = t308 then ((laws_size.f (wrap64 (t314 - t302))).bind fun t321 => (if (wrap64 (2 * t321)) > 16777216 then (some false) else (laws_FnWhole.j2 kj24 l1))) else (some false))) else (some false))))) = some r := H
          have A43 := Aside0.mk A430
          clear A430
          replace H := Option.bind_eq_some_iff.mp H
          obtain ⟨t317, A440, H⟩ := H
          replace H : (if t316 > t317 then (some false) else (if t311 = t305 then (if t314 = t305 then ((laws_size.f (wrap64 (t314 - t302))).bind fun t318 => (if (wrap64 (2 * t318)) > 16777216 then (some false) else (laws_FnWhole.j2 kj24 l1))) else (if t314 = t308 then ((laws_size.f (wrap64 (t314 - t302))).bind fun t319 => (if (wrap64 (2 * t319)) > 16777216 then (some false) else (laws_FnWhole.j2 kj24 l1))) else (some false))) else (if t311 = t308 then (if t314 = t305 then ((laws_size.f (wrap64 (t314 - t302))).bind fun t320 => (if (wrap64 (2 * t320)) > 16777216 then (some false) else (laws_FnWhole.j2 kj24 l1))) else (if t314 = t308 then ((laws_size.f (wrap64 (t314 - t302))).bind fun t321 => (if (wrap64 (2 * t321)) > 16777216 then (some false) else (laws_FnWhole.j2 kj24 l1))) else (some false))) else (some false)))) = some r := H
          have A44 := Aside0.mk A440
          clear A440
          by_cases c45 : t316 > t317
          ·
           rw [if_pos c45] at H
           have c45b0 : decide (t317 < t316) = true := decide_eq_true c45
           clear c45
           obtain rfl := Option.some.inj H
           exact absurd HT.out (by decide)
          ·
           rw [if_neg c45] at H
           have c45b0 : decide (t317 < t316) = false := decide_eq_false c45
           clear c45
           by_cases c46 : t311 = t305
           ·
            rw [if_pos c46] at H
            have c46b0 : (t311 == t305) = true := beq_iff_eq.mpr c46
            have c46b1 : (t311 != t305) = false := bne_eq_false_iff_eq.mpr c46
            clear c46
            by_cases c47 : t314 = t305
            ·
             rw [if_pos c47] at H
             have c47b0 : (t314 == t305) = true := beq_iff_eq.mpr c47
             have c47b1 : (t314 != t305) = false := bne_eq_false_iff_eq.mpr c47
             clear c47
             replace H := Option.bind_eq_some_iff.mp H
             obtain ⟨t318, A480, H⟩ := H
             replace H : (if (wrap64 (2 * t318)) > 16777216 then (some false) else (laws_FnWhole.j2 kj24 l1)) = some r := H
             have A48 := Aside0.mk A480
             clear A480
             by_cases c49 : (wrap64 (2 * t318)) > 16777216
             ·
              rw [if_pos c49] at H
              have c49b0 : decide (16777216 < (wrap64 (2 * t318))) = true := decide_eq_true c49
              clear c49
              obtain rfl := Option.some.inj H
              exact absurd HT.out (by decide)
             ·
              rw [if_neg c49] at H
              have c49b0 : decide (16777216 < (wrap64 (2 * t318))) = false := decide_eq_false c49
              clear c49
              have H' := Aside0.mk H
              clear H
              go_wp2_with (first | ((with_reducible refine gate_callee (f := 42) rfl ?_); refine goesL_ (some 127) rfl rfl Try.func42 (by kernel_rfl) rfl #[.int .i64 t311] rfl ar ?_; (with_reducible refine (laws_size.calls t311 t316 _ A43.out).mono ?_); rintro e w' ⟨rfl, ⟨nd, rfl⟩⟩; refine ⟨_, rfl, ?_⟩) | ((with_reducible refine gate_callee (f := 42) rfl ?_); refine goesL_ (some 129) rfl rfl Try.func42 (by kernel_rfl) rfl #[.int .i64 t302] rfl ar ?_; (with_reducible refine (laws_size.calls t302 t317 _ A44.out).mono ?_); rintro e w' ⟨rfl, ⟨nd, rfl⟩⟩; refine ⟨_, rfl, ?_⟩) | (go_at_call 42; (with_reducible refine (laws_size.calls (wrap64 (t314 - t302)) t318 _ A48.out).mono ?_); rintro e w' ⟨rfl, ⟨nd, rfl⟩⟩))
              go_meet
              case rel => exact ⟨_, H', ⟨by have := HJ8.out; have := HJ24.out; first | omega | exact Nat.le_refl _⟩, ⟨bw HB.out⟩⟩
            ·
             rw [if_neg c47] at H
             have c47b0 : (t314 == t305) = false := beq_eq_false_iff_ne.mpr c47
             have c47b1 : (t314 != t305) = true := bne_iff_ne.mpr c47
             by_cases c50 : t314 = t308
             ·
              rw [if_pos c50] at H
              have c50b0 : (t314 == t308) = true := beq_iff_eq.mpr c50
              have c50b1 : (t314 != t308) = false := bne_eq_false_iff_eq.mpr c50
              clear c50
              replace H := Option.bind_eq_some_iff.mp H
              obtain ⟨t319, A510, H⟩ := H
              replace H : (if (wrap64 (2 * t319)) > 16777216 then (some false) else (laws_FnWhole.j2 kj24 l1)) = some r := H
              have A51 := Aside0.mk A510
              clear A510
              by_cases c52 : (wrap64 (2 * t319)) > 16777216
              ·
               rw [if_pos c52] at H
               have c52b0 : decide (16777216 < (wrap64 (2 * t319))) = true := decide_eq_true c52
               clear c52
               obtain rfl := Option.some.inj H
               exact absurd HT.out (by decide)
              ·
               rw [if_neg c52] at H
               have c52b0 : decide (16777216 < (wrap64 (2 * t319))) = false := decide_eq_false c52
               clear c52
               have H' := Aside0.mk H
               clear H
               go_wp2_with (first | ((with_reducible refine gate_callee (f := 42) rfl ?_); refine goesL_ (some 127) rfl rfl Try.func42 (by kernel_rfl) rfl #[.int .i64 t311] rfl ar ?_; (with_reducible refine (laws_size.calls t311 t316 _ A43.out).mono ?_); rintro e w' ⟨rfl, ⟨nd, rfl⟩⟩; refine ⟨_, rfl, ?_⟩) | ((with_reducible refine gate_callee (f := 42) rfl ?_); refine goesL_ (some 129) rfl rfl Try.func42 (by kernel_rfl) rfl #[.int .i64 t302] rfl ar ?_; (with_reducible refine (laws_size.calls t302 t317 _ A44.out).mono ?_); rintro e w' ⟨rfl, ⟨nd, rfl⟩⟩; refine ⟨_, rfl, ?_⟩) | (go_at_call 42; (with_reducible refine (laws_size.calls (wrap64 (t314 - t302)) t319 _ A51.out).mono ?_); rintro e w' ⟨rfl, ⟨nd, rfl⟩⟩))
               go_meet
               case rel => exact ⟨_, H', ⟨by have := HJ8.out; have := HJ24.out; first | omega | exact Nat.le_refl _⟩, ⟨bw HB.out⟩⟩
             ·
              rw [if_neg c50] at H
              have c50b0 : (t314 == t308) = false := beq_eq_false_iff_ne.mpr c50
              have c50b1 : (t314 != t308) = true := bne_iff_ne.mpr c50
              obtain rfl := Option.some.inj H
              exact absurd HT.out (by decide)
           ·
            rw [if_neg c46] at H
            have c46b0 : (t311 == t305) = false := beq_eq_false_iff_ne.mpr c46
            have c46b1 : (t311 != t305) = true := bne_iff_ne.mpr c46
            by_cases c53 : t311 = t308
            ·
             rw [if_pos c53] at H
             have c53b0 : (t311 == t308) = true := beq_iff_eq.mpr c53
             have c53b1 : (t311 != t308) = false := bne_eq_false_iff_eq.mpr c53
             clear c53
             by_cases c54 : t314 = t305
             ·
              rw [if_pos c54] at H
              have c54b0 : (t314 == t305) = true := beq_iff_eq.mpr c54
              have c54b1 : (t314 != t305) = false := bne_eq_false_iff_eq.mpr c54
              clear c54
              replace H := Option.bind_eq_some_iff.mp H
              obtain ⟨t320, A550, H⟩ := H
              replace H : (if (wrap64 (2 * t320)) > 16777216 then (some false) else (laws_FnWhole.j2 kj24 l1)) = some r := H
              have A55 := Aside0.mk A550
              clear A550
              by_cases c56 : (wrap64 (2 * t320)) > 16777216
              ·
               rw [if_pos c56] at H
               have c56b0 : decide (16777216 < (wrap64 (2 * t320))) = true := decide_eq_true c56
               clear c56
               obtain rfl := Option.some.inj H
               exact absurd HT.out (by decide)
              ·
               rw [if_neg c56] at H
               have c56b0 : decide (16777216 < (wrap64 (2 * t320))) = false := decide_eq_false c56
               clear c56
               have H' := Aside0.mk H
               clear H
               go_wp2_with (first | ((with_reducible refine gate_callee (f := 42) rfl ?_); refine goesL_ (some 127) rfl rfl Try.func42 (by kernel_rfl) rfl #[.int .i64 t311] rfl ar ?_; (with_reducible refine (laws_size.calls t311 t316 _ A43.out).mono ?_); rintro e w' ⟨rfl, ⟨nd, rfl⟩⟩; refine ⟨_, rfl, ?_⟩) | ((with_reducible refine gate_callee (f := 42) rfl ?_); refine goesL_ (some 129) rfl rfl Try.func42 (by kernel_rfl) rfl #[.int .i64 t302] rfl ar ?_; (with_reducible refine (laws_size.calls t302 t317 _ A44.out).mono ?_); rintro e w' ⟨rfl, ⟨nd, rfl⟩⟩; refine ⟨_, rfl, ?_⟩) | (go_at_call 42; (with_reducible refine (laws_size.calls (wrap64 (t314 - t302)) t320 _ A55.out).mono ?_); rintro e w' ⟨rfl, ⟨nd, rfl⟩⟩))
               go_meet
               case rel => exact ⟨_, H', ⟨by have := HJ8.out; have := HJ24.out; first | omega | exact Nat.le_refl _⟩, ⟨bw HB.out⟩⟩
             ·
              rw [if_neg c54] at H
              have c54b0 : (t314 == t305) = false := beq_eq_false_iff_ne.mpr c54
              have c54b1 : (t314 != t305) = true := bne_iff_ne.mpr c54
              by_cases c57 : t314 = t308
              ·
               rw [if_pos c57] at H
               have c57b0 : (t314 == t308) = true := beq_iff_eq.mpr c57
               have c57b1 : (t314 != t308) = false := bne_eq_false_iff_eq.mpr c57
               clear c57
               replace H := Option.bind_eq_some_iff.mp H
               obtain ⟨t321, A580, H⟩ := H
               replace H : (if (wrap64 (2 * t321)) > 16777216 then (some false) else (laws_FnWhole.j2 kj24 l1)) = some r := H
               have A58 := Aside0.mk A580
               clear A580
               by_cases c59 : (wrap64 (2 * t321)) > 16777216
               ·
                rw [if_pos c59] at H
                have c59b0 : decide (16777216 < (wrap64 (2 * t321))) = true := decide_eq_true c59
                clear c59
                obtain rfl := Option.some.inj H
                exact absurd HT.out (by decide)
               ·
                rw [if_neg c59] at H
                have c59b0 : decide (16777216 < (wrap64 (2 * t321))) = false := decide_eq_false c59
                clear c59
                have H' := Aside0.mk H
                clear H
                go_wp2_with (first | ((with_reducible refine gate_callee (f := 42) rfl ?_); refine goesL_ (some 127) rfl rfl Try.func42 (by kernel_rfl) rfl #[.int .i64 t311] rfl ar ?_; (with_reducible refine (laws_size.calls t311 t316 _ A43.out).mono ?_); rintro e w' ⟨rfl, ⟨nd, rfl⟩⟩; refine ⟨_, rfl, ?_⟩) | ((with_reducible refine gate_callee (f := 42) rfl ?_); refine goesL_ (some 129) rfl rfl Try.func42 (by kernel_rfl) rfl #[.int .i64 t302] rfl ar ?_; (with_reducible refine (laws_size.calls t302 t317 _ A44.out).mono ?_); rintro e w' ⟨rfl, ⟨nd, rfl⟩⟩; refine ⟨_, rfl, ?_⟩) | (go_at_call 42; (with_reducible refine (laws_size.calls (wrap64 (t314 - t302)) t321 _ A58.out).mono ?_); rintro e w' ⟨rfl, ⟨nd, rfl⟩⟩))
                go_meet
                case rel => exact ⟨_, H', ⟨by have := HJ8.out; have := HJ24.out; first | omega | exact Nat.le_refl _⟩, ⟨bw HB.out⟩⟩
              ·
               rw [if_neg c57] at H
               have c57b0 : (t314 == t308) = false := beq_eq_false_iff_ne.mpr c57
               have c57b1 : (t314 != t308) = true := bne_iff_ne.mpr c57
               obtain rfl := Option.some.inj H
               exact absurd HT.out (by decide)
            ·
             rw [if_neg c53] at H
             have c53b0 : (t311 == t308) = false := beq_eq_false_iff_ne.mpr c53
             have c53b1 : (t311 != t308) = true := bne_iff_ne.mpr c53
             obtain rfl := Option.some.inj H
             exact absurd HT.out (by decide)
      ·
       replace c16 := Bool.eq_false_iff.mpr c16
       subst c16
       have H1 : (laws_FnWhole.j2 kj8 l1) = some r := by rw [if_neg (show ¬ (false = true) by decide)] at H; exact H
       clear H
       have H := H1
       clear H1
       have H' := Aside0.mk H
       clear H
       go_wp2
       go_meet
       case rel => exact ⟨_, H', ⟨by have := HJ8.out; first | omega | exact Nat.le_refl _⟩, ⟨bw HB.out⟩⟩
     case rest =>
      clear HC15
      try clear c1
      try clear c2
      try clear p2
      try clear c3
      try clear c3b0
      try clear c4
      try clear c5
      try clear p6
      try clear c7
      try clear c7b0
      try clear c7b1
      try clear c14
      try clear c15
      try clear c16
      try clear c24
      try clear c25
      try clear c34
      try clear c35
      try clear c36
      try clear c37
      try clear c38
      try clear c38b0
      try clear c39
      try clear c39b0
      try clear c40
      try clear c40b0
      try clear c41
      try clear c41b0
      try clear c41b1
      try clear c42
      try clear c45
      try clear c45b0
      try clear c46
      try clear c46b0
      try clear c46b1
      try clear c47
      try clear c47b0
      try clear c47b1
      try clear c49
      try clear c49b0
      try clear c50
      try clear c50b0
      try clear c50b1
      try clear c52
      try clear c52b0
      try clear c53
      try clear c53b0
      try clear c53b1
      try clear c54
      try clear c54b0
      try clear c54b1
      try clear c56
      try clear c56b0
      try clear c57
      try clear c57b0
      try clear c57b1
      try clear c59
      try clear c59b0
      try clear p2
      try clear p6
      obtain ⟨kq, HA, HJ14, HB⟩ := hcut
      cases kq with
      | zero => exact absurd HA.out (by simp [laws_FnWhole.j2])
      | succ kj14 =>
       have H := HA.out
       clear HA
       simp only [laws_FnWhole.j2] at H
       replace H := Option.bind_eq_some_iff.mp H
       obtain ⟨t322, A600, H⟩ := H
       replace H : ((some (([16, 32] : List Int) : List Int)).bind fun y323 => (laws_FnWhole.l0 kj14 (wrap64 ((Int.tmod t322 4097) - 2048)) y323 (y323.length : Int) 0)) = some r := H
       have A60 := Aside0.mk A600
       clear A600
       obtain ⟨y323, hy323⟩ : ∃ y_ : List Int, y_ = (([16, 32] : List Int)) := ⟨_, rfl⟩
       replace H : (laws_FnWhole.l0 kj14 (wrap64 ((Int.tmod t322 4097) - 2048)) y323 (y323.length : Int) 0) = some r := by first | (rw [hy323]; with_reducible exact H) | (have H2_ := (Option.bind_some _ _).symm.trans H; rw [hy323]; with_reducible exact H2_) | (have H2_ := (Option.bind_some _ _).symm.trans H; with_reducible exact H2_) | with_reducible exact H | (rw [hy323]; exact H) | exact H
       have Ny323 := Aside0.mk hy323
       clear hy323
       have H' := Aside0.mk H
       clear H
       go_wp2_with (first | ((with_reducible refine gate_callee (f := 43) rfl ?_); refine goesL_ (some 160) rfl rfl Try.func43 (by kernel_rfl) rfl #[.slice A1 l1.length c1] rfl ar ?_; (with_reducible refine (laws_numberOf.calls kj14 _ _ l1 t322 _ ?side1 ?side2 A60.out).mono ?_); (case side1 => repeat (first | exact (Kd.C_below HR1.out HB.out) | (with_reducible refine Kd.C_alloc ?_ _) | (with_reducible refine Kd.C_drewN ?_ _) | (with_reducible refine Kd.C_drew ?_))); (case side2 => exact HC1.out); rintro e w' ⟨rfl, ⟨nd, rfl⟩⟩; refine ⟨_, rfl, ?_⟩) | ((with_reducible refine gate_dst (N := 163) rfl ?_); refine Kd.R_lit (Kd.int .i64) _ 3 ?hg (N := 163) ?hd (xs := ([16, 32] : List Int)) (inner := [.int .i64 16, .int .i64 32]) (ok := fun _ => True) (okp := fun _ => True) ?hr ?hp (fun _ hk => hk) trivial (Below.refl _ _) (Nat.le_refl _) (by simp) ?_; (case hd => rfl); (case hg => rfl); (case hr => first | (go_simp; done) | (go_simp; rfl)); (case hp => exact (Reps.one (show Kd.M (Kd.int .i64) _ _ _ 16 [.int .i64 16] from rfl) (Reps.one (show Kd.M (Kd.int .i64) _ _ _ 32 [.int .i64 32] from rfl) (Reps.none _ _)))); intro v324 w61 ho62 hb hg_ hnew_; clear hg_ hnew_; (first | rw [← Ny323.out] at ho62 | (simp only [Int.reduceToNat] at ho62; rw [← Ny323.out] at ho62)); have n0_ := Aside0.mk (Kd.R_lower ho62 (below_size (bw HB.out))); have n1_ := Aside0.mk (below_step (bw HB.out) hb); clear HB; have HO325 := n0_; have HB := n1_; clear n0_ n1_; clear hb ho62; obtain ⟨Ao63, co63, eo63⟩ := Kd.R_slice HO325.out; subst eo63))
       (try simp only [Act.put, List.setIfInBounds_toArray, List.set_cons_zero, List.set_cons_succ])
       go_loopg [165] kj14 (fun kq v165 w' => ∃ (x165_3 : Int), v165 = .int .i64 x165_3 ∧ Aside0 (laws_FnWhole.l0 kq (wrap64 ((Int.tmod t322 4097) - 2048)) y323 (y323.length : Int) x165_3 = some r) ∧ Aside0 (kq ≤ kj14) ∧ Aside0 (Kd.R (Kd.int .i64) 3 w' w.heap.size (fun _ => True) (.slice Ao63 y323.length co63) y323) ∧ Aside0 (Below w.heap.size w w'))
       case atStart => exact ⟨(0), (by first | rfl | (simp; done) | (simp [*]; done)), H', ⟨Nat.le_refl _⟩, ⟨by (with_reducible repeat (first | apply Kd.R_alloc | apply Kd.R_drewN | apply Kd.R_drew)); exact HO325.out⟩, ⟨bw HB.out⟩⟩
       case round =>
        clear H'
        try clear c1
        try clear c2
        try clear p2
        try clear c3
        try clear c3b0
        try clear c4
        try clear c5
        try clear p6
        try clear c7
        try clear c7b0
        try clear c7b1
        try clear c14
        try clear c15
        try clear c16
        try clear c24
        try clear c25
        try clear c34
        try clear c35
        try clear c36
        try clear c37
        try clear c38
        try clear c38b0
        try clear c39
        try clear c39b0
        try clear c40
        try clear c40b0
        try clear c41
        try clear c41b0
        try clear c41b1
        try clear c42
        try clear c43
        try clear c45
        try clear c45b0
        try clear c46
        try clear c46b0
        try clear c46b1
        try clear c47
        try clear c47b0
        try clear c47b1
        try clear c49
        try clear c49b0
        try clear c50
        try clear c50b0
        try clear c50b1
        try clear c52
        try clear c52b0
        try clear c53
        try clear c53b0
        try clear c53b1
        try clear c54
        try clear c54b0
        try clear c54b1
        try clear c56
        try clear c56b0
        try clear c57
        try clear c57b0
        try clear c57b1
        try clear c59
        try clear c59b0
        try clear p2
        try clear p6
        obtain ⟨x165_3, rfl, HA, HK3, HO_163, HB⟩ := hrel
        cases gk with
        | zero => exact absurd HA.out (by simp [laws_FnWhole.l0])
        | succ k3 =>
         have H := HA.out
         clear HA
         simp only [laws_FnWhole.l0] at H
         by_cases c64 : x165_3 < (y323.length : Int)
         ·
          rw [if_pos c64] at H
          have c64b0 : decide (x165_3 < (y323.length : Int)) = true := decide_eq_true c64
          clear c64
          by_cases c65 : 0 ≤ x165_3
          ·
           rw [if_pos c65] at H
           have c65b0 : decide (0 ≤ x165_3) = true := decide_eq_true c65
           clear c65
           by_cases c66 : x165_3 < (y323.length : Int)
           ·
            rw [if_pos c66] at H
            have c66b0 : decide (x165_3 < (y323.length : Int)) = true := decide_eq_true c66
            clear c66
            replace H := Option.bind_eq_some_iff.mp H
            obtain ⟨t327, A670, H⟩ := H
            replace H : ((impl_FToInt.f k3 (rd y323 x165_3) t327 32 true).bind fun bt328 => ((spec_SignedOf.f 32 bt328.1).bind fun bt330 => (if bt328.2 = 0 then (if bt330.1 = (wrap64 ((Int.tmod t322 4097) - 2048)) then (laws_FnWhole.l0 k3 (wrap64 ((Int.tmod t322 4097) - 2048)) y323 (y323.length : Int) (wrap64 (x165_3 + 1))) else (some false)) else (some false)))) = some r := H
            have A67 := Aside0.mk A670
            clear A670
            replace H := Option.bind_eq_some_iff.mp H
            obtain ⟨⟨t328, t329⟩, A680, H⟩ := H
            replace H : ((spec_SignedOf.f 32 t328).bind fun bt330 => (if t329 = 0 then (if bt330.1 = (wrap64 ((Int.tmod t322 4097) - 2048)) then (laws_FnWhole.l0 k3 (wrap64 ((Int.tmod t322 4097) - 2048)) y323 (y323.length : Int) (wrap64 (x165_3 + 1))) else (some false)) else (some false))) = some r := H
            have A68 := Aside0.mk A680
            clear A680
            replace H := Option.bind_eq_some_iff.mp H
            obtain ⟨⟨t330, t331⟩, A690, H⟩ := H
            replace H : (if t329 = 0 then (if t330 = (wrap64 ((Int.tmod t322 4097) - 2048)) then (laws_FnWhole.l0 k3 (wrap64 ((Int.tmod t322 4097) - 2048)) y323 (y323.length : Int) (wrap64 (x165_3 + 1))) else (some false)) else (some false)) = some r := H
            have A69 := Aside0.mk A690
            clear A690
            by_cases c70 : t329 = 0
            ·
             rw [if_pos c70] at H
             have c70b0 : (t329 == 0) = true := beq_iff_eq.mpr c70
             have c70b1 : (t329 != 0) = false := bne_eq_false_iff_eq.mpr c70
             clear c70
             by_cases c71 : t330 = (wrap64 ((Int.tmod t322 4097) - 2048))
             ·
              rw [if_pos c71] at H
              have c71b0 : (t330 == (wrap64 ((Int.tmod t322 4097) - 2048))) = true := beq_iff_eq.mpr c71
              have c71b1 : (t330 != (wrap64 ((Int.tmod t322 4097) - 2048))) = false := bne_eq_false_iff_eq.mpr c71
              clear c71
              have H' := Aside0.mk H
              clear H
              have p326 : 0 ≤ (x165_3 : Int) := of_decide_eq_true (by first | (with_reducible assumption) | assumption)
              have q326 : x165_3 < (y323.length : Int) := of_decide_eq_true (by first | (with_reducible assumption) | assumption)
              obtain ⟨ad326, e326, hx326_0⟩ := Kd.at_int (Kd.R_reads' HO_163.out).2.2 x165_3 p326 q326
              cases e326
              replace p326 := eq_true p326
              replace q326 := eq_true q326
              go_wp2_with (first | ((with_reducible refine gate_callee (f := 44) rfl ?_); refine goesL_ (some 173) rfl rfl Try.func44 (by kernel_rfl) rfl #[.int .i64 (rd y323 x165_3), .int .i64 (wrap64 ((Int.tmod t322 4097) - 2048))] rfl ar ?_; (with_reducible refine (impl_FOfInt.calls k3 (rd y323 x165_3) (wrap64 ((Int.tmod t322 4097) - 2048)) t327 _ A67.out).mono ?_); rintro e w72 ⟨rfl, hb⟩; refine ⟨_, rfl, ?_⟩; have n0_ := Aside0.mk (Kd.R_below (by (with_reducible repeat (first | apply Kd.R_alloc | apply Kd.R_drewN | apply Kd.R_drew)); exact HO_163.out) hb); have n1_ := Aside0.mk (below_step (bw HB.out) hb); clear HO_163; clear HB; have HO_163 := n0_; have HB := n1_; clear n0_ n1_; (try clear hb)) | ((with_reducible refine gate_callee (f := 29) rfl ?_); refine goesL_ (some 174) rfl rfl Try.func29 (by kernel_rfl) rfl #[.int .i64 (rd y323 x165_3), .int .u32 t327, .int .i64 32, .bool true] rfl ar ?_; (with_reducible refine (impl_FToInt.calls k3 (rd y323 x165_3) t327 32 true t328 t329 _ A68.out).mono ?_); rintro e w73 ⟨rfl, hb⟩; refine ⟨_, rfl, ?_⟩; have n0_ := Aside0.mk (Kd.R_below (by (with_reducible repeat (first | apply Kd.R_alloc | apply Kd.R_drewN | apply Kd.R_drew)); exact HO_163.out) hb); have n1_ := Aside0.mk (below_step (bw HB.out) hb); clear HO_163; clear HB; have HO_163 := n0_; have HB := n1_; clear n0_ n1_; (try clear hb)) | ((with_reducible refine gate_callee (f := 45) rfl ?_); refine goesL_ (some 179) rfl rfl Try.func45 (by kernel_rfl) rfl #[.int .i64 32, .int .u64 t328] rfl ar ?_; (with_reducible refine (spec_SignedOf.calls 32 t328 t330 t331 _ A69.out).mono ?_); rintro e w' ⟨rfl, ⟨nd, rfl⟩⟩; refine ⟨_, rfl, ?_⟩))
              go_roundg k3
              case measure => have := HJ8.out; have := HJ14.out; have := HK3.out; omega
              case rel => exact ⟨(wrap64 (x165_3 + 1)), (by first | rfl | (simp; done) | (simp [*]; done)), H', ⟨by have := HJ8.out; have := HJ14.out; have := HK3.out; omega⟩, ⟨by (with_reducible repeat (first | apply Kd.R_alloc | apply Kd.R_drewN | apply Kd.R_drew)); exact HO_163.out⟩, ⟨bw HB.out⟩⟩
             ·
              rw [if_neg c71] at H
              have c71b0 : (t330 == (wrap64 ((Int.tmod t322 4097) - 2048))) = false := beq_eq_false_iff_ne.mpr c71
              have c71b1 : (t330 != (wrap64 ((Int.tmod t322 4097) - 2048))) = true := bne_iff_ne.mpr c71
              obtain rfl := Option.some.inj H
              exact absurd HT.out (by decide)
            ·
             rw [if_neg c70] at H
             have c70b0 : (t329 == 0) = false := beq_eq_false_iff_ne.mpr c70
             have c70b1 : (t329 != 0) = true := bne_iff_ne.mpr c70
             obtain rfl := Option.some.inj H
             exact absurd HT.out (by decide)
           ·
            rw [if_neg c66] at H
            exact absurd H (by simp)
          ·
           rw [if_neg c65] at H
           exact absurd H (by simp)
         ·
          rw [if_neg c64] at H
          have c64b0 : decide (x165_3 < (y323.length : Int)) = false := decide_eq_false c64
          clear c64
          obtain rfl := Option.some.inj H
          simp only [Option.some.injEq, Prod.mk.injEq] at H
          obtain ⟨rfl⟩ := H
          go_wp2
          go_ret
          exact ⟨by first | rfl | (simp [errW_none, errW_some] <;> rfl) | (simp [*, errW_none, errW_some] <;> rfl), bw HB.out⟩
  ·
   rw [if_neg c7] at H
   have c7b0 : (t300 == t301) = false := beq_eq_false_iff_ne.mpr c7
   have c7b1 : (t300 != t301) = true := bne_iff_ne.mpr c7
   obtain rfl := Option.some.inj H
   exact absurd HT.out (by decide)

/-- THE ONE PURE STATEMENT of laws_FnWhole: yours. -/
def laws_FnWhole.Pure : Prop := ∀ (l0 : List Int) (l1 : List Int), l0.length ≤ maxLen → l0.length * 1 ≤ 140737488351232 → (∀ x ∈ l0, (Lit.int .u8 x).wf = true) → l1.length ≤ maxLen → l1.length * 1 ≤ 140737488351232 → (∀ x ∈ l1, (Lit.int .u8 x).wf = true) → ∃ k, laws_FnWhole.f k l0 l1 = some true
theorem laws_FnWhole.walk (P : laws_FnWhole.Pure) (a0 : Option Addr) (len0 cap0 : Nat) (z0 : List Int) (a1 : Option Addr) (len1 cap1 : Nat) (z1 : List Int) (w : World) (w0 : (a0 = none ∧ len0 = 0 ∧ cap0 = 0 ∧ z0 = []) ∨ ∃ x, a0 = some x ∧ len0 ≤ cap0 ∧ cap0 ≤ maxLen ∧ z0.length = cap0 ∧ (∀ i, i < z0.length → w.cell? (x.add i) = some (.int .u8 (z0.getD i 0))) ∧ ∀ n ∈ z0, (Lit.int .u8 n).wf = true) (y0 : len0 * 1 ≤ 140737488351232) (w1 : (a1 = none ∧ len1 = 0 ∧ cap1 = 0 ∧ z1 = []) ∨ ∃ x, a1 = some x ∧ len1 ≤ cap1 ∧ cap1 ≤ maxLen ∧ z1.length = cap1 ∧ (∀ i, i < z1.length → w.cell? (x.add i) = some (.int .u8 (z1.getD i 0))) ∧ ∀ n ∈ z1, (Lit.int .u8 n).wf = true) (y1 : len1 * 1 ≤ 140737488351232) :
  Calls Try.prog 15 #[.slice a0 len0 cap0, .slice a1 len1 cap1] w fun e w' => e = .returned (.bool true) ∧ Below w.heap.size w w' := by
 obtain ⟨l0, rfl, hr0, hm0, hw0, hc0⟩ := ReadsInt.ofRowC w0
 obtain ⟨l1, rfl, hr1, hm1, hw1, hc1⟩ := ReadsInt.ofRowC w1
 obtain ⟨k, h⟩ := P l0 l1 hm0 y0 hw0 hm1 y1 hw1
 refine (laws_FnWhole.calls k _ _ l0 _ _ l1 true w (Kd.C_of_reads (d := (0 : Int)) (h1 := fun _ => rfl) hr0) hc0 (Kd.C_of_reads (d := (0 : Int)) (h1 := fun _ => rfl) hr1) hc1 rfl h).mono ?_
 rintro e w' ⟨rfl, hd⟩
 exact ⟨rfl, hd⟩

end Go.Proofs.Ytdeogandkgiggaa.Q

