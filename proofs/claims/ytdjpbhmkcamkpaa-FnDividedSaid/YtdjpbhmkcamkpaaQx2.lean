-- Written by a program of this session; it walks the functions that the law reaches.
import Derived.Test.YtdjpbhmkcamkpaaQx0
import Derived.Test.YtdjpbhmkcamkpaaQx1
namespace Go.Proofs.Ytdjpbhmkcamkpaa.Q
open Go.RowKit Go.Proofs.YtdjpbhmkcamkpaaW.PrintWords Go.Proofs.YtdjpbhmkcamkpaaW.PrintLast Go.Proofs.YtdjpbhmkcamkpaaW.PrintMore
attribute [local go_sem] max2_int min2_int max_two min_two max_three min_three max_four min_four   -- for this text's walks alone
set_option linter.unusedVariables false
set_option linter.unusedSimpArgs false

/-! ### spec_l1Cur_width: function 84 -/
def spec_l1Cur_width.f (s0_0 : List Int) (s0_1 : Int) (s0_2 : Int) : Option (Int × Int × Int) := (spec_l1Cur_one.f s0_0 s0_1 s0_2 40).bind fun bt142 => (if bt142.1 = true then ((spec_l1Cur_among.f s0_0 bt142.2.1 bt142.2.2 (([0, 16, 33] : List Int))).bind fun bt148 => (some (bt148.1, bt148.2.1, bt148.2.2))) else ((spec_l1Cur_pick.f s0_0 bt142.2.1 bt142.2.2 2).bind fun bt151 => (some (wrap64 (32 + (wrap64 (32 * bt151.1))), bt151.2.1, bt151.2.2))))
set_option maxHeartbeats 8000000 in
set_option maxRecDepth 100000 in
theorem spec_l1Cur_width.calls (g : Nat) (s0_0 : List Int) (s0_1 : Int) (s0_2 : Int) (r1 : Int) (r2 : Int) (r3 : Int) (w0 w : World) (hI : IsS101 w0 w g s0_0 s0_1 s0_2) (hB : Below w0.heap.size w0 w) (h : spec_l1Cur_width.f s0_0 s0_1 s0_2 = some (r1, r2, r3)) :
  Calls Try.prog 84 #[.pointer (some ⟨g, 0, none⟩)] w fun e w' => e = .returned (.int .i64 r1) ∧ IsS101 w0 w' g s0_0 r2 r3 ∧ Below w0.heap.size w0 w' ∧ KeepBut w w' g none := by
 have HI0 := Aside0.mk hI
 have HK := Aside0.mk (KeepBut.refl w g none)
 have HL := Aside0.mk hB.size
 clear hI
 have HW0 := Aside0.mk hB.size
 have HB := Aside0.mk hB
 clear hB
 have H : ((spec_l1Cur_one.f s0_0 s0_1 s0_2 40).bind fun bt142 => (if bt142.1 = true then ((spec_l1Cur_among.f s0_0 bt142.2.1 bt142.2.2 (([0, 16, 33] : List Int))).bind fun bt148 => (some (bt148.1, bt148.2.1, bt148.2.2))) else ((spec_l1Cur_pick.f s0_0 bt142.2.1 bt142.2.2 2).bind fun bt151 => (some (wrap64 (32 + (wrap64 (32 * bt151.1))), bt151.2.1, bt151.2.2))))) = some (r1, r2, r3) := h
 clear h
 replace H := Option.bind_eq_some_iff.mp H
 obtain ⟨⟨t142, t143, t144⟩, A20, H⟩ := H
 replace H : (if t142 = true then ((spec_l1Cur_among.f s0_0 t143 t144 (([0, 16, 33] : List Int))).bind fun bt148 => (some (bt148.1, bt148.2.1, bt148.2.2))) else ((spec_l1Cur_pick.f s0_0 t143 t144 2).bind fun bt151 => (some (wrap64 (32 + (wrap64 (32 * bt151.1))), bt151.2.1, bt151.2.2)))) = some (r1, r2, r3) := H
 have A2 := Aside0.mk A20
 clear A20
 by_cases c3 : t142 = true
 ·
  subst c3
  have H1 : ((spec_l1Cur_among.f s0_0 t143 t144 (([0, 16, 33] : List Int))).bind fun bt148 => (some (bt148.1, bt148.2.1, bt148.2.2))) = some (r1, r2, r3) := by rw [if_pos rfl] at H; exact H
  clear H
  have H := H1
  clear H1
  obtain ⟨y145, hy145⟩ : ∃ y_ : List Int, y_ = (([0, 16, 33] : List Int)) := ⟨_, rfl⟩
  replace H : ((spec_l1Cur_among.f s0_0 t143 t144 y145).bind fun bt148 => (some (bt148.1, bt148.2.1, bt148.2.2))) = some (r1, r2, r3) := by first | (rw [hy145]; with_reducible exact H) | (have H2_ := (Option.bind_some _ _).symm.trans H; rw [hy145]; with_reducible exact H2_) | (have H2_ := (Option.bind_some _ _).symm.trans H; with_reducible exact H2_) | with_reducible exact H | (rw [hy145]; exact H) | exact H
  have Ny145 := Aside0.mk hy145
  clear hy145
  replace H := Option.bind_eq_some_iff.mp H
  obtain ⟨⟨t148, t149, t150⟩, A40, H⟩ := H
  replace H : (some (t148, t149, t150)) = some (r1, r2, r3) := H
  have A4 := Aside0.mk A40
  clear A40
  simp only [Option.some.injEq, Prod.mk.injEq] at H
  obtain ⟨rfl, rfl, rfl⟩ := H
  go_enter Try.func84, Try.ntmps84
  go_wp2_with (first | ((with_reducible refine gate_callee (f := 82) rfl ?_); refine goesL_ (some 4) rfl rfl Try.func82 (by kernel_rfl) rfl #[.pointer (some ⟨g, 0, none⟩), .int .i64 40] rfl ar ?_; (with_reducible refine (spec_l1Cur_one.calls g s0_0 s0_1 s0_2 40 true t143 t144 w0 _ ?side1 ?side2 A2.out).mono ?_); (case side1 => repeat (first | (with_reducible first | exact HI0.out | apply IsS101.alloc | apply IsS101.drewN | apply IsS101.drew | apply IsS101.set_1 | apply IsS101.set_2) | exact HI0.out)); (case side2 => repeat (first | (with_reducible first | exact HB.out | apply below_alloc | apply pw_below_drewN | apply below_drew1 | refine below_set ?_ (IsS101.ge HI0.out)) | exact HB.out)); rintro e w5 ⟨rfl, hi, hb, hk⟩; refine ⟨_, rfl, ?_⟩; have n0_ := Aside0.mk (KeepBut.trans (by repeat (first | (with_reducible first | exact HK.out | apply KeepBut.set_ | apply keep_drewN | apply keep_drew | apply keep_alloc) | exact HK.out)) hk (.inl rfl)); have n1_ := Aside0.mk (hb); have n2_ := Aside0.mk (hi); clear HK; clear HB; clear HI0; have HK := n0_; have HB := n1_; have HI0 := n2_; clear n0_ n1_ n2_; (try clear hb); (try clear hb2); (try clear hk); (try clear hi)) | ((with_reducible refine gate_dst (N := 6) rfl ?_); refine Kd.R_lit (Kd.int .i64) _ 3 ?hg (N := 6) ?hd (xs := ([0, 16, 33] : List Int)) (inner := [.int .i64 0, .int .i64 16, .int .i64 33]) (ok := fun _ => True) (okp := fun _ => True) ?hr ?hp (fun _ hk => hk) trivial (Below.refl _ _) (Nat.le_refl _) (by simp) ?_; (case hd => rfl); (case hg => rfl); (case hr => first | (go_simp; done) | (go_simp; rfl)); (case hp => exact (Reps.one (show Kd.M (Kd.int .i64) _ _ _ 0 [.int .i64 0] from rfl) (Reps.one (show Kd.M (Kd.int .i64) _ _ _ 16 [.int .i64 16] from rfl) (Reps.one (show Kd.M (Kd.int .i64) _ _ _ 33 [.int .i64 33] from rfl) (Reps.none _ _))))); intro v146 w6 ho7 hb hg_ hnew_; clear hg_ hnew_; (first | rw [← Ny145.out] at ho7 | (simp only [Int.reduceToNat] at ho7; rw [← Ny145.out] at ho7)); have n0_ := Aside0.mk (Kd.R_lower ho7 (keep_size (w := w) (g := g) (row := none) (by repeat (first | (with_reducible first | exact HK.out | apply KeepBut.set_ | apply keep_drewN | apply keep_drew | apply keep_alloc) | exact HK.out)))); have n1_ := Aside0.mk (IsS101.below (by repeat (first | (with_reducible first | exact HI0.out | apply IsS101.alloc | apply IsS101.drewN | apply IsS101.drew | apply IsS101.set_1 | apply IsS101.set_2) | exact HI0.out)) hb); have n2_ := Aside0.mk (KeepBut.trans (by repeat (first | (with_reducible first | exact HK.out | apply KeepBut.set_ | apply keep_drewN | apply keep_drew | apply keep_alloc) | exact HK.out)) (KeepBut.of_below hb g none) (.inl rfl)); have n3_ := Aside0.mk (below_step (by repeat (first | (with_reducible first | exact HB.out | apply below_alloc | apply pw_below_drewN | apply below_drew1 | refine below_set ?_ (IsS101.ge HI0.out)) | exact HB.out)) hb); clear HI0; clear HK; clear HB; have HO147 := n0_; have HI0 := n1_; have HK := n2_; have HB := n3_; clear n0_ n1_ n2_ n3_; clear hb ho7; obtain ⟨Ao8, co8, eo8⟩ := Kd.R_slice HO147.out; subst eo8) | ((with_reducible refine gate_callee (f := 83) rfl ?_); refine goesL_ (some 7) rfl rfl Try.func83 (by kernel_rfl) rfl #[.pointer (some ⟨g, 0, none⟩), .slice Ao8 y145.length co8] rfl ar ?_; (with_reducible refine (spec_l1Cur_among.calls g s0_0 t143 t144 _ _ y145 t148 t149 t150 w0 _ ?side1 ?side2 ?side3 ?side4 ?side5 A4.out).mono ?_); (case side1 => repeat (first | (with_reducible first | exact HI0.out | apply IsS101.alloc | apply IsS101.drewN | apply IsS101.drew | apply IsS101.set_1 | apply IsS101.set_2) | exact HI0.out)); (case side2 => repeat (first | (with_reducible first | exact HB.out | apply below_alloc | apply pw_below_drewN | apply below_drew1 | refine below_set ?_ (IsS101.ge HI0.out)) | exact HB.out)); (case side3 => repeat (first | exact (Kd.R_reads' HO147.out).2.2 | (with_reducible refine Kd.C_alloc ?_ _) | (with_reducible refine Kd.C_drewN ?_ _) | (with_reducible refine Kd.C_drew ?_))); (case side4 => exact (Kd.R_reads' HO147.out).2.1); (case side5 => exact far_slice (IsS101.own_ne HI0.out HO147.out (by decide))); rintro e w9 ⟨rfl, hi, hb, hk⟩; refine ⟨_, rfl, ?_⟩; have n0_ := Aside0.mk (Kd.R_mono (Kd.R_keep (IsS101.apart (show IsS101 w0 _ g s0_0 t143 t144 from by repeat (first | (with_reducible first | exact HI0.out | apply IsS101.alloc | apply IsS101.drewN | apply IsS101.drew | apply IsS101.set_1 | apply IsS101.set_2) | exact HI0.out)) (by (with_reducible repeat (first | apply Kd.R_alloc | apply Kd.R_drewN | apply Kd.R_drew)); exact HO147.out) (by decide)) hk (fun _ h => h.2)) (fun _ h => h.1)); have n1_ := Aside0.mk (KeepBut.trans (by repeat (first | (with_reducible first | exact HK.out | apply KeepBut.set_ | apply keep_drewN | apply keep_drew | apply keep_alloc) | exact HK.out)) hk (.inl rfl)); have n2_ := Aside0.mk (hb); have n3_ := Aside0.mk (hi); clear HO147; clear HK; clear HB; clear HI0; have HO147 := n0_; have HK := n1_; have HB := n2_; have HI0 := n3_; clear n0_ n1_ n2_ n3_; (try clear hb); (try clear hb2); (try clear hk); (try clear hi)))
  go_ret
  exact ⟨by first | rfl | (simp [errW_none, errW_some] <;> rfl) | (simp [*, errW_none, errW_some] <;> rfl), by repeat (first | (with_reducible first | exact HI0.out | apply IsS101.alloc | apply IsS101.drewN | apply IsS101.drew | apply IsS101.set_1 | apply IsS101.set_2) | exact HI0.out), by repeat (first | (with_reducible first | exact HB.out | apply below_alloc | apply pw_below_drewN | apply below_drew1 | refine below_set ?_ (IsS101.ge HI0.out)) | exact HB.out), by repeat (first | (with_reducible first | exact HK.out | apply KeepBut.set_ | apply keep_drewN | apply keep_drew | apply keep_alloc) | exact HK.out)⟩
 ·
  replace c3 := Bool.eq_false_iff.mpr c3
  subst c3
  have H1 : ((spec_l1Cur_pick.f s0_0 t143 t144 2).bind fun bt151 => (some (wrap64 (32 + (wrap64 (32 * bt151.1))), bt151.2.1, bt151.2.2))) = some (r1, r2, r3) := by rw [if_neg (show ¬ (false = true) by decide)] at H; exact H
  clear H
  have H := H1
  clear H1
  replace H := Option.bind_eq_some_iff.mp H
  obtain ⟨⟨t151, t152, t153⟩, A100, H⟩ := H
  replace H : (some (wrap64 (32 + (wrap64 (32 * t151))), t152, t153)) = some (r1, r2, r3) := H
  have A10 := Aside0.mk A100
  clear A100
  simp only [Option.some.injEq, Prod.mk.injEq] at H
  obtain ⟨rfl, rfl, rfl⟩ := H
  go_enter Try.func84, Try.ntmps84
  go_wp2_with (first | ((with_reducible refine gate_callee (f := 82) rfl ?_); refine goesL_ (some 4) rfl rfl Try.func82 (by kernel_rfl) rfl #[.pointer (some ⟨g, 0, none⟩), .int .i64 40] rfl ar ?_; (with_reducible refine (spec_l1Cur_one.calls g s0_0 s0_1 s0_2 40 false t143 t144 w0 _ ?side1 ?side2 A2.out).mono ?_); (case side1 => repeat (first | (with_reducible first | exact HI0.out | apply IsS101.alloc | apply IsS101.drewN | apply IsS101.drew | apply IsS101.set_1 | apply IsS101.set_2) | exact HI0.out)); (case side2 => repeat (first | (with_reducible first | exact HB.out | apply below_alloc | apply pw_below_drewN | apply below_drew1 | refine below_set ?_ (IsS101.ge HI0.out)) | exact HB.out)); rintro e w11 ⟨rfl, hi, hb, hk⟩; refine ⟨_, rfl, ?_⟩; have n0_ := Aside0.mk (KeepBut.trans (by repeat (first | (with_reducible first | exact HK.out | apply KeepBut.set_ | apply keep_drewN | apply keep_drew | apply keep_alloc) | exact HK.out)) hk (.inl rfl)); have n1_ := Aside0.mk (hb); have n2_ := Aside0.mk (hi); clear HK; clear HB; clear HI0; have HK := n0_; have HB := n1_; have HI0 := n2_; clear n0_ n1_ n2_; (try clear hb); (try clear hb2); (try clear hk); (try clear hi)) | ((with_reducible refine gate_callee (f := 77) rfl ?_); refine goesL_ (some 9) rfl rfl Try.func77 (by kernel_rfl) rfl #[.pointer (some ⟨g, 0, none⟩), .int .i64 2] rfl ar ?_; (with_reducible refine (spec_l1Cur_pick.calls g s0_0 t143 t144 2 t151 t152 t153 w0 _ ?side1 ?side2 A10.out).mono ?_); (case side1 => repeat (first | (with_reducible first | exact HI0.out | apply IsS101.alloc | apply IsS101.drewN | apply IsS101.drew | apply IsS101.set_1 | apply IsS101.set_2) | exact HI0.out)); (case side2 => repeat (first | (with_reducible first | exact HB.out | apply below_alloc | apply pw_below_drewN | apply below_drew1 | refine below_set ?_ (IsS101.ge HI0.out)) | exact HB.out)); rintro e w12 ⟨rfl, hi, hb, hk⟩; refine ⟨_, rfl, ?_⟩; have n0_ := Aside0.mk (KeepBut.trans (by repeat (first | (with_reducible first | exact HK.out | apply KeepBut.set_ | apply keep_drewN | apply keep_drew | apply keep_alloc) | exact HK.out)) hk (.inl rfl)); have n1_ := Aside0.mk (hb); have n2_ := Aside0.mk (hi); clear HK; clear HB; clear HI0; have HK := n0_; have HB := n1_; have HI0 := n2_; clear n0_ n1_ n2_; (try clear hb); (try clear hb2); (try clear hk); (try clear hi)))
  go_ret
  exact ⟨by first | rfl | (simp [errW_none, errW_some] <;> rfl) | (simp [*, errW_none, errW_some] <;> rfl), by repeat (first | (with_reducible first | exact HI0.out | apply IsS101.alloc | apply IsS101.drewN | apply IsS101.drew | apply IsS101.set_1 | apply IsS101.set_2) | exact HI0.out), by repeat (first | (with_reducible first | exact HB.out | apply below_alloc | apply pw_below_drewN | apply below_drew1 | refine below_set ?_ (IsS101.ge HI0.out)) | exact HB.out), by repeat (first | (with_reducible first | exact HK.out | apply KeepBut.set_ | apply keep_drewN | apply keep_drew | apply keep_alloc) | exact HK.out)⟩

end Go.Proofs.Ytdjpbhmkcamkpaa.Q

namespace Go.Proofs.Ytdjpbhmkcamkpaa.Q
open Go.RowKit Go.Proofs.YtdjpbhmkcamkpaaW.PrintWords Go.Proofs.YtdjpbhmkcamkpaaW.PrintLast Go.Proofs.YtdjpbhmkcamkpaaW.PrintMore
attribute [local go_sem] max2_int min2_int max_two min_two max_three min_three max_four min_four   -- for this text's walks alone
set_option linter.unusedVariables false
set_option linter.unusedSimpArgs false

/-! ### spec_DrawBinary: function 40 -/
def spec_DrawBinary.f (k : Nat) (l0 : List Int) : Option (Int × Int × Int × Int) := (spec_l1Cur_word.f k l0 0 0).bind fun bt155 => ((spec_l1Cur_word.f k l0 bt155.2.1 bt155.2.2).bind fun bt158 => ((spec_l1Cur_pick.f l0 bt158.2.1 bt158.2.2 8).bind fun bt161 => (if bt161.1 = 0 then ((spec_l1Cur_width.f l0 bt161.2.1 bt161.2.2).bind fun bt164 => ((spec_l1Cur_pick.f l0 bt164.2.1 bt164.2.2 29).bind fun bt167 => (some (bt164.1, bt167.1, bt155.1, bt155.1)))) else (if bt161.1 = 1 then ((spec_l1Cur_among.f l0 bt161.2.1 bt161.2.2 (([2147483648, (-9223372036854775808)] : List Int))).bind fun bt173 => ((spec_l1Cur_among.f l0 bt173.2.1 bt173.2.2 (([(-1), 4294967295, 0] : List Int))).bind fun bt179 => ((spec_l1Cur_width.f l0 bt179.2.1 bt179.2.2).bind fun bt182 => ((spec_l1Cur_pick.f l0 bt182.2.1 bt182.2.2 29).bind fun bt185 => (some (bt182.1, bt185.1, IntKind.u64.wrap (bt173.1), IntKind.u64.wrap (bt179.1))))))) else ((spec_l1Cur_width.f l0 bt161.2.1 bt161.2.2).bind fun bt188 => ((spec_l1Cur_pick.f l0 bt188.2.1 bt188.2.2 29).bind fun bt191 => (some (bt188.1, bt191.1, bt155.1, bt158.1))))))))
theorem spec_DrawBinary.mono : ∀ a0 k, LeO (spec_DrawBinary.f k a0) (spec_DrawBinary.f (k + 1) a0) := by
 intro a0 k
 unfold spec_DrawBinary.f
 repeat' first
   | (with_reducible exact spec_l1Cur_word.mono _ _ _ _)
   | (with_reducible exact LeO.refl _)
   | (with_reducible exact LeO.none _)
   | (with_reducible refine LeO.ite ?_ ?_)
   | (with_reducible refine LeO.bind ?_ (fun _ => ?_))
   | exact spec_l1Cur_word.mono _ _ _ _
   | exact LeO.none _
   | refine LeO.ite ?_ ?_
   | refine LeO.bind ?_ (fun _ => ?_)
set_option maxHeartbeats 8000000 in
set_option maxRecDepth 100000 in
theorem spec_DrawBinary.calls (k : Nat) (A0 : Option Addr) (c0 : Nat) (l0 : List Int) (r1 : Int) (r2 : Int) (r3 : Int) (r4 : Int) (w : World) (hr0 : Kd.C (Kd.int .u8) w A0 l0.length l0) (hc0 : l0.length ≤ c0) (h : spec_DrawBinary.f k l0 = some (r1, r2, r3, r4)) :
  Calls Try.prog 40 #[.slice A0 l0.length c0] w fun e w' => e = .returned (.tuple #[.int .i64 r1, .int .i64 r2, .int .u64 r3, .int .u64 r4]) ∧ Below w.heap.size w w' := by
 have hu101 := Try.underlying101
 have HR0 := Aside0.mk hr0
 have HC0 := Aside0.mk hc0
 clear hr0 hc0
 have HB := Aside0.mk (Below.refl w.heap.size w)
 have H : ((spec_l1Cur_word.f k l0 0 0).bind fun bt155 => ((spec_l1Cur_word.f k l0 bt155.2.1 bt155.2.2).bind fun bt158 => ((spec_l1Cur_pick.f l0 bt158.2.1 bt158.2.2 8).bind fun bt161 => (if bt161.1 = 0 then ((spec_l1Cur_width.f l0 bt161.2.1 bt161.2.2).bind fun bt164 => ((spec_l1Cur_pick.f l0 bt164.2.1 bt164.2.2 29).bind fun bt167 => (some (bt164.1, bt167.1, bt155.1, bt155.1)))) else (if bt161.1 = 1 then ((spec_l1Cur_among.f l0 bt161.2.1 bt161.2.2 (([2147483648, (-9223372036854775808)] : List Int))).bind fun bt173 => ((spec_l1Cur_among.f l0 bt173.2.1 bt173.2.2 (([(-1), 4294967295, 0] : List Int))).bind fun bt179 => ((spec_l1Cur_width.f l0 bt179.2.1 bt179.2.2).bind fun bt182 => ((spec_l1Cur_pick.f l0 bt182.2.1 bt182.2.2 29).bind fun bt185 => (some (bt182.1, bt185.1, IntKind.u64.wrap (bt173.1), IntKind.u64.wrap (bt179.1))))))) else ((spec_l1Cur_width.f l0 bt161.2.1 bt161.2.2).bind fun bt188 => ((spec_l1Cur_pick.f l0 bt188.2.1 bt188.2.2 29).bind fun bt191 => (some (bt188.1, bt191.1, bt155.1, bt158.1))))))))) = some (r1, r2, r3, r4) := h
 clear h
 replace H := Option.bind_eq_some_iff.mp H
 obtain ⟨⟨t155, t156, t157⟩, A20, H⟩ := H
 replace H : ((spec_l1Cur_word.f k l0 t156 t157).bind fun bt158 => ((spec_l1Cur_pick.f l0 bt158.2.1 bt158.2.2 8).bind fun bt161 => (if bt161.1 = 0 then ((spec_l1Cur_width.f l0 bt161.2.1 bt161.2.2).bind fun bt164 => ((spec_l1Cur_pick.f l0 bt164.2.1 bt164.2.2 29).bind fun bt167 => (some (bt164.1, bt167.1, t155, t155)))) else (if bt161.1 = 1 then ((spec_l1Cur_among.f l0 bt161.2.1 bt161.2.2 (([2147483648, (-9223372036854775808)] : List Int))).bind fun bt173 => ((spec_l1Cur_among.f l0 bt173.2.1 bt173.2.2 (([(-1), 4294967295, 0] : List Int))).bind fun bt179 => ((spec_l1Cur_width.f l0 bt179.2.1 bt179.2.2).bind fun bt182 => ((spec_l1Cur_pick.f l0 bt182.2.1 bt182.2.2 29).bind fun bt185 => (some (bt182.1, bt185.1, IntKind.u64.wrap (bt173.1), IntKind.u64.wrap (bt179.1))))))) else ((spec_l1Cur_width.f l0 bt161.2.1 bt161.2.2).bind fun bt188 => ((spec_l1Cur_pick.f l0 bt188.2.1 bt188.2.2 29).bind fun bt191 => (some (bt188.1, bt191.1, t155, bt158.1)))))))) = some (r1, r2, r3, r4) := H
 have A2 := Aside0.mk A20
 clear A20
 replace H := Option.bind_eq_some_iff.mp H
 obtain ⟨⟨t158, t159, t160⟩, A30, H⟩ := H
 replace H : ((spec_l1Cur_pick.f l0 t159 t160 8).bind fun bt161 => (if bt161.1 = 0 then ((spec_l1Cur_width.f l0 bt161.2.1 bt161.2.2).bind fun bt164 => ((spec_l1Cur_pick.f l0 bt164.2.1 bt164.2.2 29).bind fun bt167 => (some (bt164.1, bt167.1, t155, t155)))) else (if bt161.1 = 1 then ((spec_l1Cur_among.f l0 bt161.2.1 bt161.2.2 (([2147483648, (-9223372036854775808)] : List Int))).bind fun bt173 => ((spec_l1Cur_among.f l0 bt173.2.1 bt173.2.2 (([(-1), 4294967295, 0] : List Int))).bind fun bt179 => ((spec_l1Cur_width.f l0 bt179.2.1 bt179.2.2).bind fun bt182 => ((spec_l1Cur_pick.f l0 bt182.2.1 bt182.2.2 29).bind fun bt185 => (some (bt182.1, bt185.1, IntKind.u64.wrap (bt173.1), IntKind.u64.wrap (bt179.1))))))) else ((spec_l1Cur_width.f l0 bt161.2.1 bt161.2.2).bind fun bt188 => ((spec_l1Cur_pick.f l0 bt188.2.1 bt188.2.2 29).bind fun bt191 => (some (bt188.1, bt191.1, t155, t158))))))) = some (r1, r2, r3, r4) := H
 have A3 := Aside0.mk A30
 clear A30
 replace H := Option.bind_eq_some_iff.mp H
 obtain ⟨⟨t161, t162, t163⟩, A40, H⟩ := H
 replace H : (if t161 = 0 then ((spec_l1Cur_width.f l0 t162 t163).bind fun bt164 => ((spec_l1Cur_pick.f l0 bt164.2.1 bt164.2.2 29).bind fun bt167 => (some (bt164.1, bt167.1, t155, t155)))) else (if t161 = 1 then ((spec_l1Cur_among.f l0 t162 t163 (([2147483648, (-9223372036854775808)] : List Int))).bind fun bt173 => ((spec_l1Cur_among.f l0 bt173.2.1 bt173.2.2 (([(-1), 4294967295, 0] : List Int))).bind fun bt179 => ((spec_l1Cur_width.f l0 bt179.2.1 bt179.2.2).bind fun bt182 => ((spec_l1Cur_pick.f l0 bt182.2.1 bt182.2.2 29).bind fun bt185 => (some (bt182.1, bt185.1, IntKind.u64.wrap (bt173.1), IntKind.u64.wrap (bt179.1))))))) else ((spec_l1Cur_width.f l0 t162 t163).bind fun bt188 => ((spec_l1Cur_pick.f l0 bt188.2.1 bt188.2.2 29).bind fun bt191 => (some (bt188.1, bt191.1, t155, t158)))))) = some (r1, r2, r3, r4) := H
 have A4 := Aside0.mk A40
 clear A40
 by_cases c5 : t161 = 0
 ·
  rw [if_pos c5] at H
  have c5b0 : (t161 == 0) = true := beq_iff_eq.mpr c5
  have c5b1 : (t161 != 0) = false := bne_eq_false_iff_eq.mpr c5
  clear c5
  replace H := Option.bind_eq_some_iff.mp H
  obtain ⟨⟨t164, t165, t166⟩, A60, H⟩ := H
  replace H : ((spec_l1Cur_pick.f l0 t165 t166 29).bind fun bt167 => (some (t164, bt167.1, t155, t155))) = some (r1, r2, r3, r4) := H
  have A6 := Aside0.mk A60
  clear A60
  replace H := Option.bind_eq_some_iff.mp H
  obtain ⟨⟨t167, t168, t169⟩, A70, H⟩ := H
  replace H : (some (t164, t167, t155, t155)) = some (r1, r2, r3, r4) := H
  have A7 := Aside0.mk A70
  clear A70
  simp only [Option.some.injEq, Prod.mk.injEq] at H
  obtain ⟨rfl, rfl, rfl, rfl⟩ := H
  go_enter Try.func40, Try.ntmps40
  go_wp2_with (first | ((with_reducible refine gate_dst (N := 11) rfl ?_); refine box_event ?hg (N := 11) ?hd (cs := #[.slice A0 l0.length c0, .int .i64 0, .int .u64 0]) (t := 101) ?hr ?_; (case hd => rfl); (case hg => rfl); (case hr => first | (go_simp; done) | (go_simp; rfl)); intro gb154 hg w8 hbox hb; have n0_ := Aside0.mk (below_step (bw HB.out) hb); have n1_ := Aside0.mk ((show IsS101 w w8 gb154 l0 0 0 from ⟨_, _, hbox, (by rw [hg]; exact (below_size (bw HB.out)) : w.heap.size ≤ gb154), HR0.out⟩)); have n2_ := Aside0.mk ((by rw [hg]; exact (below_size (bw HB.out)) : w.heap.size ≤ gb154)); have n3_ := Aside0.mk ((by rw [hg]; exact (below_size (bw HB.out)) : w.heap.size ≤ gb154)); clear HB; have HB := n0_; have HI154 := n1_; have GW154 := n2_; have GE154 := n3_; clear n0_ n1_ n2_ n3_; clear hb hbox hg) | ((with_reducible refine gate_callee (f := 78) rfl ?_); refine goesL_ (some 13) rfl rfl Try.func78 (by kernel_rfl) rfl #[.pointer (some ⟨gb154, 0, none⟩)] rfl ar ?_; (with_reducible refine (spec_l1Cur_word.calls k gb154 l0 0 0 t155 t156 t157 w _ ?side1 ?side2 A2.out).mono ?_); (case side1 => repeat (first | (with_reducible first | exact HI154.out | apply IsS101.alloc | apply IsS101.drewN | apply IsS101.drew | apply IsS101.set_1 | apply IsS101.set_2) | exact HI154.out)); (case side2 => repeat (first | (with_reducible first | exact HB.out | apply below_alloc | apply pw_below_drewN | apply below_drew1 | refine below_set ?_ (IsS101.ge HI154.out)) | exact HB.out)); rintro e w9 ⟨rfl, hi, hb, hk⟩; refine ⟨_, rfl, ?_⟩; have n0_ := Aside0.mk (hb); have n1_ := Aside0.mk (hi); clear HB; clear HI154; have HB := n0_; have HI154 := n1_; clear n0_ n1_; (try clear hb); (try clear hb2); (try clear hk); (try clear hi)) | ((with_reducible refine gate_callee (f := 78) rfl ?_); refine goesL_ (some 15) rfl rfl Try.func78 (by kernel_rfl) rfl #[.pointer (some ⟨gb154, 0, none⟩)] rfl ar ?_; (with_reducible refine (spec_l1Cur_word.calls k gb154 l0 t156 t157 t158 t159 t160 w _ ?side1 ?side2 A3.out).mono ?_); (case side1 => repeat (first | (with_reducible first | exact HI154.out | apply IsS101.alloc | apply IsS101.drewN | apply IsS101.drew | apply IsS101.set_1 | apply IsS101.set_2) | exact HI154.out)); (case side2 => repeat (first | (with_reducible first | exact HB.out | apply below_alloc | apply pw_below_drewN | apply below_drew1 | refine below_set ?_ (IsS101.ge HI154.out)) | exact HB.out)); rintro e w10 ⟨rfl, hi, hb, hk⟩; refine ⟨_, rfl, ?_⟩; have n0_ := Aside0.mk (hb); have n1_ := Aside0.mk (hi); clear HB; clear HI154; have HB := n0_; have HI154 := n1_; clear n0_ n1_; (try clear hb); (try clear hb2); (try clear hk); (try clear hi)) | ((with_reducible refine gate_callee (f := 77) rfl ?_); refine goesL_ (some 17) rfl rfl Try.func77 (by kernel_rfl) rfl #[.pointer (some ⟨gb154, 0, none⟩), .int .i64 8] rfl ar ?_; (with_reducible refine (spec_l1Cur_pick.calls gb154 l0 t159 t160 8 t161 t162 t163 w _ ?side1 ?side2 A4.out).mono ?_); (case side1 => repeat (first | (with_reducible first | exact HI154.out | apply IsS101.alloc | apply IsS101.drewN | apply IsS101.drew | apply IsS101.set_1 | apply IsS101.set_2) | exact HI154.out)); (case side2 => repeat (first | (with_reducible first | exact HB.out | apply below_alloc | apply pw_below_drewN | apply below_drew1 | refine below_set ?_ (IsS101.ge HI154.out)) | exact HB.out)); rintro e w11 ⟨rfl, hi, hb, hk⟩; refine ⟨_, rfl, ?_⟩; have n0_ := Aside0.mk (hb); have n1_ := Aside0.mk (hi); clear HB; clear HI154; have HB := n0_; have HI154 := n1_; clear n0_ n1_; (try clear hb); (try clear hb2); (try clear hk); (try clear hi)) | ((with_reducible refine gate_callee (f := 84) rfl ?_); refine goesL_ (some 32) rfl rfl Try.func84 (by kernel_rfl) rfl #[.pointer (some ⟨gb154, 0, none⟩)] rfl ar ?_; (with_reducible refine (spec_l1Cur_width.calls gb154 l0 t162 t163 t164 t165 t166 w _ ?side1 ?side2 A6.out).mono ?_); (case side1 => repeat (first | (with_reducible first | exact HI154.out | apply IsS101.alloc | apply IsS101.drewN | apply IsS101.drew | apply IsS101.set_1 | apply IsS101.set_2) | exact HI154.out)); (case side2 => repeat (first | (with_reducible first | exact HB.out | apply below_alloc | apply pw_below_drewN | apply below_drew1 | refine below_set ?_ (IsS101.ge HI154.out)) | exact HB.out)); rintro e w12 ⟨rfl, hi, hb, hk⟩; refine ⟨_, rfl, ?_⟩; have n0_ := Aside0.mk (hb); have n1_ := Aside0.mk (hi); clear HB; clear HI154; have HB := n0_; have HI154 := n1_; clear n0_ n1_; (try clear hb); (try clear hb2); (try clear hk); (try clear hi)) | ((with_reducible refine gate_callee (f := 77) rfl ?_); refine goesL_ (some 34) rfl rfl Try.func77 (by kernel_rfl) rfl #[.pointer (some ⟨gb154, 0, none⟩), .int .i64 29] rfl ar ?_; (with_reducible refine (spec_l1Cur_pick.calls gb154 l0 t165 t166 29 t167 t168 t169 w _ ?side1 ?side2 A7.out).mono ?_); (case side1 => repeat (first | (with_reducible first | exact HI154.out | apply IsS101.alloc | apply IsS101.drewN | apply IsS101.drew | apply IsS101.set_1 | apply IsS101.set_2) | exact HI154.out)); (case side2 => repeat (first | (with_reducible first | exact HB.out | apply below_alloc | apply pw_below_drewN | apply below_drew1 | refine below_set ?_ (IsS101.ge HI154.out)) | exact HB.out)); rintro e w13 ⟨rfl, hi, hb, hk⟩; refine ⟨_, rfl, ?_⟩; have n0_ := Aside0.mk (hb); have n1_ := Aside0.mk (hi); clear HB; clear HI154; have HB := n0_; have HI154 := n1_; clear n0_ n1_; (try clear hb); (try clear hb2); (try clear hk); (try clear hi)))
  refine bodyPost_ret (results_list (rs := [.tmp 2, .tmp 3, .tmp 4, .tmp 5]) rfl (by simp) (.tmp (.tmp (.tmp (.tmp .nil))))) rfl ?_
  exact ⟨by first | rfl | (simp [errW_none, errW_some] <;> rfl) | (simp [*, errW_none, errW_some] <;> rfl), by repeat (first | (with_reducible first | exact HB.out | apply below_alloc | apply pw_below_drewN | apply below_drew1 | refine below_set ?_ (IsS101.ge HI154.out)) | exact HB.out)⟩
 ·
  rw [if_neg c5] at H
  have c5b0 : (t161 == 0) = false := beq_eq_false_iff_ne.mpr c5
  have c5b1 : (t161 != 0) = true := bne_iff_ne.mpr c5
  by_cases c14 : t161 = 1
  ·
   rw [if_pos c14] at H
   have c14b0 : (t161 == 1) = true := beq_iff_eq.mpr c14
   have c14b1 : (t161 != 1) = false := bne_eq_false_iff_eq.mpr c14
   clear c14
   obtain ⟨y170, hy170⟩ : ∃ y_ : List Int, y_ = (([2147483648, (-9223372036854775808)] : List Int)) := ⟨_, rfl⟩
   replace H : ((spec_l1Cur_among.f l0 t162 t163 y170).bind fun bt173 => ((spec_l1Cur_among.f l0 bt173.2.1 bt173.2.2 (([(-1), 4294967295, 0] : List Int))).bind fun bt179 => ((spec_l1Cur_width.f l0 bt179.2.1 bt179.2.2).bind fun bt182 => ((spec_l1Cur_pick.f l0 bt182.2.1 bt182.2.2 29).bind fun bt185 => (some (bt182.1, bt185.1, IntKind.u64.wrap (bt173.1), IntKind.u64.wrap (bt179.1))))))) = some (r1, r2, r3, r4) := by first | (rw [hy170]; with_reducible exact H) | (have H2_ := (Option.bind_some _ _).symm.trans H; rw [hy170]; with_reducible exact H2_) | (have H2_ := (Option.bind_some _ _).symm.trans H; with_reducible exact H2_) | with_reducible exact H | (rw [hy170]; exact H) | exact H
   have Ny170 := Aside0.mk hy170
   clear hy170
   replace H := Option.bind_eq_some_iff.mp H
   obtain ⟨⟨t173, t174, t175⟩, A150, H⟩ := H
   replace H : ((spec_l1Cur_among.f l0 t174 t175 (([(-1), 4294967295, 0] : List Int))).bind fun bt179 => ((spec_l1Cur_width.f l0 bt179.2.1 bt179.2.2).bind fun bt182 => ((spec_l1Cur_pick.f l0 bt182.2.1 bt182.2.2 29).bind fun bt185 => (some (bt182.1, bt185.1, IntKind.u64.wrap (t173), IntKind.u64.wrap (bt179.1)))))) = some (r1, r2, r3, r4) := H
   have A15 := Aside0.mk A150
   clear A150
   obtain ⟨y176, hy176⟩ : ∃ y_ : List Int, y_ = (([(-1), 4294967295, 0] : List Int)) := ⟨_, rfl⟩
   replace H : ((spec_l1Cur_among.f l0 t174 t175 y176).bind fun bt179 => ((spec_l1Cur_width.f l0 bt179.2.1 bt179.2.2).bind fun bt182 => ((spec_l1Cur_pick.f l0 bt182.2.1 bt182.2.2 29).bind fun bt185 => (some (bt182.1, bt185.1, IntKind.u64.wrap (t173), IntKind.u64.wrap (bt179.1)))))) = some (r1, r2, r3, r4) := by first | (rw [hy176]; with_reducible exact H) | (have H2_ := (Option.bind_some _ _).symm.trans H; rw [hy176]; with_reducible exact H2_) | (have H2_ := (Option.bind_some _ _).symm.trans H; with_reducible exact H2_) | with_reducible exact H | (rw [hy176]; exact H) | exact H
   have Ny176 := Aside0.mk hy176
   clear hy176
   replace H := Option.bind_eq_some_iff.mp H
   obtain ⟨⟨t179, t180, t181⟩, A160, H⟩ := H
   replace H : ((spec_l1Cur_width.f l0 t180 t181).bind fun bt182 => ((spec_l1Cur_pick.f l0 bt182.2.1 bt182.2.2 29).bind fun bt185 => (some (bt182.1, bt185.1, IntKind.u64.wrap (t173), IntKind.u64.wrap (t179))))) = some (r1, r2, r3, r4) := H
   have A16 := Aside0.mk A160
   clear A160
   replace H := Option.bind_eq_some_iff.mp H
   obtain ⟨⟨t182, t183, t184⟩, A170, H⟩ := H
   replace H : ((spec_l1Cur_pick.f l0 t183 t184 29).bind fun bt185 => (some (t182, bt185.1, IntKind.u64.wrap (t173), IntKind.u64.wrap (t179)))) = some (r1, r2, r3, r4) := H
   have A17 := Aside0.mk A170
   clear A170
   replace H := Option.bind_eq_some_iff.mp H
   obtain ⟨⟨t185, t186, t187⟩, A180, H⟩ := H
   replace H : (some (t182, t185, IntKind.u64.wrap (t173), IntKind.u64.wrap (t179))) = some (r1, r2, r3, r4) := H
   have A18 := Aside0.mk A180
   clear A180
   simp only [Option.some.injEq, Prod.mk.injEq] at H
   obtain ⟨rfl, rfl, rfl, rfl⟩ := H
   go_enter Try.func40, Try.ntmps40
   go_wp2_with (first | ((with_reducible refine gate_dst (N := 11) rfl ?_); refine box_event ?hg (N := 11) ?hd (cs := #[.slice A0 l0.length c0, .int .i64 0, .int .u64 0]) (t := 101) ?hr ?_; (case hd => rfl); (case hg => rfl); (case hr => first | (go_simp; done) | (go_simp; rfl)); intro gb154 hg w19 hbox hb; have n0_ := Aside0.mk (below_step (bw HB.out) hb); have n1_ := Aside0.mk ((show IsS101 w w19 gb154 l0 0 0 from ⟨_, _, hbox, (by rw [hg]; exact (below_size (bw HB.out)) : w.heap.size ≤ gb154), HR0.out⟩)); have n2_ := Aside0.mk ((by rw [hg]; exact (below_size (bw HB.out)) : w.heap.size ≤ gb154)); have n3_ := Aside0.mk ((by rw [hg]; exact (below_size (bw HB.out)) : w.heap.size ≤ gb154)); clear HB; have HB := n0_; have HI154 := n1_; have GW154 := n2_; have GE154 := n3_; clear n0_ n1_ n2_ n3_; clear hb hbox hg) | ((with_reducible refine gate_callee (f := 78) rfl ?_); refine goesL_ (some 13) rfl rfl Try.func78 (by kernel_rfl) rfl #[.pointer (some ⟨gb154, 0, none⟩)] rfl ar ?_; (with_reducible refine (spec_l1Cur_word.calls k gb154 l0 0 0 t155 t156 t157 w _ ?side1 ?side2 A2.out).mono ?_); (case side1 => repeat (first | (with_reducible first | exact HI154.out | apply IsS101.alloc | apply IsS101.drewN | apply IsS101.drew | apply IsS101.set_1 | apply IsS101.set_2) | exact HI154.out)); (case side2 => repeat (first | (with_reducible first | exact HB.out | apply below_alloc | apply pw_below_drewN | apply below_drew1 | refine below_set ?_ (IsS101.ge HI154.out)) | exact HB.out)); rintro e w20 ⟨rfl, hi, hb, hk⟩; refine ⟨_, rfl, ?_⟩; have n0_ := Aside0.mk (hb); have n1_ := Aside0.mk (hi); clear HB; clear HI154; have HB := n0_; have HI154 := n1_; clear n0_ n1_; (try clear hb); (try clear hb2); (try clear hk); (try clear hi)) | ((with_reducible refine gate_callee (f := 78) rfl ?_); refine goesL_ (some 15) rfl rfl Try.func78 (by kernel_rfl) rfl #[.pointer (some ⟨gb154, 0, none⟩)] rfl ar ?_; (with_reducible refine (spec_l1Cur_word.calls k gb154 l0 t156 t157 t158 t159 t160 w _ ?side1 ?side2 A3.out).mono ?_); (case side1 => repeat (first | (with_reducible first | exact HI154.out | apply IsS101.alloc | apply IsS101.drewN | apply IsS101.drew | apply IsS101.set_1 | apply IsS101.set_2) | exact HI154.out)); (case side2 => repeat (first | (with_reducible first | exact HB.out | apply below_alloc | apply pw_below_drewN | apply below_drew1 | refine below_set ?_ (IsS101.ge HI154.out)) | exact HB.out)); rintro e w21 ⟨rfl, hi, hb, hk⟩; refine ⟨_, rfl, ?_⟩; have n0_ := Aside0.mk (hb); have n1_ := Aside0.mk (hi); clear HB; clear HI154; have HB := n0_; have HI154 := n1_; clear n0_ n1_; (try clear hb); (try clear hb2); (try clear hk); (try clear hi)) | ((with_reducible refine gate_callee (f := 77) rfl ?_); refine goesL_ (some 17) rfl rfl Try.func77 (by kernel_rfl) rfl #[.pointer (some ⟨gb154, 0, none⟩), .int .i64 8] rfl ar ?_; (with_reducible refine (spec_l1Cur_pick.calls gb154 l0 t159 t160 8 t161 t162 t163 w _ ?side1 ?side2 A4.out).mono ?_); (case side1 => repeat (first | (with_reducible first | exact HI154.out | apply IsS101.alloc | apply IsS101.drewN | apply IsS101.drew | apply IsS101.set_1 | apply IsS101.set_2) | exact HI154.out)); (case side2 => repeat (first | (with_reducible first | exact HB.out | apply below_alloc | apply pw_below_drewN | apply below_drew1 | refine below_set ?_ (IsS101.ge HI154.out)) | exact HB.out)); rintro e w22 ⟨rfl, hi, hb, hk⟩; refine ⟨_, rfl, ?_⟩; have n0_ := Aside0.mk (hb); have n1_ := Aside0.mk (hi); clear HB; clear HI154; have HB := n0_; have HI154 := n1_; clear n0_ n1_; (try clear hb); (try clear hb2); (try clear hk); (try clear hi)) | ((with_reducible refine gate_dst (N := 24) rfl ?_); refine Kd.R_lit (Kd.int .i64) _ 3 ?hg (N := 24) ?hd (xs := ([2147483648, (-9223372036854775808)] : List Int)) (inner := [.int .i64 2147483648, .int .i64 (-9223372036854775808)]) (ok := fun _ => True) (okp := fun _ => True) ?hr ?hp (fun _ hk => hk) trivial (Below.refl _ _) (Nat.le_refl _) (by simp) ?_; (case hd => rfl); (case hg => rfl); (case hr => first | (go_simp; done) | (go_simp; rfl)); (case hp => exact (Reps.one (show Kd.M (Kd.int .i64) _ _ _ 2147483648 [.int .i64 2147483648] from rfl) (Reps.one (show Kd.M (Kd.int .i64) _ _ _ (-9223372036854775808) [.int .i64 (-9223372036854775808)] from rfl) (Reps.none _ _)))); intro v171 w23 ho24 hb hg_ hnew_; clear hg_ hnew_; (first | rw [← Ny170.out] at ho24 | (simp only [Int.reduceToNat] at ho24; rw [← Ny170.out] at ho24)); have n0_ := Aside0.mk (Kd.R_lower ho24 (below_size (by repeat (first | (with_reducible first | exact HB.out | apply below_alloc | apply pw_below_drewN | apply below_drew1 | refine below_set ?_ (IsS101.ge HI154.out)) | exact HB.out)))); have n1_ := Aside0.mk (IsS101.below (by repeat (first | (with_reducible first | exact HI154.out | apply IsS101.alloc | apply IsS101.drewN | apply IsS101.drew | apply IsS101.set_1 | apply IsS101.set_2) | exact HI154.out)) hb); have n2_ := Aside0.mk (below_step (by repeat (first | (with_reducible first | exact HB.out | apply below_alloc | apply pw_below_drewN | apply below_drew1 | refine below_set ?_ (IsS101.ge HI154.out)) | exact HB.out)) hb); clear HI154; clear HB; have HO172 := n0_; have HI154 := n1_; have HB := n2_; clear n0_ n1_ n2_; clear hb ho24; obtain ⟨Ao25, co25, eo25⟩ := Kd.R_slice HO172.out; subst eo25) | ((with_reducible refine gate_callee (f := 83) rfl ?_); refine goesL_ (some 25) rfl rfl Try.func83 (by kernel_rfl) rfl #[.pointer (some ⟨gb154, 0, none⟩), .slice Ao25 y170.length co25] rfl ar ?_; (with_reducible refine (spec_l1Cur_among.calls gb154 l0 t162 t163 _ _ y170 t173 t174 t175 w _ ?side1 ?side2 ?side3 ?side4 ?side5 A15.out).mono ?_); (case side1 => repeat (first | (with_reducible first | exact HI154.out | apply IsS101.alloc | apply IsS101.drewN | apply IsS101.drew | apply IsS101.set_1 | apply IsS101.set_2) | exact HI154.out)); (case side2 => repeat (first | (with_reducible first | exact HB.out | apply below_alloc | apply pw_below_drewN | apply below_drew1 | refine below_set ?_ (IsS101.ge HI154.out)) | exact HB.out)); (case side3 => repeat (first | exact (Kd.R_reads' HO172.out).2.2 | (with_reducible refine Kd.C_alloc ?_ _) | (with_reducible refine Kd.C_drewN ?_ _) | (with_reducible refine Kd.C_drew ?_))); (case side4 => exact (Kd.R_reads' HO172.out).2.1); (case side5 => exact far_slice (IsS101.own_ne HI154.out HO172.out (by decide))); rintro e w26 ⟨rfl, hi, hb, hk⟩; refine ⟨_, rfl, ?_⟩; have n0_ := Aside0.mk (Kd.R_mono (Kd.R_keep (IsS101.apart (show IsS101 w _ gb154 l0 t162 t163 from by repeat (first | (with_reducible first | exact HI154.out | apply IsS101.alloc | apply IsS101.drewN | apply IsS101.drew | apply IsS101.set_1 | apply IsS101.set_2) | exact HI154.out)) (by (with_reducible repeat (first | apply Kd.R_alloc | apply Kd.R_drewN | apply Kd.R_drew)); exact HO172.out) (by decide)) hk (fun _ h => h.2)) (fun _ h => h.1)); have n1_ := Aside0.mk (hb); have n2_ := Aside0.mk (hi); clear HO172; clear HB; clear HI154; have HO172 := n0_; have HB := n1_; have HI154 := n2_; clear n0_ n1_ n2_; (try clear hb); (try clear hb2); (try clear hk); (try clear hi)) | ((with_reducible refine gate_dst (N := 28) rfl ?_); refine Kd.R_lit (Kd.int .i64) _ 3 ?hg (N := 28) ?hd (xs := ([(-1), 4294967295, 0] : List Int)) (inner := [.int .i64 (-1), .int .i64 4294967295, .int .i64 0]) (ok := fun _ => True) (okp := fun _ => True) ?hr ?hp (fun _ hk => hk) trivial (Below.refl _ _) (Nat.le_refl _) (by simp) ?_; (case hd => rfl); (case hg => rfl); (case hr => first | (go_simp; done) | (go_simp; rfl)); (case hp => exact (Reps.one (show Kd.M (Kd.int .i64) _ _ _ (-1) [.int .i64 (-1)] from rfl) (Reps.one (show Kd.M (Kd.int .i64) _ _ _ 4294967295 [.int .i64 4294967295] from rfl) (Reps.one (show Kd.M (Kd.int .i64) _ _ _ 0 [.int .i64 0] from rfl) (Reps.none _ _))))); intro v177 w27 ho28 hb hg_ hnew_; clear hg_ hnew_; (first | rw [← Ny176.out] at ho28 | (simp only [Int.reduceToNat] at ho28; rw [← Ny176.out] at ho28)); have n0_ := Aside0.mk (Kd.R_elder' (by (with_reducible repeat (first | apply Kd.R_alloc | apply Kd.R_drewN | apply Kd.R_drew)); exact HO172.out) (Kd.R_base ho28) hb); have n1_ := Aside0.mk (Kd.R_lower (Kd.R_new' ho28 (Kd.R_lt (by (with_reducible repeat (first | apply Kd.R_alloc | apply Kd.R_drewN | apply Kd.R_drew)); exact HO172.out))) (below_size (by repeat (first | (with_reducible first | exact HB.out | apply below_alloc | apply pw_below_drewN | apply below_drew1 | refine below_set ?_ (IsS101.ge HI154.out)) | exact HB.out)))); have n2_ := Aside0.mk (IsS101.below (by repeat (first | (with_reducible first | exact HI154.out | apply IsS101.alloc | apply IsS101.drewN | apply IsS101.drew | apply IsS101.set_1 | apply IsS101.set_2) | exact HI154.out)) hb); have n3_ := Aside0.mk (below_step (by repeat (first | (with_reducible first | exact HB.out | apply below_alloc | apply pw_below_drewN | apply below_drew1 | refine below_set ?_ (IsS101.ge HI154.out)) | exact HB.out)) hb); clear HO172; clear HI154; clear HB; have HO172 := n0_; have HO178 := n1_; have HI154 := n2_; have HB := n3_; clear n0_ n1_ n2_ n3_; clear hb ho28; obtain ⟨Ao29, co29, eo29⟩ := Kd.R_slice HO178.out; subst eo29) | ((with_reducible refine gate_callee (f := 83) rfl ?_); refine goesL_ (some 29) rfl rfl Try.func83 (by kernel_rfl) rfl #[.pointer (some ⟨gb154, 0, none⟩), .slice Ao29 y176.length co29] rfl ar ?_; (with_reducible refine (spec_l1Cur_among.calls gb154 l0 t174 t175 _ _ y176 t179 t180 t181 w _ ?side1 ?side2 ?side3 ?side4 ?side5 A16.out).mono ?_); (case side1 => repeat (first | (with_reducible first | exact HI154.out | apply IsS101.alloc | apply IsS101.drewN | apply IsS101.drew | apply IsS101.set_1 | apply IsS101.set_2) | exact HI154.out)); (case side2 => repeat (first | (with_reducible first | exact HB.out | apply below_alloc | apply pw_below_drewN | apply below_drew1 | refine below_set ?_ (IsS101.ge HI154.out)) | exact HB.out)); (case side3 => repeat (first | exact (Kd.R_reads' HO178.out).2.2 | (with_reducible refine Kd.C_alloc ?_ _) | (with_reducible refine Kd.C_drewN ?_ _) | (with_reducible refine Kd.C_drew ?_))); (case side4 => exact (Kd.R_reads' HO178.out).2.1); (case side5 => exact far_slice (IsS101.own_ne HI154.out HO178.out (by decide))); rintro e w30 ⟨rfl, hi, hb, hk⟩; refine ⟨_, rfl, ?_⟩; have n0_ := Aside0.mk (Kd.R_mono (Kd.R_keep (IsS101.apart (show IsS101 w _ gb154 l0 t174 t175 from by repeat (first | (with_reducible first | exact HI154.out | apply IsS101.alloc | apply IsS101.drewN | apply IsS101.drew | apply IsS101.set_1 | apply IsS101.set_2) | exact HI154.out)) (by (with_reducible repeat (first | apply Kd.R_alloc | apply Kd.R_drewN | apply Kd.R_drew)); exact HO172.out) (by decide)) hk (fun _ h => h.2)) (fun _ h => h.1)); have n1_ := Aside0.mk (Kd.R_mono (Kd.R_keep (IsS101.apart (show IsS101 w _ gb154 l0 t174 t175 from by repeat (first | (with_reducible first | exact HI154.out | apply IsS101.alloc | apply IsS101.drewN | apply IsS101.drew | apply IsS101.set_1 | apply IsS101.set_2) | exact HI154.out)) (by (with_reducible repeat (first | apply Kd.R_alloc | apply Kd.R_drewN | apply Kd.R_drew)); exact HO178.out) (by decide)) hk (fun _ h => h.2)) (fun _ h => h.1)); have n2_ := Aside0.mk (hb); have n3_ := Aside0.mk (hi); clear HO172; clear HO178; clear HB; clear HI154; have HO172 := n0_; have HO178 := n1_; have HB := n2_; have HI154 := n3_; clear n0_ n1_ n2_ n3_; (try clear hb); (try clear hb2); (try clear hk); (try clear hi)) | ((with_reducible refine gate_callee (f := 84) rfl ?_); refine goesL_ (some 32) rfl rfl Try.func84 (by kernel_rfl) rfl #[.pointer (some ⟨gb154, 0, none⟩)] rfl ar ?_; (with_reducible refine (spec_l1Cur_width.calls gb154 l0 t180 t181 t182 t183 t184 w _ ?side1 ?side2 A17.out).mono ?_); (case side1 => repeat (first | (with_reducible first | exact HI154.out | apply IsS101.alloc | apply IsS101.drewN | apply IsS101.drew | apply IsS101.set_1 | apply IsS101.set_2) | exact HI154.out)); (case side2 => repeat (first | (with_reducible first | exact HB.out | apply below_alloc | apply pw_below_drewN | apply below_drew1 | refine below_set ?_ (IsS101.ge HI154.out)) | exact HB.out)); rintro e w31 ⟨rfl, hi, hb, hk⟩; refine ⟨_, rfl, ?_⟩; have n0_ := Aside0.mk (Kd.R_mono (Kd.R_keep (IsS101.apart (show IsS101 w _ gb154 l0 t180 t181 from by repeat (first | (with_reducible first | exact HI154.out | apply IsS101.alloc | apply IsS101.drewN | apply IsS101.drew | apply IsS101.set_1 | apply IsS101.set_2) | exact HI154.out)) (by (with_reducible repeat (first | apply Kd.R_alloc | apply Kd.R_drewN | apply Kd.R_drew)); exact HO172.out) (by decide)) hk (fun _ h => h.2)) (fun _ h => h.1)); have n1_ := Aside0.mk (Kd.R_mono (Kd.R_keep (IsS101.apart (show IsS101 w _ gb154 l0 t180 t181 from by repeat (first | (with_reducible first | exact HI154.out | apply IsS101.alloc | apply IsS101.drewN | apply IsS101.drew | apply IsS101.set_1 | apply IsS101.set_2) | exact HI154.out)) (by (with_reducible repeat (first | apply Kd.R_alloc | apply Kd.R_drewN | apply Kd.R_drew)); exact HO178.out) (by decide)) hk (fun _ h => h.2)) (fun _ h => h.1)); have n2_ := Aside0.mk (hb); have n3_ := Aside0.mk (hi); clear HO172; clear HO178; clear HB; clear HI154; have HO172 := n0_; have HO178 := n1_; have HB := n2_; have HI154 := n3_; clear n0_ n1_ n2_ n3_; (try clear hb); (try clear hb2); (try clear hk); (try clear hi)) | ((with_reducible refine gate_callee (f := 77) rfl ?_); refine goesL_ (some 34) rfl rfl Try.func77 (by kernel_rfl) rfl #[.pointer (some ⟨gb154, 0, none⟩), .int .i64 29] rfl ar ?_; (with_reducible refine (spec_l1Cur_pick.calls gb154 l0 t183 t184 29 t185 t186 t187 w _ ?side1 ?side2 A18.out).mono ?_); (case side1 => repeat (first | (with_reducible first | exact HI154.out | apply IsS101.alloc | apply IsS101.drewN | apply IsS101.drew | apply IsS101.set_1 | apply IsS101.set_2) | exact HI154.out)); (case side2 => repeat (first | (with_reducible first | exact HB.out | apply below_alloc | apply pw_below_drewN | apply below_drew1 | refine below_set ?_ (IsS101.ge HI154.out)) | exact HB.out)); rintro e w32 ⟨rfl, hi, hb, hk⟩; refine ⟨_, rfl, ?_⟩; have n0_ := Aside0.mk (Kd.R_mono (Kd.R_keep (IsS101.apart (show IsS101 w _ gb154 l0 t183 t184 from by repeat (first | (with_reducible first | exact HI154.out | apply IsS101.alloc | apply IsS101.drewN | apply IsS101.drew | apply IsS101.set_1 | apply IsS101.set_2) | exact HI154.out)) (by (with_reducible repeat (first | apply Kd.R_alloc | apply Kd.R_drewN | apply Kd.R_drew)); exact HO172.out) (by decide)) hk (fun _ h => h.2)) (fun _ h => h.1)); have n1_ := Aside0.mk (Kd.R_mono (Kd.R_keep (IsS101.apart (show IsS101 w _ gb154 l0 t183 t184 from by repeat (first | (with_reducible first | exact HI154.out | apply IsS101.alloc | apply IsS101.drewN | apply IsS101.drew | apply IsS101.set_1 | apply IsS101.set_2) | exact HI154.out)) (by (with_reducible repeat (first | apply Kd.R_alloc | apply Kd.R_drewN | apply Kd.R_drew)); exact HO178.out) (by decide)) hk (fun _ h => h.2)) (fun _ h => h.1)); have n2_ := Aside0.mk (hb); have n3_ := Aside0.mk (hi); clear HO172; clear HO178; clear HB; clear HI154; have HO172 := n0_; have HO178 := n1_; have HB := n2_; have HI154 := n3_; clear n0_ n1_ n2_ n3_; (try clear hb); (try clear hb2); (try clear hk); (try clear hi)))
   refine bodyPost_ret (results_list (rs := [.tmp 2, .tmp 3, .tmp 4, .tmp 5]) rfl (by simp) (.tmp (.tmp (.tmp (.tmp .nil))))) rfl ?_
   exact ⟨by first | rfl | (simp [errW_none, errW_some] <;> rfl) | (simp [*, errW_none, errW_some] <;> rfl), by repeat (first | (with_reducible first | exact HB.out | apply below_alloc | apply pw_below_drewN | apply below_drew1 | refine below_set ?_ (IsS101.ge HI154.out)) | exact HB.out)⟩
  ·
   rw [if_neg c14] at H
   have c14b0 : (t161 == 1) = false := beq_eq_false_iff_ne.mpr c14
   have c14b1 : (t161 != 1) = true := bne_iff_ne.mpr c14
   replace H := Option.bind_eq_some_iff.mp H
   obtain ⟨⟨t188, t189, t190⟩, A330, H⟩ := H
   replace H : ((spec_l1Cur_pick.f l0 t189 t190 29).bind fun bt191 => (some (t188, bt191.1, t155, t158))) = some (r1, r2, r3, r4) := H
   have A33 := Aside0.mk A330
   clear A330
   replace H := Option.bind_eq_some_iff.mp H
   obtain ⟨⟨t191, t192, t193⟩, A340, H⟩ := H
   replace H : (some (t188, t191, t155, t158)) = some (r1, r2, r3, r4) := H
   have A34 := Aside0.mk A340
   clear A340
   simp only [Option.some.injEq, Prod.mk.injEq] at H
   obtain ⟨rfl, rfl, rfl, rfl⟩ := H
   go_enter Try.func40, Try.ntmps40
   go_wp2_with (first | ((with_reducible refine gate_dst (N := 11) rfl ?_); refine box_event ?hg (N := 11) ?hd (cs := #[.slice A0 l0.length c0, .int .i64 0, .int .u64 0]) (t := 101) ?hr ?_; (case hd => rfl); (case hg => rfl); (case hr => first | (go_simp; done) | (go_simp; rfl)); intro gb154 hg w35 hbox hb; have n0_ := Aside0.mk (below_step (bw HB.out) hb); have n1_ := Aside0.mk ((show IsS101 w w35 gb154 l0 0 0 from ⟨_, _, hbox, (by rw [hg]; exact (below_size (bw HB.out)) : w.heap.size ≤ gb154), HR0.out⟩)); have n2_ := Aside0.mk ((by rw [hg]; exact (below_size (bw HB.out)) : w.heap.size ≤ gb154)); have n3_ := Aside0.mk ((by rw [hg]; exact (below_size (bw HB.out)) : w.heap.size ≤ gb154)); clear HB; have HB := n0_; have HI154 := n1_; have GW154 := n2_; have GE154 := n3_; clear n0_ n1_ n2_ n3_; clear hb hbox hg) | ((with_reducible refine gate_callee (f := 78) rfl ?_); refine goesL_ (some 13) rfl rfl Try.func78 (by kernel_rfl) rfl #[.pointer (some ⟨gb154, 0, none⟩)] rfl ar ?_; (with_reducible refine (spec_l1Cur_word.calls k gb154 l0 0 0 t155 t156 t157 w _ ?side1 ?side2 A2.out).mono ?_); (case side1 => repeat (first | (with_reducible first | exact HI154.out | apply IsS101.alloc | apply IsS101.drewN | apply IsS101.drew | apply IsS101.set_1 | apply IsS101.set_2) | exact HI154.out)); (case side2 => repeat (first | (with_reducible first | exact HB.out | apply below_alloc | apply pw_below_drewN | apply below_drew1 | refine below_set ?_ (IsS101.ge HI154.out)) | exact HB.out)); rintro e w36 ⟨rfl, hi, hb, hk⟩; refine ⟨_, rfl, ?_⟩; have n0_ := Aside0.mk (hb); have n1_ := Aside0.mk (hi); clear HB; clear HI154; have HB := n0_; have HI154 := n1_; clear n0_ n1_; (try clear hb); (try clear hb2); (try clear hk); (try clear hi)) | ((with_reducible refine gate_callee (f := 78) rfl ?_); refine goesL_ (some 15) rfl rfl Try.func78 (by kernel_rfl) rfl #[.pointer (some ⟨gb154, 0, none⟩)] rfl ar ?_; (with_reducible refine (spec_l1Cur_word.calls k gb154 l0 t156 t157 t158 t159 t160 w _ ?side1 ?side2 A3.out).mono ?_); (case side1 => repeat (first | (with_reducible first | exact HI154.out | apply IsS101.alloc | apply IsS101.drewN | apply IsS101.drew | apply IsS101.set_1 | apply IsS101.set_2) | exact HI154.out)); (case side2 => repeat (first | (with_reducible first | exact HB.out | apply below_alloc | apply pw_below_drewN | apply below_drew1 | refine below_set ?_ (IsS101.ge HI154.out)) | exact HB.out)); rintro e w37 ⟨rfl, hi, hb, hk⟩; refine ⟨_, rfl, ?_⟩; have n0_ := Aside0.mk (hb); have n1_ := Aside0.mk (hi); clear HB; clear HI154; have HB := n0_; have HI154 := n1_; clear n0_ n1_; (try clear hb); (try clear hb2); (try clear hk); (try clear hi)) | ((with_reducible refine gate_callee (f := 77) rfl ?_); refine goesL_ (some 17) rfl rfl Try.func77 (by kernel_rfl) rfl #[.pointer (some ⟨gb154, 0, none⟩), .int .i64 8] rfl ar ?_; (with_reducible refine (spec_l1Cur_pick.calls gb154 l0 t159 t160 8 t161 t162 t163 w _ ?side1 ?side2 A4.out).mono ?_); (case side1 => repeat (first | (with_reducible first | exact HI154.out | apply IsS101.alloc | apply IsS101.drewN | apply IsS101.drew | apply IsS101.set_1 | apply IsS101.set_2) | exact HI154.out)); (case side2 => repeat (first | (with_reducible first | exact HB.out | apply below_alloc | apply pw_below_drewN | apply below_drew1 | refine below_set ?_ (IsS101.ge HI154.out)) | exact HB.out)); rintro e w38 ⟨rfl, hi, hb, hk⟩; refine ⟨_, rfl, ?_⟩; have n0_ := Aside0.mk (hb); have n1_ := Aside0.mk (hi); clear HB; clear HI154; have HB := n0_; have HI154 := n1_; clear n0_ n1_; (try clear hb); (try clear hb2); (try clear hk); (try clear hi)) | ((with_reducible refine gate_callee (f := 84) rfl ?_); refine goesL_ (some 32) rfl rfl Try.func84 (by kernel_rfl) rfl #[.pointer (some ⟨gb154, 0, none⟩)] rfl ar ?_; (with_reducible refine (spec_l1Cur_width.calls gb154 l0 t162 t163 t188 t189 t190 w _ ?side1 ?side2 A33.out).mono ?_); (case side1 => repeat (first | (with_reducible first | exact HI154.out | apply IsS101.alloc | apply IsS101.drewN | apply IsS101.drew | apply IsS101.set_1 | apply IsS101.set_2) | exact HI154.out)); (case side2 => repeat (first | (with_reducible first | exact HB.out | apply below_alloc | apply pw_below_drewN | apply below_drew1 | refine below_set ?_ (IsS101.ge HI154.out)) | exact HB.out)); rintro e w39 ⟨rfl, hi, hb, hk⟩; refine ⟨_, rfl, ?_⟩; have n0_ := Aside0.mk (hb); have n1_ := Aside0.mk (hi); clear HB; clear HI154; have HB := n0_; have HI154 := n1_; clear n0_ n1_; (try clear hb); (try clear hb2); (try clear hk); (try clear hi)) | ((with_reducible refine gate_callee (f := 77) rfl ?_); refine goesL_ (some 34) rfl rfl Try.func77 (by kernel_rfl) rfl #[.pointer (some ⟨gb154, 0, none⟩), .int .i64 29] rfl ar ?_; (with_reducible refine (spec_l1Cur_pick.calls gb154 l0 t189 t190 29 t191 t192 t193 w _ ?side1 ?side2 A34.out).mono ?_); (case side1 => repeat (first | (with_reducible first | exact HI154.out | apply IsS101.alloc | apply IsS101.drewN | apply IsS101.drew | apply IsS101.set_1 | apply IsS101.set_2) | exact HI154.out)); (case side2 => repeat (first | (with_reducible first | exact HB.out | apply below_alloc | apply pw_below_drewN | apply below_drew1 | refine below_set ?_ (IsS101.ge HI154.out)) | exact HB.out)); rintro e w40 ⟨rfl, hi, hb, hk⟩; refine ⟨_, rfl, ?_⟩; have n0_ := Aside0.mk (hb); have n1_ := Aside0.mk (hi); clear HB; clear HI154; have HB := n0_; have HI154 := n1_; clear n0_ n1_; (try clear hb); (try clear hb2); (try clear hk); (try clear hi)))
   refine bodyPost_ret (results_list (rs := [.tmp 2, .tmp 3, .tmp 4, .tmp 5]) rfl (by simp) (.tmp (.tmp (.tmp (.tmp .nil))))) rfl ?_
   exact ⟨by first | rfl | (simp [errW_none, errW_some] <;> rfl) | (simp [*, errW_none, errW_some] <;> rfl), by repeat (first | (with_reducible first | exact HB.out | apply below_alloc | apply pw_below_drewN | apply below_drew1 | refine below_set ?_ (IsS101.ge HI154.out)) | exact HB.out)⟩

end Go.Proofs.Ytdjpbhmkcamkpaa.Q

namespace Go.Proofs.Ytdjpbhmkcamkpaa.Q
open Go.RowKit Go.Proofs.YtdjpbhmkcamkpaaW.PrintWords Go.Proofs.YtdjpbhmkcamkpaaW.PrintLast Go.Proofs.YtdjpbhmkcamkpaaW.PrintMore
attribute [local go_sem] max2_int min2_int max_two min_two max_three min_three max_four min_four   -- for this text's walks alone
set_option linter.unusedVariables false
set_option linter.unusedSimpArgs false

/-! ### impl_cut: function 64 -/
def impl_cut.f (a0 : Int) (a1 : Int) : Option (Int) := if a0 = 32 then (some (Go.bits .and .u64 a1 4294967295)) else (some a1)
set_option maxHeartbeats 8000000 in
set_option maxRecDepth 100000 in
theorem impl_cut.calls (a0 : Int) (a1 : Int) (r : Int) (w : World) (h : impl_cut.f a0 a1 = some r) :
  Calls Try.prog 64 #[.int .i64 a0, .int .u64 a1] w fun e w' => e = .returned (.int .u64 r) ∧ Drawn0 w w' := by
 have H : (if a0 = 32 then (some (Go.bits .and .u64 a1 4294967295)) else (some a1)) = some r := h
 clear h
 by_cases c3 : a0 = 32
 ·
  rw [if_pos c3] at H
  have c3b0 : (a0 == 32) = true := beq_iff_eq.mpr c3
  have c3b1 : (a0 != 32) = false := bne_eq_false_iff_eq.mpr c3
  clear c3
  obtain rfl := Option.some.inj H
  simp only [Option.some.injEq, Prod.mk.injEq] at H
  obtain ⟨rfl⟩ := H
  go_enter Try.func64, Try.ntmps64
  go_wp2
  go_ret
  exact ⟨by first | rfl | (simp; done) | (simp [*]; done), by repeat (first | exact Drawn0.refl _ | apply Drawn0.step)⟩
 ·
  rw [if_neg c3] at H
  have c3b0 : (a0 == 32) = false := beq_eq_false_iff_ne.mpr c3
  have c3b1 : (a0 != 32) = true := bne_iff_ne.mpr c3
  obtain rfl := Option.some.inj H
  simp only [Option.some.injEq, Prod.mk.injEq] at H
  obtain ⟨rfl⟩ := H
  go_enter Try.func64, Try.ntmps64
  go_wp2
  go_ret
  exact ⟨by first | rfl | (simp; done) | (simp [*]; done), by repeat (first | exact Drawn0.refl _ | apply Drawn0.step)⟩

end Go.Proofs.Ytdjpbhmkcamkpaa.Q

namespace Go.Proofs.Ytdjpbhmkcamkpaa.Q
open Go.RowKit Go.Proofs.YtdjpbhmkcamkpaaW.PrintWords Go.Proofs.YtdjpbhmkcamkpaaW.PrintLast Go.Proofs.YtdjpbhmkcamkpaaW.PrintMore
attribute [local go_sem] max2_int min2_int max_two min_two max_three min_three max_four min_four   -- for this text's walks alone
set_option linter.unusedVariables false
set_option linter.unusedSimpArgs false

/-! ### impl_goodBits: function 85 -/
def impl_goodBits.f (a0 : Int) : Option (Bool) := if a0 = 32 then (some true) else (some (a0 == 64))
set_option maxHeartbeats 8000000 in
set_option maxRecDepth 100000 in
theorem impl_goodBits.calls (a0 : Int) (r : Bool) (w : World) (h : impl_goodBits.f a0 = some r) :
  Calls Try.prog 85 #[.int .i64 a0] w fun e w' => e = .returned (.bool r) ∧ Drawn0 w w' := by
 have H : (if a0 = 32 then (some true) else (some (a0 == 64))) = some r := h
 clear h
 by_cases c2 : a0 = 32
 ·
  rw [if_pos c2] at H
  have c2b0 : (a0 == 32) = true := beq_iff_eq.mpr c2
  have c2b1 : (a0 != 32) = false := bne_eq_false_iff_eq.mpr c2
  clear c2
  obtain rfl := Option.some.inj H
  simp only [Option.some.injEq, Prod.mk.injEq] at H
  obtain ⟨rfl⟩ := H
  go_enter Try.func85, Try.ntmps85
  go_wp2
  go_ret
  exact ⟨by first | rfl | (simp; done) | (simp [*]; done), by repeat (first | exact Drawn0.refl _ | apply Drawn0.step)⟩
 ·
  rw [if_neg c2] at H
  have c2b0 : (a0 == 32) = false := beq_eq_false_iff_ne.mpr c2
  have c2b1 : (a0 != 32) = true := bne_iff_ne.mpr c2
  obtain rfl := Option.some.inj H
  simp only [Option.some.injEq, Prod.mk.injEq] at H
  obtain ⟨rfl⟩ := H
  go_enter Try.func85, Try.ntmps85
  go_wp2
  go_ret
  exact ⟨by first | rfl | (simp; done) | (simp [*]; done), by repeat (first | exact Drawn0.refl _ | apply Drawn0.step)⟩

end Go.Proofs.Ytdjpbhmkcamkpaa.Q

namespace Go.Proofs.Ytdjpbhmkcamkpaa.Q
open Go.RowKit Go.Proofs.YtdjpbhmkcamkpaaW.PrintWords Go.Proofs.YtdjpbhmkcamkpaaW.PrintLast Go.Proofs.YtdjpbhmkcamkpaaW.PrintMore
attribute [local go_sem] max2_int min2_int max_two min_two max_three min_three max_four min_four   -- for this text's walks alone
set_option linter.unusedVariables false
set_option linter.unusedSimpArgs false

/-! ### impl_signed: function 87 -/
def impl_signed.f (a0 : Int) (a1 : Int) : Option (Int) := if a0 = 32 then (some (wrap64 (wrap32 (a1)))) else (some (wrap64 (a1)))
set_option maxHeartbeats 8000000 in
set_option maxRecDepth 100000 in
theorem impl_signed.calls (a0 : Int) (a1 : Int) (r : Int) (w : World) (h : impl_signed.f a0 a1 = some r) :
  Calls Try.prog 87 #[.int .i64 a0, .int .u64 a1] w fun e w' => e = .returned (.int .i64 r) ∧ Drawn0 w w' := by
 have H : (if a0 = 32 then (some (wrap64 (wrap32 (a1)))) else (some (wrap64 (a1)))) = some r := h
 clear h
 by_cases c3 : a0 = 32
 ·
  rw [if_pos c3] at H
  have c3b0 : (a0 == 32) = true := beq_iff_eq.mpr c3
  have c3b1 : (a0 != 32) = false := bne_eq_false_iff_eq.mpr c3
  clear c3
  obtain rfl := Option.some.inj H
  simp only [Option.some.injEq, Prod.mk.injEq] at H
  obtain ⟨rfl⟩ := H
  go_enter Try.func87, Try.ntmps87
  go_wp2
  go_ret
  exact ⟨by first | rfl | (simp; done) | (simp [*]; done), by repeat (first | exact Drawn0.refl _ | apply Drawn0.step)⟩
 ·
  rw [if_neg c3] at H
  have c3b0 : (a0 == 32) = false := beq_eq_false_iff_ne.mpr c3
  have c3b1 : (a0 != 32) = true := bne_iff_ne.mpr c3
  obtain rfl := Option.some.inj H
  simp only [Option.some.injEq, Prod.mk.injEq] at H
  obtain ⟨rfl⟩ := H
  go_enter Try.func87, Try.ntmps87
  go_wp2
  go_ret
  exact ⟨by first | rfl | (simp; done) | (simp [*]; done), by repeat (first | exact Drawn0.refl _ | apply Drawn0.step)⟩

end Go.Proofs.Ytdjpbhmkcamkpaa.Q

namespace Go.Proofs.Ytdjpbhmkcamkpaa.Q
open Go.RowKit Go.Proofs.YtdjpbhmkcamkpaaW.PrintWords Go.Proofs.YtdjpbhmkcamkpaaW.PrintLast Go.Proofs.YtdjpbhmkcamkpaaW.PrintMore
attribute [local go_sem] max2_int min2_int max_two min_two max_three min_three max_four min_four   -- for this text's walks alone
set_option linter.unusedVariables false
set_option linter.unusedSimpArgs false

/-! ### impl_divide: function 86 -/
mutual
def impl_divide.j0 : Nat → Int → Int → Int → Int → Bool → Option (Int × Int)
 | 0, _, _, _, _, _ => none
 | k + 1, x0, x1, x10, x11, x12 => if x1 = 4 then (impl_divide.j1 k x0 x1 x10 x11 x12 x12) else (impl_divide.j1 k x0 x1 x10 x11 x12 false)
def impl_divide.j1 : Nat → Int → Int → Int → Int → Bool → Bool → Option (Int × Int)
 | 0, _, _, _, _, _, _ => none
 | k + 1, x0, x1, x10, x11, x12, x43 => if x43 = true then (some (0, 2)) else (if x1 = 4 then (if x11 = 0 then (none) else ((impl_cut.f x0 (IntKind.u64.wrap (wrap64 (Int.tdiv x10 x11)))).bind fun t197 => (some (t197, 0)))) else (if x12 = true then (some (0, 0)) else (if x11 = 0 then (none) else ((impl_cut.f x0 (IntKind.u64.wrap (Int.tmod x10 x11))).bind fun t198 => (some (t198, 0))))))
end
def impl_divide.f (k : Nat) (a0 : Int) (a1 : Int) (a2 : Int) (a3 : Int) : Option (Int × Int) := if a3 = 0 then (some (0, 1)) else (if a1 = 5 then (some (IntKind.u64.wrap (Int.tdiv a2 a3), 0)) else (if a1 = 7 then (some (Int.tmod a2 a3, 0)) else ((impl_signed.f a0 a2).bind fun t194 => ((impl_signed.f a0 a3).bind fun t195 => (if 0 ≤ (wrap64 (a0 - 1)) then ((impl_signed.f a0 (shl .u64 1 (wrap64 (a0 - 1)))).bind fun t196 => (if t194 = t196 then (impl_divide.j0 k a0 a1 t194 t195 (t195 == (-1))) else (impl_divide.j0 k a0 a1 t194 t195 false))) else (none))))))
theorem impl_divide.mono_l : ∀ k, (∀ y0 y1 y2 y3 y4, LeO (impl_divide.j0 k y0 y1 y2 y3 y4) (impl_divide.j0 (k + 1) y0 y1 y2 y3 y4)) ∧ (∀ y0 y1 y2 y3 y4 y5, LeO (impl_divide.j1 k y0 y1 y2 y3 y4 y5) (impl_divide.j1 (k + 1) y0 y1 y2 y3 y4 y5))
 | 0 => ⟨fun _ _ _ _ _ r h => by simp [impl_divide.j0] at h, fun _ _ _ _ _ _ r h => by simp [impl_divide.j1] at h⟩
 | k + 1 => by
  obtain ⟨ih0, ih1⟩ := impl_divide.mono_l k
  refine ⟨?_, ?_⟩
  ·
   intro y0 y1 y2 y3 y4
   unfold impl_divide.j0
   repeat' first
   | (with_reducible exact ih0 _ _ _ _ _)
   | (with_reducible exact ih1 _ _ _ _ _ _)
   | (with_reducible exact LeO.refl _)
   | (with_reducible exact LeO.none _)
   | (with_reducible refine LeO.ite ?_ ?_)
   | (with_reducible refine LeO.bind ?_ (fun _ => ?_))
   | exact ih0 _ _ _ _ _
   | exact ih1 _ _ _ _ _ _
   | exact LeO.none _
   | refine LeO.ite ?_ ?_
   | refine LeO.bind ?_ (fun _ => ?_)
  ·
   intro y0 y1 y2 y3 y4 y5
   unfold impl_divide.j1
   repeat' first
   | (with_reducible exact ih0 _ _ _ _ _)
   | (with_reducible exact ih1 _ _ _ _ _ _)
   | (with_reducible exact LeO.refl _)
   | (with_reducible exact LeO.none _)
   | (with_reducible refine LeO.ite ?_ ?_)
   | (with_reducible refine LeO.bind ?_ (fun _ => ?_))
   | exact ih0 _ _ _ _ _
   | exact ih1 _ _ _ _ _ _
   | exact LeO.none _
   | refine LeO.ite ?_ ?_
   | refine LeO.bind ?_ (fun _ => ?_)
theorem impl_divide.mono : ∀ a0 a1 a2 a3 k, LeO (impl_divide.f k a0 a1 a2 a3) (impl_divide.f (k + 1) a0 a1 a2 a3) := by
 intro a0 a1 a2 a3 k
 obtain ⟨ih0, ih1⟩ := impl_divide.mono_l k
 unfold impl_divide.f
 repeat' first
   | (with_reducible exact ih0 _ _ _ _ _)
   | (with_reducible exact ih1 _ _ _ _ _ _)
   | (with_reducible exact LeO.refl _)
   | (with_reducible exact LeO.none _)
   | (with_reducible refine LeO.ite ?_ ?_)
   | (with_reducible refine LeO.bind ?_ (fun _ => ?_))
   | exact ih0 _ _ _ _ _
   | exact ih1 _ _ _ _ _ _
   | exact LeO.none _
   | refine LeO.ite ?_ ?_
   | refine LeO.bind ?_ (fun _ => ?_)
set_option maxHeartbeats 8000000 in
set_option maxRecDepth 100000 in
theorem impl_divide.calls (k : Nat) (a0 : Int) (a1 : Int) (a2 : Int) (a3 : Int) (r1 : Int) (r2 : Int) (w : World) (h : impl_divide.f k a0 a1 a2 a3 = some (r1, r2)) :
  Calls Try.prog 86 #[.int .i64 a0, .int .i64 a1, .int .u64 a2, .int .u64 a3] w fun e w' => e = .returned (.tuple #[.int .u64 r1, .int .i64 r2]) ∧ Drawn0 w w' := by
 have H : (if a3 = 0 then (some (0, 1)) else (if a1 = 5 then (some (IntKind.u64.wrap (Int.tdiv a2 a3), 0)) else (if a1 = 7 then (some (Int.tmod a2 a3, 0)) else ((impl_signed.f a0 a2).bind fun t194 => ((impl_signed.f a0 a3).bind fun t195 => (if 0 ≤ (wrap64 (a0 - 1)) then ((impl_signed.f a0 (shl .u64 1 (wrap64 (a0 - 1)))).bind fun t196 => (if t194 = t196 then (impl_divide.j0 k a0 a1 t194 t195 (t195 == (-1))) else (impl_divide.j0 k a0 a1 t194 t195 false))) else (none))))))) = some (r1, r2) := h
 clear h
 by_cases c5 : a3 = 0
 ·
  rw [if_pos c5] at H
  have c5b0 : (a3 == 0) = true := beq_iff_eq.mpr c5
  have c5b1 : (a3 != 0) = false := bne_eq_false_iff_eq.mpr c5
  clear c5
  simp only [Option.some.injEq, Prod.mk.injEq] at H
  obtain ⟨rfl, rfl⟩ := H
  go_enter Try.func86, Try.ntmps86
  go_wp2
  go_ret2
  exact ⟨by first | rfl | (simp; done) | (simp [*]; done), by repeat (first | exact Drawn0.refl _ | apply Drawn0.step)⟩
 ·
  rw [if_neg c5] at H
  have c5b0 : (a3 == 0) = false := beq_eq_false_iff_ne.mpr c5
  have c5b1 : (a3 != 0) = true := bne_iff_ne.mpr c5
  by_cases c6 : a1 = 5
  ·
   rw [if_pos c6] at H
   have c6b0 : (a1 == 5) = true := beq_iff_eq.mpr c6
   have c6b1 : (a1 != 5) = false := bne_eq_false_iff_eq.mpr c6
   clear c6
   simp only [Option.some.injEq, Prod.mk.injEq] at H
   obtain ⟨rfl, rfl⟩ := H
   go_enter Try.func86, Try.ntmps86
   go_wp2
   go_ret2
   exact ⟨by first | rfl | (simp; done) | (simp [*]; done), by repeat (first | exact Drawn0.refl _ | apply Drawn0.step)⟩
  ·
   rw [if_neg c6] at H
   have c6b0 : (a1 == 5) = false := beq_eq_false_iff_ne.mpr c6
   have c6b1 : (a1 != 5) = true := bne_iff_ne.mpr c6
   by_cases c7 : a1 = 7
   ·
    rw [if_pos c7] at H
    have c7b0 : (a1 == 7) = true := beq_iff_eq.mpr c7
    have c7b1 : (a1 != 7) = false := bne_eq_false_iff_eq.mpr c7
    clear c7
    simp only [Option.some.injEq, Prod.mk.injEq] at H
    obtain ⟨rfl, rfl⟩ := H
    go_enter Try.func86, Try.ntmps86
    go_wp2
    go_ret2
    exact ⟨by first | rfl | (simp; done) | (simp [*]; done), by repeat (first | exact Drawn0.refl _ | apply Drawn0.step)⟩
   ·
    rw [if_neg c7] at H
    have c7b0 : (a1 == 7) = false := beq_eq_false_iff_ne.mpr c7
    have c7b1 : (a1 != 7) = true := bne_iff_ne.mpr c7
    replace H := Option.bind_eq_some_iff.mp H
    obtain ⟨t194, A80, H⟩ := H
    replace H : ((impl_signed.f a0 a3).bind fun t195 => (if 0 ≤ (wrap64 (a0 - 1)) then ((impl_signed.f a0 (shl .u64 1 (wrap64 (a0 - 1)))).bind fun t196 => (if t194 = t196 then (impl_divide.j0 k a0 a1 t194 t195 (t195 == (-1))) else (impl_divide.j0 k a0 a1 t194 t195 false))) else (none))) = some (r1, r2) := H
    have A8 := Aside0.mk A80
    clear A80
    replace H := Option.bind_eq_some_iff.mp H
    obtain ⟨t195, A90, H⟩ := H
    replace H : (if 0 ≤ (wrap64 (a0 - 1)) then ((impl_signed.f a0 (shl .u64 1 (wrap64 (a0 - 1)))).bind fun t196 => (if t194 = t196 then (impl_divide.j0 k a0 a1 t194 t195 (t195 == (-1))) else (impl_divide.j0 k a0 a1 t194 t195 false))) else (none)) = some (r1, r2) := H
    have A9 := Aside0.mk A90
    clear A90
    have HC10 := Aside0.mk H
    clear H
    go_enter Try.func86, Try.ntmps86
    go_upto_region 9 with (first | ((with_reducible refine gate_callee (f := 87) rfl ?_); refine goesL_ (some 28) rfl rfl Try.func87 (by kernel_rfl) rfl #[.int .i64 a0, .int .u64 a2] rfl ar ?_; (with_reducible refine (impl_signed.calls a0 a2 t194 _ A8.out).mono ?_); rintro e w' ⟨rfl, ⟨nd, rfl⟩⟩; refine ⟨_, rfl, ?_⟩) | ((with_reducible refine gate_callee (f := 87) rfl ?_); refine goesL_ (some 31) rfl rfl Try.func87 (by kernel_rfl) rfl #[.int .i64 a0, .int .u64 a3] rfl ar ?_; (with_reducible refine (impl_signed.calls a0 a3 t195 _ A9.out).mono ?_); rintro e w' ⟨rfl, ⟨nd, rfl⟩⟩; refine ⟨_, rfl, ?_⟩))
    (try simp only [Act.put, List.setIfInBounds_toArray, List.set_cons_zero, List.set_cons_succ])
    go_cut [12] (fun v12 wc => ∃ (kq : Nat) (x12_9 : Bool), v12 = .bool x12_9 ∧ Aside0 (impl_divide.j0 kq a0 a1 t194 t195 x12_9 = some (r1, r2)) ∧ Aside0 (kq ≤ k) ∧ Drawn0 w wc)
    case first =>
     have H := HC10.out
     clear HC10
     obtain ⟨ji11, hji11⟩ : ∃ j_ : Int, (wrap64 (a0 - 1)) = j_ := ⟨_, rfl⟩
     replace H : (if 0 ≤ (ji11) then ((impl_signed.f a0 (shl .u64 1 (ji11))).bind fun t196 => (if t194 = t196 then (impl_divide.j0 k a0 a1 t194 t195 (t195 == (-1))) else (impl_divide.j0 k a0 a1 t194 t195 false))) else (none)) = some (r1, r2) := by first | (rw [hji11] at H; exact H) | (simp only [hji11] at H ⊢; exact H)
     have hji11w : (IntKind.i64.wrap (a0 - 1)) = ji11 := (i64_w _).trans hji11
     by_cases c12 : 0 ≤ (ji11)
     ·
      rw [if_pos c12] at H
      have c12b0 := eq_true c12
      have c12b1 : decide (0 ≤ (ji11)) = true := decide_eq_true c12
      clear c12
      obtain ⟨ji13, hji13⟩ : ∃ j_ : Int, (shl .u64 1 (ji11)) = j_ := ⟨_, rfl⟩
      replace H : ((impl_signed.f a0 (ji13)).bind fun t196 => (if t194 = t196 then (impl_divide.j0 k a0 a1 t194 t195 (t195 == (-1))) else (impl_divide.j0 k a0 a1 t194 t195 false))) = some (r1, r2) := by first | (rw [hji13] at H; exact H) | (simp only [hji13] at H ⊢; exact H)
      have hji13_ : (IntKind.u64.wrap (1 * 2 ^ min (ji11).toNat 64)) = ji13 := hji13
      have hji13z : (ji11) ≤ 64 → (IntKind.u64.wrap (1 * 2 ^ (ji11).toNat)) = ji13 := shl_small hji13
      have hji13u : (IntKind.u64.wrap (2 ^ min (ji11).toNat 64)) = ji13 := by have h_ := hji13_; rw [Int.one_mul] at h_; exact h_
      have hji13v : (ji11) ≤ 64 → (IntKind.u64.wrap (2 ^ (ji11).toNat)) = ji13 := fun hle_ => by have h_ := hji13z hle_; rw [Int.one_mul] at h_; exact h_
      replace H := Option.bind_eq_some_iff.mp H
      obtain ⟨t196, A140, H⟩ := H
      replace H : (if t194 = t196 then (impl_divide.j0 k a0 a1 t194 t195 (t195 == (-1))) else (impl_divide.j0 k a0 a1 t194 t195 false)) = some (r1, r2) := H
      have A14 := Aside0.mk A140
      clear A140
      by_cases c15 : t194 = t196
      ·
       rw [if_pos c15] at H
       have c15b0 : (t194 == t196) = true := beq_iff_eq.mpr c15
       have c15b1 : (t194 != t196) = false := bne_eq_false_iff_eq.mpr c15
       clear c15
       (first | rw [c15b0] | (simp only [i64_w, i32_w]; rw [c15b0]) | skip)
       have H' := Aside0.mk H
       clear H
       go_wp2_with (first | ((with_reducible refine gate_callee (f := 87) rfl ?_); refine goesL_ (some 37) rfl rfl Try.func87 (by kernel_rfl) rfl #[.int .i64 a0, .int .u64 ji13] rfl (by (try simp only [List.map_toArray, List.map_cons, List.map_nil]); first | done | (simp only [hji13]; rfl) | rfl | (simp only [List.length_drop, List.length_take]; rfl)) ?_; (with_reducible refine (impl_signed.calls a0 ji13 t196 _ A14.out).mono ?_); rintro e w' ⟨rfl, ⟨nd, rfl⟩⟩; refine ⟨_, rfl, ?_⟩))
       first | go_meet | ((simp only [← hji13]); go_meet) | ((simp only [← hji11]); go_meet) | ((simp only [← hji13, ← hji11]); go_meet)
       case rel => exact ⟨_, ((t195 == (-1))), (by first | rfl | (simp; done) | (simp [*]; done)), H', ⟨by first | omega | exact Nat.le_refl _⟩, by repeat (first | exact Drawn0.refl _ | apply Drawn0.step)⟩
      ·
       rw [if_neg c15] at H
       have c15b0 : (t194 == t196) = false := beq_eq_false_iff_ne.mpr c15
       have c15b1 : (t194 != t196) = true := bne_iff_ne.mpr c15
       (first | rw [c15b0] | (simp only [i64_w, i32_w]; rw [c15b0]) | skip)
       have H' := Aside0.mk H
       clear H
       go_wp2_with (first | ((with_reducible refine gate_callee (f := 87) rfl ?_); refine goesL_ (some 37) rfl rfl Try.func87 (by kernel_rfl) rfl #[.int .i64 a0, .int .u64 ji13] rfl (by (try simp only [List.map_toArray, List.map_cons, List.map_nil]); first | done | (simp only [hji13]; rfl) | rfl | (simp only [List.length_drop, List.length_take]; rfl)) ?_; (with_reducible refine (impl_signed.calls a0 ji13 t196 _ A14.out).mono ?_); rintro e w' ⟨rfl, ⟨nd, rfl⟩⟩; refine ⟨_, rfl, ?_⟩))
       first | go_meet | ((simp only [← hji13]); go_meet) | ((simp only [← hji11]); go_meet) | ((simp only [← hji13, ← hji11]); go_meet)
       case rel => exact ⟨_, (false), (by first | rfl | (simp; done) | (simp [*]; done)), H', ⟨by first | omega | exact Nat.le_refl _⟩, by repeat (first | exact Drawn0.refl _ | apply Drawn0.step)⟩
     ·
      rw [if_neg c12] at H
      exact absurd H (by simp)
    case rest =>
     clear HC10
     try clear c1
     try clear p2
     try clear c5
     try clear c5b0
     try clear c5b1
     try clear c6
     try clear c6b0
     try clear c6b1
     try clear p6
     try clear c7
     try clear c7b0
     try clear c7b1
     try clear c8
     try clear c12
     try clear c12b0
     try clear c12b1
     try clear c15
     try clear c15b0
     try clear c15b1
     obtain ⟨kq, x12_9, rfl, HA, HJ9, ⟨mc9, rfl⟩⟩ := hcut
     cases kq with
     | zero => exact absurd HA.out (by simp [impl_divide.j0])
     | succ kj9 =>
      have H := HA.out
      clear HA
      simp only [impl_divide.j0] at H
      have HC16 := Aside0.mk H
      clear H
      go_upto_region 10 with (fail)
      go_cut [43] (fun v43 wc => ∃ (kq : Nat) (x43_15 : Bool), v43 = .bool x43_15 ∧ Aside0 (impl_divide.j1 kq a0 a1 t194 t195 x12_9 x43_15 = some (r1, r2)) ∧ Aside0 (kq ≤ kj9) ∧ Drawn0 w wc)
      case first =>
       have H := HC16.out
       clear HC16
       by_cases c17 : a1 = 4
       ·
        rw [if_pos c17] at H
        have c17b0 : (a1 == 4) = true := beq_iff_eq.mpr c17
        have c17b1 : (a1 != 4) = false := bne_eq_false_iff_eq.mpr c17
        clear c17
        (first | rw [c17b0] | (simp only [i64_w, i32_w]; rw [c17b0]) | skip)
        have H' := Aside0.mk H
        clear H
        go_wp2
        go_meet
        case rel => exact ⟨_, (x12_9), (by first | rfl | (simp; done) | (simp [*]; done)), H', ⟨by have := HJ9.out; first | omega | exact Nat.le_refl _⟩, by repeat (first | exact Drawn0.refl _ | apply Drawn0.step)⟩
       ·
        rw [if_neg c17] at H
        have c17b0 : (a1 == 4) = false := beq_eq_false_iff_ne.mpr c17
        have c17b1 : (a1 != 4) = true := bne_iff_ne.mpr c17
        (first | rw [c17b0] | (simp only [i64_w, i32_w]; rw [c17b0]) | skip)
        have H' := Aside0.mk H
        clear H
        go_wp2
        go_meet
        case rel => exact ⟨_, (false), (by first | rfl | (simp; done) | (simp [*]; done)), H', ⟨by have := HJ9.out; first | omega | exact Nat.le_refl _⟩, by repeat (first | exact Drawn0.refl _ | apply Drawn0.step)⟩
      case rest =>
       clear HC16
       try clear c1
       try clear p2
       try clear c5
       try clear c5b0
       try clear c5b1
       try clear c6
       try clear c6b0
       try clear c6b1
       try clear p6
       try clear c7
       try clear c7b0
       try clear c7b1
       try clear c8
       try clear c9
       try clear c12
       try clear c12b0
       try clear c12b1
       try clear c15
       try clear c15b0
       try clear c15b1
       try clear c17
       try clear c17b0
       try clear c17b1
       try clear p2
       try clear p6
       obtain ⟨kq, x43_15, rfl, HA, HJ15, ⟨mc15, rfl⟩⟩ := hcut
       cases kq with
       | zero => exact absurd HA.out (by simp [impl_divide.j1])
       | succ kj15 =>
        have H := HA.out
        clear HA
        simp only [impl_divide.j1] at H
        by_cases c18 : x43_15 = true
        ·
         subst c18
         have H1 : (some (0, 2)) = some (r1, r2) := by rw [if_pos rfl] at H; exact H
         clear H
         have H := H1
         clear H1
         simp only [Option.some.injEq, Prod.mk.injEq] at H
         obtain ⟨rfl, rfl⟩ := H
         go_wp2
         go_ret2
         exact ⟨by first | rfl | (simp; done) | (simp [*]; done), by repeat (first | exact Drawn0.refl _ | apply Drawn0.step)⟩
        ·
         replace c18 := Bool.eq_false_iff.mpr c18
         subst c18
         have H1 : (if a1 = 4 then (if t195 = 0 then (none) else ((impl_cut.f a0 (IntKind.u64.wrap (wrap64 (Int.tdiv t194 t195)))).bind fun t197 => (some (t197, 0)))) else (if x12_9 = true then (some (0, 0)) else (if t195 = 0 then (none) else ((impl_cut.f a0 (IntKind.u64.wrap (Int.tmod t194 t195))).bind fun t198 => (some (t198, 0)))))) = some (r1, r2) := by rw [if_neg (show ¬ (false = true) by decide)] at H; exact H
         clear H
         have H := H1
         clear H1
         by_cases c19 : a1 = 4
         ·
          rw [if_pos c19] at H
          have c19b0 : (a1 == 4) = true := beq_iff_eq.mpr c19
          have c19b1 : (a1 != 4) = false := bne_eq_false_iff_eq.mpr c19
          clear c19
          by_cases c20 : t195 = 0
          ·
           rw [if_pos c20] at H
           exact absurd H (by simp)
          ·
           rw [if_neg c20] at H
           have c20b0 : (t195 == 0) = false := beq_eq_false_iff_ne.mpr c20
           have c20b1 : (t195 != 0) = true := bne_iff_ne.mpr c20
           replace H := Option.bind_eq_some_iff.mp H
           obtain ⟨t197, A210, H⟩ := H
           replace H : (some (t197, 0)) = some (r1, r2) := H
           have A21 := Aside0.mk A210
           clear A210
           simp only [Option.some.injEq, Prod.mk.injEq] at H
           obtain ⟨rfl, rfl⟩ := H
           go_wp2_with (first | ((with_reducible refine gate_callee (f := 64) rfl ?_); refine goesL_ (some 57) rfl rfl Try.func64 (by kernel_rfl) rfl #[.int .i64 a0, .int .u64 (IntKind.u64.wrap (wrap64 (Int.tdiv t194 t195)))] rfl ar ?_; (with_reducible refine (impl_cut.calls a0 (IntKind.u64.wrap (wrap64 (Int.tdiv t194 t195))) t197 _ A21.out).mono ?_); rintro e w' ⟨rfl, ⟨nd, rfl⟩⟩; refine ⟨_, rfl, ?_⟩))
           go_ret2
           exact ⟨by first | rfl | (simp; done) | (simp [*]; done), by repeat (first | exact Drawn0.refl _ | apply Drawn0.step)⟩
         ·
          rw [if_neg c19] at H
          have c19b0 : (a1 == 4) = false := beq_eq_false_iff_ne.mpr c19
          have c19b1 : (a1 != 4) = true := bne_iff_ne.mpr c19
          by_cases c22 : x12_9 = true
          ·
           subst c22
           have H1 : (some (0, 0)) = some (r1, r2) := by rw [if_pos rfl] at H; exact H
           clear H
           have H := H1
           clear H1
           simp only [Option.some.injEq, Prod.mk.injEq] at H
           obtain ⟨rfl, rfl⟩ := H
           go_wp2
           go_ret2
           exact ⟨by first | rfl | (simp; done) | (simp [*]; done), by repeat (first | exact Drawn0.refl _ | apply Drawn0.step)⟩
          ·
           replace c22 := Bool.eq_false_iff.mpr c22
           subst c22
           have H1 : (if t195 = 0 then (none) else ((impl_cut.f a0 (IntKind.u64.wrap (Int.tmod t194 t195))).bind fun t198 => (some (t198, 0)))) = some (r1, r2) := by rw [if_neg (show ¬ (false = true) by decide)] at H; exact H
           clear H
           have H := H1
           clear H1
           by_cases c23 : t195 = 0
           ·
            rw [if_pos c23] at H
            exact absurd H (by simp)
           ·
            rw [if_neg c23] at H
            have c23b0 : (t195 == 0) = false := beq_eq_false_iff_ne.mpr c23
            have c23b1 : (t195 != 0) = true := bne_iff_ne.mpr c23
            replace H := Option.bind_eq_some_iff.mp H
            obtain ⟨t198, A240, H⟩ := H
            replace H : (some (t198, 0)) = some (r1, r2) := H
            have A24 := Aside0.mk A240
            clear A240
            simp only [Option.some.injEq, Prod.mk.injEq] at H
            obtain ⟨rfl, rfl⟩ := H
            go_wp2_with (first | ((with_reducible refine gate_callee (f := 64) rfl ?_); refine goesL_ (some 65) rfl rfl Try.func64 (by kernel_rfl) rfl #[.int .i64 a0, .int .u64 (IntKind.u64.wrap (Int.tmod t194 t195))] rfl ar ?_; (with_reducible refine (impl_cut.calls a0 (IntKind.u64.wrap (Int.tmod t194 t195)) t198 _ A24.out).mono ?_); rintro e w' ⟨rfl, ⟨nd, rfl⟩⟩; refine ⟨_, rfl, ?_⟩))
            go_ret2
            exact ⟨by first | rfl | (simp; done) | (simp [*]; done), by repeat (first | exact Drawn0.refl _ | apply Drawn0.step)⟩

end Go.Proofs.Ytdjpbhmkcamkpaa.Q

namespace Go.Proofs.Ytdjpbhmkcamkpaa.Q
open Go.RowKit Go.Proofs.YtdjpbhmkcamkpaaW.PrintWords Go.Proofs.YtdjpbhmkcamkpaaW.PrintLast Go.Proofs.YtdjpbhmkcamkpaaW.PrintMore
attribute [local go_sem] max2_int min2_int max_two min_two max_three min_three max_four min_four   -- for this text's walks alone
set_option linter.unusedVariables false
set_option linter.unusedSimpArgs false

/-! ### bits_RotateLeft32: function 108 -/
def bits_RotateLeft32.f (a0 : Int) (a1 : Int) : Option (Int) := if 0 ≤ (Go.bits .and .u64 (IntKind.u64.wrap (a1)) 31) then (if 0 ≤ (IntKind.u64.wrap (32 - (Go.bits .and .u64 (IntKind.u64.wrap (a1)) 31))) then (some (Go.bits .or .u32 (shl .u32 a0 (Go.bits .and .u64 (IntKind.u64.wrap (a1)) 31)) (shr .u32 a0 (IntKind.u64.wrap (32 - (Go.bits .and .u64 (IntKind.u64.wrap (a1)) 31)))))) else (none)) else (none)
set_option maxHeartbeats 8000000 in
set_option maxRecDepth 100000 in
theorem bits_RotateLeft32.calls (a0 : Int) (a1 : Int) (r : Int) (w : World) (h : bits_RotateLeft32.f a0 a1 = some r) :
  Calls Try.prog 108 #[.int .u32 a0, .int .i64 a1] w fun e w' => e = .returned (.int .u32 r) ∧ Drawn0 w w' := by
 have H : (if 0 ≤ (Go.bits .and .u64 (IntKind.u64.wrap (a1)) 31) then (if 0 ≤ (IntKind.u64.wrap (32 - (Go.bits .and .u64 (IntKind.u64.wrap (a1)) 31))) then (some (Go.bits .or .u32 (shl .u32 a0 (Go.bits .and .u64 (IntKind.u64.wrap (a1)) 31)) (shr .u32 a0 (IntKind.u64.wrap (32 - (Go.bits .and .u64 (IntKind.u64.wrap (a1)) 31)))))) else (none)) else (none)) = some r := h
 clear h
 obtain ⟨ji3, hji3⟩ : ∃ j_ : Int, (Go.bits .and .u64 (IntKind.u64.wrap (a1)) 31) = j_ := ⟨_, rfl⟩
 replace H : (if 0 ≤ (ji3) then (if 0 ≤ (IntKind.u64.wrap (32 - (ji3))) then (some (Go.bits .or .u32 (shl .u32 a0 (ji3)) (shr .u32 a0 (IntKind.u64.wrap (32 - (ji3)))))) else (none)) else (none)) = some r := by first | (rw [hji3] at H; exact H) | (simp only [hji3] at H ⊢; exact H)
 by_cases c4 : 0 ≤ (ji3)
 ·
  rw [if_pos c4] at H
  have c4b0 := eq_true c4
  have c4b1 : decide (0 ≤ (ji3)) = true := decide_eq_true c4
  clear c4
  obtain ⟨ji5, hji5⟩ : ∃ j_ : Int, (shl .u32 a0 (ji3)) = j_ := ⟨_, rfl⟩
  replace H : (if 0 ≤ (IntKind.u64.wrap (32 - (ji3))) then (some (Go.bits .or .u32 (ji5) (shr .u32 a0 (IntKind.u64.wrap (32 - (ji3)))))) else (none)) = some r := by first | (rw [hji5] at H; exact H) | (simp only [hji5] at H ⊢; exact H)
  have hji5_ : (IntKind.u32.wrap (a0 * 2 ^ min (ji3).toNat 32)) = ji5 := hji5
  have hji5z : (ji3) ≤ 32 → (IntKind.u32.wrap (a0 * 2 ^ (ji3).toNat)) = ji5 := shl_small hji5
  obtain ⟨ji6, hji6⟩ : ∃ j_ : Int, (IntKind.u64.wrap (32 - (ji3))) = j_ := ⟨_, rfl⟩
  replace H : (if 0 ≤ (ji6) then (some (Go.bits .or .u32 (ji5) (shr .u32 a0 (ji6)))) else (none)) = some r := by first | (rw [hji6] at H; exact H) | (simp only [hji6] at H ⊢; exact H)
  by_cases c7 : 0 ≤ (ji6)
  ·
   rw [if_pos c7] at H
   have c7b0 := eq_true c7
   have c7b1 : decide (0 ≤ (ji6)) = true := decide_eq_true c7
   clear c7
   obtain ⟨ji8, hji8⟩ : ∃ j_ : Int, (shr .u32 a0 (ji6)) = j_ := ⟨_, rfl⟩
   replace H : (some (Go.bits .or .u32 (ji5) (ji8))) = some r := by first | (rw [hji8] at H; exact H) | (simp only [hji8] at H ⊢; exact H)
   have hji8_ : (a0 / 2 ^ min (ji6).toNat 32) = ji8 := hji8
   have hji8z : (ji6) ≤ 32 → (a0 / 2 ^ (ji6).toNat) = ji8 := shr_small hji8
   obtain rfl := Option.some.inj H
   simp only [Option.some.injEq, Prod.mk.injEq] at H
   obtain ⟨rfl⟩ := H
   go_enter Try.func108, Try.ntmps108
   go_wp2
   go_ret
   exact ⟨by first | rfl | (simp; done) | (simp only [← hji3, ← hji5, ← hji6, ← hji8] <;> (first | rfl | simp)) | (simp [*]; done), by repeat (first | exact Drawn0.refl _ | apply Drawn0.step)⟩
  ·
   rw [if_neg c7] at H
   exact absurd H (by simp)
 ·
  rw [if_neg c4] at H
  exact absurd H (by simp)

end Go.Proofs.Ytdjpbhmkcamkpaa.Q

namespace Go.Proofs.Ytdjpbhmkcamkpaa.Q
open Go.RowKit Go.Proofs.YtdjpbhmkcamkpaaW.PrintWords Go.Proofs.YtdjpbhmkcamkpaaW.PrintLast Go.Proofs.YtdjpbhmkcamkpaaW.PrintMore
attribute [local go_sem] max2_int min2_int max_two min_two max_three min_three max_four min_four   -- for this text's walks alone
set_option linter.unusedVariables false
set_option linter.unusedSimpArgs false

/-! ### bits_RotateLeft64: function 109 -/
def bits_RotateLeft64.f (a0 : Int) (a1 : Int) : Option (Int) := if 0 ≤ (Go.bits .and .u64 (IntKind.u64.wrap (a1)) 63) then (if 0 ≤ (IntKind.u64.wrap (64 - (Go.bits .and .u64 (IntKind.u64.wrap (a1)) 63))) then (some (Go.bits .or .u64 (shl .u64 a0 (Go.bits .and .u64 (IntKind.u64.wrap (a1)) 63)) (shr .u64 a0 (IntKind.u64.wrap (64 - (Go.bits .and .u64 (IntKind.u64.wrap (a1)) 63)))))) else (none)) else (none)
set_option maxHeartbeats 8000000 in
set_option maxRecDepth 100000 in
theorem bits_RotateLeft64.calls (a0 : Int) (a1 : Int) (r : Int) (w : World) (h : bits_RotateLeft64.f a0 a1 = some r) :
  Calls Try.prog 109 #[.int .u64 a0, .int .i64 a1] w fun e w' => e = .returned (.int .u64 r) ∧ Drawn0 w w' := by
 have H : (if 0 ≤ (Go.bits .and .u64 (IntKind.u64.wrap (a1)) 63) then (if 0 ≤ (IntKind.u64.wrap (64 - (Go.bits .and .u64 (IntKind.u64.wrap (a1)) 63))) then (some (Go.bits .or .u64 (shl .u64 a0 (Go.bits .and .u64 (IntKind.u64.wrap (a1)) 63)) (shr .u64 a0 (IntKind.u64.wrap (64 - (Go.bits .and .u64 (IntKind.u64.wrap (a1)) 63)))))) else (none)) else (none)) = some r := h
 clear h
 obtain ⟨ji3, hji3⟩ : ∃ j_ : Int, (Go.bits .and .u64 (IntKind.u64.wrap (a1)) 63) = j_ := ⟨_, rfl⟩
 replace H : (if 0 ≤ (ji3) then (if 0 ≤ (IntKind.u64.wrap (64 - (ji3))) then (some (Go.bits .or .u64 (shl .u64 a0 (ji3)) (shr .u64 a0 (IntKind.u64.wrap (64 - (ji3)))))) else (none)) else (none)) = some r := by first | (rw [hji3] at H; exact H) | (simp only [hji3] at H ⊢; exact H)
 by_cases c4 : 0 ≤ (ji3)
 ·
  rw [if_pos c4] at H
  have c4b0 := eq_true c4
  have c4b1 : decide (0 ≤ (ji3)) = true := decide_eq_true c4
  clear c4
  obtain ⟨ji5, hji5⟩ : ∃ j_ : Int, (shl .u64 a0 (ji3)) = j_ := ⟨_, rfl⟩
  replace H : (if 0 ≤ (IntKind.u64.wrap (64 - (ji3))) then (some (Go.bits .or .u64 (ji5) (shr .u64 a0 (IntKind.u64.wrap (64 - (ji3)))))) else (none)) = some r := by first | (rw [hji5] at H; exact H) | (simp only [hji5] at H ⊢; exact H)
  have hji5_ : (IntKind.u64.wrap (a0 * 2 ^ min (ji3).toNat 64)) = ji5 := hji5
  have hji5z : (ji3) ≤ 64 → (IntKind.u64.wrap (a0 * 2 ^ (ji3).toNat)) = ji5 := shl_small hji5
  obtain ⟨ji6, hji6⟩ : ∃ j_ : Int, (IntKind.u64.wrap (64 - (ji3))) = j_ := ⟨_, rfl⟩
  replace H : (if 0 ≤ (ji6) then (some (Go.bits .or .u64 (ji5) (shr .u64 a0 (ji6)))) else (none)) = some r := by first | (rw [hji6] at H; exact H) | (simp only [hji6] at H ⊢; exact H)
  by_cases c7 : 0 ≤ (ji6)
  ·
   rw [if_pos c7] at H
   have c7b0 := eq_true c7
   have c7b1 : decide (0 ≤ (ji6)) = true := decide_eq_true c7
   clear c7
   obtain ⟨ji8, hji8⟩ : ∃ j_ : Int, (shr .u64 a0 (ji6)) = j_ := ⟨_, rfl⟩
   replace H : (some (Go.bits .or .u64 (ji5) (ji8))) = some r := by first | (rw [hji8] at H; exact H) | (simp only [hji8] at H ⊢; exact H)
   have hji8_ : (a0 / 2 ^ min (ji6).toNat 64) = ji8 := hji8
   have hji8z : (ji6) ≤ 64 → (a0 / 2 ^ (ji6).toNat) = ji8 := shr_small hji8
   obtain rfl := Option.some.inj H
   simp only [Option.some.injEq, Prod.mk.injEq] at H
   obtain ⟨rfl⟩ := H
   go_enter Try.func109, Try.ntmps109
   go_wp2
   go_ret
   exact ⟨by first | rfl | (simp; done) | (simp only [← hji3, ← hji5, ← hji6, ← hji8] <;> (first | rfl | simp)) | (simp [*]; done), by repeat (first | exact Drawn0.refl _ | apply Drawn0.step)⟩
  ·
   rw [if_neg c7] at H
   exact absurd H (by simp)
 ·
  rw [if_neg c4] at H
  exact absurd H (by simp)

end Go.Proofs.Ytdjpbhmkcamkpaa.Q

namespace Go.Proofs.Ytdjpbhmkcamkpaa.Q
open Go.RowKit Go.Proofs.YtdjpbhmkcamkpaaW.PrintWords Go.Proofs.YtdjpbhmkcamkpaaW.PrintLast Go.Proofs.YtdjpbhmkcamkpaaW.PrintMore
attribute [local go_sem] max2_int min2_int max_two min_two max_three min_three max_four min_four   -- for this text's walks alone
set_option linter.unusedVariables false
set_option linter.unusedSimpArgs false

/-! ### impl_rotl: function 88 -/
def impl_rotl.f (a0 : Int) (a1 : Int) (a2 : Int) : Option (Int) := if a0 = 32 then ((bits_RotateLeft32.f ((a1) % 4294967296) a2).bind fun t199 => (some (IntKind.u64.wrap (t199)))) else ((bits_RotateLeft64.f a1 a2).bind fun t200 => (some t200))
set_option maxHeartbeats 8000000 in
set_option maxRecDepth 100000 in
theorem impl_rotl.calls (a0 : Int) (a1 : Int) (a2 : Int) (r : Int) (w : World) (h : impl_rotl.f a0 a1 a2 = some r) :
  Calls Try.prog 88 #[.int .i64 a0, .int .u64 a1, .int .i64 a2] w fun e w' => e = .returned (.int .u64 r) ∧ Drawn0 w w' := by
 have H : (if a0 = 32 then ((bits_RotateLeft32.f ((a1) % 4294967296) a2).bind fun t199 => (some (IntKind.u64.wrap (t199)))) else ((bits_RotateLeft64.f a1 a2).bind fun t200 => (some t200))) = some r := h
 clear h
 by_cases c4 : a0 = 32
 ·
  rw [if_pos c4] at H
  have c4b0 : (a0 == 32) = true := beq_iff_eq.mpr c4
  have c4b1 : (a0 != 32) = false := bne_eq_false_iff_eq.mpr c4
  clear c4
  replace H := Option.bind_eq_some_iff.mp H
  obtain ⟨t199, A50, H⟩ := H
  replace H : (some (IntKind.u64.wrap (t199))) = some r := H
  have A5 := Aside0.mk A50
  clear A50
  obtain rfl := Option.some.inj H
  simp only [Option.some.injEq, Prod.mk.injEq] at H
  obtain ⟨rfl⟩ := H
  go_enter Try.func88, Try.ntmps88
  go_wp2_with (first | ((with_reducible refine gate_callee (f := 108) rfl ?_); refine goesL_ (some 12) rfl rfl Try.func108 (by kernel_rfl) rfl #[.int .u32 ((a1) % 4294967296), .int .i64 a2] rfl (by (try simp only [List.map_toArray, List.map_cons, List.map_nil]); first | done | rfl | (simp only [List.length_drop, List.length_take]; rfl) | (go_simp; simp only [IntKind.wrap_u32, IntKind.wrap_u8]; done)) ?_; (with_reducible refine (bits_RotateLeft32.calls ((a1) % 4294967296) a2 t199 _ A5.out).mono ?_); rintro e w' ⟨rfl, ⟨nd, rfl⟩⟩; refine ⟨_, rfl, ?_⟩))
  go_ret
  exact ⟨by first | rfl | (simp; done) | (simp [*]; done), by repeat (first | exact Drawn0.refl _ | apply Drawn0.step)⟩
 ·
  rw [if_neg c4] at H
  have c4b0 : (a0 == 32) = false := beq_eq_false_iff_ne.mpr c4
  have c4b1 : (a0 != 32) = true := bne_iff_ne.mpr c4
  replace H := Option.bind_eq_some_iff.mp H
  obtain ⟨t200, A60, H⟩ := H
  replace H : (some t200) = some r := H
  have A6 := Aside0.mk A60
  clear A60
  obtain rfl := Option.some.inj H
  simp only [Option.some.injEq, Prod.mk.injEq] at H
  obtain ⟨rfl⟩ := H
  go_enter Try.func88, Try.ntmps88
  go_wp2_with (first | ((with_reducible refine gate_callee (f := 109) rfl ?_); refine goesL_ (some 16) rfl rfl Try.func109 (by kernel_rfl) rfl #[.int .u64 a1, .int .i64 a2] rfl ar ?_; (with_reducible refine (bits_RotateLeft64.calls a1 a2 t200 _ A6.out).mono ?_); rintro e w' ⟨rfl, ⟨nd, rfl⟩⟩; refine ⟨_, rfl, ?_⟩))
  go_ret
  exact ⟨by first | rfl | (simp; done) | (simp [*]; done), by repeat (first | exact Drawn0.refl _ | apply Drawn0.step)⟩

end Go.Proofs.Ytdjpbhmkcamkpaa.Q

namespace Go.Proofs.Ytdjpbhmkcamkpaa.Q
open Go.RowKit Go.Proofs.YtdjpbhmkcamkpaaW.PrintWords Go.Proofs.YtdjpbhmkcamkpaaW.PrintLast Go.Proofs.YtdjpbhmkcamkpaaW.PrintMore
attribute [local go_sem] max2_int min2_int max_two min_two max_three min_three max_four min_four   -- for this text's walks alone
set_option linter.unusedVariables false
set_option linter.unusedSimpArgs false

/-! ### impl_truth: function 110 -/
def impl_truth.f (a0 : Bool) : Option (Int) := if a0 = true then (some 1) else (some 0)
set_option maxHeartbeats 8000000 in
set_option maxRecDepth 100000 in
theorem impl_truth.calls (a0 : Bool) (r : Int) (w : World) (h : impl_truth.f a0 = some r) :
  Calls Try.prog 110 #[.bool a0] w fun e w' => e = .returned (.int .u64 r) ∧ Drawn0 w w' := by
 have H : (if a0 = true then (some 1) else (some 0)) = some r := h
 clear h
 by_cases c2 : a0 = true
 ·
  subst c2
  have H1 : (some 1) = some r := by rw [if_pos rfl] at H; exact H
  clear H
  have H := H1
  clear H1
  obtain rfl := Option.some.inj H
  simp only [Option.some.injEq, Prod.mk.injEq] at H
  obtain ⟨rfl⟩ := H
  go_enter Try.func110, Try.ntmps110
  go_wp2
  go_ret
  exact ⟨by first | rfl | (simp; done) | (simp [*]; done), by repeat (first | exact Drawn0.refl _ | apply Drawn0.step)⟩
 ·
  replace c2 := Bool.eq_false_iff.mpr c2
  subst c2
  have H1 : (some 0) = some r := by rw [if_neg (show ¬ (false = true) by decide)] at H; exact H
  clear H
  have H := H1
  clear H1
  obtain rfl := Option.some.inj H
  simp only [Option.some.injEq, Prod.mk.injEq] at H
  obtain ⟨rfl⟩ := H
  go_enter Try.func110, Try.ntmps110
  go_wp2
  go_ret
  exact ⟨by first | rfl | (simp; done) | (simp [*]; done), by repeat (first | exact Drawn0.refl _ | apply Drawn0.step)⟩

end Go.Proofs.Ytdjpbhmkcamkpaa.Q

namespace Go.Proofs.Ytdjpbhmkcamkpaa.Q
open Go.RowKit Go.Proofs.YtdjpbhmkcamkpaaW.PrintWords Go.Proofs.YtdjpbhmkcamkpaaW.PrintLast Go.Proofs.YtdjpbhmkcamkpaaW.PrintMore
attribute [local go_sem] max2_int min2_int max_two min_two max_three min_three max_four min_four   -- for this text's walks alone
set_option linter.unusedVariables false
set_option linter.unusedSimpArgs false

/-! ### impl_compare: function 89 -/
def impl_compare.f (a0 : Int) (a1 : Int) (a2 : Int) (a3 : Int) : Option (Int) := (impl_signed.f a0 a2).bind fun t201 => ((impl_signed.f a0 a3).bind fun t202 => (if a1 = 16 then ((impl_truth.f (a2 == a3)).bind fun t203 => (some t203)) else (if a1 = 17 then ((impl_truth.f (a2 != a3)).bind fun t204 => (some t204)) else (if a1 = 18 then ((impl_truth.f (decide (t201 < t202))).bind fun t205 => (some t205)) else (if a1 = 19 then ((impl_truth.f (decide (a2 < a3))).bind fun t206 => (some t206)) else (if a1 = 20 then ((impl_truth.f (decide (t201 > t202))).bind fun t207 => (some t207)) else ((impl_truth.f (decide (a2 > a3))).bind fun t208 => (some t208))))))))
set_option maxHeartbeats 8000000 in
set_option maxRecDepth 100000 in
theorem impl_compare.calls (a0 : Int) (a1 : Int) (a2 : Int) (a3 : Int) (r : Int) (w : World) (h : impl_compare.f a0 a1 a2 a3 = some r) :
  Calls Try.prog 89 #[.int .i64 a0, .int .i64 a1, .int .u64 a2, .int .u64 a3] w fun e w' => e = .returned (.int .u64 r) ∧ Drawn0 w w' := by
 have H : ((impl_signed.f a0 a2).bind fun t201 => ((impl_signed.f a0 a3).bind fun t202 => (if a1 = 16 then ((impl_truth.f (a2 == a3)).bind fun t203 => (some t203)) else (if a1 = 17 then ((impl_truth.f (a2 != a3)).bind fun t204 => (some t204)) else (if a1 = 18 then ((impl_truth.f (decide (t201 < t202))).bind fun t205 => (some t205)) else (if a1 = 19 then ((impl_truth.f (decide (a2 < a3))).bind fun t206 => (some t206)) else (if a1 = 20 then ((impl_truth.f (decide (t201 > t202))).bind fun t207 => (some t207)) else ((impl_truth.f (decide (a2 > a3))).bind fun t208 => (some t208))))))))) = some r := h
 clear h
 replace H := Option.bind_eq_some_iff.mp H
 obtain ⟨t201, A50, H⟩ := H
 replace H : ((impl_signed.f a0 a3).bind fun t202 => (if a1 = 16 then ((impl_truth.f (a2 == a3)).bind fun t203 => (some t203)) else (if a1 = 17 then ((impl_truth.f (a2 != a3)).bind fun t204 => (some t204)) else (if a1 = 18 then ((impl_truth.f (decide (t201 < t202))).bind fun t205 => (some t205)) else (if a1 = 19 then ((impl_truth.f (decide (a2 < a3))).bind fun t206 => (some t206)) else (if a1 = 20 then ((impl_truth.f (decide (t201 > t202))).bind fun t207 => (some t207)) else ((impl_truth.f (decide (a2 > a3))).bind fun t208 => (some t208)))))))) = some r := H
 have A5 := Aside0.mk A50
 clear A50
 replace H := Option.bind_eq_some_iff.mp H
 obtain ⟨t202, A60, H⟩ := H
 replace H : (if a1 = 16 then ((impl_truth.f (a2 == a3)).bind fun t203 => (some t203)) else (if a1 = 17 then ((impl_truth.f (a2 != a3)).bind fun t204 => (some t204)) else (if a1 = 18 then ((impl_truth.f (decide (t201 < t202))).bind fun t205 => (some t205)) else (if a1 = 19 then ((impl_truth.f (decide (a2 < a3))).bind fun t206 => (some t206)) else (if a1 = 20 then ((impl_truth.f (decide (t201 > t202))).bind fun t207 => (some t207)) else ((impl_truth.f (decide (a2 > a3))).bind fun t208 => (some t208))))))) = some r := H
 have A6 := Aside0.mk A60
 clear A60
 by_cases c7 : a1 = 16
 ·
  rw [if_pos c7] at H
  have c7b0 : (a1 == 16) = true := beq_iff_eq.mpr c7
  have c7b1 : (a1 != 16) = false := bne_eq_false_iff_eq.mpr c7
  clear c7
  replace H := Option.bind_eq_some_iff.mp H
  obtain ⟨t203, A80, H⟩ := H
  replace H : (some t203) = some r := H
  have A8 := Aside0.mk A80
  clear A80
  obtain rfl := Option.some.inj H
  simp only [Option.some.injEq, Prod.mk.injEq] at H
  obtain ⟨rfl⟩ := H
  go_enter Try.func89, Try.ntmps89
  go_wp2_with (first | ((with_reducible refine gate_callee (f := 87) rfl ?_); refine goesL_ (some 13) rfl rfl Try.func87 (by kernel_rfl) rfl #[.int .i64 a0, .int .u64 a2] rfl ar ?_; (with_reducible refine (impl_signed.calls a0 a2 t201 _ A5.out).mono ?_); rintro e w' ⟨rfl, ⟨nd, rfl⟩⟩; refine ⟨_, rfl, ?_⟩) | ((with_reducible refine gate_callee (f := 87) rfl ?_); refine goesL_ (some 16) rfl rfl Try.func87 (by kernel_rfl) rfl #[.int .i64 a0, .int .u64 a3] rfl ar ?_; (with_reducible refine (impl_signed.calls a0 a3 t202 _ A6.out).mono ?_); rintro e w' ⟨rfl, ⟨nd, rfl⟩⟩; refine ⟨_, rfl, ?_⟩) | ((with_reducible refine gate_callee (f := 110) rfl ?_); refine goesL_ (some 23) rfl rfl Try.func110 (by kernel_rfl) rfl #[.bool (a2 == a3)] rfl ar ?_; (with_reducible refine (impl_truth.calls (a2 == a3) t203 _ A8.out).mono ?_); rintro e w' ⟨rfl, ⟨nd, rfl⟩⟩; refine ⟨_, rfl, ?_⟩))
  go_ret
  exact ⟨by first | rfl | (simp; done) | (simp [*]; done), by repeat (first | exact Drawn0.refl _ | apply Drawn0.step)⟩
 ·
  rw [if_neg c7] at H
  have c7b0 : (a1 == 16) = false := beq_eq_false_iff_ne.mpr c7
  have c7b1 : (a1 != 16) = true := bne_iff_ne.mpr c7
  by_cases c9 : a1 = 17
  ·
   rw [if_pos c9] at H
   have c9b0 : (a1 == 17) = true := beq_iff_eq.mpr c9
   have c9b1 : (a1 != 17) = false := bne_eq_false_iff_eq.mpr c9
   clear c9
   replace H := Option.bind_eq_some_iff.mp H
   obtain ⟨t204, A100, H⟩ := H
   replace H : (some t204) = some r := H
   have A10 := Aside0.mk A100
   clear A100
   obtain rfl := Option.some.inj H
   simp only [Option.some.injEq, Prod.mk.injEq] at H
   obtain ⟨rfl⟩ := H
   go_enter Try.func89, Try.ntmps89
   go_wp2_with (first | ((with_reducible refine gate_callee (f := 87) rfl ?_); refine goesL_ (some 13) rfl rfl Try.func87 (by kernel_rfl) rfl #[.int .i64 a0, .int .u64 a2] rfl ar ?_; (with_reducible refine (impl_signed.calls a0 a2 t201 _ A5.out).mono ?_); rintro e w' ⟨rfl, ⟨nd, rfl⟩⟩; refine ⟨_, rfl, ?_⟩) | ((with_reducible refine gate_callee (f := 87) rfl ?_); refine goesL_ (some 16) rfl rfl Try.func87 (by kernel_rfl) rfl #[.int .i64 a0, .int .u64 a3] rfl ar ?_; (with_reducible refine (impl_signed.calls a0 a3 t202 _ A6.out).mono ?_); rintro e w' ⟨rfl, ⟨nd, rfl⟩⟩; refine ⟨_, rfl, ?_⟩) | ((with_reducible refine gate_callee (f := 110) rfl ?_); refine goesL_ (some 29) rfl rfl Try.func110 (by kernel_rfl) rfl #[.bool (a2 != a3)] rfl ar ?_; (with_reducible refine (impl_truth.calls (a2 != a3) t204 _ A10.out).mono ?_); rintro e w' ⟨rfl, ⟨nd, rfl⟩⟩; refine ⟨_, rfl, ?_⟩))
   go_ret
   exact ⟨by first | rfl | (simp; done) | (simp [*]; done), by repeat (first | exact Drawn0.refl _ | apply Drawn0.step)⟩
  ·
   rw [if_neg c9] at H
   have c9b0 : (a1 == 17) = false := beq_eq_false_iff_ne.mpr c9
   have c9b1 : (a1 != 17) = true := bne_iff_ne.mpr c9
   by_cases c11 : a1 = 18
   ·
    rw [if_pos c11] at H
    have c11b0 : (a1 == 18) = true := beq_iff_eq.mpr c11
    have c11b1 : (a1 != 18) = false := bne_eq_false_iff_eq.mpr c11
    clear c11
    replace H := Option.bind_eq_some_iff.mp H
    obtain ⟨t205, A120, H⟩ := H
    replace H : (some t205) = some r := H
    have A12 := Aside0.mk A120
    clear A120
    obtain rfl := Option.some.inj H
    simp only [Option.some.injEq, Prod.mk.injEq] at H
    obtain ⟨rfl⟩ := H
    go_enter Try.func89, Try.ntmps89
    go_wp2_with (first | ((with_reducible refine gate_callee (f := 87) rfl ?_); refine goesL_ (some 13) rfl rfl Try.func87 (by kernel_rfl) rfl #[.int .i64 a0, .int .u64 a2] rfl ar ?_; (with_reducible refine (impl_signed.calls a0 a2 t201 _ A5.out).mono ?_); rintro e w' ⟨rfl, ⟨nd, rfl⟩⟩; refine ⟨_, rfl, ?_⟩) | ((with_reducible refine gate_callee (f := 87) rfl ?_); refine goesL_ (some 16) rfl rfl Try.func87 (by kernel_rfl) rfl #[.int .i64 a0, .int .u64 a3] rfl ar ?_; (with_reducible refine (impl_signed.calls a0 a3 t202 _ A6.out).mono ?_); rintro e w' ⟨rfl, ⟨nd, rfl⟩⟩; refine ⟨_, rfl, ?_⟩) | ((with_reducible refine gate_callee (f := 110) rfl ?_); refine goesL_ (some 35) rfl rfl Try.func110 (by kernel_rfl) rfl #[.bool (decide (t201 < t202))] rfl ar ?_; (with_reducible refine (impl_truth.calls (decide (t201 < t202)) t205 _ A12.out).mono ?_); rintro e w' ⟨rfl, ⟨nd, rfl⟩⟩; refine ⟨_, rfl, ?_⟩))
    go_ret
    exact ⟨by first | rfl | (simp; done) | (simp [*]; done), by repeat (first | exact Drawn0.refl _ | apply Drawn0.step)⟩
   ·
    rw [if_neg c11] at H
    have c11b0 : (a1 == 18) = false := beq_eq_false_iff_ne.mpr c11
    have c11b1 : (a1 != 18) = true := bne_iff_ne.mpr c11
    by_cases c13 : a1 = 19
    ·
     rw [if_pos c13] at H
     have c13b0 : (a1 == 19) = true := beq_iff_eq.mpr c13
     have c13b1 : (a1 != 19) = false := bne_eq_false_iff_eq.mpr c13
     clear c13
     replace H := Option.bind_eq_some_iff.mp H
     obtain ⟨t206, A140, H⟩ := H
     replace H : (some t206) = some r := H
     have A14 := Aside0.mk A140
     clear A140
     obtain rfl := Option.some.inj H
     simp only [Option.some.injEq, Prod.mk.injEq] at H
     obtain ⟨rfl⟩ := H
     go_enter Try.func89, Try.ntmps89
     go_wp2_with (first | ((with_reducible refine gate_callee (f := 87) rfl ?_); refine goesL_ (some 13) rfl rfl Try.func87 (by kernel_rfl) rfl #[.int .i64 a0, .int .u64 a2] rfl ar ?_; (with_reducible refine (impl_signed.calls a0 a2 t201 _ A5.out).mono ?_); rintro e w' ⟨rfl, ⟨nd, rfl⟩⟩; refine ⟨_, rfl, ?_⟩) | ((with_reducible refine gate_callee (f := 87) rfl ?_); refine goesL_ (some 16) rfl rfl Try.func87 (by kernel_rfl) rfl #[.int .i64 a0, .int .u64 a3] rfl ar ?_; (with_reducible refine (impl_signed.calls a0 a3 t202 _ A6.out).mono ?_); rintro e w' ⟨rfl, ⟨nd, rfl⟩⟩; refine ⟨_, rfl, ?_⟩) | ((with_reducible refine gate_callee (f := 110) rfl ?_); refine goesL_ (some 41) rfl rfl Try.func110 (by kernel_rfl) rfl #[.bool (decide (a2 < a3))] rfl ar ?_; (with_reducible refine (impl_truth.calls (decide (a2 < a3)) t206 _ A14.out).mono ?_); rintro e w' ⟨rfl, ⟨nd, rfl⟩⟩; refine ⟨_, rfl, ?_⟩))
     go_ret
     exact ⟨by first | rfl | (simp; done) | (simp [*]; done), by repeat (first | exact Drawn0.refl _ | apply Drawn0.step)⟩
    ·
     rw [if_neg c13] at H
     have c13b0 : (a1 == 19) = false := beq_eq_false_iff_ne.mpr c13
     have c13b1 : (a1 != 19) = true := bne_iff_ne.mpr c13
     by_cases c15 : a1 = 20
     ·
      rw [if_pos c15] at H
      have c15b0 : (a1 == 20) = true := beq_iff_eq.mpr c15
      have c15b1 : (a1 != 20) = false := bne_eq_false_iff_eq.mpr c15
      clear c15
      replace H := Option.bind_eq_some_iff.mp H
      obtain ⟨t207, A160, H⟩ := H
      replace H : (some t207) = some r := H
      have A16 := Aside0.mk A160
      clear A160
      obtain rfl := Option.some.inj H
      simp only [Option.some.injEq, Prod.mk.injEq] at H
      obtain ⟨rfl⟩ := H
      go_enter Try.func89, Try.ntmps89
      go_wp2_with (first | ((with_reducible refine gate_callee (f := 87) rfl ?_); refine goesL_ (some 13) rfl rfl Try.func87 (by kernel_rfl) rfl #[.int .i64 a0, .int .u64 a2] rfl ar ?_; (with_reducible refine (impl_signed.calls a0 a2 t201 _ A5.out).mono ?_); rintro e w' ⟨rfl, ⟨nd, rfl⟩⟩; refine ⟨_, rfl, ?_⟩) | ((with_reducible refine gate_callee (f := 87) rfl ?_); refine goesL_ (some 16) rfl rfl Try.func87 (by kernel_rfl) rfl #[.int .i64 a0, .int .u64 a3] rfl ar ?_; (with_reducible refine (impl_signed.calls a0 a3 t202 _ A6.out).mono ?_); rintro e w' ⟨rfl, ⟨nd, rfl⟩⟩; refine ⟨_, rfl, ?_⟩) | ((with_reducible refine gate_callee (f := 110) rfl ?_); refine goesL_ (some 47) rfl rfl Try.func110 (by kernel_rfl) rfl #[.bool (decide (t201 > t202))] rfl ar ?_; (with_reducible refine (impl_truth.calls (decide (t201 > t202)) t207 _ A16.out).mono ?_); rintro e w' ⟨rfl, ⟨nd, rfl⟩⟩; refine ⟨_, rfl, ?_⟩))
      go_ret
      exact ⟨by first | rfl | (simp; done) | (simp [*]; done), by repeat (first | exact Drawn0.refl _ | apply Drawn0.step)⟩
     ·
      rw [if_neg c15] at H
      have c15b0 : (a1 == 20) = false := beq_eq_false_iff_ne.mpr c15
      have c15b1 : (a1 != 20) = true := bne_iff_ne.mpr c15
      replace H := Option.bind_eq_some_iff.mp H
      obtain ⟨t208, A170, H⟩ := H
      replace H : (some t208) = some r := H
      have A17 := Aside0.mk A170
      clear A170
      obtain rfl := Option.some.inj H
      simp only [Option.some.injEq, Prod.mk.injEq] at H
      obtain ⟨rfl⟩ := H
      go_enter Try.func89, Try.ntmps89
      go_wp2_with (first | ((with_reducible refine gate_callee (f := 87) rfl ?_); refine goesL_ (some 13) rfl rfl Try.func87 (by kernel_rfl) rfl #[.int .i64 a0, .int .u64 a2] rfl ar ?_; (with_reducible refine (impl_signed.calls a0 a2 t201 _ A5.out).mono ?_); rintro e w' ⟨rfl, ⟨nd, rfl⟩⟩; refine ⟨_, rfl, ?_⟩) | ((with_reducible refine gate_callee (f := 87) rfl ?_); refine goesL_ (some 16) rfl rfl Try.func87 (by kernel_rfl) rfl #[.int .i64 a0, .int .u64 a3] rfl ar ?_; (with_reducible refine (impl_signed.calls a0 a3 t202 _ A6.out).mono ?_); rintro e w' ⟨rfl, ⟨nd, rfl⟩⟩; refine ⟨_, rfl, ?_⟩) | ((with_reducible refine gate_callee (f := 110) rfl ?_); refine goesL_ (some 51) rfl rfl Try.func110 (by kernel_rfl) rfl #[.bool (decide (a2 > a3))] rfl ar ?_; (with_reducible refine (impl_truth.calls (decide (a2 > a3)) t208 _ A17.out).mono ?_); rintro e w' ⟨rfl, ⟨nd, rfl⟩⟩; refine ⟨_, rfl, ?_⟩))
      go_ret
      exact ⟨by first | rfl | (simp; done) | (simp [*]; done), by repeat (first | exact Drawn0.refl _ | apply Drawn0.step)⟩

end Go.Proofs.Ytdjpbhmkcamkpaa.Q

namespace Go.Proofs.Ytdjpbhmkcamkpaa.Q
open Go.RowKit Go.Proofs.YtdjpbhmkcamkpaaW.PrintWords Go.Proofs.YtdjpbhmkcamkpaaW.PrintLast Go.Proofs.YtdjpbhmkcamkpaaW.PrintMore
attribute [local go_sem] max2_int min2_int max_two min_two max_three min_three max_four min_four   -- for this text's walks alone
set_option linter.unusedVariables false
set_option linter.unusedSimpArgs false

/-! ### impl_Binary: function 41 -/
mutual
def impl_Binary.j0 : Nat → Int → Int → Int → Int → Bool → Option (Int × Int)
 | 0, _, _, _, _, _ => none
 | k + 1, x0, x1, x2, x3, x21 => if x21 = true then (some (0, 3)) else ((impl_cut.f x0 x2).bind fun t210 => ((impl_cut.f x0 x3).bind fun t211 => (if (IntKind.u64.wrap (x0)) = 0 then (none) else (if x1 = 1 then ((impl_cut.f x0 (IntKind.u64.wrap (t210 + t211))).bind fun t212 => (some (t212, 0))) else (if x1 = 2 then ((impl_cut.f x0 (IntKind.u64.wrap (t210 - t211))).bind fun t213 => (some (t213, 0))) else (if x1 = 3 then ((impl_cut.f x0 (IntKind.u64.wrap (t210 * t211))).bind fun t214 => (some (t214, 0))) else (if x1 = 4 then (impl_Binary.j1 k x0 x1 t210 t211 (wrap64 (Int.tmod t211 (IntKind.u64.wrap (x0)))) x1 (x1 == 4)) else (if x1 = 5 then (impl_Binary.j1 k x0 x1 t210 t211 (wrap64 (Int.tmod t211 (IntKind.u64.wrap (x0)))) x1 (x1 == 5)) else (if x1 = 6 then (impl_Binary.j1 k x0 x1 t210 t211 (wrap64 (Int.tmod t211 (IntKind.u64.wrap (x0)))) x1 (x1 == 6)) else (impl_Binary.j1 k x0 x1 t210 t211 (wrap64 (Int.tmod t211 (IntKind.u64.wrap (x0)))) x1 (x1 == 7)))))))))))
def impl_Binary.j1 : Nat → Int → Int → Int → Int → Int → Int → Bool → Option (Int × Int)
 | 0, _, _, _, _, _, _, _ => none
 | k + 1, x0, x1, x2, x3, x10, x33, x55 => if x55 = true then ((impl_divide.f k x0 x1 x2 x3).bind fun bt215 => (some (bt215.1, bt215.2))) else (if x33 = 8 then (some (Go.bits .and .u64 x2 x3, 0)) else (if x33 = 9 then (some (Go.bits .or .u64 x2 x3, 0)) else (if x33 = 10 then (some (Go.bits .xor .u64 x2 x3, 0)) else (if x33 = 11 then (if 0 ≤ x10 then ((impl_cut.f x0 (shl .u64 x2 x10)).bind fun t217 => (some (t217, 0))) else (none)) else (if x33 = 12 then ((impl_signed.f x0 x2).bind fun t218 => (if 0 ≤ x10 then ((impl_cut.f x0 (IntKind.u64.wrap (shr .i64 t218 x10))).bind fun t219 => (some (t219, 0))) else (none))) else (if x33 = 13 then (if 0 ≤ x10 then (some (shr .u64 x2 x10, 0)) else (none)) else (if x33 = 14 then ((impl_rotl.f x0 x2 x10).bind fun t220 => (some (t220, 0))) else (if x33 = 15 then ((impl_rotl.f x0 x2 (wrap64 (-x10))).bind fun t221 => (some (t221, 0))) else ((impl_compare.f x0 x1 x2 x3).bind fun t222 => (some (t222, 0)))))))))))
end
def impl_Binary.f (k : Nat) (a0 : Int) (a1 : Int) (a2 : Int) (a3 : Int) : Option (Int × Int) := (impl_goodBits.f a0).bind fun t209 => (if t209 = true then (if a1 < 1 then (impl_Binary.j0 k a0 a1 a2 a3 true) else (impl_Binary.j0 k a0 a1 a2 a3 (decide (a1 > 21)))) else (impl_Binary.j0 k a0 a1 a2 a3 true))
theorem impl_Binary.mono_l : ∀ k, (∀ y0 y1 y2 y3 y4, LeO (impl_Binary.j0 k y0 y1 y2 y3 y4) (impl_Binary.j0 (k + 1) y0 y1 y2 y3 y4)) ∧ (∀ y0 y1 y2 y3 y4 y5 y6, LeO (impl_Binary.j1 k y0 y1 y2 y3 y4 y5 y6) (impl_Binary.j1 (k + 1) y0 y1 y2 y3 y4 y5 y6))
 | 0 => ⟨fun _ _ _ _ _ r h => by simp [impl_Binary.j0] at h, fun _ _ _ _ _ _ _ r h => by simp [impl_Binary.j1] at h⟩
 | k + 1 => by
  obtain ⟨ih0, ih1⟩ := impl_Binary.mono_l k
  refine ⟨?_, ?_⟩
  ·
   intro y0 y1 y2 y3 y4
   unfold impl_Binary.j0
   repeat' first
   | (with_reducible exact ih0 _ _ _ _ _)
   | (with_reducible exact ih1 _ _ _ _ _ _ _)
   | (with_reducible exact impl_divide.mono _ _ _ _ _)
   | (with_reducible exact LeO.refl _)
   | (with_reducible exact LeO.none _)
   | (with_reducible refine LeO.ite ?_ ?_)
   | (with_reducible refine LeO.bind ?_ (fun _ => ?_))
   | exact ih0 _ _ _ _ _
   | exact ih1 _ _ _ _ _ _ _
   | exact impl_divide.mono _ _ _ _ _
   | exact LeO.none _
   | refine LeO.ite ?_ ?_
   | refine LeO.bind ?_ (fun _ => ?_)
  ·
   intro y0 y1 y2 y3 y4 y5 y6
   unfold impl_Binary.j1
   repeat' first
   | (with_reducible exact ih0 _ _ _ _ _)
   | (with_reducible exact ih1 _ _ _ _ _ _ _)
   | (with_reducible exact impl_divide.mono _ _ _ _ _)
   | (with_reducible exact LeO.refl _)
   | (with_reducible exact LeO.none _)
   | (with_reducible refine LeO.ite ?_ ?_)
   | (with_reducible refine LeO.bind ?_ (fun _ => ?_))
   | exact ih0 _ _ _ _ _
   | exact ih1 _ _ _ _ _ _ _
   | exact impl_divide.mono _ _ _ _ _
   | exact LeO.none _
   | refine LeO.ite ?_ ?_
   | refine LeO.bind ?_ (fun _ => ?_)
theorem impl_Binary.mono : ∀ a0 a1 a2 a3 k, LeO (impl_Binary.f k a0 a1 a2 a3) (impl_Binary.f (k + 1) a0 a1 a2 a3) := by
 intro a0 a1 a2 a3 k
 obtain ⟨ih0, ih1⟩ := impl_Binary.mono_l k
 unfold impl_Binary.f
 repeat' first
   | (with_reducible exact ih0 _ _ _ _ _)
   | (with_reducible exact ih1 _ _ _ _ _ _ _)
   | (with_reducible exact impl_divide.mono _ _ _ _ _)
   | (with_reducible exact LeO.refl _)
   | (with_reducible exact LeO.none _)
   | (with_reducible refine LeO.ite ?_ ?_)
   | (with_reducible refine LeO.bind ?_ (fun _ => ?_))
   | exact ih0 _ _ _ _ _
   | exact ih1 _ _ _ _ _ _ _
   | exact impl_divide.mono _ _ _ _ _
   | exact LeO.none _
   | refine LeO.ite ?_ ?_
   | refine LeO.bind ?_ (fun _ => ?_)
set_option maxHeartbeats 8000000 in
set_option maxRecDepth 100000 in
theorem impl_Binary.calls (k : Nat) (a0 : Int) (a1 : Int) (a2 : Int) (a3 : Int) (r1 : Int) (r2 : Int) (w : World) (h : impl_Binary.f k a0 a1 a2 a3 = some (r1, r2)) :
  Calls Try.prog 41 #[.int .i64 a0, .int .i64 a1, .int .u64 a2, .int .u64 a3] w fun e w' => e = .returned (.tuple #[.int .u64 r1, .int .i64 r2]) ∧ Drawn0 w w' := by
 have H : ((impl_goodBits.f a0).bind fun t209 => (if t209 = true then (if a1 < 1 then (impl_Binary.j0 k a0 a1 a2 a3 true) else (impl_Binary.j0 k a0 a1 a2 a3 (decide (a1 > 21)))) else (impl_Binary.j0 k a0 a1 a2 a3 true))) = some (r1, r2) := h
 clear h
 have HC5 := Aside0.mk H
 clear H
 go_enter Try.func41, Try.ntmps41
 go_upto_region 1 with (fail)
 go_cut [21] (fun v21 wc => ∃ (kq : Nat) (x21_4 : Bool), v21 = .bool x21_4 ∧ Aside0 (impl_Binary.j0 kq a0 a1 a2 a3 x21_4 = some (r1, r2)) ∧ Aside0 (kq ≤ k) ∧ Drawn0 w wc)
 case first =>
  have H := HC5.out
  clear HC5
  replace H := Option.bind_eq_some_iff.mp H
  obtain ⟨t209, A60, H⟩ := H
  replace H : (if t209 = true then (if a1 < 1 then (impl_Binary.j0 k a0 a1 a2 a3 true) else (impl_Binary.j0 k a0 a1 a2 a3 (decide (a1 > 21)))) else (impl_Binary.j0 k a0 a1 a2 a3 true)) = some (r1, r2) := H
  have A6 := Aside0.mk A60
  clear A60
  by_cases c7 : t209 = true
  ·
   subst c7
   have H1 : (if a1 < 1 then (impl_Binary.j0 k a0 a1 a2 a3 true) else (impl_Binary.j0 k a0 a1 a2 a3 (decide (a1 > 21)))) = some (r1, r2) := by rw [if_pos rfl] at H; exact H
   clear H
   have H := H1
   clear H1
   by_cases c8 : a1 < 1
   ·
    rw [if_pos c8] at H
    have c8b0 : decide (a1 < 1) = true := decide_eq_true c8
    clear c8
    (first | rw [c8b0] | (simp only [i64_w, i32_w]; rw [c8b0]) | skip)
    have H' := Aside0.mk H
    clear H
    go_wp2_with (first | ((with_reducible refine gate_callee (f := 85) rfl ?_); refine goesL_ (some 12) rfl rfl Try.func85 (by kernel_rfl) rfl #[.int .i64 a0] rfl ar ?_; (with_reducible refine (impl_goodBits.calls a0 true _ A6.out).mono ?_); rintro e w' ⟨rfl, ⟨nd, rfl⟩⟩; refine ⟨_, rfl, ?_⟩))
    go_meet
    case rel => exact ⟨_, (true), (by first | rfl | (simp; done) | (simp [*]; done)), H', ⟨by first | omega | exact Nat.le_refl _⟩, by repeat (first | exact Drawn0.refl _ | apply Drawn0.step)⟩
   ·
    rw [if_neg c8] at H
    have c8b0 : decide (a1 < 1) = false := decide_eq_false c8
    clear c8
    (first | rw [c8b0] | (simp only [i64_w, i32_w]; rw [c8b0]) | skip)
    have H' := Aside0.mk H
    clear H
    go_wp2_with (first | ((with_reducible refine gate_callee (f := 85) rfl ?_); refine goesL_ (some 12) rfl rfl Try.func85 (by kernel_rfl) rfl #[.int .i64 a0] rfl ar ?_; (with_reducible refine (impl_goodBits.calls a0 true _ A6.out).mono ?_); rintro e w' ⟨rfl, ⟨nd, rfl⟩⟩; refine ⟨_, rfl, ?_⟩))
    go_meet
    case rel => exact ⟨_, (decide (a1 > 21)), (by first | rfl | (simp; done) | (simp [*]; done)), H', ⟨by first | omega | exact Nat.le_refl _⟩, by repeat (first | exact Drawn0.refl _ | apply Drawn0.step)⟩
  ·
   replace c7 := Bool.eq_false_iff.mpr c7
   subst c7
   have H1 : (impl_Binary.j0 k a0 a1 a2 a3 true) = some (r1, r2) := by rw [if_neg (show ¬ (false = true) by decide)] at H; exact H
   clear H
   have H := H1
   clear H1
   have H' := Aside0.mk H
   clear H
   go_wp2_with (first | ((with_reducible refine gate_callee (f := 85) rfl ?_); refine goesL_ (some 12) rfl rfl Try.func85 (by kernel_rfl) rfl #[.int .i64 a0] rfl ar ?_; (with_reducible refine (impl_goodBits.calls a0 false _ A6.out).mono ?_); rintro e w' ⟨rfl, ⟨nd, rfl⟩⟩; refine ⟨_, rfl, ?_⟩))
   go_meet
   case rel => exact ⟨_, (true), (by first | rfl | (simp; done) | (simp [*]; done)), H', ⟨by first | omega | exact Nat.le_refl _⟩, by repeat (first | exact Drawn0.refl _ | apply Drawn0.step)⟩
 case rest =>
  clear HC5
  try clear p2
  try clear c4
  try clear c7
  try clear c8
  try clear c8b0
  obtain ⟨kq, x21_4, rfl, HA, HJ4, ⟨mc4, rfl⟩⟩ := hcut
  cases kq with
  | zero => exact absurd HA.out (by simp [impl_Binary.j0])
  | succ kj4 =>
   have H := HA.out
   clear HA
   simp only [impl_Binary.j0] at H
   by_cases c9 : x21_4 = true
   ·
    subst c9
    have H1 : (some (0, 3)) = some (r1, r2) := by rw [if_pos rfl] at H; exact H
    clear H
    have H := H1
    clear H1
    simp only [Option.some.injEq, Prod.mk.injEq] at H
    obtain ⟨rfl, rfl⟩ := H
    go_wp2
    go_ret2
    exact ⟨by first | rfl | (simp; done) | (simp [*]; done), by repeat (first | exact Drawn0.refl _ | apply Drawn0.step)⟩
   ·
    replace c9 := Bool.eq_false_iff.mpr c9
    subst c9
    have H1 : ((impl_cut.f a0 a2).bind fun t210 => ((impl_cut.f a0 a3).bind fun t211 => (if (IntKind.u64.wrap (a0)) = 0 then (none) else (if a1 = 1 then ((impl_cut.f a0 (IntKind.u64.wrap (t210 + t211))).bind fun t212 => (some (t212, 0))) else (if a1 = 2 then ((impl_cut.f a0 (IntKind.u64.wrap (t210 - t211))).bind fun t213 => (some (t213, 0))) else (if a1 = 3 then ((impl_cut.f a0 (IntKind.u64.wrap (t210 * t211))).bind fun t214 => (some (t214, 0))) else (if a1 = 4 then (impl_Binary.j1 kj4 a0 a1 t210 t211 (wrap64 (Int.tmod t211 (IntKind.u64.wrap (a0)))) a1 (a1 == 4)) else (if a1 = 5 then (impl_Binary.j1 kj4 a0 a1 t210 t211 (wrap64 (Int.tmod t211 (IntKind.u64.wrap (a0)))) a1 (a1 == 5)) else (if a1 = 6 then (impl_Binary.j1 kj4 a0 a1 t210 t211 (wrap64 (Int.tmod t211 (IntKind.u64.wrap (a0)))) a1 (a1 == 6)) else (impl_Binary.j1 kj4 a0 a1 t210 t211 (wrap64 (Int.tmod t211 (IntKind.u64.wrap (a0)))) a1 (a1 == 7))))))))))) = some (r1, r2) := by rw [if_neg (show ¬ (false = true) by decide)] at H; exact H
    clear H
    have H := H1
    clear H1
    replace H := Option.bind_eq_some_iff.mp H
    obtain ⟨t210, A100, H⟩ := H
    replace H : ((impl_cut.f a0 a3).bind fun t211 => (if (IntKind.u64.wrap (a0)) = 0 then (none) else (if a1 = 1 then ((impl_cut.f a0 (IntKind.u64.wrap (t210 + t211))).bind fun t212 => (some (t212, 0))) else (if a1 = 2 then ((impl_cut.f a0 (IntKind.u64.wrap (t210 - t211))).bind fun t213 => (some (t213, 0))) else (if a1 = 3 then ((impl_cut.f a0 (IntKind.u64.wrap (t210 * t211))).bind fun t214 => (some (t214, 0))) else (if a1 = 4 then (impl_Binary.j1 kj4 a0 a1 t210 t211 (wrap64 (Int.tmod t211 (IntKind.u64.wrap (a0)))) a1 (a1 == 4)) else (if a1 = 5 then (impl_Binary.j1 kj4 a0 a1 t210 t211 (wrap64 (Int.tmod t211 (IntKind.u64.wrap (a0)))) a1 (a1 == 5)) else (if a1 = 6 then (impl_Binary.j1 kj4 a0 a1 t210 t211 (wrap64 (Int.tmod t211 (IntKind.u64.wrap (a0)))) a1 (a1 == 6)) else (impl_Binary.j1 kj4 a0 a1 t210 t211 (wrap64 (Int.tmod t211 (IntKind.u64.wrap (a0)))) a1 (a1 == 7)))))))))) = some (r1, r2) := H
    have A10 := Aside0.mk A100
    clear A100
    replace H := Option.bind_eq_some_iff.mp H
    obtain ⟨t211, A110, H⟩ := H
    replace H : (if (IntKind.u64.wrap (a0)) = 0 then (none) else (if a1 = 1 then ((impl_cut.f a0 (IntKind.u64.wrap (t210 + t211))).bind fun t212 => (some (t212, 0))) else (if a1 = 2 then ((impl_cut.f a0 (IntKind.u64.wrap (t210 - t211))).bind fun t213 => (some (t213, 0))) else (if a1 = 3 then ((impl_cut.f a0 (IntKind.u64.wrap (t210 * t211))).bind fun t214 => (some (t214, 0))) else (if a1 = 4 then (impl_Binary.j1 kj4 a0 a1 t210 t211 (wrap64 (Int.tmod t211 (IntKind.u64.wrap (a0)))) a1 (a1 == 4)) else (if a1 = 5 then (impl_Binary.j1 kj4 a0 a1 t210 t211 (wrap64 (Int.tmod t211 (IntKind.u64.wrap (a0)))) a1 (a1 == 5)) else (if a1 = 6 then (impl_Binary.j1 kj4 a0 a1 t210 t211 (wrap64 (Int.tmod t211 (IntKind.u64.wrap (a0)))) a1 (a1 == 6)) else (impl_Binary.j1 kj4 a0 a1 t210 t211 (wrap64 (Int.tmod t211 (IntKind.u64.wrap (a0)))) a1 (a1 == 7))))))))) = some (r1, r2) := H
    have A11 := Aside0.mk A110
    clear A110
    by_cases c12 : (IntKind.u64.wrap (a0)) = 0
    ·
     rw [if_pos c12] at H
     exact absurd H (by simp)
    ·
     rw [if_neg c12] at H
     have c12b0 : ((IntKind.u64.wrap (a0)) == 0) = false := beq_eq_false_iff_ne.mpr c12
     have c12b1 : ((IntKind.u64.wrap (a0)) != 0) = true := bne_iff_ne.mpr c12
     by_cases c13 : a1 = 1
     ·
      rw [if_pos c13] at H
      have c13b0 : (a1 == 1) = true := beq_iff_eq.mpr c13
      have c13b1 : (a1 != 1) = false := bne_eq_false_iff_eq.mpr c13
      clear c13
      replace H := Option.bind_eq_some_iff.mp H
      obtain ⟨t212, A140, H⟩ := H
      replace H : (some (t212, 0)) = some (r1, r2) := H
      have A14 := Aside0.mk A140
      clear A140
      simp only [Option.some.injEq, Prod.mk.injEq] at H
      obtain ⟨rfl, rfl⟩ := H
      go_wp2_with (first | ((with_reducible refine gate_callee (f := 64) rfl ?_); refine goesL_ (some 24) rfl rfl Try.func64 (by kernel_rfl) rfl #[.int .i64 a0, .int .u64 a2] rfl ar ?_; (with_reducible refine (impl_cut.calls a0 a2 t210 _ A10.out).mono ?_); rintro e w' ⟨rfl, ⟨nd, rfl⟩⟩; refine ⟨_, rfl, ?_⟩) | ((with_reducible refine gate_callee (f := 64) rfl ?_); refine goesL_ (some 27) rfl rfl Try.func64 (by kernel_rfl) rfl #[.int .i64 a0, .int .u64 a3] rfl ar ?_; (with_reducible refine (impl_cut.calls a0 a3 t211 _ A11.out).mono ?_); rintro e w' ⟨rfl, ⟨nd, rfl⟩⟩; refine ⟨_, rfl, ?_⟩) | ((with_reducible refine gate_callee (f := 64) rfl ?_); refine goesL_ (some 40) rfl rfl Try.func64 (by kernel_rfl) rfl #[.int .i64 a0, .int .u64 (IntKind.u64.wrap (t210 + t211))] rfl ar ?_; (with_reducible refine (impl_cut.calls a0 (IntKind.u64.wrap (t210 + t211)) t212 _ A14.out).mono ?_); rintro e w' ⟨rfl, ⟨nd, rfl⟩⟩; refine ⟨_, rfl, ?_⟩))
      go_ret2
      exact ⟨by first | rfl | (simp; done) | (simp [*]; done), by repeat (first | exact Drawn0.refl _ | apply Drawn0.step)⟩
     ·
      rw [if_neg c13] at H
      have c13b0 : (a1 == 1) = false := beq_eq_false_iff_ne.mpr c13
      have c13b1 : (a1 != 1) = true := bne_iff_ne.mpr c13
      by_cases c15 : a1 = 2
      ·
       rw [if_pos c15] at H
       have c15b0 : (a1 == 2) = true := beq_iff_eq.mpr c15
       have c15b1 : (a1 != 2) = false := bne_eq_false_iff_eq.mpr c15
       clear c15
       replace H := Option.bind_eq_some_iff.mp H
       obtain ⟨t213, A160, H⟩ := H
       replace H : (some (t213, 0)) = some (r1, r2) := H
       have A16 := Aside0.mk A160
       clear A160
       simp only [Option.some.injEq, Prod.mk.injEq] at H
       obtain ⟨rfl, rfl⟩ := H
       go_wp2_with (first | ((with_reducible refine gate_callee (f := 64) rfl ?_); refine goesL_ (some 24) rfl rfl Try.func64 (by kernel_rfl) rfl #[.int .i64 a0, .int .u64 a2] rfl ar ?_; (with_reducible refine (impl_cut.calls a0 a2 t210 _ A10.out).mono ?_); rintro e w' ⟨rfl, ⟨nd, rfl⟩⟩; refine ⟨_, rfl, ?_⟩) | ((with_reducible refine gate_callee (f := 64) rfl ?_); refine goesL_ (some 27) rfl rfl Try.func64 (by kernel_rfl) rfl #[.int .i64 a0, .int .u64 a3] rfl ar ?_; (with_reducible refine (impl_cut.calls a0 a3 t211 _ A11.out).mono ?_); rintro e w' ⟨rfl, ⟨nd, rfl⟩⟩; refine ⟨_, rfl, ?_⟩) | ((with_reducible refine gate_callee (f := 64) rfl ?_); refine goesL_ (some 47) rfl rfl Try.func64 (by kernel_rfl) rfl #[.int .i64 a0, .int .u64 (IntKind.u64.wrap (t210 - t211))] rfl ar ?_; (with_reducible refine (impl_cut.calls a0 (IntKind.u64.wrap (t210 - t211)) t213 _ A16.out).mono ?_); rintro e w' ⟨rfl, ⟨nd, rfl⟩⟩; refine ⟨_, rfl, ?_⟩))
       go_ret2
       exact ⟨by first | rfl | (simp; done) | (simp [*]; done), by repeat (first | exact Drawn0.refl _ | apply Drawn0.step)⟩
      ·
       rw [if_neg c15] at H
       have c15b0 : (a1 == 2) = false := beq_eq_false_iff_ne.mpr c15
       have c15b1 : (a1 != 2) = true := bne_iff_ne.mpr c15
       by_cases c17 : a1 = 3
       ·
        rw [if_pos c17] at H
        have c17b0 : (a1 == 3) = true := beq_iff_eq.mpr c17
        have c17b1 : (a1 != 3) = false := bne_eq_false_iff_eq.mpr c17
        clear c17
        replace H := Option.bind_eq_some_iff.mp H
        obtain ⟨t214, A180, H⟩ := H
        replace H : (some (t214, 0)) = some (r1, r2) := H
        have A18 := Aside0.mk A180
        clear A180
        simp only [Option.some.injEq, Prod.mk.injEq] at H
        obtain ⟨rfl, rfl⟩ := H
        go_wp2_with (first | ((with_reducible refine gate_callee (f := 64) rfl ?_); refine goesL_ (some 24) rfl rfl Try.func64 (by kernel_rfl) rfl #[.int .i64 a0, .int .u64 a2] rfl ar ?_; (with_reducible refine (impl_cut.calls a0 a2 t210 _ A10.out).mono ?_); rintro e w' ⟨rfl, ⟨nd, rfl⟩⟩; refine ⟨_, rfl, ?_⟩) | ((with_reducible refine gate_callee (f := 64) rfl ?_); refine goesL_ (some 27) rfl rfl Try.func64 (by kernel_rfl) rfl #[.int .i64 a0, .int .u64 a3] rfl ar ?_; (with_reducible refine (impl_cut.calls a0 a3 t211 _ A11.out).mono ?_); rintro e w' ⟨rfl, ⟨nd, rfl⟩⟩; refine ⟨_, rfl, ?_⟩) | ((with_reducible refine gate_callee (f := 64) rfl ?_); refine goesL_ (some 54) rfl rfl Try.func64 (by kernel_rfl) rfl #[.int .i64 a0, .int .u64 (IntKind.u64.wrap (t210 * t211))] rfl ar ?_; (with_reducible refine (impl_cut.calls a0 (IntKind.u64.wrap (t210 * t211)) t214 _ A18.out).mono ?_); rintro e w' ⟨rfl, ⟨nd, rfl⟩⟩; refine ⟨_, rfl, ?_⟩))
        go_ret2
        exact ⟨by first | rfl | (simp; done) | (simp [*]; done), by repeat (first | exact Drawn0.refl _ | apply Drawn0.step)⟩
       ·
        rw [if_neg c17] at H
        have c17b0 : (a1 == 3) = false := beq_eq_false_iff_ne.mpr c17
        have c17b1 : (a1 != 3) = true := bne_iff_ne.mpr c17
        have HC19 := Aside0.mk H
        clear H
        go_upto_if 55 with (first | ((with_reducible refine gate_callee (f := 64) rfl ?_); refine goesL_ (some 24) rfl rfl Try.func64 (by kernel_rfl) rfl #[.int .i64 a0, .int .u64 a2] rfl ar ?_; (with_reducible refine (impl_cut.calls a0 a2 t210 _ A10.out).mono ?_); rintro e w' ⟨rfl, ⟨nd, rfl⟩⟩; refine ⟨_, rfl, ?_⟩) | ((with_reducible refine gate_callee (f := 64) rfl ?_); refine goesL_ (some 27) rfl rfl Try.func64 (by kernel_rfl) rfl #[.int .i64 a0, .int .u64 a3] rfl ar ?_; (with_reducible refine (impl_cut.calls a0 a3 t211 _ A11.out).mono ?_); rintro e w' ⟨rfl, ⟨nd, rfl⟩⟩; refine ⟨_, rfl, ?_⟩))
        (try simp only [Act.put, List.setIfInBounds_toArray, List.set_cons_zero, List.set_cons_succ])
        go_cut [55] (fun v55 wc => ∃ (kq : Nat) (x55_18 : Bool), v55 = .bool x55_18 ∧ Aside0 (impl_Binary.j1 kq a0 a1 t210 t211 (wrap64 (Int.tmod t211 (IntKind.u64.wrap (a0)))) a1 x55_18 = some (r1, r2)) ∧ Aside0 (kq ≤ kj4) ∧ Drawn0 w wc)
        case first =>
         have H := HC19.out
         clear HC19
         by_cases c20 : a1 = 4
         ·
          rw [if_pos c20] at H
          have c20b0 : (a1 == 4) = true := beq_iff_eq.mpr c20
          have c20b1 : (a1 != 4) = false := bne_eq_false_iff_eq.mpr c20
          clear c20
          (first | rw [c20b0] | (simp only [i64_w, i32_w]; rw [c20b0]) | skip)
          have H' := Aside0.mk H
          clear H
          go_wp2
          go_meet
          case rel => exact ⟨_, ((a1 == 4)), (by first | rfl | (simp; done) | (simp [*]; done)), H', ⟨by have := HJ4.out; first | omega | exact Nat.le_refl _⟩, by repeat (first | exact Drawn0.refl _ | apply Drawn0.step)⟩
         ·
          rw [if_neg c20] at H
          have c20b0 : (a1 == 4) = false := beq_eq_false_iff_ne.mpr c20
          have c20b1 : (a1 != 4) = true := bne_iff_ne.mpr c20
          (first | rw [c20b0] | (simp only [i64_w, i32_w]; rw [c20b0]) | skip)
          by_cases c21 : a1 = 5
          ·
           rw [if_pos c21] at H
           have c21b0 : (a1 == 5) = true := beq_iff_eq.mpr c21
           have c21b1 : (a1 != 5) = false := bne_eq_false_iff_eq.mpr c21
           clear c21
           have H' := Aside0.mk H
           clear H
           go_wp2
           go_meet
           case rel => exact ⟨_, ((a1 == 5)), (by first | rfl | (simp; done) | (simp [*]; done)), H', ⟨by have := HJ4.out; first | omega | exact Nat.le_refl _⟩, by repeat (first | exact Drawn0.refl _ | apply Drawn0.step)⟩
          ·
           rw [if_neg c21] at H
           have c21b0 : (a1 == 5) = false := beq_eq_false_iff_ne.mpr c21
           have c21b1 : (a1 != 5) = true := bne_iff_ne.mpr c21
           by_cases c22 : a1 = 6
           ·
            rw [if_pos c22] at H
            have c22b0 : (a1 == 6) = true := beq_iff_eq.mpr c22
            have c22b1 : (a1 != 6) = false := bne_eq_false_iff_eq.mpr c22
            clear c22
            have H' := Aside0.mk H
            clear H
            go_wp2
            go_meet
            case rel => exact ⟨_, ((a1 == 6)), (by first | rfl | (simp; done) | (simp [*]; done)), H', ⟨by have := HJ4.out; first | omega | exact Nat.le_refl _⟩, by repeat (first | exact Drawn0.refl _ | apply Drawn0.step)⟩
           ·
            rw [if_neg c22] at H
            have c22b0 : (a1 == 6) = false := beq_eq_false_iff_ne.mpr c22
            have c22b1 : (a1 != 6) = true := bne_iff_ne.mpr c22
            have H' := Aside0.mk H
            clear H
            go_wp2
            go_meet
            case rel => exact ⟨_, ((a1 == 7)), (by first | rfl | (simp; done) | (simp [*]; done)), H', ⟨by have := HJ4.out; first | omega | exact Nat.le_refl _⟩, by repeat (first | exact Drawn0.refl _ | apply Drawn0.step)⟩
        case rest =>
         clear HC19
         try clear c1
         try clear c2
         try clear p2
         try clear c4
         try clear c6
         try clear p6
         try clear c7
         try clear c8
         try clear c8b0
         try clear c9
         try clear c12
         try clear c12b0
         try clear c12b1
         try clear c13
         try clear c13b0
         try clear c13b1
         try clear c15
         try clear c15b0
         try clear c15b1
         try clear c17
         try clear c17b0
         try clear c17b1
         try clear c20
         try clear c20b0
         try clear c20b1
         try clear c21
         try clear c21b0
         try clear c21b1
         try clear c22
         try clear c22b0
         try clear c22b1
         try clear p2
         obtain ⟨kq, x55_18, rfl, HA, HJ18, ⟨mc18, rfl⟩⟩ := hcut
         cases kq with
         | zero => exact absurd HA.out (by simp [impl_Binary.j1])
         | succ kj18 =>
          have H := HA.out
          clear HA
          simp only [impl_Binary.j1] at H
          by_cases c23 : x55_18 = true
          ·
           subst c23
           have H1 : ((impl_divide.f kj18 a0 a1 t210 t211).bind fun bt215 => (some (bt215.1, bt215.2))) = some (r1, r2) := by rw [if_pos rfl] at H; exact H
           clear H
           have H := H1
           clear H1
           replace H := Option.bind_eq_some_iff.mp H
           obtain ⟨⟨t215, t216⟩, A240, H⟩ := H
           replace H : (some (t215, t216)) = some (r1, r2) := H
           have A24 := Aside0.mk A240
           clear A240
           simp only [Option.some.injEq, Prod.mk.injEq] at H
           obtain ⟨rfl, rfl⟩ := H
           go_wp2_with (first | ((with_reducible refine gate_callee (f := 86) rfl ?_); refine goesL_ (some 64) rfl rfl Try.func86 (by kernel_rfl) rfl #[.int .i64 a0, .int .i64 a1, .int .u64 t210, .int .u64 t211] rfl ar ?_; (with_reducible refine (impl_divide.calls kj18 a0 a1 t210 t211 t215 t216 _ A24.out).mono ?_); rintro e w' ⟨rfl, ⟨nd, rfl⟩⟩; refine ⟨_, rfl, ?_⟩))
           go_ret2
           exact ⟨by first | rfl | (simp; done) | (simp [*]; done), by repeat (first | exact Drawn0.refl _ | apply Drawn0.step)⟩
          ·
           replace c23 := Bool.eq_false_iff.mpr c23
           subst c23
           have H1 : (if a1 = 8 then (some (Go.bits .and .u64 t210 t211, 0)) else (if a1 = 9 then (some (Go.bits .or .u64 t210 t211, 0)) else (if a1 = 10 then (some (Go.bits .xor .u64 t210 t211, 0)) else (if a1 = 11 then (if 0 ≤ (wrap64 (Int.tmod t211 (IntKind.u64.wrap (a0)))) then ((impl_cut.f a0 (shl .u64 t210 (wrap64 (Int.tmod t211 (IntKind.u64.wrap (a0)))))).bind fun t217 => (some (t217, 0))) else (none)) else (if a1 = 12 then ((impl_signed.f a0 t210).bind fun t218 => (if 0 ≤ (wrap64 (Int.tmod t211 (IntKind.u64.wrap (a0)))) then ((impl_cut.f a0 (IntKind.u64.wrap (shr .i64 t218 (wrap64 (Int.tmod t211 (IntKind.u64.wrap (a0))))))).bind fun t219 => (some (t219, 0))) else (none))) else (if a1 = 13 then (if 0 ≤ (wrap64 (Int.tmod t211 (IntKind.u64.wrap (a0)))) then (some (shr .u64 t210 (wrap64 (Int.tmod t211 (IntKind.u64.wrap (a0)))), 0)) else (none)) else (if a1 = 14 then ((impl_rotl.f a0 t210 (wrap64 (Int.tmod t211 (IntKind.u64.wrap (a0))))).bind fun t220 => (some (t220, 0))) else (if a1 = 15 then ((impl_rotl.f a0 t210 (wrap64 (-(wrap64 (Int.tmod t211 (IntKind.u64.wrap (a0))))))).bind fun t221 => (some (t221, 0))) else ((impl_compare.f a0 a1 t210 t211).bind fun t222 => (some (t222, 0))))))))))) = some (r1, r2) := by rw [if_neg (show ¬ (false = true) by decide)] at H; exact H
           clear H
           have H := H1
           clear H1
           by_cases c25 : a1 = 8
           ·
            rw [if_pos c25] at H
            have c25b0 : (a1 == 8) = true := beq_iff_eq.mpr c25
            have c25b1 : (a1 != 8) = false := bne_eq_false_iff_eq.mpr c25
            clear c25
            simp only [Option.some.injEq, Prod.mk.injEq] at H
            obtain ⟨rfl, rfl⟩ := H
            go_wp2
            go_ret2
            exact ⟨by first | rfl | (simp; done) | (simp [*]; done), by repeat (first | exact Drawn0.refl _ | apply Drawn0.step)⟩
           ·
            rw [if_neg c25] at H
            have c25b0 : (a1 == 8) = false := beq_eq_false_iff_ne.mpr c25
            have c25b1 : (a1 != 8) = true := bne_iff_ne.mpr c25
            by_cases c26 : a1 = 9
            ·
             rw [if_pos c26] at H
             have c26b0 : (a1 == 9) = true := beq_iff_eq.mpr c26
             have c26b1 : (a1 != 9) = false := bne_eq_false_iff_eq.mpr c26
             clear c26
             simp only [Option.some.injEq, Prod.mk.injEq] at H
             obtain ⟨rfl, rfl⟩ := H
             go_wp2
             go_ret2
             exact ⟨by first | rfl | (simp; done) | (simp [*]; done), by repeat (first | exact Drawn0.refl _ | apply Drawn0.step)⟩
            ·
             rw [if_neg c26] at H
             have c26b0 : (a1 == 9) = false := beq_eq_false_iff_ne.mpr c26
             have c26b1 : (a1 != 9) = true := bne_iff_ne.mpr c26
             by_cases c27 : a1 = 10
             ·
              rw [if_pos c27] at H
              have c27b0 : (a1 == 10) = true := beq_iff_eq.mpr c27
              have c27b1 : (a1 != 10) = false := bne_eq_false_iff_eq.mpr c27
              clear c27
              simp only [Option.some.injEq, Prod.mk.injEq] at H
              obtain ⟨rfl, rfl⟩ := H
              go_wp2
              go_ret2
              exact ⟨by first | rfl | (simp; done) | (simp [*]; done), by repeat (first | exact Drawn0.refl _ | apply Drawn0.step)⟩
             ·
              rw [if_neg c27] at H
              have c27b0 : (a1 == 10) = false := beq_eq_false_iff_ne.mpr c27
              have c27b1 : (a1 != 10) = true := bne_iff_ne.mpr c27
              by_cases c28 : a1 = 11
              ·
               rw [if_pos c28] at H
               have c28b0 : (a1 == 11) = true := beq_iff_eq.mpr c28
               have c28b1 : (a1 != 11) = false := bne_eq_false_iff_eq.mpr c28
               clear c28
               obtain ⟨ji29, hji29⟩ : ∃ j_ : Int, (wrap64 (Int.tmod t211 (IntKind.u64.wrap (a0)))) = j_ := ⟨_, rfl⟩
               replace H : (if 0 ≤ (ji29) then ((impl_cut.f a0 (shl .u64 t210 (ji29))).bind fun t217 => (some (t217, 0))) else (none)) = some (r1, r2) := by first | (rw [hji29] at H; exact H) | (simp only [hji29] at H ⊢; exact H)
               have hji29w : (IntKind.i64.wrap (Int.tmod t211 (IntKind.u64.wrap (a0)))) = ji29 := (i64_w _).trans hji29
               by_cases c30 : 0 ≤ (ji29)
               ·
                rw [if_pos c30] at H
                have c30b0 := eq_true c30
                have c30b1 : decide (0 ≤ (ji29)) = true := decide_eq_true c30
                clear c30
                obtain ⟨ji31, hji31⟩ : ∃ j_ : Int, (shl .u64 t210 (ji29)) = j_ := ⟨_, rfl⟩
                replace H : ((impl_cut.f a0 (ji31)).bind fun t217 => (some (t217, 0))) = some (r1, r2) := by first | (rw [hji31] at H; exact H) | (simp only [hji31] at H ⊢; exact H)
                have hji31_ : (IntKind.u64.wrap (t210 * 2 ^ min (ji29).toNat 64)) = ji31 := hji31
                have hji31z : (ji29) ≤ 64 → (IntKind.u64.wrap (t210 * 2 ^ (ji29).toNat)) = ji31 := shl_small hji31
                replace H := Option.bind_eq_some_iff.mp H
                obtain ⟨t217, A320, H⟩ := H
                replace H : (some (t217, 0)) = some (r1, r2) := H
                have A32 := Aside0.mk A320
                clear A320
                simp only [Option.some.injEq, Prod.mk.injEq] at H
                obtain ⟨rfl, rfl⟩ := H
                go_wp2_with (first | ((with_reducible refine gate_callee (f := 64) rfl ?_); refine goesL_ (some 88) rfl rfl Try.func64 (by kernel_rfl) rfl #[.int .i64 a0, .int .u64 ji31] rfl (by (try simp only [List.map_toArray, List.map_cons, List.map_nil]); first | done | (simp only [hji31]; rfl) | rfl | (simp only [List.length_drop, List.length_take]; rfl)) ?_; (with_reducible refine (impl_cut.calls a0 ji31 t217 _ A32.out).mono ?_); rintro e w' ⟨rfl, ⟨nd, rfl⟩⟩; refine ⟨_, rfl, ?_⟩))
                go_ret2
                exact ⟨by first | rfl | (simp; done) | (simp only [← hji29, ← hji31] <;> (first | rfl | simp)) | (simp [*]; done), by repeat (first | exact Drawn0.refl _ | apply Drawn0.step)⟩
               ·
                rw [if_neg c30] at H
                exact absurd H (by simp)
              ·
               rw [if_neg c28] at H
               have c28b0 : (a1 == 11) = false := beq_eq_false_iff_ne.mpr c28
               have c28b1 : (a1 != 11) = true := bne_iff_ne.mpr c28
               by_cases c33 : a1 = 12
               ·
                rw [if_pos c33] at H
                have c33b0 : (a1 == 12) = true := beq_iff_eq.mpr c33
                have c33b1 : (a1 != 12) = false := bne_eq_false_iff_eq.mpr c33
                clear c33
                replace H := Option.bind_eq_some_iff.mp H
                obtain ⟨t218, A340, H⟩ := H
                replace H : (if 0 ≤ (wrap64 (Int.tmod t211 (IntKind.u64.wrap (a0)))) then ((impl_cut.f a0 (IntKind.u64.wrap (shr .i64 t218 (wrap64 (Int.tmod t211 (IntKind.u64.wrap (a0))))))).bind fun t219 => (some (t219, 0))) else (none)) = some (r1, r2) := H
                have A34 := Aside0.mk A340
                clear A340
                obtain ⟨ji35, hji35⟩ : ∃ j_ : Int, (wrap64 (Int.tmod t211 (IntKind.u64.wrap (a0)))) = j_ := ⟨_, rfl⟩
                replace H : (if 0 ≤ (ji35) then ((impl_cut.f a0 (IntKind.u64.wrap (shr .i64 t218 (ji35)))).bind fun t219 => (some (t219, 0))) else (none)) = some (r1, r2) := by first | (rw [hji35] at H; exact H) | (simp only [hji35] at H ⊢; exact H)
                (try rw [hji35] at A34)
                have hji35w : (IntKind.i64.wrap (Int.tmod t211 (IntKind.u64.wrap (a0)))) = ji35 := (i64_w _).trans hji35
                by_cases c36 : 0 ≤ (ji35)
                ·
                 rw [if_pos c36] at H
                 have c36b0 := eq_true c36
                 have c36b1 : decide (0 ≤ (ji35)) = true := decide_eq_true c36
                 clear c36
                 obtain ⟨ji37, hji37⟩ : ∃ j_ : Int, (shr .i64 t218 (ji35)) = j_ := ⟨_, rfl⟩
                 replace H : ((impl_cut.f a0 (IntKind.u64.wrap (ji37))).bind fun t219 => (some (t219, 0))) = some (r1, r2) := by first | (rw [hji37] at H; exact H) | (simp only [hji37] at H ⊢; exact H)
                 (try rw [hji37] at A34)
                 have hji37_ : (t218 / 2 ^ min (ji35).toNat 64) = ji37 := hji37
                 have hji37z : (ji35) ≤ 64 → (t218 / 2 ^ (ji35).toNat) = ji37 := shr_small hji37
                 replace H := Option.bind_eq_some_iff.mp H
                 obtain ⟨t219, A380, H⟩ := H
                 replace H : (some (t219, 0)) = some (r1, r2) := H
                 have A38 := Aside0.mk A380
                 clear A380
                 simp only [Option.some.injEq, Prod.mk.injEq] at H
                 obtain ⟨rfl, rfl⟩ := H
                 go_wp2_with (first | ((with_reducible refine gate_callee (f := 87) rfl ?_); refine goesL_ (some 94) rfl rfl Try.func87 (by kernel_rfl) rfl #[.int .i64 a0, .int .u64 t210] rfl ar ?_; (with_reducible refine (impl_signed.calls a0 t210 t218 _ A34.out).mono ?_); rintro e w' ⟨rfl, ⟨nd, rfl⟩⟩; refine ⟨_, rfl, ?_⟩) | ((with_reducible refine gate_callee (f := 64) rfl ?_); refine goesL_ (some 98) rfl rfl Try.func64 (by kernel_rfl) rfl #[.int .i64 a0, .int .u64 (IntKind.u64.wrap (ji37))] rfl (by (try simp only [List.map_toArray, List.map_cons, List.map_nil]); first | done | (simp only [hji37]; rfl) | rfl | (simp only [List.length_drop, List.length_take]; rfl)) ?_; (with_reducible refine (impl_cut.calls a0 (IntKind.u64.wrap (ji37)) t219 _ A38.out).mono ?_); rintro e w' ⟨rfl, ⟨nd, rfl⟩⟩; refine ⟨_, rfl, ?_⟩))
                 go_ret2
                 exact ⟨by first | rfl | (simp; done) | (simp only [← hji35, ← hji37] <;> (first | rfl | simp)) | (simp [*]; done), by repeat (first | exact Drawn0.refl _ | apply Drawn0.step)⟩
                ·
                 rw [if_neg c36] at H
                 exact absurd H (by simp)
               ·
                rw [if_neg c33] at H
                have c33b0 : (a1 == 12) = false := beq_eq_false_iff_ne.mpr c33
                have c33b1 : (a1 != 12) = true := bne_iff_ne.mpr c33
                by_cases c39 : a1 = 13
                ·
                 rw [if_pos c39] at H
                 have c39b0 : (a1 == 13) = true := beq_iff_eq.mpr c39
                 have c39b1 : (a1 != 13) = false := bne_eq_false_iff_eq.mpr c39
                 clear c39
                 obtain ⟨ji40, hji40⟩ : ∃ j_ : Int, (wrap64 (Int.tmod t211 (IntKind.u64.wrap (a0)))) = j_ := ⟨_, rfl⟩
                 replace H : (if 0 ≤ (ji40) then (some (shr .u64 t210 (ji40), 0)) else (none)) = some (r1, r2) := by first | (rw [hji40] at H; exact H) | (simp only [hji40] at H ⊢; exact H)
                 have hji40w : (IntKind.i64.wrap (Int.tmod t211 (IntKind.u64.wrap (a0)))) = ji40 := (i64_w _).trans hji40
                 by_cases c41 : 0 ≤ (ji40)
                 ·
                  rw [if_pos c41] at H
                  have c41b0 := eq_true c41
                  have c41b1 : decide (0 ≤ (ji40)) = true := decide_eq_true c41
                  clear c41
                  obtain ⟨ji42, hji42⟩ : ∃ j_ : Int, (shr .u64 t210 (ji40)) = j_ := ⟨_, rfl⟩
                  replace H : (some (ji42, 0)) = some (r1, r2) := by first | (rw [hji42] at H; exact H) | (simp only [hji42] at H ⊢; exact H)
                  have hji42_ : (t210 / 2 ^ min (ji40).toNat 64) = ji42 := hji42
                  have hji42z : (ji40) ≤ 64 → (t210 / 2 ^ (ji40).toNat) = ji42 := shr_small hji42
                  simp only [Option.some.injEq, Prod.mk.injEq] at H
                  obtain ⟨rfl, rfl⟩ := H
                  go_wp2
                  go_ret2
                  exact ⟨by first | rfl | (simp; done) | (simp only [← hji40, ← hji42] <;> (first | rfl | simp)) | (simp [*]; done), by repeat (first | exact Drawn0.refl _ | apply Drawn0.step)⟩
                 ·
                  rw [if_neg c41] at H
                  exact absurd H (by simp)
                ·
                 rw [if_neg c39] at H
                 have c39b0 : (a1 == 13) = false := beq_eq_false_iff_ne.mpr c39
                 have c39b1 : (a1 != 13) = true := bne_iff_ne.mpr c39
                 by_cases c43 : a1 = 14
                 ·
                  rw [if_pos c43] at H
                  have c43b0 : (a1 == 14) = true := beq_iff_eq.mpr c43
                  have c43b1 : (a1 != 14) = false := bne_eq_false_iff_eq.mpr c43
                  clear c43
                  replace H := Option.bind_eq_some_iff.mp H
                  obtain ⟨t220, A440, H⟩ := H
                  replace H : (some (t220, 0)) = some (r1, r2) := H
                  have A44 := Aside0.mk A440
                  clear A440
                  simp only [Option.some.injEq, Prod.mk.injEq] at H
                  obtain ⟨rfl, rfl⟩ := H
                  go_wp2_with (first | ((with_reducible refine gate_callee (f := 88) rfl ?_); refine goesL_ (some 109) rfl rfl Try.func88 (by kernel_rfl) rfl #[.int .i64 a0, .int .u64 t210, .int .i64 (wrap64 (Int.tmod t211 (IntKind.u64.wrap (a0))))] rfl ar ?_; (with_reducible refine (impl_rotl.calls a0 t210 (wrap64 (Int.tmod t211 (IntKind.u64.wrap (a0)))) t220 _ A44.out).mono ?_); rintro e w' ⟨rfl, ⟨nd, rfl⟩⟩; refine ⟨_, rfl, ?_⟩))
                  go_ret2
                  exact ⟨by first | rfl | (simp; done) | (simp [*]; done), by repeat (first | exact Drawn0.refl _ | apply Drawn0.step)⟩
                 ·
                  rw [if_neg c43] at H
                  have c43b0 : (a1 == 14) = false := beq_eq_false_iff_ne.mpr c43
                  have c43b1 : (a1 != 14) = true := bne_iff_ne.mpr c43
                  by_cases c45 : a1 = 15
                  ·
                   rw [if_pos c45] at H
                   have c45b0 : (a1 == 15) = true := beq_iff_eq.mpr c45
                   have c45b1 : (a1 != 15) = false := bne_eq_false_iff_eq.mpr c45
                   clear c45
                   replace H := Option.bind_eq_some_iff.mp H
                   obtain ⟨t221, A460, H⟩ := H
                   replace H : (some (t221, 0)) = some (r1, r2) := H
                   have A46 := Aside0.mk A460
                   clear A460
                   simp only [Option.some.injEq, Prod.mk.injEq] at H
                   obtain ⟨rfl, rfl⟩ := H
                   go_wp2_with (first | ((with_reducible refine gate_callee (f := 88) rfl ?_); refine goesL_ (some 116) rfl rfl Try.func88 (by kernel_rfl) rfl #[.int .i64 a0, .int .u64 t210, .int .i64 (wrap64 (-(wrap64 (Int.tmod t211 (IntKind.u64.wrap (a0))))))] rfl ar ?_; (with_reducible refine (impl_rotl.calls a0 t210 (wrap64 (-(wrap64 (Int.tmod t211 (IntKind.u64.wrap (a0)))))) t221 _ A46.out).mono ?_); rintro e w' ⟨rfl, ⟨nd, rfl⟩⟩; refine ⟨_, rfl, ?_⟩))
                   go_ret2
                   exact ⟨by first | rfl | (simp; done) | (simp [*]; done), by repeat (first | exact Drawn0.refl _ | apply Drawn0.step)⟩
                  ·
                   rw [if_neg c45] at H
                   have c45b0 : (a1 == 15) = false := beq_eq_false_iff_ne.mpr c45
                   have c45b1 : (a1 != 15) = true := bne_iff_ne.mpr c45
                   replace H := Option.bind_eq_some_iff.mp H
                   obtain ⟨t222, A470, H⟩ := H
                   replace H : (some (t222, 0)) = some (r1, r2) := H
                   have A47 := Aside0.mk A470
                   clear A470
                   simp only [Option.some.injEq, Prod.mk.injEq] at H
                   obtain ⟨rfl, rfl⟩ := H
                   go_wp2_with (first | ((with_reducible refine gate_callee (f := 89) rfl ?_); refine goesL_ (some 121) rfl rfl Try.func89 (by kernel_rfl) rfl #[.int .i64 a0, .int .i64 a1, .int .u64 t210, .int .u64 t211] rfl ar ?_; (with_reducible refine (impl_compare.calls a0 a1 t210 t211 t222 _ A47.out).mono ?_); rintro e w' ⟨rfl, ⟨nd, rfl⟩⟩; refine ⟨_, rfl, ?_⟩))
                   go_ret2
                   exact ⟨by first | rfl | (simp; done) | (simp [*]; done), by repeat (first | exact Drawn0.refl _ | apply Drawn0.step)⟩

end Go.Proofs.Ytdjpbhmkcamkpaa.Q

namespace Go.Proofs.Ytdjpbhmkcamkpaa.Q
open Go.RowKit Go.Proofs.YtdjpbhmkcamkpaaW.PrintWords Go.Proofs.YtdjpbhmkcamkpaaW.PrintLast Go.Proofs.YtdjpbhmkcamkpaaW.PrintMore
attribute [local go_sem] max2_int min2_int max_two min_two max_three min_three max_four min_four   -- for this text's walks alone
set_option linter.unusedVariables false
set_option linter.unusedSimpArgs false

/-! ### spec_l3Bits: function 90 -/
def spec_l3Bits.f (a0 : Int) : Option (Bool) := if a0 = 32 then (some true) else (some (a0 == 64))
set_option maxHeartbeats 8000000 in
set_option maxRecDepth 100000 in
theorem spec_l3Bits.calls (a0 : Int) (r : Bool) (w : World) (h : spec_l3Bits.f a0 = some r) :
  Calls Try.prog 90 #[.int .i64 a0] w fun e w' => e = .returned (.bool r) ∧ Drawn0 w w' := by
 have H : (if a0 = 32 then (some true) else (some (a0 == 64))) = some r := h
 clear h
 by_cases c2 : a0 = 32
 ·
  rw [if_pos c2] at H
  have c2b0 : (a0 == 32) = true := beq_iff_eq.mpr c2
  have c2b1 : (a0 != 32) = false := bne_eq_false_iff_eq.mpr c2
  clear c2
  obtain rfl := Option.some.inj H
  simp only [Option.some.injEq, Prod.mk.injEq] at H
  obtain ⟨rfl⟩ := H
  go_enter Try.func90, Try.ntmps90
  go_wp2
  go_ret
  exact ⟨by first | rfl | (simp; done) | (simp [*]; done), by repeat (first | exact Drawn0.refl _ | apply Drawn0.step)⟩
 ·
  rw [if_neg c2] at H
  have c2b0 : (a0 == 32) = false := beq_eq_false_iff_ne.mpr c2
  have c2b1 : (a0 != 32) = true := bne_iff_ne.mpr c2
  obtain rfl := Option.some.inj H
  simp only [Option.some.injEq, Prod.mk.injEq] at H
  obtain ⟨rfl⟩ := H
  go_enter Try.func90, Try.ntmps90
  go_wp2
  go_ret
  exact ⟨by first | rfl | (simp; done) | (simp [*]; done), by repeat (first | exact Drawn0.refl _ | apply Drawn0.step)⟩

end Go.Proofs.Ytdjpbhmkcamkpaa.Q

namespace Go.Proofs.Ytdjpbhmkcamkpaa.Q
open Go.RowKit Go.Proofs.YtdjpbhmkcamkpaaW.PrintWords Go.Proofs.YtdjpbhmkcamkpaaW.PrintLast Go.Proofs.YtdjpbhmkcamkpaaW.PrintMore
attribute [local go_sem] max2_int min2_int max_two min_two max_three min_three max_four min_four   -- for this text's walks alone
set_option linter.unusedVariables false
set_option linter.unusedSimpArgs false

/-! ### spec_l3Signed: function 92 -/
def spec_l3Signed.f (a0 : Int) (a1 : Int) : Option (Int) := if a0 = 32 then (some (wrap64 (wrap32 ((a1) % 4294967296)))) else (some (wrap64 (a1)))
set_option maxHeartbeats 8000000 in
set_option maxRecDepth 100000 in
theorem spec_l3Signed.calls (a0 : Int) (a1 : Int) (r : Int) (w : World) (h : spec_l3Signed.f a0 a1 = some r) :
  Calls Try.prog 92 #[.int .i64 a0, .int .u64 a1] w fun e w' => e = .returned (.int .i64 r) ∧ Drawn0 w w' := by
 have H : (if a0 = 32 then (some (wrap64 (wrap32 ((a1) % 4294967296)))) else (some (wrap64 (a1)))) = some r := h
 clear h
 by_cases c3 : a0 = 32
 ·
  rw [if_pos c3] at H
  have c3b0 : (a0 == 32) = true := beq_iff_eq.mpr c3
  have c3b1 : (a0 != 32) = false := bne_eq_false_iff_eq.mpr c3
  clear c3
  obtain rfl := Option.some.inj H
  simp only [Option.some.injEq, Prod.mk.injEq] at H
  obtain ⟨rfl⟩ := H
  go_enter Try.func92, Try.ntmps92
  go_wp2
  go_ret
  exact ⟨by first | rfl | (simp; done) | (simp [*]; done), by repeat (first | exact Drawn0.refl _ | apply Drawn0.step)⟩
 ·
  rw [if_neg c3] at H
  have c3b0 : (a0 == 32) = false := beq_eq_false_iff_ne.mpr c3
  have c3b1 : (a0 != 32) = true := bne_iff_ne.mpr c3
  obtain rfl := Option.some.inj H
  simp only [Option.some.injEq, Prod.mk.injEq] at H
  obtain ⟨rfl⟩ := H
  go_enter Try.func92, Try.ntmps92
  go_wp2
  go_ret
  exact ⟨by first | rfl | (simp; done) | (simp [*]; done), by repeat (first | exact Drawn0.refl _ | apply Drawn0.step)⟩

end Go.Proofs.Ytdjpbhmkcamkpaa.Q

namespace Go.Proofs.Ytdjpbhmkcamkpaa.Q
open Go.RowKit Go.Proofs.YtdjpbhmkcamkpaaW.PrintWords Go.Proofs.YtdjpbhmkcamkpaaW.PrintLast Go.Proofs.YtdjpbhmkcamkpaaW.PrintMore
attribute [local go_sem] max2_int min2_int max_two min_two max_three min_three max_four min_four   -- for this text's walks alone
set_option linter.unusedVariables false
set_option linter.unusedSimpArgs false

/-! ### spec_l3Mask: function 111 -/
def spec_l3Mask.f (a0 : Int) (a1 : Int) : Option (Int) := if a0 = 32 then (some (Go.bits .and .u64 a1 4294967295)) else (some a1)
set_option maxHeartbeats 8000000 in
set_option maxRecDepth 100000 in
theorem spec_l3Mask.calls (a0 : Int) (a1 : Int) (r : Int) (w : World) (h : spec_l3Mask.f a0 a1 = some r) :
  Calls Try.prog 111 #[.int .i64 a0, .int .u64 a1] w fun e w' => e = .returned (.int .u64 r) ∧ Drawn0 w w' := by
 have H : (if a0 = 32 then (some (Go.bits .and .u64 a1 4294967295)) else (some a1)) = some r := h
 clear h
 by_cases c3 : a0 = 32
 ·
  rw [if_pos c3] at H
  have c3b0 : (a0 == 32) = true := beq_iff_eq.mpr c3
  have c3b1 : (a0 != 32) = false := bne_eq_false_iff_eq.mpr c3
  clear c3
  obtain rfl := Option.some.inj H
  simp only [Option.some.injEq, Prod.mk.injEq] at H
  obtain ⟨rfl⟩ := H
  go_enter Try.func111, Try.ntmps111
  go_wp2
  go_ret
  exact ⟨by first | rfl | (simp; done) | (simp [*]; done), by repeat (first | exact Drawn0.refl _ | apply Drawn0.step)⟩
 ·
  rw [if_neg c3] at H
  have c3b0 : (a0 == 32) = false := beq_eq_false_iff_ne.mpr c3
  have c3b1 : (a0 != 32) = true := bne_iff_ne.mpr c3
  obtain rfl := Option.some.inj H
  simp only [Option.some.injEq, Prod.mk.injEq] at H
  obtain ⟨rfl⟩ := H
  go_enter Try.func111, Try.ntmps111
  go_wp2
  go_ret
  exact ⟨by first | rfl | (simp; done) | (simp [*]; done), by repeat (first | exact Drawn0.refl _ | apply Drawn0.step)⟩

end Go.Proofs.Ytdjpbhmkcamkpaa.Q

namespace Go.Proofs.Ytdjpbhmkcamkpaa.Q
open Go.RowKit Go.Proofs.YtdjpbhmkcamkpaaW.PrintWords Go.Proofs.YtdjpbhmkcamkpaaW.PrintLast Go.Proofs.YtdjpbhmkcamkpaaW.PrintMore
attribute [local go_sem] max2_int min2_int max_two min_two max_three min_three max_four min_four   -- for this text's walks alone
set_option linter.unusedVariables false
set_option linter.unusedSimpArgs false

/-! ### spec_l3Divide: function 112 -/
def spec_l3Divide.f (a0 : Int) (a1 : Int) (a2 : Int) (a3 : Int) : Option (Int × Int) := if a3 = 0 then (some (0, 1)) else (if a1 = 5 then (some (IntKind.u64.wrap (Int.tdiv a2 a3), 0)) else (if a1 = 7 then (some (Int.tmod a2 a3, 0)) else ((spec_l3Signed.f a0 a2).bind fun t223 => ((spec_l3Signed.f a0 a3).bind fun t224 => (if t224 = (-1) then (if a1 = 6 then (some (0, 0)) else (if 0 ≤ (IntKind.u64.wrap (wrap64 (a0 - 1))) then (if a2 = (shl .u64 1 (IntKind.u64.wrap (wrap64 (a0 - 1)))) then (some (0, 2)) else ((spec_l3Mask.f a0 (IntKind.u64.wrap (-a2))).bind fun t225 => (some (t225, 0)))) else (none))) else (if a1 = 4 then (if t224 = 0 then (none) else ((spec_l3Mask.f a0 (IntKind.u64.wrap (wrap64 (Int.tdiv t223 t224)))).bind fun t226 => (some (t226, 0)))) else (if t224 = 0 then (none) else ((spec_l3Mask.f a0 (IntKind.u64.wrap (Int.tmod t223 t224))).bind fun t227 => (some (t227, 0))))))))))
set_option maxHeartbeats 8000000 in
set_option maxRecDepth 100000 in
theorem spec_l3Divide.calls (a0 : Int) (a1 : Int) (a2 : Int) (a3 : Int) (r1 : Int) (r2 : Int) (w : World) (h : spec_l3Divide.f a0 a1 a2 a3 = some (r1, r2)) :
  Calls Try.prog 112 #[.int .i64 a0, .int .i64 a1, .int .u64 a2, .int .u64 a3] w fun e w' => e = .returned (.tuple #[.int .u64 r1, .int .i64 r2]) ∧ Drawn0 w w' := by
 have H : (if a3 = 0 then (some (0, 1)) else (if a1 = 5 then (some (IntKind.u64.wrap (Int.tdiv a2 a3), 0)) else (if a1 = 7 then (some (Int.tmod a2 a3, 0)) else ((spec_l3Signed.f a0 a2).bind fun t223 => ((spec_l3Signed.f a0 a3).bind fun t224 => (if t224 = (-1) then (if a1 = 6 then (some (0, 0)) else (if 0 ≤ (IntKind.u64.wrap (wrap64 (a0 - 1))) then (if a2 = (shl .u64 1 (IntKind.u64.wrap (wrap64 (a0 - 1)))) then (some (0, 2)) else ((spec_l3Mask.f a0 (IntKind.u64.wrap (-a2))).bind fun t225 => (some (t225, 0)))) else (none))) else (if a1 = 4 then (if t224 = 0 then (none) else ((spec_l3Mask.f a0 (IntKind.u64.wrap (wrap64 (Int.tdiv t223 t224)))).bind fun t226 => (some (t226, 0)))) else (if t224 = 0 then (none) else ((spec_l3Mask.f a0 (IntKind.u64.wrap (Int.tmod t223 t224))).bind fun t227 => (some (t227, 0))))))))))) = some (r1, r2) := h
 clear h
 by_cases c5 : a3 = 0
 ·
  rw [if_pos c5] at H
  have c5b0 : (a3 == 0) = true := beq_iff_eq.mpr c5
  have c5b1 : (a3 != 0) = false := bne_eq_false_iff_eq.mpr c5
  clear c5
  simp only [Option.some.injEq, Prod.mk.injEq] at H
  obtain ⟨rfl, rfl⟩ := H
  go_enter Try.func112, Try.ntmps112
  go_wp2
  go_ret2
  exact ⟨by first | rfl | (simp; done) | (simp [*]; done), by repeat (first | exact Drawn0.refl _ | apply Drawn0.step)⟩
 ·
  rw [if_neg c5] at H
  have c5b0 : (a3 == 0) = false := beq_eq_false_iff_ne.mpr c5
  have c5b1 : (a3 != 0) = true := bne_iff_ne.mpr c5
  by_cases c6 : a1 = 5
  ·
   rw [if_pos c6] at H
   have c6b0 : (a1 == 5) = true := beq_iff_eq.mpr c6
   have c6b1 : (a1 != 5) = false := bne_eq_false_iff_eq.mpr c6
   clear c6
   simp only [Option.some.injEq, Prod.mk.injEq] at H
   obtain ⟨rfl, rfl⟩ := H
   go_enter Try.func112, Try.ntmps112
   go_wp2
   go_ret2
   exact ⟨by first | rfl | (simp; done) | (simp [*]; done), by repeat (first | exact Drawn0.refl _ | apply Drawn0.step)⟩
  ·
   rw [if_neg c6] at H
   have c6b0 : (a1 == 5) = false := beq_eq_false_iff_ne.mpr c6
   have c6b1 : (a1 != 5) = true := bne_iff_ne.mpr c6
   by_cases c7 : a1 = 7
   ·
    rw [if_pos c7] at H
    have c7b0 : (a1 == 7) = true := beq_iff_eq.mpr c7
    have c7b1 : (a1 != 7) = false := bne_eq_false_iff_eq.mpr c7
    clear c7
    simp only [Option.some.injEq, Prod.mk.injEq] at H
    obtain ⟨rfl, rfl⟩ := H
    go_enter Try.func112, Try.ntmps112
    go_wp2
    go_ret2
    exact ⟨by first | rfl | (simp; done) | (simp [*]; done), by repeat (first | exact Drawn0.refl _ | apply Drawn0.step)⟩
   ·
    rw [if_neg c7] at H
    have c7b0 : (a1 == 7) = false := beq_eq_false_iff_ne.mpr c7
    have c7b1 : (a1 != 7) = true := bne_iff_ne.mpr c7
    replace H := Option.bind_eq_some_iff.mp H
    obtain ⟨t223, A80, H⟩ := H
    replace H : ((spec_l3Signed.f a0 a3).bind fun t224 => (if t224 = (-1) then (if a1 = 6 then (some (0, 0)) else (if 0 ≤ (IntKind.u64.wrap (wrap64 (a0 - 1))) then (if a2 = (shl .u64 1 (IntKind.u64.wrap (wrap64 (a0 - 1)))) then (some (0, 2)) else ((spec_l3Mask.f a0 (IntKind.u64.wrap (-a2))).bind fun t225 => (some (t225, 0)))) else (none))) else (if a1 = 4 then (if t224 = 0 then (none) else ((spec_l3Mask.f a0 (IntKind.u64.wrap (wrap64 (Int.tdiv t223 t224)))).bind fun t226 => (some (t226, 0)))) else (if t224 = 0 then (none) else ((spec_l3Mask.f a0 (IntKind.u64.wrap (Int.tmod t223 t224))).bind fun t227 => (some (t227, 0))))))) = some (r1, r2) := H
    have A8 := Aside0.mk A80
    clear A80
    replace H := Option.bind_eq_some_iff.mp H
    obtain ⟨t224, A90, H⟩ := H
    replace H : (if t224 = (-1) then (if a1 = 6 then (some (0, 0)) else (if 0 ≤ (IntKind.u64.wrap (wrap64 (a0 - 1))) then (if a2 = (shl .u64 1 (IntKind.u64.wrap (wrap64 (a0 - 1)))) then (some (0, 2)) else ((spec_l3Mask.f a0 (IntKind.u64.wrap (-a2))).bind fun t225 => (some (t225, 0)))) else (none))) else (if a1 = 4 then (if t224 = 0 then (none) else ((spec_l3Mask.f a0 (IntKind.u64.wrap (wrap64 (Int.tdiv t223 t224)))).bind fun t226 => (some (t226, 0)))) else (if t224 = 0 then (none) else ((spec_l3Mask.f a0 (IntKind.u64.wrap (Int.tmod t223 t224))).bind fun t227 => (some (t227, 0)))))) = some (r1, r2) := H
    have A9 := Aside0.mk A90
    clear A90
    by_cases c10 : t224 = (-1)
    ·
     rw [if_pos c10] at H
     have c10b0 : (t224 == (-1)) = true := beq_iff_eq.mpr c10
     have c10b1 : (t224 != (-1)) = false := bne_eq_false_iff_eq.mpr c10
     clear c10
     by_cases c11 : a1 = 6
     ·
      rw [if_pos c11] at H
      have c11b0 : (a1 == 6) = true := beq_iff_eq.mpr c11
      have c11b1 : (a1 != 6) = false := bne_eq_false_iff_eq.mpr c11
      clear c11
      simp only [Option.some.injEq, Prod.mk.injEq] at H
      obtain ⟨rfl, rfl⟩ := H
      go_enter Try.func112, Try.ntmps112
      go_wp2_with (first | ((with_reducible refine gate_callee (f := 92) rfl ?_); refine goesL_ (some 27) rfl rfl Try.func92 (by kernel_rfl) rfl #[.int .i64 a0, .int .u64 a2] rfl ar ?_; (with_reducible refine (spec_l3Signed.calls a0 a2 t223 _ A8.out).mono ?_); rintro e w' ⟨rfl, ⟨nd, rfl⟩⟩; refine ⟨_, rfl, ?_⟩) | ((with_reducible refine gate_callee (f := 92) rfl ?_); refine goesL_ (some 30) rfl rfl Try.func92 (by kernel_rfl) rfl #[.int .i64 a0, .int .u64 a3] rfl ar ?_; (with_reducible refine (spec_l3Signed.calls a0 a3 t224 _ A9.out).mono ?_); rintro e w' ⟨rfl, ⟨nd, rfl⟩⟩; refine ⟨_, rfl, ?_⟩))
      go_ret2
      exact ⟨by first | rfl | (simp; done) | (simp [*]; done), by repeat (first | exact Drawn0.refl _ | apply Drawn0.step)⟩
     ·
      rw [if_neg c11] at H
      have c11b0 : (a1 == 6) = false := beq_eq_false_iff_ne.mpr c11
      have c11b1 : (a1 != 6) = true := bne_iff_ne.mpr c11
      obtain ⟨ji12, hji12⟩ : ∃ j_ : Int, (IntKind.u64.wrap (wrap64 (a0 - 1))) = j_ := ⟨_, rfl⟩
      replace H : (if 0 ≤ (ji12) then (if a2 = (shl .u64 1 (ji12)) then (some (0, 2)) else ((spec_l3Mask.f a0 (IntKind.u64.wrap (-a2))).bind fun t225 => (some (t225, 0)))) else (none)) = some (r1, r2) := by first | (rw [hji12] at H; exact H) | (simp only [hji12] at H ⊢; exact H)
      (try rw [hji12] at A8)
      (try rw [hji12] at A9)
      by_cases c13 : 0 ≤ (ji12)
      ·
       rw [if_pos c13] at H
       have c13b0 := eq_true c13
       have c13b1 : decide (0 ≤ (ji12)) = true := decide_eq_true c13
       clear c13
       obtain ⟨ji14, hji14⟩ : ∃ j_ : Int, (shl .u64 1 (ji12)) = j_ := ⟨_, rfl⟩
       replace H : (if a2 = (ji14) then (some (0, 2)) else ((spec_l3Mask.f a0 (IntKind.u64.wrap (-a2))).bind fun t225 => (some (t225, 0)))) = some (r1, r2) := by first | (rw [hji14] at H; exact H) | (simp only [hji14] at H ⊢; exact H)
       (try rw [hji14] at A8)
       (try rw [hji14] at A9)
       have hji14_ : (IntKind.u64.wrap (1 * 2 ^ min (ji12).toNat 64)) = ji14 := hji14
       have hji14z : (ji12) ≤ 64 → (IntKind.u64.wrap (1 * 2 ^ (ji12).toNat)) = ji14 := shl_small hji14
       have hji14u : (IntKind.u64.wrap (2 ^ min (ji12).toNat 64)) = ji14 := by have h_ := hji14_; rw [Int.one_mul] at h_; exact h_
       have hji14v : (ji12) ≤ 64 → (IntKind.u64.wrap (2 ^ (ji12).toNat)) = ji14 := fun hle_ => by have h_ := hji14z hle_; rw [Int.one_mul] at h_; exact h_
       by_cases c15 : a2 = (ji14)
       ·
        rw [if_pos c15] at H
        have c15b0 : (a2 == (ji14)) = true := beq_iff_eq.mpr c15
        have c15b1 : (a2 != (ji14)) = false := bne_eq_false_iff_eq.mpr c15
        clear c15
        simp only [Option.some.injEq, Prod.mk.injEq] at H
        obtain ⟨rfl, rfl⟩ := H
        go_enter Try.func112, Try.ntmps112
        go_wp2_with (first | ((with_reducible refine gate_callee (f := 92) rfl ?_); refine goesL_ (some 27) rfl rfl Try.func92 (by kernel_rfl) rfl #[.int .i64 a0, .int .u64 a2] rfl ar ?_; (with_reducible refine (spec_l3Signed.calls a0 a2 t223 _ A8.out).mono ?_); rintro e w' ⟨rfl, ⟨nd, rfl⟩⟩; refine ⟨_, rfl, ?_⟩) | ((with_reducible refine gate_callee (f := 92) rfl ?_); refine goesL_ (some 30) rfl rfl Try.func92 (by kernel_rfl) rfl #[.int .i64 a0, .int .u64 a3] rfl ar ?_; (with_reducible refine (spec_l3Signed.calls a0 a3 t224 _ A9.out).mono ?_); rintro e w' ⟨rfl, ⟨nd, rfl⟩⟩; refine ⟨_, rfl, ?_⟩))
        go_ret2
        exact ⟨by first | rfl | (simp; done) | (simp only [← hji12, ← hji14] <;> (first | rfl | simp)) | (simp [*]; done), by repeat (first | exact Drawn0.refl _ | apply Drawn0.step)⟩
       ·
        rw [if_neg c15] at H
        have c15b0 : (a2 == (ji14)) = false := beq_eq_false_iff_ne.mpr c15
        have c15b1 : (a2 != (ji14)) = true := bne_iff_ne.mpr c15
        replace H := Option.bind_eq_some_iff.mp H
        obtain ⟨t225, A160, H⟩ := H
        replace H : (some (t225, 0)) = some (r1, r2) := H
        have A16 := Aside0.mk A160
        clear A160
        simp only [Option.some.injEq, Prod.mk.injEq] at H
        obtain ⟨rfl, rfl⟩ := H
        go_enter Try.func112, Try.ntmps112
        go_wp2_with (first | ((with_reducible refine gate_callee (f := 92) rfl ?_); refine goesL_ (some 27) rfl rfl Try.func92 (by kernel_rfl) rfl #[.int .i64 a0, .int .u64 a2] rfl ar ?_; (with_reducible refine (spec_l3Signed.calls a0 a2 t223 _ A8.out).mono ?_); rintro e w' ⟨rfl, ⟨nd, rfl⟩⟩; refine ⟨_, rfl, ?_⟩) | ((with_reducible refine gate_callee (f := 92) rfl ?_); refine goesL_ (some 30) rfl rfl Try.func92 (by kernel_rfl) rfl #[.int .i64 a0, .int .u64 a3] rfl ar ?_; (with_reducible refine (spec_l3Signed.calls a0 a3 t224 _ A9.out).mono ?_); rintro e w' ⟨rfl, ⟨nd, rfl⟩⟩; refine ⟨_, rfl, ?_⟩) | ((with_reducible refine gate_callee (f := 111) rfl ?_); refine goesL_ (some 44) rfl rfl Try.func111 (by kernel_rfl) rfl #[.int .i64 a0, .int .u64 (IntKind.u64.wrap (-a2))] rfl ar ?_; (with_reducible refine (spec_l3Mask.calls a0 (IntKind.u64.wrap (-a2)) t225 _ A16.out).mono ?_); rintro e w' ⟨rfl, ⟨nd, rfl⟩⟩; refine ⟨_, rfl, ?_⟩))
        go_ret2
        exact ⟨by first | rfl | (simp; done) | (simp only [← hji12, ← hji14] <;> (first | rfl | simp)) | (simp [*]; done), by repeat (first | exact Drawn0.refl _ | apply Drawn0.step)⟩
      ·
       rw [if_neg c13] at H
       exact absurd H (by simp)
    ·
     rw [if_neg c10] at H
     have c10b0 : (t224 == (-1)) = false := beq_eq_false_iff_ne.mpr c10
     have c10b1 : (t224 != (-1)) = true := bne_iff_ne.mpr c10
     by_cases c17 : a1 = 4
     ·
      rw [if_pos c17] at H
      have c17b0 : (a1 == 4) = true := beq_iff_eq.mpr c17
      have c17b1 : (a1 != 4) = false := bne_eq_false_iff_eq.mpr c17
      clear c17
      by_cases c18 : t224 = 0
      ·
       rw [if_pos c18] at H
       exact absurd H (by simp)
      ·
       rw [if_neg c18] at H
       have c18b0 : (t224 == 0) = false := beq_eq_false_iff_ne.mpr c18
       have c18b1 : (t224 != 0) = true := bne_iff_ne.mpr c18
       replace H := Option.bind_eq_some_iff.mp H
       obtain ⟨t226, A190, H⟩ := H
       replace H : (some (t226, 0)) = some (r1, r2) := H
       have A19 := Aside0.mk A190
       clear A190
       simp only [Option.some.injEq, Prod.mk.injEq] at H
       obtain ⟨rfl, rfl⟩ := H
       go_enter Try.func112, Try.ntmps112
       go_wp2_with (first | ((with_reducible refine gate_callee (f := 92) rfl ?_); refine goesL_ (some 27) rfl rfl Try.func92 (by kernel_rfl) rfl #[.int .i64 a0, .int .u64 a2] rfl ar ?_; (with_reducible refine (spec_l3Signed.calls a0 a2 t223 _ A8.out).mono ?_); rintro e w' ⟨rfl, ⟨nd, rfl⟩⟩; refine ⟨_, rfl, ?_⟩) | ((with_reducible refine gate_callee (f := 92) rfl ?_); refine goesL_ (some 30) rfl rfl Try.func92 (by kernel_rfl) rfl #[.int .i64 a0, .int .u64 a3] rfl ar ?_; (with_reducible refine (spec_l3Signed.calls a0 a3 t224 _ A9.out).mono ?_); rintro e w' ⟨rfl, ⟨nd, rfl⟩⟩; refine ⟨_, rfl, ?_⟩) | ((with_reducible refine gate_callee (f := 111) rfl ?_); refine goesL_ (some 52) rfl rfl Try.func111 (by kernel_rfl) rfl #[.int .i64 a0, .int .u64 (IntKind.u64.wrap (wrap64 (Int.tdiv t223 t224)))] rfl ar ?_; (with_reducible refine (spec_l3Mask.calls a0 (IntKind.u64.wrap (wrap64 (Int.tdiv t223 t224))) t226 _ A19.out).mono ?_); rintro e w' ⟨rfl, ⟨nd, rfl⟩⟩; refine ⟨_, rfl, ?_⟩))
       go_ret2
       exact ⟨by first | rfl | (simp; done) | (simp [*]; done), by repeat (first | exact Drawn0.refl _ | apply Drawn0.step)⟩
     ·
      rw [if_neg c17] at H
      have c17b0 : (a1 == 4) = false := beq_eq_false_iff_ne.mpr c17
      have c17b1 : (a1 != 4) = true := bne_iff_ne.mpr c17
      by_cases c20 : t224 = 0
      ·
       rw [if_pos c20] at H
       exact absurd H (by simp)
      ·
       rw [if_neg c20] at H
       have c20b0 : (t224 == 0) = false := beq_eq_false_iff_ne.mpr c20
       have c20b1 : (t224 != 0) = true := bne_iff_ne.mpr c20
       replace H := Option.bind_eq_some_iff.mp H
       obtain ⟨t227, A210, H⟩ := H
       replace H : (some (t227, 0)) = some (r1, r2) := H
       have A21 := Aside0.mk A210
       clear A210
       simp only [Option.some.injEq, Prod.mk.injEq] at H
       obtain ⟨rfl, rfl⟩ := H
       go_enter Try.func112, Try.ntmps112
       go_wp2_with (first | ((with_reducible refine gate_callee (f := 92) rfl ?_); refine goesL_ (some 27) rfl rfl Try.func92 (by kernel_rfl) rfl #[.int .i64 a0, .int .u64 a2] rfl ar ?_; (with_reducible refine (spec_l3Signed.calls a0 a2 t223 _ A8.out).mono ?_); rintro e w' ⟨rfl, ⟨nd, rfl⟩⟩; refine ⟨_, rfl, ?_⟩) | ((with_reducible refine gate_callee (f := 92) rfl ?_); refine goesL_ (some 30) rfl rfl Try.func92 (by kernel_rfl) rfl #[.int .i64 a0, .int .u64 a3] rfl ar ?_; (with_reducible refine (spec_l3Signed.calls a0 a3 t224 _ A9.out).mono ?_); rintro e w' ⟨rfl, ⟨nd, rfl⟩⟩; refine ⟨_, rfl, ?_⟩) | ((with_reducible refine gate_callee (f := 111) rfl ?_); refine goesL_ (some 58) rfl rfl Try.func111 (by kernel_rfl) rfl #[.int .i64 a0, .int .u64 (IntKind.u64.wrap (Int.tmod t223 t224))] rfl ar ?_; (with_reducible refine (spec_l3Mask.calls a0 (IntKind.u64.wrap (Int.tmod t223 t224)) t227 _ A21.out).mono ?_); rintro e w' ⟨rfl, ⟨nd, rfl⟩⟩; refine ⟨_, rfl, ?_⟩))
       go_ret2
       exact ⟨by first | rfl | (simp; done) | (simp [*]; done), by repeat (first | exact Drawn0.refl _ | apply Drawn0.step)⟩

end Go.Proofs.Ytdjpbhmkcamkpaa.Q

namespace Go.Proofs.Ytdjpbhmkcamkpaa.Q
open Go.RowKit Go.Proofs.YtdjpbhmkcamkpaaW.PrintWords Go.Proofs.YtdjpbhmkcamkpaaW.PrintLast Go.Proofs.YtdjpbhmkcamkpaaW.PrintMore
attribute [local go_sem] max2_int min2_int max_two min_two max_three min_three max_four min_four   -- for this text's walks alone
set_option linter.unusedVariables false
set_option linter.unusedSimpArgs false

/-! ### spec_l3Yes: function 113 -/
def spec_l3Yes.f (a0 : Bool) : Option (Int) := if a0 = true then (some 1) else (some 0)
set_option maxHeartbeats 8000000 in
set_option maxRecDepth 100000 in
theorem spec_l3Yes.calls (a0 : Bool) (r : Int) (w : World) (h : spec_l3Yes.f a0 = some r) :
  Calls Try.prog 113 #[.bool a0] w fun e w' => e = .returned (.int .u64 r) ∧ Drawn0 w w' := by
 have H : (if a0 = true then (some 1) else (some 0)) = some r := h
 clear h
 by_cases c2 : a0 = true
 ·
  subst c2
  have H1 : (some 1) = some r := by rw [if_pos rfl] at H; exact H
  clear H
  have H := H1
  clear H1
  obtain rfl := Option.some.inj H
  simp only [Option.some.injEq, Prod.mk.injEq] at H
  obtain ⟨rfl⟩ := H
  go_enter Try.func113, Try.ntmps113
  go_wp2
  go_ret
  exact ⟨by first | rfl | (simp; done) | (simp [*]; done), by repeat (first | exact Drawn0.refl _ | apply Drawn0.step)⟩
 ·
  replace c2 := Bool.eq_false_iff.mpr c2
  subst c2
  have H1 : (some 0) = some r := by rw [if_neg (show ¬ (false = true) by decide)] at H; exact H
  clear H
  have H := H1
  clear H1
  obtain rfl := Option.some.inj H
  simp only [Option.some.injEq, Prod.mk.injEq] at H
  obtain ⟨rfl⟩ := H
  go_enter Try.func113, Try.ntmps113
  go_wp2
  go_ret
  exact ⟨by first | rfl | (simp; done) | (simp [*]; done), by repeat (first | exact Drawn0.refl _ | apply Drawn0.step)⟩

end Go.Proofs.Ytdjpbhmkcamkpaa.Q

namespace Go.Proofs.Ytdjpbhmkcamkpaa.Q
open Go.RowKit Go.Proofs.YtdjpbhmkcamkpaaW.PrintWords Go.Proofs.YtdjpbhmkcamkpaaW.PrintLast Go.Proofs.YtdjpbhmkcamkpaaW.PrintMore
attribute [local go_sem] max2_int min2_int max_two min_two max_three min_three max_four min_four   -- for this text's walks alone
set_option linter.unusedVariables false
set_option linter.unusedSimpArgs false

/-! ### spec_l3Binary: function 91 -/
def spec_l3Binary.j0 : Nat → Int → Int → Int → Int → Int → Int → Int → Int → Bool → Option (Int × Int)
 | 0, _, _, _, _, _, _, _, _, _ => none
 | k + 1, x0, x1, x2, x3, x10, x11, x12, x30, x46 => if x46 = true then ((spec_l3Divide.f x0 x1 x2 x3).bind fun bt235 => (some (bt235.1, bt235.2))) else (if x30 = 8 then ((spec_l3Mask.f x0 (Go.bits .and .u64 x2 x3)).bind fun t237 => (some (t237, 0))) else (if x30 = 9 then ((spec_l3Mask.f x0 (Go.bits .or .u64 x2 x3)).bind fun t238 => (some (t238, 0))) else (if x30 = 10 then ((spec_l3Mask.f x0 (Go.bits .xor .u64 x2 x3)).bind fun t239 => (some (t239, 0))) else (if x30 = 11 then (if 0 ≤ x10 then ((spec_l3Mask.f x0 (shl .u64 x2 x10)).bind fun t240 => (some (t240, 0))) else (none)) else (if x30 = 13 then (if 0 ≤ x10 then ((spec_l3Mask.f x0 (shr .u64 x2 x10)).bind fun t241 => (some (t241, 0))) else (none)) else (if x30 = 12 then (if 0 ≤ x10 then ((spec_l3Mask.f x0 (IntKind.u64.wrap (shr .i64 x11 x10))).bind fun t242 => (some (t242, 0))) else (none)) else (if x30 = 14 then (if 0 ≤ x10 then (if 0 ≤ (IntKind.u64.wrap ((IntKind.u64.wrap (x0)) - x10)) then ((spec_l3Mask.f x0 (Go.bits .or .u64 (shl .u64 x2 x10) (shr .u64 x2 (IntKind.u64.wrap ((IntKind.u64.wrap (x0)) - x10))))).bind fun t243 => (some (t243, 0))) else (none)) else (none)) else (if x30 = 15 then (if 0 ≤ x10 then (if 0 ≤ (IntKind.u64.wrap ((IntKind.u64.wrap (x0)) - x10)) then ((spec_l3Mask.f x0 (Go.bits .or .u64 (shr .u64 x2 x10) (shl .u64 x2 (IntKind.u64.wrap ((IntKind.u64.wrap (x0)) - x10))))).bind fun t244 => (some (t244, 0))) else (none)) else (none)) else (if x30 = 16 then ((spec_l3Yes.f (x2 == x3)).bind fun t245 => ((spec_l3Mask.f x0 t245).bind fun t246 => (some (t246, 0)))) else (if x30 = 17 then ((spec_l3Yes.f (x2 != x3)).bind fun t247 => ((spec_l3Mask.f x0 t247).bind fun t248 => (some (t248, 0)))) else (if x30 = 18 then ((spec_l3Yes.f (decide (x11 < x12))).bind fun t249 => ((spec_l3Mask.f x0 t249).bind fun t250 => (some (t250, 0)))) else (if x30 = 19 then ((spec_l3Yes.f (decide (x2 < x3))).bind fun t251 => ((spec_l3Mask.f x0 t251).bind fun t252 => (some (t252, 0)))) else (if x30 = 20 then ((spec_l3Yes.f (decide (x11 > x12))).bind fun t253 => ((spec_l3Mask.f x0 t253).bind fun t254 => (some (t254, 0)))) else (if x30 = 21 then ((spec_l3Yes.f (decide (x2 > x3))).bind fun t255 => ((spec_l3Mask.f x0 t255).bind fun t256 => (some (t256, 0)))) else (some (0, 3))))))))))))))))
def spec_l3Binary.f (k : Nat) (a0 : Int) (a1 : Int) (a2 : Int) (a3 : Int) : Option (Int × Int) := (spec_l3Mask.f a0 a2).bind fun t228 => ((spec_l3Mask.f a0 a3).bind fun t229 => (if (IntKind.u64.wrap (a0)) = 0 then (none) else ((spec_l3Signed.f a0 t228).bind fun t230 => ((spec_l3Signed.f a0 t229).bind fun t231 => (if a1 = 1 then ((spec_l3Mask.f a0 (IntKind.u64.wrap (t228 + t229))).bind fun t232 => (some (t232, 0))) else (if a1 = 2 then ((spec_l3Mask.f a0 (IntKind.u64.wrap (t228 - t229))).bind fun t233 => (some (t233, 0))) else (if a1 = 3 then ((spec_l3Mask.f a0 (IntKind.u64.wrap (t228 * t229))).bind fun t234 => (some (t234, 0))) else (if a1 = 4 then (spec_l3Binary.j0 k a0 a1 t228 t229 (Int.tmod t229 (IntKind.u64.wrap (a0))) t230 t231 a1 (a1 == 4)) else (if a1 = 5 then (spec_l3Binary.j0 k a0 a1 t228 t229 (Int.tmod t229 (IntKind.u64.wrap (a0))) t230 t231 a1 (a1 == 5)) else (if a1 = 6 then (spec_l3Binary.j0 k a0 a1 t228 t229 (Int.tmod t229 (IntKind.u64.wrap (a0))) t230 t231 a1 (a1 == 6)) else (spec_l3Binary.j0 k a0 a1 t228 t229 (Int.tmod t229 (IntKind.u64.wrap (a0))) t230 t231 a1 (a1 == 7))))))))))))
theorem spec_l3Binary.mono_l : ∀ k, (∀ y0 y1 y2 y3 y4 y5 y6 y7 y8, LeO (spec_l3Binary.j0 k y0 y1 y2 y3 y4 y5 y6 y7 y8) (spec_l3Binary.j0 (k + 1) y0 y1 y2 y3 y4 y5 y6 y7 y8))
 | 0 => fun _ _ _ _ _ _ _ _ _ r h => by simp [spec_l3Binary.j0] at h
 | k + 1 => by
  have ih0 := spec_l3Binary.mono_l k
  ·
   intro y0 y1 y2 y3 y4 y5 y6 y7 y8
   unfold spec_l3Binary.j0
   repeat' first
   | (with_reducible exact ih0 _ _ _ _ _ _ _ _ _)
   | (with_reducible exact LeO.refl _)
   | (with_reducible exact LeO.none _)
   | (with_reducible refine LeO.ite ?_ ?_)
   | (with_reducible refine LeO.bind ?_ (fun _ => ?_))
   | exact ih0 _ _ _ _ _ _ _ _ _
   | exact LeO.none _
   | refine LeO.ite ?_ ?_
   | refine LeO.bind ?_ (fun _ => ?_)
theorem spec_l3Binary.mono : ∀ a0 a1 a2 a3 k, LeO (spec_l3Binary.f k a0 a1 a2 a3) (spec_l3Binary.f (k + 1) a0 a1 a2 a3) := by
 intro a0 a1 a2 a3 k
 have ih0 := spec_l3Binary.mono_l k
 unfold spec_l3Binary.f
 repeat' first
   | (with_reducible exact ih0 _ _ _ _ _ _ _ _ _)
   | (with_reducible exact LeO.refl _)
   | (with_reducible exact LeO.none _)
   | (with_reducible refine LeO.ite ?_ ?_)
   | (with_reducible refine LeO.bind ?_ (fun _ => ?_))
   | exact ih0 _ _ _ _ _ _ _ _ _
   | exact LeO.none _
   | refine LeO.ite ?_ ?_
   | refine LeO.bind ?_ (fun _ => ?_)
set_option maxHeartbeats 8000000 in
set_option maxRecDepth 100000 in
theorem spec_l3Binary.calls (k : Nat) (a0 : Int) (a1 : Int) (a2 : Int) (a3 : Int) (r1 : Int) (r2 : Int) (w : World) (h : spec_l3Binary.f k a0 a1 a2 a3 = some (r1, r2)) :
  Calls Try.prog 91 #[.int .i64 a0, .int .i64 a1, .int .u64 a2, .int .u64 a3] w fun e w' => e = .returned (.tuple #[.int .u64 r1, .int .i64 r2]) ∧ Drawn0 w w' := by
 have H : ((spec_l3Mask.f a0 a2).bind fun t228 => ((spec_l3Mask.f a0 a3).bind fun t229 => (if (IntKind.u64.wrap (a0)) = 0 then (none) else ((spec_l3Signed.f a0 t228).bind fun t230 => ((spec_l3Signed.f a0 t229).bind fun t231 => (if a1 = 1 then ((spec_l3Mask.f a0 (IntKind.u64.wrap (t228 + t229))).bind fun t232 => (some (t232, 0))) else (if a1 = 2 then ((spec_l3Mask.f a0 (IntKind.u64.wrap (t228 - t229))).bind fun t233 => (some (t233, 0))) else (if a1 = 3 then ((spec_l3Mask.f a0 (IntKind.u64.wrap (t228 * t229))).bind fun t234 => (some (t234, 0))) else (if a1 = 4 then (spec_l3Binary.j0 k a0 a1 t228 t229 (Int.tmod t229 (IntKind.u64.wrap (a0))) t230 t231 a1 (a1 == 4)) else (if a1 = 5 then (spec_l3Binary.j0 k a0 a1 t228 t229 (Int.tmod t229 (IntKind.u64.wrap (a0))) t230 t231 a1 (a1 == 5)) else (if a1 = 6 then (spec_l3Binary.j0 k a0 a1 t228 t229 (Int.tmod t229 (IntKind.u64.wrap (a0))) t230 t231 a1 (a1 == 6)) else (spec_l3Binary.j0 k a0 a1 t228 t229 (Int.tmod t229 (IntKind.u64.wrap (a0))) t230 t231 a1 (a1 == 7))))))))))))) = some (r1, r2) := h
 clear h
 replace H := Option.bind_eq_some_iff.mp H
 obtain ⟨t228, A50, H⟩ := H
 replace H : ((spec_l3Mask.f a0 a3).bind fun t229 => (if (IntKind.u64.wrap (a0)) = 0 then (none) else ((spec_l3Signed.f a0 t228).bind fun t230 => ((spec_l3Signed.f a0 t229).bind fun t231 => (if a1 = 1 then ((spec_l3Mask.f a0 (IntKind.u64.wrap (t228 + t229))).bind fun t232 => (some (t232, 0))) else (if a1 = 2 then ((spec_l3Mask.f a0 (IntKind.u64.wrap (t228 - t229))).bind fun t233 => (some (t233, 0))) else (if a1 = 3 then ((spec_l3Mask.f a0 (IntKind.u64.wrap (t228 * t229))).bind fun t234 => (some (t234, 0))) else (if a1 = 4 then (spec_l3Binary.j0 k a0 a1 t228 t229 (Int.tmod t229 (IntKind.u64.wrap (a0))) t230 t231 a1 (a1 == 4)) else (if a1 = 5 then (spec_l3Binary.j0 k a0 a1 t228 t229 (Int.tmod t229 (IntKind.u64.wrap (a0))) t230 t231 a1 (a1 == 5)) else (if a1 = 6 then (spec_l3Binary.j0 k a0 a1 t228 t229 (Int.tmod t229 (IntKind.u64.wrap (a0))) t230 t231 a1 (a1 == 6)) else (spec_l3Binary.j0 k a0 a1 t228 t229 (Int.tmod t229 (IntKind.u64.wrap (a0))) t230 t231 a1 (a1 == 7)))))))))))) = some (r1, r2) := H
 have A5 := Aside0.mk A50
 clear A50
 replace H := Option.bind_eq_some_iff.mp H
 obtain ⟨t229, A60, H⟩ := H
 replace H : (if (IntKind.u64.wrap (a0)) = 0 then (none) else ((spec_l3Signed.f a0 t228).bind fun t230 => ((spec_l3Signed.f a0 t229).bind fun t231 => (if a1 = 1 then ((spec_l3Mask.f a0 (IntKind.u64.wrap (t228 + t229))).bind fun t232 => (some (t232, 0))) else (if a1 = 2 then ((spec_l3Mask.f a0 (IntKind.u64.wrap (t228 - t229))).bind fun t233 => (some (t233, 0))) else (if a1 = 3 then ((spec_l3Mask.f a0 (IntKind.u64.wrap (t228 * t229))).bind fun t234 => (some (t234, 0))) else (if a1 = 4 then (spec_l3Binary.j0 k a0 a1 t228 t229 (Int.tmod t229 (IntKind.u64.wrap (a0))) t230 t231 a1 (a1 == 4)) else (if a1 = 5 then (spec_l3Binary.j0 k a0 a1 t228 t229 (Int.tmod t229 (IntKind.u64.wrap (a0))) t230 t231 a1 (a1 == 5)) else (if a1 = 6 then (spec_l3Binary.j0 k a0 a1 t228 t229 (Int.tmod t229 (IntKind.u64.wrap (a0))) t230 t231 a1 (a1 == 6)) else (spec_l3Binary.j0 k a0 a1 t228 t229 (Int.tmod t229 (IntKind.u64.wrap (a0))) t230 t231 a1 (a1 == 7))))))))))) = some (r1, r2) := H
 have A6 := Aside0.mk A60
 clear A60
 by_cases c7 : (IntKind.u64.wrap (a0)) = 0
 ·
  rw [if_pos c7] at H
  exact absurd H (by simp)
 ·
  rw [if_neg c7] at H
  have c7b0 : ((IntKind.u64.wrap (a0)) == 0) = false := beq_eq_false_iff_ne.mpr c7
  have c7b1 : ((IntKind.u64.wrap (a0)) != 0) = true := bne_iff_ne.mpr c7
  replace H := Option.bind_eq_some_iff.mp H
  obtain ⟨t230, A80, H⟩ := H
  replace H : ((spec_l3Signed.f a0 t229).bind fun t231 => (if a1 = 1 then ((spec_l3Mask.f a0 (IntKind.u64.wrap (t228 + t229))).bind fun t232 => (some (t232, 0))) else (if a1 = 2 then ((spec_l3Mask.f a0 (IntKind.u64.wrap (t228 - t229))).bind fun t233 => (some (t233, 0))) else (if a1 = 3 then ((spec_l3Mask.f a0 (IntKind.u64.wrap (t228 * t229))).bind fun t234 => (some (t234, 0))) else (if a1 = 4 then (spec_l3Binary.j0 k a0 a1 t228 t229 (Int.tmod t229 (IntKind.u64.wrap (a0))) t230 t231 a1 (a1 == 4)) else (if a1 = 5 then (spec_l3Binary.j0 k a0 a1 t228 t229 (Int.tmod t229 (IntKind.u64.wrap (a0))) t230 t231 a1 (a1 == 5)) else (if a1 = 6 then (spec_l3Binary.j0 k a0 a1 t228 t229 (Int.tmod t229 (IntKind.u64.wrap (a0))) t230 t231 a1 (a1 == 6)) else (spec_l3Binary.j0 k a0 a1 t228 t229 (Int.tmod t229 (IntKind.u64.wrap (a0))) t230 t231 a1 (a1 == 7))))))))) = some (r1, r2) := H
  have A8 := Aside0.mk A80
  clear A80
  replace H := Option.bind_eq_some_iff.mp H
  obtain ⟨t231, A90, H⟩ := H
  replace H : (if a1 = 1 then ((spec_l3Mask.f a0 (IntKind.u64.wrap (t228 + t229))).bind fun t232 => (some (t232, 0))) else (if a1 = 2 then ((spec_l3Mask.f a0 (IntKind.u64.wrap (t228 - t229))).bind fun t233 => (some (t233, 0))) else (if a1 = 3 then ((spec_l3Mask.f a0 (IntKind.u64.wrap (t228 * t229))).bind fun t234 => (some (t234, 0))) else (if a1 = 4 then (spec_l3Binary.j0 k a0 a1 t228 t229 (Int.tmod t229 (IntKind.u64.wrap (a0))) t230 t231 a1 (a1 == 4)) else (if a1 = 5 then (spec_l3Binary.j0 k a0 a1 t228 t229 (Int.tmod t229 (IntKind.u64.wrap (a0))) t230 t231 a1 (a1 == 5)) else (if a1 = 6 then (spec_l3Binary.j0 k a0 a1 t228 t229 (Int.tmod t229 (IntKind.u64.wrap (a0))) t230 t231 a1 (a1 == 6)) else (spec_l3Binary.j0 k a0 a1 t228 t229 (Int.tmod t229 (IntKind.u64.wrap (a0))) t230 t231 a1 (a1 == 7)))))))) = some (r1, r2) := H
  have A9 := Aside0.mk A90
  clear A90
  by_cases c10 : a1 = 1
  ·
   rw [if_pos c10] at H
   have c10b0 : (a1 == 1) = true := beq_iff_eq.mpr c10
   have c10b1 : (a1 != 1) = false := bne_eq_false_iff_eq.mpr c10
   clear c10
   replace H := Option.bind_eq_some_iff.mp H
   obtain ⟨t232, A110, H⟩ := H
   replace H : (some (t232, 0)) = some (r1, r2) := H
   have A11 := Aside0.mk A110
   clear A110
   simp only [Option.some.injEq, Prod.mk.injEq] at H
   obtain ⟨rfl, rfl⟩ := H
   go_enter Try.func91, Try.ntmps91
   go_wp2_with (first | ((with_reducible refine gate_callee (f := 111) rfl ?_); refine goesL_ (some 16) rfl rfl Try.func111 (by kernel_rfl) rfl #[.int .i64 a0, .int .u64 a2] rfl ar ?_; (with_reducible refine (spec_l3Mask.calls a0 a2 t228 _ A5.out).mono ?_); rintro e w' ⟨rfl, ⟨nd, rfl⟩⟩; refine ⟨_, rfl, ?_⟩) | ((with_reducible refine gate_callee (f := 111) rfl ?_); refine goesL_ (some 19) rfl rfl Try.func111 (by kernel_rfl) rfl #[.int .i64 a0, .int .u64 a3] rfl ar ?_; (with_reducible refine (spec_l3Mask.calls a0 a3 t229 _ A6.out).mono ?_); rintro e w' ⟨rfl, ⟨nd, rfl⟩⟩; refine ⟨_, rfl, ?_⟩) | ((with_reducible refine gate_callee (f := 92) rfl ?_); refine goesL_ (some 26) rfl rfl Try.func92 (by kernel_rfl) rfl #[.int .i64 a0, .int .u64 t228] rfl ar ?_; (with_reducible refine (spec_l3Signed.calls a0 t228 t230 _ A8.out).mono ?_); rintro e w' ⟨rfl, ⟨nd, rfl⟩⟩; refine ⟨_, rfl, ?_⟩) | ((with_reducible refine gate_callee (f := 92) rfl ?_); refine goesL_ (some 29) rfl rfl Try.func92 (by kernel_rfl) rfl #[.int .i64 a0, .int .u64 t229] rfl ar ?_; (with_reducible refine (spec_l3Signed.calls a0 t229 t231 _ A9.out).mono ?_); rintro e w' ⟨rfl, ⟨nd, rfl⟩⟩; refine ⟨_, rfl, ?_⟩) | ((with_reducible refine gate_callee (f := 111) rfl ?_); refine goesL_ (some 151) rfl rfl Try.func111 (by kernel_rfl) rfl #[.int .i64 a0, .int .u64 (IntKind.u64.wrap (t228 + t229))] rfl ar ?_; (with_reducible refine (spec_l3Mask.calls a0 (IntKind.u64.wrap (t228 + t229)) t232 _ A11.out).mono ?_); rintro e w' ⟨rfl, ⟨nd, rfl⟩⟩; refine ⟨_, rfl, ?_⟩))
   go_ret2
   exact ⟨by first | rfl | (simp; done) | (simp [*]; done), by repeat (first | exact Drawn0.refl _ | apply Drawn0.step)⟩
  ·
   rw [if_neg c10] at H
   have c10b0 : (a1 == 1) = false := beq_eq_false_iff_ne.mpr c10
   have c10b1 : (a1 != 1) = true := bne_iff_ne.mpr c10
   by_cases c12 : a1 = 2
   ·
    rw [if_pos c12] at H
    have c12b0 : (a1 == 2) = true := beq_iff_eq.mpr c12
    have c12b1 : (a1 != 2) = false := bne_eq_false_iff_eq.mpr c12
    clear c12
    replace H := Option.bind_eq_some_iff.mp H
    obtain ⟨t233, A130, H⟩ := H
    replace H : (some (t233, 0)) = some (r1, r2) := H
    have A13 := Aside0.mk A130
    clear A130
    simp only [Option.some.injEq, Prod.mk.injEq] at H
    obtain ⟨rfl, rfl⟩ := H
    go_enter Try.func91, Try.ntmps91
    go_wp2_with (first | ((with_reducible refine gate_callee (f := 111) rfl ?_); refine goesL_ (some 16) rfl rfl Try.func111 (by kernel_rfl) rfl #[.int .i64 a0, .int .u64 a2] rfl ar ?_; (with_reducible refine (spec_l3Mask.calls a0 a2 t228 _ A5.out).mono ?_); rintro e w' ⟨rfl, ⟨nd, rfl⟩⟩; refine ⟨_, rfl, ?_⟩) | ((with_reducible refine gate_callee (f := 111) rfl ?_); refine goesL_ (some 19) rfl rfl Try.func111 (by kernel_rfl) rfl #[.int .i64 a0, .int .u64 a3] rfl ar ?_; (with_reducible refine (spec_l3Mask.calls a0 a3 t229 _ A6.out).mono ?_); rintro e w' ⟨rfl, ⟨nd, rfl⟩⟩; refine ⟨_, rfl, ?_⟩) | ((with_reducible refine gate_callee (f := 92) rfl ?_); refine goesL_ (some 26) rfl rfl Try.func92 (by kernel_rfl) rfl #[.int .i64 a0, .int .u64 t228] rfl ar ?_; (with_reducible refine (spec_l3Signed.calls a0 t228 t230 _ A8.out).mono ?_); rintro e w' ⟨rfl, ⟨nd, rfl⟩⟩; refine ⟨_, rfl, ?_⟩) | ((with_reducible refine gate_callee (f := 92) rfl ?_); refine goesL_ (some 29) rfl rfl Try.func92 (by kernel_rfl) rfl #[.int .i64 a0, .int .u64 t229] rfl ar ?_; (with_reducible refine (spec_l3Signed.calls a0 t229 t231 _ A9.out).mono ?_); rintro e w' ⟨rfl, ⟨nd, rfl⟩⟩; refine ⟨_, rfl, ?_⟩) | ((with_reducible refine gate_callee (f := 111) rfl ?_); refine goesL_ (some 151) rfl rfl Try.func111 (by kernel_rfl) rfl #[.int .i64 a0, .int .u64 (IntKind.u64.wrap (t228 - t229))] rfl ar ?_; (with_reducible refine (spec_l3Mask.calls a0 (IntKind.u64.wrap (t228 - t229)) t233 _ A13.out).mono ?_); rintro e w' ⟨rfl, ⟨nd, rfl⟩⟩; refine ⟨_, rfl, ?_⟩))
    go_ret2
    exact ⟨by first | rfl | (simp; done) | (simp [*]; done), by repeat (first | exact Drawn0.refl _ | apply Drawn0.step)⟩
   ·
    rw [if_neg c12] at H
    have c12b0 : (a1 == 2) = false := beq_eq_false_iff_ne.mpr c12
    have c12b1 : (a1 != 2) = true := bne_iff_ne.mpr c12
    by_cases c14 : a1 = 3
    ·
     rw [if_pos c14] at H
     have c14b0 : (a1 == 3) = true := beq_iff_eq.mpr c14
     have c14b1 : (a1 != 3) = false := bne_eq_false_iff_eq.mpr c14
     clear c14
     replace H := Option.bind_eq_some_iff.mp H
     obtain ⟨t234, A150, H⟩ := H
     replace H : (some (t234, 0)) = some (r1, r2) := H
     have A15 := Aside0.mk A150
     clear A150
     simp only [Option.some.injEq, Prod.mk.injEq] at H
     obtain ⟨rfl, rfl⟩ := H
     go_enter Try.func91, Try.ntmps91
     go_wp2_with (first | ((with_reducible refine gate_callee (f := 111) rfl ?_); refine goesL_ (some 16) rfl rfl Try.func111 (by kernel_rfl) rfl #[.int .i64 a0, .int .u64 a2] rfl ar ?_; (with_reducible refine (spec_l3Mask.calls a0 a2 t228 _ A5.out).mono ?_); rintro e w' ⟨rfl, ⟨nd, rfl⟩⟩; refine ⟨_, rfl, ?_⟩) | ((with_reducible refine gate_callee (f := 111) rfl ?_); refine goesL_ (some 19) rfl rfl Try.func111 (by kernel_rfl) rfl #[.int .i64 a0, .int .u64 a3] rfl ar ?_; (with_reducible refine (spec_l3Mask.calls a0 a3 t229 _ A6.out).mono ?_); rintro e w' ⟨rfl, ⟨nd, rfl⟩⟩; refine ⟨_, rfl, ?_⟩) | ((with_reducible refine gate_callee (f := 92) rfl ?_); refine goesL_ (some 26) rfl rfl Try.func92 (by kernel_rfl) rfl #[.int .i64 a0, .int .u64 t228] rfl ar ?_; (with_reducible refine (spec_l3Signed.calls a0 t228 t230 _ A8.out).mono ?_); rintro e w' ⟨rfl, ⟨nd, rfl⟩⟩; refine ⟨_, rfl, ?_⟩) | ((with_reducible refine gate_callee (f := 92) rfl ?_); refine goesL_ (some 29) rfl rfl Try.func92 (by kernel_rfl) rfl #[.int .i64 a0, .int .u64 t229] rfl ar ?_; (with_reducible refine (spec_l3Signed.calls a0 t229 t231 _ A9.out).mono ?_); rintro e w' ⟨rfl, ⟨nd, rfl⟩⟩; refine ⟨_, rfl, ?_⟩) | ((with_reducible refine gate_callee (f := 111) rfl ?_); refine goesL_ (some 151) rfl rfl Try.func111 (by kernel_rfl) rfl #[.int .i64 a0, .int .u64 (IntKind.u64.wrap (t228 * t229))] rfl ar ?_; (with_reducible refine (spec_l3Mask.calls a0 (IntKind.u64.wrap (t228 * t229)) t234 _ A15.out).mono ?_); rintro e w' ⟨rfl, ⟨nd, rfl⟩⟩; refine ⟨_, rfl, ?_⟩))
     go_ret2
     exact ⟨by first | rfl | (simp; done) | (simp [*]; done), by repeat (first | exact Drawn0.refl _ | apply Drawn0.step)⟩
    ·
     rw [if_neg c14] at H
     have c14b0 : (a1 == 3) = false := beq_eq_false_iff_ne.mpr c14
     have c14b1 : (a1 != 3) = true := bne_iff_ne.mpr c14
     have HC16 := Aside0.mk H
     clear H
     go_enter Try.func91, Try.ntmps91
     go_upto_if 46 with (first | ((with_reducible refine gate_callee (f := 111) rfl ?_); refine goesL_ (some 16) rfl rfl Try.func111 (by kernel_rfl) rfl #[.int .i64 a0, .int .u64 a2] rfl ar ?_; (with_reducible refine (spec_l3Mask.calls a0 a2 t228 _ A5.out).mono ?_); rintro e w' ⟨rfl, ⟨nd, rfl⟩⟩; refine ⟨_, rfl, ?_⟩) | ((with_reducible refine gate_callee (f := 111) rfl ?_); refine goesL_ (some 19) rfl rfl Try.func111 (by kernel_rfl) rfl #[.int .i64 a0, .int .u64 a3] rfl ar ?_; (with_reducible refine (spec_l3Mask.calls a0 a3 t229 _ A6.out).mono ?_); rintro e w' ⟨rfl, ⟨nd, rfl⟩⟩; refine ⟨_, rfl, ?_⟩) | ((with_reducible refine gate_callee (f := 92) rfl ?_); refine goesL_ (some 26) rfl rfl Try.func92 (by kernel_rfl) rfl #[.int .i64 a0, .int .u64 t228] rfl ar ?_; (with_reducible refine (spec_l3Signed.calls a0 t228 t230 _ A8.out).mono ?_); rintro e w' ⟨rfl, ⟨nd, rfl⟩⟩; refine ⟨_, rfl, ?_⟩) | ((with_reducible refine gate_callee (f := 92) rfl ?_); refine goesL_ (some 29) rfl rfl Try.func92 (by kernel_rfl) rfl #[.int .i64 a0, .int .u64 t229] rfl ar ?_; (with_reducible refine (spec_l3Signed.calls a0 t229 t231 _ A9.out).mono ?_); rintro e w' ⟨rfl, ⟨nd, rfl⟩⟩; refine ⟨_, rfl, ?_⟩))
     (try simp only [Act.put, List.setIfInBounds_toArray, List.set_cons_zero, List.set_cons_succ])
     go_cut [46] (fun v46 wc => ∃ (kq : Nat) (x46_15 : Bool), v46 = .bool x46_15 ∧ Aside0 (spec_l3Binary.j0 kq a0 a1 t228 t229 (Int.tmod t229 (IntKind.u64.wrap (a0))) t230 t231 a1 x46_15 = some (r1, r2)) ∧ Aside0 (kq ≤ k) ∧ Drawn0 w wc)
     case first =>
      have H := HC16.out
      clear HC16
      by_cases c17 : a1 = 4
      ·
       rw [if_pos c17] at H
       have c17b0 : (a1 == 4) = true := beq_iff_eq.mpr c17
       have c17b1 : (a1 != 4) = false := bne_eq_false_iff_eq.mpr c17
       clear c17
       (first | rw [c17b0] | (simp only [i64_w, i32_w]; rw [c17b0]) | skip)
       have H' := Aside0.mk H
       clear H
       go_wp2
       go_meet
       case rel => exact ⟨_, ((a1 == 4)), (by first | rfl | (simp; done) | (simp [*]; done)), H', ⟨by first | omega | exact Nat.le_refl _⟩, by repeat (first | exact Drawn0.refl _ | apply Drawn0.step)⟩
      ·
       rw [if_neg c17] at H
       have c17b0 : (a1 == 4) = false := beq_eq_false_iff_ne.mpr c17
       have c17b1 : (a1 != 4) = true := bne_iff_ne.mpr c17
       (first | rw [c17b0] | (simp only [i64_w, i32_w]; rw [c17b0]) | skip)
       by_cases c18 : a1 = 5
       ·
        rw [if_pos c18] at H
        have c18b0 : (a1 == 5) = true := beq_iff_eq.mpr c18
        have c18b1 : (a1 != 5) = false := bne_eq_false_iff_eq.mpr c18
        clear c18
        have H' := Aside0.mk H
        clear H
        go_wp2
        go_meet
        case rel => exact ⟨_, ((a1 == 5)), (by first | rfl | (simp; done) | (simp [*]; done)), H', ⟨by first | omega | exact Nat.le_refl _⟩, by repeat (first | exact Drawn0.refl _ | apply Drawn0.step)⟩
       ·
        rw [if_neg c18] at H
        have c18b0 : (a1 == 5) = false := beq_eq_false_iff_ne.mpr c18
        have c18b1 : (a1 != 5) = true := bne_iff_ne.mpr c18
        by_cases c19 : a1 = 6
        ·
         rw [if_pos c19] at H
         have c19b0 : (a1 == 6) = true := beq_iff_eq.mpr c19
         have c19b1 : (a1 != 6) = false := bne_eq_false_iff_eq.mpr c19
         clear c19
         have H' := Aside0.mk H
         clear H
         go_wp2
         go_meet
         case rel => exact ⟨_, ((a1 == 6)), (by first | rfl | (simp; done) | (simp [*]; done)), H', ⟨by first | omega | exact Nat.le_refl _⟩, by repeat (first | exact Drawn0.refl _ | apply Drawn0.step)⟩
        ·
         rw [if_neg c19] at H
         have c19b0 : (a1 == 6) = false := beq_eq_false_iff_ne.mpr c19
         have c19b1 : (a1 != 6) = true := bne_iff_ne.mpr c19
         have H' := Aside0.mk H
         clear H
         go_wp2
         go_meet
         case rel => exact ⟨_, ((a1 == 7)), (by first | rfl | (simp; done) | (simp [*]; done)), H', ⟨by first | omega | exact Nat.le_refl _⟩, by repeat (first | exact Drawn0.refl _ | apply Drawn0.step)⟩
     case rest =>
      clear HC16
      try clear c1
      try clear p2
      try clear c7
      try clear c7b0
      try clear c7b1
      try clear c9
      try clear c10
      try clear c10b0
      try clear c10b1
      try clear c11
      try clear c12
      try clear c12b0
      try clear c12b1
      try clear c14
      try clear c14b0
      try clear c14b1
      try clear c17
      try clear c17b0
      try clear c17b1
      try clear c18
      try clear c18b0
      try clear c18b1
      try clear c19
      try clear c19b0
      try clear c19b1
      obtain ⟨kq, x46_15, rfl, HA, HJ15, ⟨mc15, rfl⟩⟩ := hcut
      cases kq with
      | zero => exact absurd HA.out (by simp [spec_l3Binary.j0])
      | succ kj15 =>
       have H := HA.out
       clear HA
       simp only [spec_l3Binary.j0] at H
       by_cases c20 : x46_15 = true
       ·
        subst c20
        have H1 : ((spec_l3Divide.f a0 a1 t228 t229).bind fun bt235 => (some (bt235.1, bt235.2))) = some (r1, r2) := by rw [if_pos rfl] at H; exact H
        clear H
        have H := H1
        clear H1
        replace H := Option.bind_eq_some_iff.mp H
        obtain ⟨⟨t235, t236⟩, A210, H⟩ := H
        replace H : (some (t235, t236)) = some (r1, r2) := H
        have A21 := Aside0.mk A210
        clear A210
        simp only [Option.some.injEq, Prod.mk.injEq] at H
        obtain ⟨rfl, rfl⟩ := H
        go_wp2_with (first | ((with_reducible refine gate_callee (f := 112) rfl ?_); refine goesL_ (some 55) rfl rfl Try.func112 (by kernel_rfl) rfl #[.int .i64 a0, .int .i64 a1, .int .u64 t228, .int .u64 t229] rfl ar ?_; (with_reducible refine (spec_l3Divide.calls a0 a1 t228 t229 t235 t236 _ A21.out).mono ?_); rintro e w' ⟨rfl, ⟨nd, rfl⟩⟩; refine ⟨_, rfl, ?_⟩))
        go_ret2
        exact ⟨by first | rfl | (simp; done) | (simp [*]; done), by repeat (first | exact Drawn0.refl _ | apply Drawn0.step)⟩
       ·
        replace c20 := Bool.eq_false_iff.mpr c20
        subst c20
        have H1 : (if a1 = 8 then ((spec_l3Mask.f a0 (Go.bits .and .u64 t228 t229)).bind fun t237 => (some (t237, 0))) else (if a1 = 9 then ((spec_l3Mask.f a0 (Go.bits .or .u64 t228 t229)).bind fun t238 => (some (t238, 0))) else (if a1 = 10 then ((spec_l3Mask.f a0 (Go.bits .xor .u64 t228 t229)).bind fun t239 => (some (t239, 0))) else (if a1 = 11 then (if 0 ≤ (Int.tmod t229 (IntKind.u64.wrap (a0))) then ((spec_l3Mask.f a0 (shl .u64 t228 (Int.tmod t229 (IntKind.u64.wrap (a0))))).bind fun t240 => (some (t240, 0))) else (none)) else (if a1 = 13 then (if 0 ≤ (Int.tmod t229 (IntKind.u64.wrap (a0))) then ((spec_l3Mask.f a0 (shr .u64 t228 (Int.tmod t229 (IntKind.u64.wrap (a0))))).bind fun t241 => (some (t241, 0))) else (none)) else (if a1 = 12 then (if 0 ≤ (Int.tmod t229 (IntKind.u64.wrap (a0))) then ((spec_l3Mask.f a0 (IntKind.u64.wrap (shr .i64 t230 (Int.tmod t229 (IntKind.u64.wrap (a0)))))).bind fun t242 => (some (t242, 0))) else (none)) else (if a1 = 14 then (if 0 ≤ (Int.tmod t229 (IntKind.u64.wrap (a0))) then (if 0 ≤ (IntKind.u64.wrap ((IntKind.u64.wrap (a0)) - (Int.tmod t229 (IntKind.u64.wrap (a0))))) then ((spec_l3Mask.f a0 (Go.bits .or .u64 (shl .u64 t228 (Int.tmod t229 (IntKind.u64.wrap (a0)))) (shr .u64 t228 (IntKind.u64.wrap ((IntKind.u64.wrap (a0)) - (Int.tmod t229 (IntKind.u64.wrap (a0)))))))).bind fun t243 => (some (t243, 0))) else (none)) else (none)) else (if a1 = 15 then (if 0 ≤ (Int.tmod t229 (IntKind.u64.wrap (a0))) then (if 0 ≤ (IntKind.u64.wrap ((IntKind.u64.wrap (a0)) - (Int.tmod t229 (IntKind.u64.wrap (a0))))) then ((spec_l3Mask.f a0 (Go.bits .or .u64 (shr .u64 t228 (Int.tmod t229 (IntKind.u64.wrap (a0)))) (shl .u64 t228 (IntKind.u64.wrap ((IntKind.u64.wrap (a0)) - (Int.tmod t229 (IntKind.u64.wrap (a0)))))))).bind fun t244 => (some (t244, 0))) else (none)) else (none)) else (if a1 = 16 then ((spec_l3Yes.f (t228 == t229)).bind fun t245 => ((spec_l3Mask.f a0 t245).bind fun t246 => (some (t246, 0)))) else (if a1 = 17 then ((spec_l3Yes.f (t228 != t229)).bind fun t247 => ((spec_l3Mask.f a0 t247).bind fun t248 => (some (t248, 0)))) else (if a1 = 18 then ((spec_l3Yes.f (decide (t230 < t231))).bind fun t249 => ((spec_l3Mask.f a0 t249).bind fun t250 => (some (t250, 0)))) else (if a1 = 19 then ((spec_l3Yes.f (decide (t228 < t229))).bind fun t251 => ((spec_l3Mask.f a0 t251).bind fun t252 => (some (t252, 0)))) else (if a1 = 20 then ((spec_l3Yes.f (decide (t230 > t231))).bind fun t253 => ((spec_l3Mask.f a0 t253).bind fun t254 => (some (t254, 0)))) else (if a1 = 21 then ((spec_l3Yes.f (decide (t228 > t229))).bind fun t255 => ((spec_l3Mask.f a0 t255).bind fun t256 => (some (t256, 0)))) else (some (0, 3)))))))))))))))) = some (r1, r2) := by rw [if_neg (show ¬ (false = true) by decide)] at H; exact H
        clear H
        have H := H1
        clear H1
        by_cases c22 : a1 = 8
        ·
         rw [if_pos c22] at H
         have c22b0 : (a1 == 8) = true := beq_iff_eq.mpr c22
         have c22b1 : (a1 != 8) = false := bne_eq_false_iff_eq.mpr c22
         clear c22
         replace H := Option.bind_eq_some_iff.mp H
         obtain ⟨t237, A230, H⟩ := H
         replace H : (some (t237, 0)) = some (r1, r2) := H
         have A23 := Aside0.mk A230
         clear A230
         simp only [Option.some.injEq, Prod.mk.injEq] at H
         obtain ⟨rfl, rfl⟩ := H
         go_wp2_with (first | ((with_reducible refine gate_callee (f := 111) rfl ?_); refine goesL_ (some 151) rfl rfl Try.func111 (by kernel_rfl) rfl #[.int .i64 a0, .int .u64 (Go.bits .and .u64 t228 t229)] rfl ar ?_; (with_reducible refine (spec_l3Mask.calls a0 (Go.bits .and .u64 t228 t229) t237 _ A23.out).mono ?_); rintro e w' ⟨rfl, ⟨nd, rfl⟩⟩; refine ⟨_, rfl, ?_⟩))
         go_ret2
         exact ⟨by first | rfl | (simp; done) | (simp [*]; done), by repeat (first | exact Drawn0.refl _ | apply Drawn0.step)⟩
        ·
         rw [if_neg c22] at H
         have c22b0 : (a1 == 8) = false := beq_eq_false_iff_ne.mpr c22
         have c22b1 : (a1 != 8) = true := bne_iff_ne.mpr c22
         by_cases c24 : a1 = 9
         ·
          rw [if_pos c24] at H
          have c24b0 : (a1 == 9) = true := beq_iff_eq.mpr c24
          have c24b1 : (a1 != 9) = false := bne_eq_false_iff_eq.mpr c24
          clear c24
          replace H := Option.bind_eq_some_iff.mp H
          obtain ⟨t238, A250, H⟩ := H
          replace H : (some (t238, 0)) = some (r1, r2) := H
          have A25 := Aside0.mk A250
          clear A250
          simp only [Option.some.injEq, Prod.mk.injEq] at H
          obtain ⟨rfl, rfl⟩ := H
          go_wp2_with (first | ((with_reducible refine gate_callee (f := 111) rfl ?_); refine goesL_ (some 151) rfl rfl Try.func111 (by kernel_rfl) rfl #[.int .i64 a0, .int .u64 (Go.bits .or .u64 t228 t229)] rfl ar ?_; (with_reducible refine (spec_l3Mask.calls a0 (Go.bits .or .u64 t228 t229) t238 _ A25.out).mono ?_); rintro e w' ⟨rfl, ⟨nd, rfl⟩⟩; refine ⟨_, rfl, ?_⟩))
          go_ret2
          exact ⟨by first | rfl | (simp; done) | (simp [*]; done), by repeat (first | exact Drawn0.refl _ | apply Drawn0.step)⟩
         ·
          rw [if_neg c24] at H
          have c24b0 : (a1 == 9) = false := beq_eq_false_iff_ne.mpr c24
          have c24b1 : (a1 != 9) = true := bne_iff_ne.mpr c24
          by_cases c26 : a1 = 10
          ·
           rw [if_pos c26] at H
           have c26b0 : (a1 == 10) = true := beq_iff_eq.mpr c26
           have c26b1 : (a1 != 10) = false := bne_eq_false_iff_eq.mpr c26
           clear c26
           replace H := Option.bind_eq_some_iff.mp H
           obtain ⟨t239, A270, H⟩ := H
           replace H : (some (t239, 0)) = some (r1, r2) := H
           have A27 := Aside0.mk A270
           clear A270
           simp only [Option.some.injEq, Prod.mk.injEq] at H
           obtain ⟨rfl, rfl⟩ := H
           go_wp2_with (first | ((with_reducible refine gate_callee (f := 111) rfl ?_); refine goesL_ (some 151) rfl rfl Try.func111 (by kernel_rfl) rfl #[.int .i64 a0, .int .u64 (Go.bits .xor .u64 t228 t229)] rfl ar ?_; (with_reducible refine (spec_l3Mask.calls a0 (Go.bits .xor .u64 t228 t229) t239 _ A27.out).mono ?_); rintro e w' ⟨rfl, ⟨nd, rfl⟩⟩; refine ⟨_, rfl, ?_⟩))
           go_ret2
           exact ⟨by first | rfl | (simp; done) | (simp [*]; done), by repeat (first | exact Drawn0.refl _ | apply Drawn0.step)⟩
          ·
           rw [if_neg c26] at H
           have c26b0 : (a1 == 10) = false := beq_eq_false_iff_ne.mpr c26
           have c26b1 : (a1 != 10) = true := bne_iff_ne.mpr c26
           by_cases c28 : a1 = 11
           ·
            rw [if_pos c28] at H
            have c28b0 : (a1 == 11) = true := beq_iff_eq.mpr c28
            have c28b1 : (a1 != 11) = false := bne_eq_false_iff_eq.mpr c28
            clear c28
            obtain ⟨ji29, hji29⟩ : ∃ j_ : Int, (Int.tmod t229 (IntKind.u64.wrap (a0))) = j_ := ⟨_, rfl⟩
            replace H : (if 0 ≤ (ji29) then ((spec_l3Mask.f a0 (shl .u64 t228 (ji29))).bind fun t240 => (some (t240, 0))) else (none)) = some (r1, r2) := by first | (rw [hji29] at H; exact H) | (simp only [hji29] at H ⊢; exact H)
            by_cases c30 : 0 ≤ (ji29)
            ·
             rw [if_pos c30] at H
             have c30b0 := eq_true c30
             have c30b1 : decide (0 ≤ (ji29)) = true := decide_eq_true c30
             clear c30
             obtain ⟨ji31, hji31⟩ : ∃ j_ : Int, (shl .u64 t228 (ji29)) = j_ := ⟨_, rfl⟩
             replace H : ((spec_l3Mask.f a0 (ji31)).bind fun t240 => (some (t240, 0))) = some (r1, r2) := by first | (rw [hji31] at H; exact H) | (simp only [hji31] at H ⊢; exact H)
             have hji31_ : (IntKind.u64.wrap (t228 * 2 ^ min (ji29).toNat 64)) = ji31 := hji31
             have hji31z : (ji29) ≤ 64 → (IntKind.u64.wrap (t228 * 2 ^ (ji29).toNat)) = ji31 := shl_small hji31
             replace H := Option.bind_eq_some_iff.mp H
             obtain ⟨t240, A320, H⟩ := H
             replace H : (some (t240, 0)) = some (r1, r2) := H
             have A32 := Aside0.mk A320
             clear A320
             simp only [Option.some.injEq, Prod.mk.injEq] at H
             obtain ⟨rfl, rfl⟩ := H
             go_wp2_with (first | ((with_reducible refine gate_callee (f := 111) rfl ?_); refine goesL_ (some 151) rfl rfl Try.func111 (by kernel_rfl) rfl #[.int .i64 a0, .int .u64 ji31] rfl (by (try simp only [List.map_toArray, List.map_cons, List.map_nil]); first | done | (simp only [hji31]; rfl) | rfl | (simp only [List.length_drop, List.length_take]; rfl)) ?_; (with_reducible refine (spec_l3Mask.calls a0 ji31 t240 _ A32.out).mono ?_); rintro e w' ⟨rfl, ⟨nd, rfl⟩⟩; refine ⟨_, rfl, ?_⟩))
             go_ret2
             exact ⟨by first | rfl | (simp; done) | (simp only [← hji29, ← hji31] <;> (first | rfl | simp)) | (simp [*]; done), by repeat (first | exact Drawn0.refl _ | apply Drawn0.step)⟩
            ·
             rw [if_neg c30] at H
             exact absurd H (by simp)
           ·
            rw [if_neg c28] at H
            have c28b0 : (a1 == 11) = false := beq_eq_false_iff_ne.mpr c28
            have c28b1 : (a1 != 11) = true := bne_iff_ne.mpr c28
            by_cases c33 : a1 = 13
            ·
             rw [if_pos c33] at H
             have c33b0 : (a1 == 13) = true := beq_iff_eq.mpr c33
             have c33b1 : (a1 != 13) = false := bne_eq_false_iff_eq.mpr c33
             clear c33
             obtain ⟨ji34, hji34⟩ : ∃ j_ : Int, (Int.tmod t229 (IntKind.u64.wrap (a0))) = j_ := ⟨_, rfl⟩
             replace H : (if 0 ≤ (ji34) then ((spec_l3Mask.f a0 (shr .u64 t228 (ji34))).bind fun t241 => (some (t241, 0))) else (none)) = some (r1, r2) := by first | (rw [hji34] at H; exact H) | (simp only [hji34] at H ⊢; exact H)
             by_cases c35 : 0 ≤ (ji34)
             ·
              rw [if_pos c35] at H
              have c35b0 := eq_true c35
              have c35b1 : decide (0 ≤ (ji34)) = true := decide_eq_true c35
              clear c35
              obtain ⟨ji36, hji36⟩ : ∃ j_ : Int, (shr .u64 t228 (ji34)) = j_ := ⟨_, rfl⟩
              replace H : ((spec_l3Mask.f a0 (ji36)).bind fun t241 => (some (t241, 0))) = some (r1, r2) := by first | (rw [hji36] at H; exact H) | (simp only [hji36] at H ⊢; exact H)
              have hji36_ : (t228 / 2 ^ min (ji34).toNat 64) = ji36 := hji36
              have hji36z : (ji34) ≤ 64 → (t228 / 2 ^ (ji34).toNat) = ji36 := shr_small hji36
              replace H := Option.bind_eq_some_iff.mp H
              obtain ⟨t241, A370, H⟩ := H
              replace H : (some (t241, 0)) = some (r1, r2) := H
              have A37 := Aside0.mk A370
              clear A370
              simp only [Option.some.injEq, Prod.mk.injEq] at H
              obtain ⟨rfl, rfl⟩ := H
              go_wp2_with (first | ((with_reducible refine gate_callee (f := 111) rfl ?_); refine goesL_ (some 151) rfl rfl Try.func111 (by kernel_rfl) rfl #[.int .i64 a0, .int .u64 ji36] rfl (by (try simp only [List.map_toArray, List.map_cons, List.map_nil]); first | done | (simp only [hji36]; rfl) | rfl | (simp only [List.length_drop, List.length_take]; rfl)) ?_; (with_reducible refine (spec_l3Mask.calls a0 ji36 t241 _ A37.out).mono ?_); rintro e w' ⟨rfl, ⟨nd, rfl⟩⟩; refine ⟨_, rfl, ?_⟩))
              go_ret2
              exact ⟨by first | rfl | (simp; done) | (simp only [← hji34, ← hji36] <;> (first | rfl | simp)) | (simp [*]; done), by repeat (first | exact Drawn0.refl _ | apply Drawn0.step)⟩
             ·
              rw [if_neg c35] at H
              exact absurd H (by simp)
            ·
             rw [if_neg c33] at H
             have c33b0 : (a1 == 13) = false := beq_eq_false_iff_ne.mpr c33
             have c33b1 : (a1 != 13) = true := bne_iff_ne.mpr c33
             by_cases c38 : a1 = 12
             ·
              rw [if_pos c38] at H
              have c38b0 : (a1 == 12) = true := beq_iff_eq.mpr c38
              have c38b1 : (a1 != 12) = false := bne_eq_false_iff_eq.mpr c38
              clear c38
              obtain ⟨ji39, hji39⟩ : ∃ j_ : Int, (Int.tmod t229 (IntKind.u64.wrap (a0))) = j_ := ⟨_, rfl⟩
              replace H : (if 0 ≤ (ji39) then ((spec_l3Mask.f a0 (IntKind.u64.wrap (shr .i64 t230 (ji39)))).bind fun t242 => (some (t242, 0))) else (none)) = some (r1, r2) := by first | (rw [hji39] at H; exact H) | (simp only [hji39] at H ⊢; exact H)
              by_cases c40 : 0 ≤ (ji39)
              ·
               rw [if_pos c40] at H
               have c40b0 := eq_true c40
               have c40b1 : decide (0 ≤ (ji39)) = true := decide_eq_true c40
               clear c40
               obtain ⟨ji41, hji41⟩ : ∃ j_ : Int, (shr .i64 t230 (ji39)) = j_ := ⟨_, rfl⟩
               replace H : ((spec_l3Mask.f a0 (IntKind.u64.wrap (ji41))).bind fun t242 => (some (t242, 0))) = some (r1, r2) := by first | (rw [hji41] at H; exact H) | (simp only [hji41] at H ⊢; exact H)
               have hji41_ : (t230 / 2 ^ min (ji39).toNat 64) = ji41 := hji41
               have hji41z : (ji39) ≤ 64 → (t230 / 2 ^ (ji39).toNat) = ji41 := shr_small hji41
               replace H := Option.bind_eq_some_iff.mp H
               obtain ⟨t242, A420, H⟩ := H
               replace H : (some (t242, 0)) = some (r1, r2) := H
               have A42 := Aside0.mk A420
               clear A420
               simp only [Option.some.injEq, Prod.mk.injEq] at H
               obtain ⟨rfl, rfl⟩ := H
               go_wp2_with (first | ((with_reducible refine gate_callee (f := 111) rfl ?_); refine goesL_ (some 151) rfl rfl Try.func111 (by kernel_rfl) rfl #[.int .i64 a0, .int .u64 (IntKind.u64.wrap (ji41))] rfl (by (try simp only [List.map_toArray, List.map_cons, List.map_nil]); first | done | (simp only [hji41]; rfl) | rfl | (simp only [List.length_drop, List.length_take]; rfl)) ?_; (with_reducible refine (spec_l3Mask.calls a0 (IntKind.u64.wrap (ji41)) t242 _ A42.out).mono ?_); rintro e w' ⟨rfl, ⟨nd, rfl⟩⟩; refine ⟨_, rfl, ?_⟩))
               go_ret2
               exact ⟨by first | rfl | (simp; done) | (simp only [← hji39, ← hji41] <;> (first | rfl | simp)) | (simp [*]; done), by repeat (first | exact Drawn0.refl _ | apply Drawn0.step)⟩
              ·
               rw [if_neg c40] at H
               exact absurd H (by simp)
             ·
              rw [if_neg c38] at H
              have c38b0 : (a1 == 12) = false := beq_eq_false_iff_ne.mpr c38
              have c38b1 : (a1 != 12) = true := bne_iff_ne.mpr c38
              by_cases c43 : a1 = 14
              ·
               rw [if_pos c43] at H
               have c43b0 : (a1 == 14) = true := beq_iff_eq.mpr c43
               have c43b1 : (a1 != 14) = false := bne_eq_false_iff_eq.mpr c43
               clear c43
               obtain ⟨ji44, hji44⟩ : ∃ j_ : Int, (Int.tmod t229 (IntKind.u64.wrap (a0))) = j_ := ⟨_, rfl⟩
               replace H : (if 0 ≤ (ji44) then (if 0 ≤ (IntKind.u64.wrap ((IntKind.u64.wrap (a0)) - (ji44))) then ((spec_l3Mask.f a0 (Go.bits .or .u64 (shl .u64 t228 (ji44)) (shr .u64 t228 (IntKind.u64.wrap ((IntKind.u64.wrap (a0)) - (ji44)))))).bind fun t243 => (some (t243, 0))) else (none)) else (none)) = some (r1, r2) := by first | (rw [hji44] at H; exact H) | (simp only [hji44] at H ⊢; exact H)
               by_cases c45 : 0 ≤ (ji44)
               ·
                rw [if_pos c45] at H
                have c45b0 := eq_true c45
                have c45b1 : decide (0 ≤ (ji44)) = true := decide_eq_true c45
                clear c45
                obtain ⟨ji46, hji46⟩ : ∃ j_ : Int, (shl .u64 t228 (ji44)) = j_ := ⟨_, rfl⟩
                replace H : (if 0 ≤ (IntKind.u64.wrap ((IntKind.u64.wrap (a0)) - (ji44))) then ((spec_l3Mask.f a0 (Go.bits .or .u64 (ji46) (shr .u64 t228 (IntKind.u64.wrap ((IntKind.u64.wrap (a0)) - (ji44)))))).bind fun t243 => (some (t243, 0))) else (none)) = some (r1, r2) := by first | (rw [hji46] at H; exact H) | (simp only [hji46] at H ⊢; exact H)
                have hji46_ : (IntKind.u64.wrap (t228 * 2 ^ min (ji44).toNat 64)) = ji46 := hji46
                have hji46z : (ji44) ≤ 64 → (IntKind.u64.wrap (t228 * 2 ^ (ji44).toNat)) = ji46 := shl_small hji46
                obtain ⟨ji47, hji47⟩ : ∃ j_ : Int, (IntKind.u64.wrap ((IntKind.u64.wrap (a0)) - (ji44))) = j_ := ⟨_, rfl⟩
                replace H : (if 0 ≤ (ji47) then ((spec_l3Mask.f a0 (Go.bits .or .u64 (ji46) (shr .u64 t228 (ji47)))).bind fun t243 => (some (t243, 0))) else (none)) = some (r1, r2) := by first | (rw [hji47] at H; exact H) | (simp only [hji47] at H ⊢; exact H)
                by_cases c48 : 0 ≤ (ji47)
                ·
                 rw [if_pos c48] at H
                 have c48b0 := eq_true c48
                 have c48b1 : decide (0 ≤ (ji47)) = true := decide_eq_true c48
                 clear c48
                 obtain ⟨ji49, hji49⟩ : ∃ j_ : Int, (shr .u64 t228 (ji47)) = j_ := ⟨_, rfl⟩
                 replace H : ((spec_l3Mask.f a0 (Go.bits .or .u64 (ji46) (ji49))).bind fun t243 => (some (t243, 0))) = some (r1, r2) := by first | (rw [hji49] at H; exact H) | (simp only [hji49] at H ⊢; exact H)
                 have hji49_ : (t228 / 2 ^ min (ji47).toNat 64) = ji49 := hji49
                 have hji49z : (ji47) ≤ 64 → (t228 / 2 ^ (ji47).toNat) = ji49 := shr_small hji49
                 replace H := Option.bind_eq_some_iff.mp H
                 obtain ⟨t243, A500, H⟩ := H
                 replace H : (some (t243, 0)) = some (r1, r2) := H
                 have A50 := Aside0.mk A500
                 clear A500
                 simp only [Option.some.injEq, Prod.mk.injEq] at H
                 obtain ⟨rfl, rfl⟩ := H
                 go_wp2_with (first | ((with_reducible refine gate_callee (f := 111) rfl ?_); refine goesL_ (some 151) rfl rfl Try.func111 (by kernel_rfl) rfl #[.int .i64 a0, .int .u64 (Go.bits .or .u64 (ji46) (ji49))] rfl (by (try simp only [List.map_toArray, List.map_cons, List.map_nil]); first | done | (simp only [hji46, hji49]; rfl) | rfl | (simp only [List.length_drop, List.length_take]; rfl)) ?_; (with_reducible refine (spec_l3Mask.calls a0 (Go.bits .or .u64 (ji46) (ji49)) t243 _ A50.out).mono ?_); rintro e w' ⟨rfl, ⟨nd, rfl⟩⟩; refine ⟨_, rfl, ?_⟩))
                 go_ret2
                 exact ⟨by first | rfl | (simp; done) | (simp only [← hji44, ← hji46, ← hji47, ← hji49] <;> (first | rfl | simp)) | (simp [*]; done), by repeat (first | exact Drawn0.refl _ | apply Drawn0.step)⟩
                ·
                 rw [if_neg c48] at H
                 exact absurd H (by simp)
               ·
                rw [if_neg c45] at H
                exact absurd H (by simp)
              ·
               rw [if_neg c43] at H
               have c43b0 : (a1 == 14) = false := beq_eq_false_iff_ne.mpr c43
               have c43b1 : (a1 != 14) = true := bne_iff_ne.mpr c43
               by_cases c51 : a1 = 15
               ·
                rw [if_pos c51] at H
                have c51b0 : (a1 == 15) = true := beq_iff_eq.mpr c51
                have c51b1 : (a1 != 15) = false := bne_eq_false_iff_eq.mpr c51
                clear c51
                obtain ⟨ji52, hji52⟩ : ∃ j_ : Int, (Int.tmod t229 (IntKind.u64.wrap (a0))) = j_ := ⟨_, rfl⟩
                replace H : (if 0 ≤ (ji52) then (if 0 ≤ (IntKind.u64.wrap ((IntKind.u64.wrap (a0)) - (ji52))) then ((spec_l3Mask.f a0 (Go.bits .or .u64 (shr .u64 t228 (ji52)) (shl .u64 t228 (IntKind.u64.wrap ((IntKind.u64.wrap (a0)) - (ji52)))))).bind fun t244 => (some (t244, 0))) else (none)) else (none)) = some (r1, r2) := by first | (rw [hji52] at H; exact H) | (simp only [hji52] at H ⊢; exact H)
                by_cases c53 : 0 ≤ (ji52)
                ·
                 rw [if_pos c53] at H
                 have c53b0 := eq_true c53
                 have c53b1 : decide (0 ≤ (ji52)) = true := decide_eq_true c53
                 clear c53
                 obtain ⟨ji54, hji54⟩ : ∃ j_ : Int, (shr .u64 t228 (ji52)) = j_ := ⟨_, rfl⟩
                 replace H : (if 0 ≤ (IntKind.u64.wrap ((IntKind.u64.wrap (a0)) - (ji52))) then ((spec_l3Mask.f a0 (Go.bits .or .u64 (ji54) (shl .u64 t228 (IntKind.u64.wrap ((IntKind.u64.wrap (a0)) - (ji52)))))).bind fun t244 => (some (t244, 0))) else (none)) = some (r1, r2) := by first | (rw [hji54] at H; exact H) | (simp only [hji54] at H ⊢; exact H)
                 have hji54_ : (t228 / 2 ^ min (ji52).toNat 64) = ji54 := hji54
                 have hji54z : (ji52) ≤ 64 → (t228 / 2 ^ (ji52).toNat) = ji54 := shr_small hji54
                 obtain ⟨ji55, hji55⟩ : ∃ j_ : Int, (IntKind.u64.wrap ((IntKind.u64.wrap (a0)) - (ji52))) = j_ := ⟨_, rfl⟩
                 replace H : (if 0 ≤ (ji55) then ((spec_l3Mask.f a0 (Go.bits .or .u64 (ji54) (shl .u64 t228 (ji55)))).bind fun t244 => (some (t244, 0))) else (none)) = some (r1, r2) := by first | (rw [hji55] at H; exact H) | (simp only [hji55] at H ⊢; exact H)
                 by_cases c56 : 0 ≤ (ji55)
                 ·
                  rw [if_pos c56] at H
                  have c56b0 := eq_true c56
                  have c56b1 : decide (0 ≤ (ji55)) = true := decide_eq_true c56
                  clear c56
                  obtain ⟨ji57, hji57⟩ : ∃ j_ : Int, (shl .u64 t228 (ji55)) = j_ := ⟨_, rfl⟩
                  replace H : ((spec_l3Mask.f a0 (Go.bits .or .u64 (ji54) (ji57))).bind fun t244 => (some (t244, 0))) = some (r1, r2) := by first | (rw [hji57] at H; exact H) | (simp only [hji57] at H ⊢; exact H)
                  have hji57_ : (IntKind.u64.wrap (t228 * 2 ^ min (ji55).toNat 64)) = ji57 := hji57
                  have hji57z : (ji55) ≤ 64 → (IntKind.u64.wrap (t228 * 2 ^ (ji55).toNat)) = ji57 := shl_small hji57
                  replace H := Option.bind_eq_some_iff.mp H
                  obtain ⟨t244, A580, H⟩ := H
                  replace H : (some (t244, 0)) = some (r1, r2) := H
                  have A58 := Aside0.mk A580
                  clear A580
                  simp only [Option.some.injEq, Prod.mk.injEq] at H
                  obtain ⟨rfl, rfl⟩ := H
                  go_wp2_with (first | ((with_reducible refine gate_callee (f := 111) rfl ?_); refine goesL_ (some 151) rfl rfl Try.func111 (by kernel_rfl) rfl #[.int .i64 a0, .int .u64 (Go.bits .or .u64 (ji54) (ji57))] rfl (by (try simp only [List.map_toArray, List.map_cons, List.map_nil]); first | done | (simp only [hji54, hji57]; rfl) | rfl | (simp only [List.length_drop, List.length_take]; rfl)) ?_; (with_reducible refine (spec_l3Mask.calls a0 (Go.bits .or .u64 (ji54) (ji57)) t244 _ A58.out).mono ?_); rintro e w' ⟨rfl, ⟨nd, rfl⟩⟩; refine ⟨_, rfl, ?_⟩))
                  go_ret2
                  exact ⟨by first | rfl | (simp; done) | (simp only [← hji52, ← hji54, ← hji55, ← hji57] <;> (first | rfl | simp)) | (simp [*]; done), by repeat (first | exact Drawn0.refl _ | apply Drawn0.step)⟩
                 ·
                  rw [if_neg c56] at H
                  exact absurd H (by simp)
                ·
                 rw [if_neg c53] at H
                 exact absurd H (by simp)
               ·
                rw [if_neg c51] at H
                have c51b0 : (a1 == 15) = false := beq_eq_false_iff_ne.mpr c51
                have c51b1 : (a1 != 15) = true := bne_iff_ne.mpr c51
                by_cases c59 : a1 = 16
                ·
                 rw [if_pos c59] at H
                 have c59b0 : (a1 == 16) = true := beq_iff_eq.mpr c59
                 have c59b1 : (a1 != 16) = false := bne_eq_false_iff_eq.mpr c59
                 clear c59
                 replace H := Option.bind_eq_some_iff.mp H
                 obtain ⟨t245, A600, H⟩ := H
                 replace H : ((spec_l3Mask.f a0 t245).bind fun t246 => (some (t246, 0))) = some (r1, r2) := H
                 have A60 := Aside0.mk A600
                 clear A600
                 replace H := Option.bind_eq_some_iff.mp H
                 obtain ⟨t246, A610, H⟩ := H
                 replace H : (some (t246, 0)) = some (r1, r2) := H
                 have A61 := Aside0.mk A610
                 clear A610
                 simp only [Option.some.injEq, Prod.mk.injEq] at H
                 obtain ⟨rfl, rfl⟩ := H
                 go_wp2_with (first | ((with_reducible refine gate_callee (f := 113) rfl ?_); refine goesL_ (some 118) rfl rfl Try.func113 (by kernel_rfl) rfl #[.bool (t228 == t229)] rfl ar ?_; (with_reducible refine (spec_l3Yes.calls (t228 == t229) t245 _ A60.out).mono ?_); rintro e w' ⟨rfl, ⟨nd, rfl⟩⟩; refine ⟨_, rfl, ?_⟩) | ((with_reducible refine gate_callee (f := 111) rfl ?_); refine goesL_ (some 151) rfl rfl Try.func111 (by kernel_rfl) rfl #[.int .i64 a0, .int .u64 t245] rfl ar ?_; (with_reducible refine (spec_l3Mask.calls a0 t245 t246 _ A61.out).mono ?_); rintro e w' ⟨rfl, ⟨nd, rfl⟩⟩; refine ⟨_, rfl, ?_⟩))
                 go_ret2
                 exact ⟨by first | rfl | (simp; done) | (simp [*]; done), by repeat (first | exact Drawn0.refl _ | apply Drawn0.step)⟩
                ·
                 rw [if_neg c59] at H
                 have c59b0 : (a1 == 16) = false := beq_eq_false_iff_ne.mpr c59
                 have c59b1 : (a1 != 16) = true := bne_iff_ne.mpr c59
                 by_cases c62 : a1 = 17
                 ·
                  rw [if_pos c62] at H
                  have c62b0 : (a1 == 17) = true := beq_iff_eq.mpr c62
                  have c62b1 : (a1 != 17) = false := bne_eq_false_iff_eq.mpr c62
                  clear c62
                  replace H := Option.bind_eq_some_iff.mp H
                  obtain ⟨t247, A630, H⟩ := H
                  replace H : ((spec_l3Mask.f a0 t247).bind fun t248 => (some (t248, 0))) = some (r1, r2) := H
                  have A63 := Aside0.mk A630
                  clear A630
                  replace H := Option.bind_eq_some_iff.mp H
                  obtain ⟨t248, A640, H⟩ := H
                  replace H : (some (t248, 0)) = some (r1, r2) := H
                  have A64 := Aside0.mk A640
                  clear A640
                  simp only [Option.some.injEq, Prod.mk.injEq] at H
                  obtain ⟨rfl, rfl⟩ := H
                  go_wp2_with (first | ((with_reducible refine gate_callee (f := 113) rfl ?_); refine goesL_ (some 124) rfl rfl Try.func113 (by kernel_rfl) rfl #[.bool (t228 != t229)] rfl ar ?_; (with_reducible refine (spec_l3Yes.calls (t228 != t229) t247 _ A63.out).mono ?_); rintro e w' ⟨rfl, ⟨nd, rfl⟩⟩; refine ⟨_, rfl, ?_⟩) | ((with_reducible refine gate_callee (f := 111) rfl ?_); refine goesL_ (some 151) rfl rfl Try.func111 (by kernel_rfl) rfl #[.int .i64 a0, .int .u64 t247] rfl ar ?_; (with_reducible refine (spec_l3Mask.calls a0 t247 t248 _ A64.out).mono ?_); rintro e w' ⟨rfl, ⟨nd, rfl⟩⟩; refine ⟨_, rfl, ?_⟩))
                  go_ret2
                  exact ⟨by first | rfl | (simp; done) | (simp [*]; done), by repeat (first | exact Drawn0.refl _ | apply Drawn0.step)⟩
                 ·
                  rw [if_neg c62] at H
                  have c62b0 : (a1 == 17) = false := beq_eq_false_iff_ne.mpr c62
                  have c62b1 : (a1 != 17) = true := bne_iff_ne.mpr c62
                  by_cases c65 : a1 = 18
                  ·
                   rw [if_pos c65] at H
                   have c65b0 : (a1 == 18) = true := beq_iff_eq.mpr c65
                   have c65b1 : (a1 != 18) = false := bne_eq_false_iff_eq.mpr c65
                   clear c65
                   replace H := Option.bind_eq_some_iff.mp H
                   obtain ⟨t249, A660, H⟩ := H
                   replace H : ((spec_l3Mask.f a0 t249).bind fun t250 => (some (t250, 0))) = some (r1, r2) := H
                   have A66 := Aside0.mk A660
                   clear A660
                   replace H := Option.bind_eq_some_iff.mp H
                   obtain ⟨t250, A670, H⟩ := H
                   replace H : (some (t250, 0)) = some (r1, r2) := H
                   have A67 := Aside0.mk A670
                   clear A670
                   simp only [Option.some.injEq, Prod.mk.injEq] at H
                   obtain ⟨rfl, rfl⟩ := H
                   go_wp2_with (first | ((with_reducible refine gate_callee (f := 113) rfl ?_); refine goesL_ (some 130) rfl rfl Try.func113 (by kernel_rfl) rfl #[.bool (decide (t230 < t231))] rfl ar ?_; (with_reducible refine (spec_l3Yes.calls (decide (t230 < t231)) t249 _ A66.out).mono ?_); rintro e w' ⟨rfl, ⟨nd, rfl⟩⟩; refine ⟨_, rfl, ?_⟩) | ((with_reducible refine gate_callee (f := 111) rfl ?_); refine goesL_ (some 151) rfl rfl Try.func111 (by kernel_rfl) rfl #[.int .i64 a0, .int .u64 t249] rfl ar ?_; (with_reducible refine (spec_l3Mask.calls a0 t249 t250 _ A67.out).mono ?_); rintro e w' ⟨rfl, ⟨nd, rfl⟩⟩; refine ⟨_, rfl, ?_⟩))
                   go_ret2
                   exact ⟨by first | rfl | (simp; done) | (simp [*]; done), by repeat (first | exact Drawn0.refl _ | apply Drawn0.step)⟩
                  ·
                   rw [if_neg c65] at H
                   have c65b0 : (a1 == 18) = false := beq_eq_false_iff_ne.mpr c65
                   have c65b1 : (a1 != 18) = true := bne_iff_ne.mpr c65
                   by_cases c68 : a1 = 19
                   ·
                    rw [if_pos c68] at H
                    have c68b0 : (a1 == 19) = true := beq_iff_eq.mpr c68
                    have c68b1 : (a1 != 19) = false := bne_eq_false_iff_eq.mpr c68
                    clear c68
                    replace H := Option.bind_eq_some_iff.mp H
                    obtain ⟨t251, A690, H⟩ := H
                    replace H : ((spec_l3Mask.f a0 t251).bind fun t252 => (some (t252, 0))) = some (r1, r2) := H
                    have A69 := Aside0.mk A690
                    clear A690
                    replace H := Option.bind_eq_some_iff.mp H
                    obtain ⟨t252, A700, H⟩ := H
                    replace H : (some (t252, 0)) = some (r1, r2) := H
                    have A70 := Aside0.mk A700
                    clear A700
                    simp only [Option.some.injEq, Prod.mk.injEq] at H
                    obtain ⟨rfl, rfl⟩ := H
                    go_wp2_with (first | ((with_reducible refine gate_callee (f := 113) rfl ?_); refine goesL_ (some 136) rfl rfl Try.func113 (by kernel_rfl) rfl #[.bool (decide (t228 < t229))] rfl ar ?_; (with_reducible refine (spec_l3Yes.calls (decide (t228 < t229)) t251 _ A69.out).mono ?_); rintro e w' ⟨rfl, ⟨nd, rfl⟩⟩; refine ⟨_, rfl, ?_⟩) | ((with_reducible refine gate_callee (f := 111) rfl ?_); refine goesL_ (some 151) rfl rfl Try.func111 (by kernel_rfl) rfl #[.int .i64 a0, .int .u64 t251] rfl ar ?_; (with_reducible refine (spec_l3Mask.calls a0 t251 t252 _ A70.out).mono ?_); rintro e w' ⟨rfl, ⟨nd, rfl⟩⟩; refine ⟨_, rfl, ?_⟩))
                    go_ret2
                    exact ⟨by first | rfl | (simp; done) | (simp [*]; done), by repeat (first | exact Drawn0.refl _ | apply Drawn0.step)⟩
                   ·
                    rw [if_neg c68] at H
                    have c68b0 : (a1 == 19) = false := beq_eq_false_iff_ne.mpr c68
                    have c68b1 : (a1 != 19) = true := bne_iff_ne.mpr c68
                    by_cases c71 : a1 = 20
                    ·
                     rw [if_pos c71] at H
                     have c71b0 : (a1 == 20) = true := beq_iff_eq.mpr c71
                     have c71b1 : (a1 != 20) = false := bne_eq_false_iff_eq.mpr c71
                     clear c71
                     replace H := Option.bind_eq_some_iff.mp H
                     obtain ⟨t253, A720, H⟩ := H
                     replace H : ((spec_l3Mask.f a0 t253).bind fun t254 => (some (t254, 0))) = some (r1, r2) := H
                     have A72 := Aside0.mk A720
                     clear A720
                     replace H := Option.bind_eq_some_iff.mp H
                     obtain ⟨t254, A730, H⟩ := H
                     replace H : (some (t254, 0)) = some (r1, r2) := H
                     have A73 := Aside0.mk A730
                     clear A730
                     simp only [Option.some.injEq, Prod.mk.injEq] at H
                     obtain ⟨rfl, rfl⟩ := H
                     go_wp2_with (first | ((with_reducible refine gate_callee (f := 113) rfl ?_); refine goesL_ (some 142) rfl rfl Try.func113 (by kernel_rfl) rfl #[.bool (decide (t230 > t231))] rfl ar ?_; (with_reducible refine (spec_l3Yes.calls (decide (t230 > t231)) t253 _ A72.out).mono ?_); rintro e w' ⟨rfl, ⟨nd, rfl⟩⟩; refine ⟨_, rfl, ?_⟩) | ((with_reducible refine gate_callee (f := 111) rfl ?_); refine goesL_ (some 151) rfl rfl Try.func111 (by kernel_rfl) rfl #[.int .i64 a0, .int .u64 t253] rfl ar ?_; (with_reducible refine (spec_l3Mask.calls a0 t253 t254 _ A73.out).mono ?_); rintro e w' ⟨rfl, ⟨nd, rfl⟩⟩; refine ⟨_, rfl, ?_⟩))
                     go_ret2
                     exact ⟨by first | rfl | (simp; done) | (simp [*]; done), by repeat (first | exact Drawn0.refl _ | apply Drawn0.step)⟩
                    ·
                     rw [if_neg c71] at H
                     have c71b0 : (a1 == 20) = false := beq_eq_false_iff_ne.mpr c71
                     have c71b1 : (a1 != 20) = true := bne_iff_ne.mpr c71
                     by_cases c74 : a1 = 21
                     ·
                      rw [if_pos c74] at H
                      have c74b0 : (a1 == 21) = true := beq_iff_eq.mpr c74
                      have c74b1 : (a1 != 21) = false := bne_eq_false_iff_eq.mpr c74
                      clear c74
                      replace H := Option.bind_eq_some_iff.mp H
                      obtain ⟨t255, A750, H⟩ := H
                      replace H : ((spec_l3Mask.f a0 t255).bind fun t256 => (some (t256, 0))) = some (r1, r2) := H
                      have A75 := Aside0.mk A750
                      clear A750
                      replace H := Option.bind_eq_some_iff.mp H
                      obtain ⟨t256, A760, H⟩ := H
                      replace H : (some (t256, 0)) = some (r1, r2) := H
                      have A76 := Aside0.mk A760
                      clear A760
                      simp only [Option.some.injEq, Prod.mk.injEq] at H
                      obtain ⟨rfl, rfl⟩ := H
                      go_wp2_with (first | ((with_reducible refine gate_callee (f := 113) rfl ?_); refine goesL_ (some 148) rfl rfl Try.func113 (by kernel_rfl) rfl #[.bool (decide (t228 > t229))] rfl ar ?_; (with_reducible refine (spec_l3Yes.calls (decide (t228 > t229)) t255 _ A75.out).mono ?_); rintro e w' ⟨rfl, ⟨nd, rfl⟩⟩; refine ⟨_, rfl, ?_⟩) | ((with_reducible refine gate_callee (f := 111) rfl ?_); refine goesL_ (some 151) rfl rfl Try.func111 (by kernel_rfl) rfl #[.int .i64 a0, .int .u64 t255] rfl ar ?_; (with_reducible refine (spec_l3Mask.calls a0 t255 t256 _ A76.out).mono ?_); rintro e w' ⟨rfl, ⟨nd, rfl⟩⟩; refine ⟨_, rfl, ?_⟩))
                      go_ret2
                      exact ⟨by first | rfl | (simp; done) | (simp [*]; done), by repeat (first | exact Drawn0.refl _ | apply Drawn0.step)⟩
                     ·
                      rw [if_neg c74] at H
                      have c74b0 : (a1 == 21) = false := beq_eq_false_iff_ne.mpr c74
                      have c74b1 : (a1 != 21) = true := bne_iff_ne.mpr c74
                      simp only [Option.some.injEq, Prod.mk.injEq] at H
                      obtain ⟨rfl, rfl⟩ := H
                      go_wp2
                      go_ret2
                      exact ⟨by first | rfl | (simp; done) | (simp [*]; done), by repeat (first | exact Drawn0.refl _ | apply Drawn0.step)⟩

end Go.Proofs.Ytdjpbhmkcamkpaa.Q

namespace Go.Proofs.Ytdjpbhmkcamkpaa.Q
open Go.RowKit Go.Proofs.YtdjpbhmkcamkpaaW.PrintWords Go.Proofs.YtdjpbhmkcamkpaaW.PrintLast Go.Proofs.YtdjpbhmkcamkpaaW.PrintMore
attribute [local go_sem] max2_int min2_int max_two min_two max_three min_three max_four min_four   -- for this text's walks alone
set_option linter.unusedVariables false
set_option linter.unusedSimpArgs false

/-! ### spec_Binary: function 42 -/
def spec_Binary.f (k : Nat) (a0 : Int) (a1 : Int) (a2 : Int) (a3 : Int) : Option (Int × Int) := (spec_l3Bits.f a0).bind fun t257 => (if t257 = true then ((spec_l3Binary.f k a0 a1 a2 a3).bind fun bt258 => (some (bt258.1, bt258.2))) else (some (0, 3)))
theorem spec_Binary.mono : ∀ a0 a1 a2 a3 k, LeO (spec_Binary.f k a0 a1 a2 a3) (spec_Binary.f (k + 1) a0 a1 a2 a3) := by
 intro a0 a1 a2 a3 k
 unfold spec_Binary.f
 repeat' first
   | (with_reducible exact spec_l3Binary.mono _ _ _ _ _)
   | (with_reducible exact LeO.refl _)
   | (with_reducible exact LeO.none _)
   | (with_reducible refine LeO.ite ?_ ?_)
   | (with_reducible refine LeO.bind ?_ (fun _ => ?_))
   | exact spec_l3Binary.mono _ _ _ _ _
   | exact LeO.none _
   | refine LeO.ite ?_ ?_
   | refine LeO.bind ?_ (fun _ => ?_)
set_option maxHeartbeats 8000000 in
set_option maxRecDepth 100000 in
theorem spec_Binary.calls (k : Nat) (a0 : Int) (a1 : Int) (a2 : Int) (a3 : Int) (r1 : Int) (r2 : Int) (w : World) (h : spec_Binary.f k a0 a1 a2 a3 = some (r1, r2)) :
  Calls Try.prog 42 #[.int .i64 a0, .int .i64 a1, .int .u64 a2, .int .u64 a3] w fun e w' => e = .returned (.tuple #[.int .u64 r1, .int .i64 r2]) ∧ Drawn0 w w' := by
 have H : ((spec_l3Bits.f a0).bind fun t257 => (if t257 = true then ((spec_l3Binary.f k a0 a1 a2 a3).bind fun bt258 => (some (bt258.1, bt258.2))) else (some (0, 3)))) = some (r1, r2) := h
 clear h
 replace H := Option.bind_eq_some_iff.mp H
 obtain ⟨t257, A50, H⟩ := H
 replace H : (if t257 = true then ((spec_l3Binary.f k a0 a1 a2 a3).bind fun bt258 => (some (bt258.1, bt258.2))) else (some (0, 3))) = some (r1, r2) := H
 have A5 := Aside0.mk A50
 clear A50
 by_cases c6 : t257 = true
 ·
  subst c6
  have H1 : ((spec_l3Binary.f k a0 a1 a2 a3).bind fun bt258 => (some (bt258.1, bt258.2))) = some (r1, r2) := by rw [if_pos rfl] at H; exact H
  clear H
  have H := H1
  clear H1
  replace H := Option.bind_eq_some_iff.mp H
  obtain ⟨⟨t258, t259⟩, A70, H⟩ := H
  replace H : (some (t258, t259)) = some (r1, r2) := H
  have A7 := Aside0.mk A70
  clear A70
  simp only [Option.some.injEq, Prod.mk.injEq] at H
  obtain ⟨rfl, rfl⟩ := H
  go_enter Try.func42, Try.ntmps42
  go_wp2_with (first | ((with_reducible refine gate_callee (f := 90) rfl ?_); refine goesL_ (some 11) rfl rfl Try.func90 (by kernel_rfl) rfl #[.int .i64 a0] rfl ar ?_; (with_reducible refine (spec_l3Bits.calls a0 true _ A5.out).mono ?_); rintro e w' ⟨rfl, ⟨nd, rfl⟩⟩; refine ⟨_, rfl, ?_⟩) | ((with_reducible refine gate_callee (f := 91) rfl ?_); refine goesL_ (some 17) rfl rfl Try.func91 (by kernel_rfl) rfl #[.int .i64 a0, .int .i64 a1, .int .u64 a2, .int .u64 a3] rfl ar ?_; (with_reducible refine (spec_l3Binary.calls k a0 a1 a2 a3 t258 t259 _ A7.out).mono ?_); rintro e w' ⟨rfl, ⟨nd, rfl⟩⟩; refine ⟨_, rfl, ?_⟩))
  go_ret2
  exact ⟨by first | rfl | (simp; done) | (simp [*]; done), by repeat (first | exact Drawn0.refl _ | apply Drawn0.step)⟩
 ·
  replace c6 := Bool.eq_false_iff.mpr c6
  subst c6
  have H1 : (some (0, 3)) = some (r1, r2) := by rw [if_neg (show ¬ (false = true) by decide)] at H; exact H
  clear H
  have H := H1
  clear H1
  simp only [Option.some.injEq, Prod.mk.injEq] at H
  obtain ⟨rfl, rfl⟩ := H
  go_enter Try.func42, Try.ntmps42
  go_wp2_with (first | ((with_reducible refine gate_callee (f := 90) rfl ?_); refine goesL_ (some 11) rfl rfl Try.func90 (by kernel_rfl) rfl #[.int .i64 a0] rfl ar ?_; (with_reducible refine (spec_l3Bits.calls a0 false _ A5.out).mono ?_); rintro e w' ⟨rfl, ⟨nd, rfl⟩⟩; refine ⟨_, rfl, ?_⟩))
  go_ret2
  exact ⟨by first | rfl | (simp; done) | (simp [*]; done), by repeat (first | exact Drawn0.refl _ | apply Drawn0.step)⟩

end Go.Proofs.Ytdjpbhmkcamkpaa.Q

