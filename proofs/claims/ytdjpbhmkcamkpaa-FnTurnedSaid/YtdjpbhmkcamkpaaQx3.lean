-- Written by a program of this session; it walks the functions that the law reaches.
import Derived.Test.YtdjpbhmkcamkpaaQx0
import Derived.Test.YtdjpbhmkcamkpaaQx2
namespace Go.Proofs.Ytdjpbhmkcamkpaa.Q
open Go.RowKit Go.Proofs.YtdjpbhmkcamkpaaW.PrintWords Go.Proofs.YtdjpbhmkcamkpaaW.PrintLast Go.Proofs.YtdjpbhmkcamkpaaW.PrintMore
attribute [local go_sem] max2_int min2_int max_two min_two max_three min_three max_four min_four   -- for this text's walks alone
set_option linter.unusedVariables false
set_option linter.unusedSimpArgs false

/-! ### laws_FnTurned: function 10 -/
def laws_FnTurned.j0 : Nat → Int → Int → Int → Bool → Option (Bool)
 | 0, _, _, _, _ => none
 | k + 1, x3, x5, x6, x67 => if x67 = true then (some false) else ((impl_Binary.f k x3 1 x5 0).bind fun bt268 => (if bt268.2 = 0 then ((impl_Binary.f k x3 14 x5 x6).bind fun bt270 => ((impl_Binary.f k x3 15 bt270.1 x6).bind fun bt272 => (if (IntKind.u64.wrap (x3)) = 0 then (none) else ((impl_Binary.f k x3 11 x5 x6).bind fun bt274 => (if 0 ≤ (Int.tmod x6 (IntKind.u64.wrap (x3))) then ((impl_Binary.f k x3 3 x5 (shl .u64 1 (Int.tmod x6 (IntKind.u64.wrap (x3))))).bind fun bt276 => ((impl_Binary.f k x3 10 x5 x6).bind fun bt278 => ((impl_Binary.f k x3 10 bt278.1 x6).bind fun bt280 => ((impl_Binary.f k x3 8 x5 x6).bind fun bt282 => ((impl_Binary.f k x3 9 x5 x6).bind fun bt284 => ((impl_Binary.f k x3 1 x5 x6).bind fun bt286 => ((impl_Binary.f k x3 1 bt282.1 bt284.1).bind fun bt288 => (if bt272.1 = bt268.1 then (if bt274.1 = bt276.1 then (if bt280.1 = bt268.1 then (some (bt286.1 == bt288.1)) else (some false)) else (some false)) else (some false))))))))) else (none)))))) else (if x3 = 32 then (some false) else (some (x3 != 64)))))
def laws_FnTurned.f (k : Nat) (l0 : List Int) : Option (Bool) := if (l0.length : Int) > 1048576 then (some true) else ((spec_DrawBinary.f k l0).bind fun bt260 => ((impl_Binary.f k bt260.1 bt260.2.1 bt260.2.2.1 bt260.2.2.2).bind fun bt264 => ((spec_Binary.f k bt260.1 bt260.2.1 bt260.2.2.1 bt260.2.2.2).bind fun bt266 => (if bt264.1 = bt266.1 then (laws_FnTurned.j0 k bt260.1 bt260.2.2.1 bt260.2.2.2 (bt264.2 != bt266.2)) else (laws_FnTurned.j0 k bt260.1 bt260.2.2.1 bt260.2.2.2 true)))))
theorem laws_FnTurned.mono_l : ∀ k, (∀ y0 y1 y2 y3, LeO (laws_FnTurned.j0 k y0 y1 y2 y3) (laws_FnTurned.j0 (k + 1) y0 y1 y2 y3))
 | 0 => fun _ _ _ _ r h => by simp [laws_FnTurned.j0] at h
 | k + 1 => by
  have ih0 := laws_FnTurned.mono_l k
  ·
   intro y0 y1 y2 y3
   unfold laws_FnTurned.j0
   repeat' first
   | (with_reducible exact ih0 _ _ _ _)
   | (with_reducible exact impl_Binary.mono _ _ _ _ _)
   | (with_reducible exact spec_Binary.mono _ _ _ _ _)
   | (with_reducible exact spec_DrawBinary.mono _ _)
   | (with_reducible exact LeO.refl _)
   | (with_reducible exact LeO.none _)
   | (with_reducible refine LeO.ite ?_ ?_)
   | (with_reducible refine LeO.bind ?_ (fun _ => ?_))
   | exact ih0 _ _ _ _
   | exact impl_Binary.mono _ _ _ _ _
   | exact spec_Binary.mono _ _ _ _ _
   | exact spec_DrawBinary.mono _ _
   | exact LeO.none _
   | refine LeO.ite ?_ ?_
   | refine LeO.bind ?_ (fun _ => ?_)
theorem laws_FnTurned.mono : ∀ a0 k, LeO (laws_FnTurned.f k a0) (laws_FnTurned.f (k + 1) a0) := by
 intro a0 k
 have ih0 := laws_FnTurned.mono_l k
 unfold laws_FnTurned.f
 repeat' first
   | (with_reducible exact ih0 _ _ _ _)
   | (with_reducible exact impl_Binary.mono _ _ _ _ _)
   | (with_reducible exact spec_Binary.mono _ _ _ _ _)
   | (with_reducible exact spec_DrawBinary.mono _ _)
   | (with_reducible exact LeO.refl _)
   | (with_reducible exact LeO.none _)
   | (with_reducible refine LeO.ite ?_ ?_)
   | (with_reducible refine LeO.bind ?_ (fun _ => ?_))
   | exact ih0 _ _ _ _
   | exact impl_Binary.mono _ _ _ _ _
   | exact spec_Binary.mono _ _ _ _ _
   | exact spec_DrawBinary.mono _ _
   | exact LeO.none _
   | refine LeO.ite ?_ ?_
   | refine LeO.bind ?_ (fun _ => ?_)
set_option maxHeartbeats 8000000 in
set_option maxRecDepth 100000 in
theorem laws_FnTurned.calls (k : Nat) (A0 : Option Addr) (c0 : Nat) (l0 : List Int) (r : Bool) (w : World) (hr0 : Kd.C (Kd.int .u8) w A0 l0.length l0) (hc0 : l0.length ≤ c0) (hTrue : r = true) (h : laws_FnTurned.f k l0 = some r) :
  Calls Try.prog 10 #[.slice A0 l0.length c0] w fun e w' => e = .returned (.bool r) ∧ Below w.heap.size w w' := by
 have HR0 := Aside0.mk hr0
 have HC0 := Aside0.mk hc0
 clear hr0 hc0
 have HB := Aside0.mk (Below.refl w.heap.size w)
 have H : (if (l0.length : Int) > 1048576 then (some true) else ((spec_DrawBinary.f k l0).bind fun bt260 => ((impl_Binary.f k bt260.1 bt260.2.1 bt260.2.2.1 bt260.2.2.2).bind fun bt264 => ((spec_Binary.f k bt260.1 bt260.2.1 bt260.2.2.1 bt260.2.2.2).bind fun bt266 => (if bt264.1 = bt266.1 then (laws_FnTurned.j0 k bt260.1 bt260.2.2.1 bt260.2.2.2 (bt264.2 != bt266.2)) else (laws_FnTurned.j0 k bt260.1 bt260.2.2.1 bt260.2.2.2 true)))))) = some r := h
 clear h
 have HT := Aside0.mk hTrue
 clear hTrue
 by_cases c2 : (l0.length : Int) > 1048576
 ·
  rw [if_pos c2] at H
  have c2b0 : decide (1048576 < (l0.length : Int)) = true := decide_eq_true c2
  have c2b1 : decide (1048576 < l0.length) = true := decide_eq_true (by omega)
  clear c2
  obtain rfl := Option.some.inj H
  simp only [Option.some.injEq, Prod.mk.injEq] at H
  obtain ⟨rfl⟩ := H
  go_enter Try.func10, Try.ntmps10
  go_wp2
  go_ret
  exact ⟨by first | rfl | (simp [errW_none, errW_some] <;> rfl) | (simp [*, errW_none, errW_some] <;> rfl), bw HB.out⟩
 ·
  rw [if_neg c2] at H
  have c2b0 : decide (1048576 < (l0.length : Int)) = false := decide_eq_false c2
  have c2b1 : decide (1048576 < l0.length) = false := decide_eq_false (by omega)
  clear c2
  replace H := Option.bind_eq_some_iff.mp H
  obtain ⟨⟨t260, t261, t262, t263⟩, A30, H⟩ := H
  replace H : ((impl_Binary.f k t260 t261 t262 t263).bind fun bt264 => ((spec_Binary.f k t260 t261 t262 t263).bind fun bt266 => (if bt264.1 = bt266.1 then (laws_FnTurned.j0 k t260 t262 t263 (bt264.2 != bt266.2)) else (laws_FnTurned.j0 k t260 t262 t263 true)))) = some r := H
  have A3 := Aside0.mk A30
  clear A30
  replace H := Option.bind_eq_some_iff.mp H
  obtain ⟨⟨t264, t265⟩, A40, H⟩ := H
  replace H : ((spec_Binary.f k t260 t261 t262 t263).bind fun bt266 => (if t264 = bt266.1 then (laws_FnTurned.j0 k t260 t262 t263 (t265 != bt266.2)) else (laws_FnTurned.j0 k t260 t262 t263 true))) = some r := H
  have A4 := Aside0.mk A40
  clear A40
  replace H := Option.bind_eq_some_iff.mp H
  obtain ⟨⟨t266, t267⟩, A50, H⟩ := H
  replace H : (if t264 = t266 then (laws_FnTurned.j0 k t260 t262 t263 (t265 != t267)) else (laws_FnTurned.j0 k t260 t262 t263 true)) = some r := H
  have A5 := Aside0.mk A50
  clear A50
  have HC6 := Aside0.mk H
  clear H
  go_enter Try.func10, Try.ntmps10
  go_upto_region 6 with (first | ((with_reducible refine gate_callee (f := 40) rfl ?_); refine goesL_ (some 39) rfl rfl Try.func40 (by kernel_rfl) rfl #[.slice A0 l0.length c0] rfl ar ?_; (with_reducible refine (spec_DrawBinary.calls k _ _ l0 t260 t261 t262 t263 _ ?side1 ?side2 A3.out).mono ?_); (case side1 => repeat (first | exact HR0.out | (with_reducible refine Kd.C_alloc ?_ _) | (with_reducible refine Kd.C_drewN ?_ _) | (with_reducible refine Kd.C_drew ?_))); (case side2 => exact HC0.out); rintro e w7 ⟨rfl, hb⟩; refine ⟨_, rfl, ?_⟩; have n0_ := Aside0.mk (below_step (bw HB.out) hb); clear HB; have HB := n0_; clear n0_; (try clear hb)) | ((with_reducible refine gate_callee (f := 41) rfl ?_); refine goesL_ (some 49) rfl rfl Try.func41 (by kernel_rfl) rfl #[.int .i64 t260, .int .i64 t261, .int .u64 t262, .int .u64 t263] rfl ar ?_; (with_reducible refine (impl_Binary.calls k t260 t261 t262 t263 t264 t265 _ A4.out).mono ?_); rintro e w' ⟨rfl, ⟨nd, rfl⟩⟩; refine ⟨_, rfl, ?_⟩) | ((with_reducible refine gate_callee (f := 42) rfl ?_); refine goesL_ (some 57) rfl rfl Try.func42 (by kernel_rfl) rfl #[.int .i64 t260, .int .i64 t261, .int .u64 t262, .int .u64 t263] rfl ar ?_; (with_reducible refine (spec_Binary.calls k t260 t261 t262 t263 t266 t267 _ A5.out).mono ?_); rintro e w' ⟨rfl, ⟨nd, rfl⟩⟩; refine ⟨_, rfl, ?_⟩))
  (try simp only [Act.put, List.setIfInBounds_toArray, List.set_cons_zero, List.set_cons_succ])
  go_cut [67] (fun v67 wc => ∃ (kq : Nat) (x67_5 : Bool), v67 = .bool x67_5 ∧ Aside0 (laws_FnTurned.j0 kq t260 t262 t263 x67_5 = some r) ∧ Aside0 (kq ≤ k) ∧ Aside0 (Below w.heap.size w wc))
  case first =>
   have H := HC6.out
   clear HC6
   by_cases c8 : t264 = t266
   ·
    rw [if_pos c8] at H
    have c8b0 : (t264 == t266) = true := beq_iff_eq.mpr c8
    have c8b1 : (t264 != t266) = false := bne_eq_false_iff_eq.mpr c8
    clear c8
    (first | rw [c8b0] | (simp only [i64_w, i32_w]; rw [c8b0]) | skip)
    have H' := Aside0.mk H
    clear H
    go_wp2
    go_meet
    case rel => exact ⟨_, ((t265 != t267)), (by first | rfl | (simp; done) | (simp [*]; done)), H', ⟨by first | omega | exact Nat.le_refl _⟩, ⟨bw HB.out⟩⟩
   ·
    rw [if_neg c8] at H
    have c8b0 : (t264 == t266) = false := beq_eq_false_iff_ne.mpr c8
    have c8b1 : (t264 != t266) = true := bne_iff_ne.mpr c8
    (first | rw [c8b0] | (simp only [i64_w, i32_w]; rw [c8b0]) | skip)
    have H' := Aside0.mk H
    clear H
    go_wp2
    go_meet
    case rel => exact ⟨_, (true), (by first | rfl | (simp; done) | (simp [*]; done)), H', ⟨by first | omega | exact Nat.le_refl _⟩, ⟨bw HB.out⟩⟩
  case rest =>
   clear HC6
   try clear c1
   try clear c2
   try clear c2b0
   try clear c2b1
   try clear p2
   try clear c4
   try clear c8
   try clear c8b0
   try clear c8b1
   obtain ⟨kq, x67_5, rfl, HA, HJ5, HB⟩ := hcut
   cases kq with
   | zero => exact absurd HA.out (by simp [laws_FnTurned.j0])
   | succ kj5 =>
    have H := HA.out
    clear HA
    simp only [laws_FnTurned.j0] at H
    by_cases c9 : x67_5 = true
    ·
     subst c9
     have H1 : (some false) = some r := by rw [if_pos rfl] at H; exact H
     clear H
     have H := H1
     clear H1
     obtain rfl := Option.some.inj H
     exact absurd HT.out (by decide)
    ·
     replace c9 := Bool.eq_false_iff.mpr c9
     subst c9
     have H1 : ((impl_Binary.f kj5 t260 1 t262 0).bind fun bt268 => (if bt268.2 = 0 then ((impl_Binary.f kj5 t260 14 t262 t263).bind fun bt270 => ((impl_Binary.f kj5 t260 15 bt270.1 t263).bind fun bt272 => (if (IntKind.u64.wrap (t260)) = 0 then (none) else ((impl_Binary.f kj5 t260 11 t262 t263).bind fun bt274 => (if 0 ≤ (Int.tmod t263 (IntKind.u64.wrap (t260))) then ((impl_Binary.f kj5 t260 3 t262 (shl .u64 1 (Int.tmod t263 (IntKind.u64.wrap (t260))))).bind fun bt276 => ((impl_Binary.f kj5 t260 10 t262 t263).bind fun bt278 => ((impl_Binary.f kj5 t260 10 bt278.1 t263).bind fun bt280 => ((impl_Binary.f kj5 t260 8 t262 t263).bind fun bt282 => ((impl_Binary.f kj5 t260 9 t262 t263).bind fun bt284 => ((impl_Binary.f kj5 t260 1 t262 t263).bind fun bt286 => ((impl_Binary.f kj5 t260 1 bt282.1 bt284.1).bind fun bt288 => (if bt272.1 = bt268.1 then (if bt274.1 = bt276.1 then (if bt280.1 = bt268.1 then (some (bt286.1 == bt288.1)) else (some false)) else (some false)) else (some false))))))))) else (none)))))) else (if t260 = 32 then (some false) else (some (t260 != 64))))) = some r := by rw [if_neg (show ¬ (false = true) by decide)] at H; exact H
     clear H
     have H := H1
     clear H1
     replace H := Option.bind_eq_some_iff.mp H
     obtain ⟨⟨t268, t269⟩, A100, H⟩ := H
     replace H : (if t269 = 0 then ((impl_Binary.f kj5 t260 14 t262 t263).bind fun bt270 => ((impl_Binary.f kj5 t260 15 bt270.1 t263).bind fun bt272 => (if (IntKind.u64.wrap (t260)) = 0 then (none) else ((impl_Binary.f kj5 t260 11 t262 t263).bind fun bt274 => (if 0 ≤ (Int.tmod t263 (IntKind.u64.wrap (t260))) then ((impl_Binary.f kj5 t260 3 t262 (shl .u64 1 (Int.tmod t263 (IntKind.u64.wrap (t260))))).bind fun bt276 => ((impl_Binary.f kj5 t260 10 t262 t263).bind fun bt278 => ((impl_Binary.f kj5 t260 10 bt278.1 t263).bind fun bt280 => ((impl_Binary.f kj5 t260 8 t262 t263).bind fun bt282 => ((impl_Binary.f kj5 t260 9 t262 t263).bind fun bt284 => ((impl_Binary.f kj5 t260 1 t262 t263).bind fun bt286 => ((impl_Binary.f kj5 t260 1 bt282.1 bt284.1).bind fun bt288 => (if bt272.1 = t268 then (if bt274.1 = bt276.1 then (if bt280.1 = t268 then (some (bt286.1 == bt288.1)) else (some false)) else (some false)) else (some false))))))))) else (none)))))) else (if t260 = 32 then (some false) else (some (t260 != 64)))) = some r := H
     have A10 := Aside0.mk A100
     clear A100
     by_cases c11 : t269 = 0
     ·
      rw [if_pos c11] at H
      have c11b0 : (t269 == 0) = true := beq_iff_eq.mpr c11
      have c11b1 : (t269 != 0) = false := bne_eq_false_iff_eq.mpr c11
      clear c11
      replace H := Option.bind_eq_some_iff.mp H
      obtain ⟨⟨t270, t271⟩, A120, H⟩ := H
      replace H : ((impl_Binary.f kj5 t260 15 t270 t263).bind fun bt272 => (if (IntKind.u64.wrap (t260)) = 0 then (none) else ((impl_Binary.f kj5 t260 11 t262 t263).bind fun bt274 => (if 0 ≤ (Int.tmod t263 (IntKind.u64.wrap (t260))) then ((impl_Binary.f kj5 t260 3 t262 (shl .u64 1 (Int.tmod t263 (IntKind.u64.wrap (t260))))).bind fun bt276 => ((impl_Binary.f kj5 t260 10 t262 t263).bind fun bt278 => ((impl_Binary.f kj5 t260 10 bt278.1 t263).bind fun bt280 => ((impl_Binary.f kj5 t260 8 t262 t263).bind fun bt282 => ((impl_Binary.f kj5 t260 9 t262 t263).bind fun bt284 => ((impl_Binary.f kj5 t260 1 t262 t263).bind fun bt286 => ((impl_Binary.f kj5 t260 1 bt282.1 bt284.1).bind fun bt288 => (if bt272.1 = t268 then (if bt274.1 = bt276.1 then (if bt280.1 = t268 then (some (bt286.1 == bt288.1)) else (some false)) else (some false)) else (some false))))))))) else (none))))) = some r := H
      have A12 := Aside0.mk A120
      clear A120
      replace H := Option.bind_eq_some_iff.mp H
      obtain ⟨⟨t272, t273⟩, A130, H⟩ := H
      replace H : (if (IntKind.u64.wrap (t260)) = 0 then (none) else ((impl_Binary.f kj5 t260 11 t262 t263).bind fun bt274 => (if 0 ≤ (Int.tmod t263 (IntKind.u64.wrap (t260))) then ((impl_Binary.f kj5 t260 3 t262 (shl .u64 1 (Int.tmod t263 (IntKind.u64.wrap (t260))))).bind fun bt276 => ((impl_Binary.f kj5 t260 10 t262 t263).bind fun bt278 => ((impl_Binary.f kj5 t260 10 bt278.1 t263).bind fun bt280 => ((impl_Binary.f kj5 t260 8 t262 t263).bind fun bt282 => ((impl_Binary.f kj5 t260 9 t262 t263).bind fun bt284 => ((impl_Binary.f kj5 t260 1 t262 t263).bind fun bt286 => ((impl_Binary.f kj5 t260 1 bt282.1 bt284.1).bind fun bt288 => (if t272 = t268 then (if bt274.1 = bt276.1 then (if bt280.1 = t268 then (some (bt286.1 == bt288.1)) else (some false)) else (some false)) else (some false))))))))) else (none)))) = some r := H
      have A13 := Aside0.mk A130
      clear A130
      by_cases c14 : (IntKind.u64.wrap (t260)) = 0
      ·
       rw [if_pos c14] at H
       exact absurd H (by simp)
      ·
       rw [if_neg c14] at H
       have c14b0 : ((IntKind.u64.wrap (t260)) == 0) = false := beq_eq_false_iff_ne.mpr c14
       have c14b1 : ((IntKind.u64.wrap (t260)) != 0) = true := bne_iff_ne.mpr c14
       replace H := Option.bind_eq_some_iff.mp H
       obtain ⟨⟨t274, t275⟩, A150, H⟩ := H
       replace H : (if 0 ≤ (Int.tmod t263 (IntKind.u64.wrap (t260))) then ((impl_Binary.f kj5 t260 3 t262 (shl .u64 1 (Int.tmod t263 (IntKind.u64.wrap (t260))))).bind fun bt276 => ((impl_Binary.f kj5 t260 10 t262 t263).bind fun bt278 => ((impl_Binary.f kj5 t260 10 bt278.1 t263).bind fun bt280 => ((impl_Binary.f kj5 t260 8 t262 t263).bind fun bt282 => ((impl_Binary.f kj5 t260 9 t262 t263).bind fun bt284 => ((impl_Binary.f kj5 t260 1 t262 t263).bind fun bt286 => ((impl_Binary.f kj5 t260 1 bt282.1 bt284.1).bind fun bt288 => (if t272 = t268 then (if t274 = bt276.1 then (if bt280.1 = t268 then (some (bt286.1 == bt288.1)) else (some false)) else (some false)) else (some false))))))))) else (none)) = some r := H
       have A15 := Aside0.mk A150
       clear A150
       obtain ⟨ji16, hji16⟩ : ∃ j_ : Int, (Int.tmod t263 (IntKind.u64.wrap (t260))) = j_ := ⟨_, rfl⟩
       replace H : (if 0 ≤ (ji16) then ((impl_Binary.f kj5 t260 3 t262 (shl .u64 1 (ji16))).bind fun bt276 => ((impl_Binary.f kj5 t260 10 t262 t263).bind fun bt278 => ((impl_Binary.f kj5 t260 10 bt278.1 t263).bind fun bt280 => ((impl_Binary.f kj5 t260 8 t262 t263).bind fun bt282 => ((impl_Binary.f kj5 t260 9 t262 t263).bind fun bt284 => ((impl_Binary.f kj5 t260 1 t262 t263).bind fun bt286 => ((impl_Binary.f kj5 t260 1 bt282.1 bt284.1).bind fun bt288 => (if t272 = t268 then (if t274 = bt276.1 then (if bt280.1 = t268 then (some (bt286.1 == bt288.1)) else (some false)) else (some false)) else (some false))))))))) else (none)) = some r := by first | (rw [hji16] at H; exact H) | (simp only [hji16] at H ⊢; exact H)
       (try rw [hji16] at A10)
       (try rw [hji16] at A12)
       (try rw [hji16] at A13)
       (try rw [hji16] at A15)
       by_cases c17 : 0 ≤ (ji16)
       ·
        rw [if_pos c17] at H
        have c17b0 := eq_true c17
        have c17b1 : decide (0 ≤ (ji16)) = true := decide_eq_true c17
        clear c17
        obtain ⟨ji18, hji18⟩ : ∃ j_ : Int, (shl .u64 1 (ji16)) = j_ := ⟨_, rfl⟩
        replace H : ((impl_Binary.f kj5 t260 3 t262 (ji18)).bind fun bt276 => ((impl_Binary.f kj5 t260 10 t262 t263).bind fun bt278 => ((impl_Binary.f kj5 t260 10 bt278.1 t263).bind fun bt280 => ((impl_Binary.f kj5 t260 8 t262 t263).bind fun bt282 => ((impl_Binary.f kj5 t260 9 t262 t263).bind fun bt284 => ((impl_Binary.f kj5 t260 1 t262 t263).bind fun bt286 => ((impl_Binary.f kj5 t260 1 bt282.1 bt284.1).bind fun bt288 => (if t272 = t268 then (if t274 = bt276.1 then (if bt280.1 = t268 then (some (bt286.1 == bt288.1)) else (some false)) else (some false)) else (some false))))))))) = some r := by first | (rw [hji18] at H; exact H) | (simp only [hji18] at H ⊢; exact H)
        (try rw [hji18] at A10)
        (try rw [hji18] at A12)
        (try rw [hji18] at A13)
        (try rw [hji18] at A15)
        have hji18_ : (IntKind.u64.wrap (1 * 2 ^ min (ji16).toNat 64)) = ji18 := hji18
        have hji18z : (ji16) ≤ 64 → (IntKind.u64.wrap (1 * 2 ^ (ji16).toNat)) = ji18 := shl_small hji18
        have hji18u : (IntKind.u64.wrap (2 ^ min (ji16).toNat 64)) = ji18 := by have h_ := hji18_; rw [Int.one_mul] at h_; exact h_
        have hji18v : (ji16) ≤ 64 → (IntKind.u64.wrap (2 ^ (ji16).toNat)) = ji18 := fun hle_ => by have h_ := hji18z hle_; rw [Int.one_mul] at h_; exact h_
        replace H := Option.bind_eq_some_iff.mp H
        obtain ⟨⟨t276, t277⟩, A190, H⟩ := H
        replace H : ((impl_Binary.f kj5 t260 10 t262 t263).bind fun bt278 => ((impl_Binary.f kj5 t260 10 bt278.1 t263).bind fun bt280 => ((impl_Binary.f kj5 t260 8 t262 t263).bind fun bt282 => ((impl_Binary.f kj5 t260 9 t262 t263).bind fun bt284 => ((impl_Binary.f kj5 t260 1 t262 t263).bind fun bt286 => ((impl_Binary.f kj5 t260 1 bt282.1 bt284.1).bind fun bt288 => (if t272 = t268 then (if t274 = t276 then (if bt280.1 = t268 then (some (bt286.1 == bt288.1)) else (some false)) else (some false)) else (some false)))))))) = some r := H
        have A19 := Aside0.mk A190
        clear A190
        replace H := Option.bind_eq_some_iff.mp H
        obtain ⟨⟨t278, t279⟩, A200, H⟩ := H
        replace H : ((impl_Binary.f kj5 t260 10 t278 t263).bind fun bt280 => ((impl_Binary.f kj5 t260 8 t262 t263).bind fun bt282 => ((impl_Binary.f kj5 t260 9 t262 t263).bind fun bt284 => ((impl_Binary.f kj5 t260 1 t262 t263).bind fun bt286 => ((impl_Binary.f kj5 t260 1 bt282.1 bt284.1).bind fun bt288 => (if t272 = t268 then (if t274 = t276 then (if bt280.1 = t268 then (some (bt286.1 == bt288.1)) else (some false)) else (some false)) else (some false))))))) = some r := H
        have A20 := Aside0.mk A200
        clear A200
        replace H := Option.bind_eq_some_iff.mp H
        obtain ⟨⟨t280, t281⟩, A210, H⟩ := H
        replace H : ((impl_Binary.f kj5 t260 8 t262 t263).bind fun bt282 => ((impl_Binary.f kj5 t260 9 t262 t263).bind fun bt284 => ((impl_Binary.f kj5 t260 1 t262 t263).bind fun bt286 => ((impl_Binary.f kj5 t260 1 bt282.1 bt284.1).bind fun bt288 => (if t272 = t268 then (if t274 = t276 then (if t280 = t268 then (some (bt286.1 == bt288.1)) else (some false)) else (some false)) else (some false)))))) = some r := H
        have A21 := Aside0.mk A210
        clear A210
        replace H := Option.bind_eq_some_iff.mp H
        obtain ⟨⟨t282, t283⟩, A220, H⟩ := H
        replace H : ((impl_Binary.f kj5 t260 9 t262 t263).bind fun bt284 => ((impl_Binary.f kj5 t260 1 t262 t263).bind fun bt286 => ((impl_Binary.f kj5 t260 1 t282 bt284.1).bind fun bt288 => (if t272 = t268 then (if t274 = t276 then (if t280 = t268 then (some (bt286.1 == bt288.1)) else (some false)) else (some false)) else (some false))))) = some r := H
        have A22 := Aside0.mk A220
        clear A220
        replace H := Option.bind_eq_some_iff.mp H
        obtain ⟨⟨t284, t285⟩, A230, H⟩ := H
        replace H : ((impl_Binary.f kj5 t260 1 t262 t263).bind fun bt286 => ((impl_Binary.f kj5 t260 1 t282 t284).bind fun bt288 => (if t272 = t268 then (if t274 = t276 then (if t280 = t268 then (some (bt286.1 == bt288.1)) else (some false)) else (some false)) else (some false)))) = some r := H
        have A23 := Aside0.mk A230
        clear A230
        replace H := Option.bind_eq_some_iff.mp H
        obtain ⟨⟨t286, t287⟩, A240, H⟩ := H
        replace H : ((impl_Binary.f kj5 t260 1 t282 t284).bind fun bt288 => (if t272 = t268 then (if t274 = t276 then (if t280 = t268 then (some (t286 == bt288.1)) else (some false)) else (some false)) else (some false))) = some r := H
        have A24 := Aside0.mk A240
        clear A240
        replace H := Option.bind_eq_some_iff.mp H
        obtain ⟨⟨t288, t289⟩, A250, H⟩ := H
        replace H : (if t272 = t268 then (if t274 = t276 then (if t280 = t268 then (some (t286 == t288)) else (some false)) else (some false)) else (some false)) = some r := H
        have A25 := Aside0.mk A250
        clear A250
        by_cases c26 : t272 = t268
        ·
         rw [if_pos c26] at H
         have c26b0 : (t272 == t268) = true := beq_iff_eq.mpr c26
         have c26b1 : (t272 != t268) = false := bne_eq_false_iff_eq.mpr c26
         clear c26
         by_cases c27 : t274 = t276
         ·
          rw [if_pos c27] at H
          have c27b0 : (t274 == t276) = true := beq_iff_eq.mpr c27
          have c27b1 : (t274 != t276) = false := bne_eq_false_iff_eq.mpr c27
          clear c27
          by_cases c28 : t280 = t268
          ·
           rw [if_pos c28] at H
           have c28b0 : (t280 == t268) = true := beq_iff_eq.mpr c28
           have c28b1 : (t280 != t268) = false := bne_eq_false_iff_eq.mpr c28
           clear c28
           obtain rfl := Option.some.inj H
           simp only [Option.some.injEq, Prod.mk.injEq] at H
           obtain ⟨rfl⟩ := H
           go_wp2_with (first | ((with_reducible refine gate_callee (f := 41) rfl ?_); refine goesL_ (some 71) rfl rfl Try.func41 (by kernel_rfl) rfl #[.int .i64 t260, .int .i64 1, .int .u64 t262, .int .u64 0] rfl ar ?_; (with_reducible refine (impl_Binary.calls kj5 t260 1 t262 0 t268 t269 _ A10.out).mono ?_); rintro e w' ⟨rfl, ⟨nd, rfl⟩⟩; refine ⟨_, rfl, ?_⟩) | ((with_reducible refine gate_callee (f := 41) rfl ?_); refine goesL_ (some 86) rfl rfl Try.func41 (by kernel_rfl) rfl #[.int .i64 t260, .int .i64 14, .int .u64 t262, .int .u64 t263] rfl ar ?_; (with_reducible refine (impl_Binary.calls kj5 t260 14 t262 t263 t270 t271 _ A12.out).mono ?_); rintro e w' ⟨rfl, ⟨nd, rfl⟩⟩; refine ⟨_, rfl, ?_⟩) | ((with_reducible refine gate_callee (f := 41) rfl ?_); refine goesL_ (some 93) rfl rfl Try.func41 (by kernel_rfl) rfl #[.int .i64 t260, .int .i64 15, .int .u64 t270, .int .u64 t263] rfl ar ?_; (with_reducible refine (impl_Binary.calls kj5 t260 15 t270 t263 t272 t273 _ A13.out).mono ?_); rintro e w' ⟨rfl, ⟨nd, rfl⟩⟩; refine ⟨_, rfl, ?_⟩) | ((with_reducible refine gate_callee (f := 41) rfl ?_); refine goesL_ (some 104) rfl rfl Try.func41 (by kernel_rfl) rfl #[.int .i64 t260, .int .i64 11, .int .u64 t262, .int .u64 t263] rfl ar ?_; (with_reducible refine (impl_Binary.calls kj5 t260 11 t262 t263 t274 t275 _ A15.out).mono ?_); rintro e w' ⟨rfl, ⟨nd, rfl⟩⟩; refine ⟨_, rfl, ?_⟩) | ((with_reducible refine gate_callee (f := 41) rfl ?_); refine goesL_ (some 112) rfl rfl Try.func41 (by kernel_rfl) rfl #[.int .i64 t260, .int .i64 3, .int .u64 t262, .int .u64 ji18] rfl (by (try simp only [List.map_toArray, List.map_cons, List.map_nil]); first | done | (simp only [hji18]; rfl) | rfl | (simp only [List.length_drop, List.length_take]; rfl)) ?_; (with_reducible refine (impl_Binary.calls kj5 t260 3 t262 ji18 t276 t277 _ A19.out).mono ?_); rintro e w' ⟨rfl, ⟨nd, rfl⟩⟩; refine ⟨_, rfl, ?_⟩) | ((with_reducible refine gate_callee (f := 41) rfl ?_); refine goesL_ (some 119) rfl rfl Try.func41 (by kernel_rfl) rfl #[.int .i64 t260, .int .i64 10, .int .u64 t262, .int .u64 t263] rfl ar ?_; (with_reducible refine (impl_Binary.calls kj5 t260 10 t262 t263 t278 t279 _ A20.out).mono ?_); rintro e w' ⟨rfl, ⟨nd, rfl⟩⟩; refine ⟨_, rfl, ?_⟩) | ((with_reducible refine gate_callee (f := 41) rfl ?_); refine goesL_ (some 126) rfl rfl Try.func41 (by kernel_rfl) rfl #[.int .i64 t260, .int .i64 10, .int .u64 t278, .int .u64 t263] rfl ar ?_; (with_reducible refine (impl_Binary.calls kj5 t260 10 t278 t263 t280 t281 _ A21.out).mono ?_); rintro e w' ⟨rfl, ⟨nd, rfl⟩⟩; refine ⟨_, rfl, ?_⟩) | ((with_reducible refine gate_callee (f := 41) rfl ?_); refine goesL_ (some 133) rfl rfl Try.func41 (by kernel_rfl) rfl #[.int .i64 t260, .int .i64 8, .int .u64 t262, .int .u64 t263] rfl ar ?_; (with_reducible refine (impl_Binary.calls kj5 t260 8 t262 t263 t282 t283 _ A22.out).mono ?_); rintro e w' ⟨rfl, ⟨nd, rfl⟩⟩; refine ⟨_, rfl, ?_⟩) | ((with_reducible refine gate_callee (f := 41) rfl ?_); refine goesL_ (some 140) rfl rfl Try.func41 (by kernel_rfl) rfl #[.int .i64 t260, .int .i64 9, .int .u64 t262, .int .u64 t263] rfl ar ?_; (with_reducible refine (impl_Binary.calls kj5 t260 9 t262 t263 t284 t285 _ A23.out).mono ?_); rintro e w' ⟨rfl, ⟨nd, rfl⟩⟩; refine ⟨_, rfl, ?_⟩) | ((with_reducible refine gate_callee (f := 41) rfl ?_); refine goesL_ (some 147) rfl rfl Try.func41 (by kernel_rfl) rfl #[.int .i64 t260, .int .i64 1, .int .u64 t262, .int .u64 t263] rfl ar ?_; (with_reducible refine (impl_Binary.calls kj5 t260 1 t262 t263 t286 t287 _ A24.out).mono ?_); rintro e w' ⟨rfl, ⟨nd, rfl⟩⟩; refine ⟨_, rfl, ?_⟩) | ((with_reducible refine gate_callee (f := 41) rfl ?_); refine goesL_ (some 154) rfl rfl Try.func41 (by kernel_rfl) rfl #[.int .i64 t260, .int .i64 1, .int .u64 t282, .int .u64 t284] rfl ar ?_; (with_reducible refine (impl_Binary.calls kj5 t260 1 t282 t284 t288 t289 _ A25.out).mono ?_); rintro e w' ⟨rfl, ⟨nd, rfl⟩⟩; refine ⟨_, rfl, ?_⟩))
           go_ret
           exact ⟨by first | rfl | (simp [errW_none, errW_some] <;> rfl) | (simp only [← hji16, ← hji18]; first | rfl | (simp [errW_none, errW_some] <;> rfl)) | (simp [*, errW_none, errW_some] <;> rfl), bw HB.out⟩
          ·
           rw [if_neg c28] at H
           have c28b0 : (t280 == t268) = false := beq_eq_false_iff_ne.mpr c28
           have c28b1 : (t280 != t268) = true := bne_iff_ne.mpr c28
           obtain rfl := Option.some.inj H
           exact absurd HT.out (by decide)
         ·
          rw [if_neg c27] at H
          have c27b0 : (t274 == t276) = false := beq_eq_false_iff_ne.mpr c27
          have c27b1 : (t274 != t276) = true := bne_iff_ne.mpr c27
          obtain rfl := Option.some.inj H
          exact absurd HT.out (by decide)
        ·
         rw [if_neg c26] at H
         have c26b0 : (t272 == t268) = false := beq_eq_false_iff_ne.mpr c26
         have c26b1 : (t272 != t268) = true := bne_iff_ne.mpr c26
         obtain rfl := Option.some.inj H
         exact absurd HT.out (by decide)
       ·
        rw [if_neg c17] at H
        exact absurd H (by simp)
     ·
      rw [if_neg c11] at H
      have c11b0 : (t269 == 0) = false := beq_eq_false_iff_ne.mpr c11
      have c11b1 : (t269 != 0) = true := bne_iff_ne.mpr c11
      by_cases c29 : t260 = 32
      ·
       rw [if_pos c29] at H
       have c29b0 : (t260 == 32) = true := beq_iff_eq.mpr c29
       have c29b1 : (t260 != 32) = false := bne_eq_false_iff_eq.mpr c29
       clear c29
       obtain rfl := Option.some.inj H
       exact absurd HT.out (by decide)
      ·
       rw [if_neg c29] at H
       have c29b0 : (t260 == 32) = false := beq_eq_false_iff_ne.mpr c29
       have c29b1 : (t260 != 32) = true := bne_iff_ne.mpr c29
       obtain rfl := Option.some.inj H
       simp only [Option.some.injEq, Prod.mk.injEq] at H
       obtain ⟨rfl⟩ := H
       go_wp2_with (first | ((with_reducible refine gate_callee (f := 41) rfl ?_); refine goesL_ (some 71) rfl rfl Try.func41 (by kernel_rfl) rfl #[.int .i64 t260, .int .i64 1, .int .u64 t262, .int .u64 0] rfl ar ?_; (with_reducible refine (impl_Binary.calls kj5 t260 1 t262 0 t268 t269 _ A10.out).mono ?_); rintro e w' ⟨rfl, ⟨nd, rfl⟩⟩; refine ⟨_, rfl, ?_⟩))
       go_ret
       exact ⟨by first | rfl | (simp [errW_none, errW_some] <;> rfl) | (simp [*, errW_none, errW_some] <;> rfl), bw HB.out⟩

/-- THE ONE PURE STATEMENT of laws_FnTurned: yours. -/
def laws_FnTurned.Pure : Prop := ∀ (l0 : List Int), l0.length ≤ maxLen → l0.length * 1 ≤ 140737488351232 → (∀ x ∈ l0, (Lit.int .u8 x).wf = true) → ∃ k, laws_FnTurned.f k l0 = some true
theorem laws_FnTurned.walk (P : laws_FnTurned.Pure) (a0 : Option Addr) (len0 cap0 : Nat) (z0 : List Int) (w : World) (w0 : (a0 = none ∧ len0 = 0 ∧ cap0 = 0 ∧ z0 = []) ∨ ∃ x, a0 = some x ∧ len0 ≤ cap0 ∧ cap0 ≤ maxLen ∧ z0.length = cap0 ∧ (∀ i, i < z0.length → w.cell? (x.add i) = some (.int .u8 (z0.getD i 0))) ∧ ∀ n ∈ z0, (Lit.int .u8 n).wf = true) (y0 : len0 * 1 ≤ 140737488351232) :
  Calls Try.prog 10 #[.slice a0 len0 cap0] w fun e w' => e = .returned (.bool true) ∧ Below w.heap.size w w' := by
 obtain ⟨l0, rfl, hr0, hm0, hw0, hc0⟩ := ReadsInt.ofRowC w0
 obtain ⟨k, h⟩ := P l0 hm0 y0 hw0
 refine (laws_FnTurned.calls k _ _ l0 true w (Kd.C_of_reads (d := (0 : Int)) (h1 := fun _ => rfl) hr0) hc0 rfl h).mono ?_
 rintro e w' ⟨rfl, hd⟩
 exact ⟨rfl, hd⟩

end Go.Proofs.Ytdjpbhmkcamkpaa.Q

