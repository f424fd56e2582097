-- Written by a program of this session; it walks the functions that the law reaches.
import Derived.Test.YtdjpbhmkcamkpaaWB
import Derived.Test.YtdjpbhmkcamkpaaQx0
import Derived.Test.YtdjpbhmkcamkpaaQx2
namespace Go.Proofs.Ytdjpbhmkcamkpaa.Q
open Go.RowKit Go.Proofs.YtdjpbhmkcamkpaaW.PrintWords Go.Proofs.YtdjpbhmkcamkpaaW.PrintLast Go.Proofs.YtdjpbhmkcamkpaaW.PrintMore
attribute [local go_sem] max2_int min2_int max_two min_two max_three min_three max_four min_four   -- for this text's walks alone
set_option linter.unusedVariables false
set_option linter.unusedSimpArgs false

theorem info67 : (Try.prog.info? 67).map (fun i => (i.zero, i.size, i.bytes)) = some (some (.slice none 0 0), 1, 24) := by kernel_rfl
-- the values' own types
/-! ### spec_SignedOf: function 43 -/
def spec_SignedOf.f (a0 : Int) (a1 : Int) : Option (Int × Bool) := (spec_l3Bits.f a0).bind fun t260 => (if t260 = true then ((spec_l3Signed.f a0 a1).bind fun t261 => (some (t261, true))) else (some (0, false)))
set_option maxHeartbeats 8000000 in
set_option maxRecDepth 100000 in
theorem spec_SignedOf.calls (a0 : Int) (a1 : Int) (r1 : Int) (r2 : Bool) (w : World) (h : spec_SignedOf.f a0 a1 = some (r1, r2)) :
  Calls Try.prog 43 #[.int .i64 a0, .int .u64 a1] w fun e w' => e = .returned (.tuple #[.int .i64 r1, .bool r2]) ∧ Drawn0 w w' := by
 have H : ((spec_l3Bits.f a0).bind fun t260 => (if t260 = true then ((spec_l3Signed.f a0 a1).bind fun t261 => (some (t261, true))) else (some (0, false)))) = some (r1, r2) := h
 clear h
 replace H := Option.bind_eq_some_iff.mp H
 obtain ⟨t260, A30, H⟩ := H
 replace H : (if t260 = true then ((spec_l3Signed.f a0 a1).bind fun t261 => (some (t261, true))) else (some (0, false))) = some (r1, r2) := H
 have A3 := Aside0.mk A30
 clear A30
 by_cases c4 : t260 = true
 ·
  subst c4
  have H1 : ((spec_l3Signed.f a0 a1).bind fun t261 => (some (t261, true))) = some (r1, r2) := by rw [if_pos rfl] at H; exact H
  clear H
  have H := H1
  clear H1
  replace H := Option.bind_eq_some_iff.mp H
  obtain ⟨t261, A50, H⟩ := H
  replace H : (some (t261, true)) = some (r1, r2) := H
  have A5 := Aside0.mk A50
  clear A50
  simp only [Option.some.injEq, Prod.mk.injEq] at H
  obtain ⟨rfl, rfl⟩ := H
  go_enter Try.func43, Try.ntmps43
  go_wp2_with (first | ((with_reducible refine gate_callee (f := 90) rfl ?_); refine goesL_ (some 7) rfl rfl Try.func90 (by kernel_rfl) rfl #[.int .i64 a0] rfl (by (try simp only [List.map_toArray, List.map_cons, List.map_nil]); first | done | rfl | (simp only [List.length_drop, List.length_take]; rfl)) ?_; (with_reducible refine (spec_l3Bits.calls a0 true _ A3.out).mono ?_); rintro e w' ⟨rfl, ⟨nd, rfl⟩⟩; refine ⟨_, rfl, ?_⟩) | ((with_reducible refine gate_callee (f := 92) rfl ?_); refine goesL_ (some 11) rfl rfl Try.func92 (by kernel_rfl) rfl #[.int .i64 a0, .int .u64 a1] rfl (by (try simp only [List.map_toArray, List.map_cons, List.map_nil]); first | done | rfl | (simp only [List.length_drop, List.length_take]; rfl)) ?_; (with_reducible refine (spec_l3Signed.calls a0 a1 t261 _ A5.out).mono ?_); rintro e w' ⟨rfl, ⟨nd, rfl⟩⟩; refine ⟨_, rfl, ?_⟩))
  go_ret2
  exact ⟨by first | rfl | (simp; done) | (simp [*]; done), by repeat (first | exact Drawn0.refl _ | apply Drawn0.step)⟩
 ·
  replace c4 := Bool.eq_false_iff.mpr c4
  subst c4
  have H1 : (some (0, false)) = some (r1, r2) := by rw [if_neg (show ¬ (false = true) by decide)] at H; exact H
  clear H
  have H := H1
  clear H1
  simp only [Option.some.injEq, Prod.mk.injEq] at H
  obtain ⟨rfl, rfl⟩ := H
  go_enter Try.func43, Try.ntmps43
  go_wp2_with (first | ((with_reducible refine gate_callee (f := 90) rfl ?_); refine goesL_ (some 7) rfl rfl Try.func90 (by kernel_rfl) rfl #[.int .i64 a0] rfl (by (try simp only [List.map_toArray, List.map_cons, List.map_nil]); first | done | rfl | (simp only [List.length_drop, List.length_take]; rfl)) ?_; (with_reducible refine (spec_l3Bits.calls a0 false _ A3.out).mono ?_); rintro e w' ⟨rfl, ⟨nd, rfl⟩⟩; refine ⟨_, rfl, ?_⟩))
  go_ret2
  exact ⟨by first | rfl | (simp; done) | (simp [*]; done), by repeat (first | exact Drawn0.refl _ | apply Drawn0.step)⟩

/-! ### laws_FnDivided: function 11 -/
def laws_FnDivided.l0 : Nat → Int → Int → Int → List (List Int) → Int → Int → Option (Bool)
 | 0, _, _, _, _, _, _ => none
 | k + 1, x3, x5, x6, x65, x66, x67 => if x67 < x66 then (if 0 ≤ x67 then (if x67 < (x65.length : Int) then (if 0 < ((rd_L2 x65 x67).length : Int) then ((impl_Binary.f k x3 (rd (rd_L2 x65 x67) 0) x5 x6).bind fun bt281 => (if 1 < ((rd_L2 x65 x67).length : Int) then ((impl_Binary.f k x3 (rd (rd_L2 x65 x67) 1) x5 x6).bind fun bt284 => (if bt281.2 = 0 then (if bt284.2 = 0 then ((impl_Binary.f k x3 3 bt281.1 x6).bind fun bt286 => ((impl_Binary.f k x3 1 bt286.1 bt284.1).bind fun bt288 => ((impl_Binary.f k x3 1 x5 0).bind fun bt290 => (if bt288.1 = bt290.1 then ((impl_Binary.f k x3 19 bt284.1 x6).bind fun bt292 => (if (rd (rd_L2 x65 x67) 0) = 5 then (if bt292.1 = 1 then ((spec_SignedOf.f x3 bt284.1).bind fun bt295 => ((spec_SignedOf.f x3 x5).bind fun bt297 => (if (rd (rd_L2 x65 x67) 0) = 4 then (if bt295.1 = 0 then (laws_FnDivided.l0 k x3 x5 x6 x65 x66 (wrap64 (x67 + 1))) else (if ((decide (bt295.1 < 0)) != (decide (bt297.1 < 0))) = true then (some false) else (laws_FnDivided.l0 k x3 x5 x6 x65 x66 (wrap64 (x67 + 1))))) else (laws_FnDivided.l0 k x3 x5 x6 x65 x66 (wrap64 (x67 + 1)))))) else (some false)) else ((spec_SignedOf.f x3 bt284.1).bind fun bt300 => ((spec_SignedOf.f x3 x5).bind fun bt302 => (if (rd (rd_L2 x65 x67) 0) = 4 then (if bt300.1 = 0 then (laws_FnDivided.l0 k x3 x5 x6 x65 x66 (wrap64 (x67 + 1))) else (if ((decide (bt300.1 < 0)) != (decide (bt302.1 < 0))) = true then (some false) else (laws_FnDivided.l0 k x3 x5 x6 x65 x66 (wrap64 (x67 + 1))))) else (laws_FnDivided.l0 k x3 x5 x6 x65 x66 (wrap64 (x67 + 1)))))))) else (some false))))) else (laws_FnDivided.l0 k x3 x5 x6 x65 x66 (wrap64 (x67 + 1)))) else (laws_FnDivided.l0 k x3 x5 x6 x65 x66 (wrap64 (x67 + 1))))) else (none))) else (none)) else (none)) else (none)) else (some true)
def laws_FnDivided.f (k : Nat) (l0 : List Int) : Option (Bool) := if (l0.length : Int) > 1048576 then (some true) else ((spec_DrawBinary.f k l0).bind fun bt262 => ((impl_Binary.f k bt262.1 bt262.2.1 bt262.2.2.1 bt262.2.2.2).bind fun bt266 => ((spec_Binary.f k bt262.1 bt262.2.1 bt262.2.2.1 bt262.2.2.2).bind fun bt268 => (if bt266.1 = bt268.1 then (if bt266.2 = bt268.2 then ((some (([(([4, 6] : List Int)), (([5, 7] : List Int))] : List (List Int)) : List (List Int))).bind fun y276 => (laws_FnDivided.l0 k bt262.1 bt262.2.2.1 bt262.2.2.2 y276 (y276.length : Int) 0)) else (some false)) else (some false)))))
theorem laws_FnDivided.mono_l : ∀ k, (∀ y0 y1 y2 y3 y4 y5, LeO (laws_FnDivided.l0 k y0 y1 y2 y3 y4 y5) (laws_FnDivided.l0 (k + 1) y0 y1 y2 y3 y4 y5))
 | 0 => fun _ _ _ _ _ _ r h => by simp [laws_FnDivided.l0] at h
 | k + 1 => by
  have ih0 := laws_FnDivided.mono_l k
  ·
   intro y0 y1 y2 y3 y4 y5
   unfold laws_FnDivided.l0
   repeat' first
   | (with_reducible exact ih0 _ _ _ _ _ _)
   | (with_reducible exact impl_Binary.mono _ _ _ _ _)
   | (with_reducible exact spec_Binary.mono _ _ _ _ _)
   | (with_reducible exact spec_DrawBinary.mono _ _)
   | (with_reducible exact LeO.refl _)
   | (with_reducible exact LeO.none _)
   | (with_reducible refine LeO.ite ?_ ?_)
   | (with_reducible refine LeO.bind ?_ (fun _ => ?_))
   | exact ih0 _ _ _ _ _ _
   | exact impl_Binary.mono _ _ _ _ _
   | exact spec_Binary.mono _ _ _ _ _
   | exact spec_DrawBinary.mono _ _
   | exact LeO.none _
   | refine LeO.ite ?_ ?_
   | refine LeO.bind ?_ (fun _ => ?_)
theorem laws_FnDivided.mono : ∀ a0 k, LeO (laws_FnDivided.f k a0) (laws_FnDivided.f (k + 1) a0) := by
 intro a0 k
 have ih0 := laws_FnDivided.mono_l k
 unfold laws_FnDivided.f
 repeat' first
   | (with_reducible exact ih0 _ _ _ _ _ _)
   | (with_reducible exact impl_Binary.mono _ _ _ _ _)
   | (with_reducible exact spec_Binary.mono _ _ _ _ _)
   | (with_reducible exact spec_DrawBinary.mono _ _)
   | (with_reducible exact LeO.refl _)
   | (with_reducible exact LeO.none _)
   | (with_reducible refine LeO.ite ?_ ?_)
   | (with_reducible refine LeO.bind ?_ (fun _ => ?_))
   | exact ih0 _ _ _ _ _ _
   | exact impl_Binary.mono _ _ _ _ _
   | exact spec_Binary.mono _ _ _ _ _
   | exact spec_DrawBinary.mono _ _
   | exact LeO.none _
   | refine LeO.ite ?_ ?_
   | refine LeO.bind ?_ (fun _ => ?_)
set_option maxHeartbeats 8000000 in
set_option maxRecDepth 100000 in
theorem laws_FnDivided.calls (k : Nat) (A0 : Option Addr) (c0 : Nat) (l0 : List Int) (r : Bool) (w : World) (hr0 : Kd.C (Kd.int .u8) w A0 l0.length l0) (hc0 : l0.length ≤ c0) (hTrue : r = true) (h : laws_FnDivided.f k l0 = some r) :
  Calls Try.prog 11 #[.slice A0 l0.length c0] w fun e w' => e = .returned (.bool r) ∧ Below w.heap.size w w' := by
 have HR0 := Aside0.mk hr0
 have HC0 := Aside0.mk hc0
 clear hr0 hc0
 have HB := Aside0.mk (Below.refl w.heap.size w)
 have H : (if (l0.length : Int) > 1048576 then (some true) else ((spec_DrawBinary.f k l0).bind fun bt262 => ((impl_Binary.f k bt262.1 bt262.2.1 bt262.2.2.1 bt262.2.2.2).bind fun bt266 => ((spec_Binary.f k bt262.1 bt262.2.1 bt262.2.2.1 bt262.2.2.2).bind fun bt268 => (if bt266.1 = bt268.1 then (if bt266.2 = bt268.2 then ((some (([(([4, 6] : List Int)), (([5, 7] : List Int))] : List (List Int)) : List (List Int))).bind fun y276 => (laws_FnDivided.l0 k bt262.1 bt262.2.2.1 bt262.2.2.2 y276 (y276.length : Int) 0)) else (some false)) else (some false)))))) = some r := h
 clear h
 have HT := Aside0.mk hTrue
 clear hTrue
 by_cases c2 : (l0.length : Int) > 1048576
 ·
  rw [if_pos c2] at H
  have c2b0 : decide (1048576 < (l0.length : Int)) = true := decide_eq_true c2
  have c2b1 : decide (1048576 < l0.length) = true := decide_eq_true (by omega)
  clear c2
  obtain rfl := Option.some.inj H
  simp only [Option.some.injEq, Prod.mk.injEq] at H
  obtain ⟨rfl⟩ := H
  go_enter Try.func11, Try.ntmps11
  go_wp2
  go_ret
  exact ⟨by first | rfl | (simp [errW_none, errW_some] <;> rfl) | (simp [*, errW_none, errW_some] <;> rfl), by repeat (first | (with_reducible first | exact HB.out | apply below_alloc | apply pw_below_drewN | apply below_drew1) | exact HB.out)⟩
 ·
  rw [if_neg c2] at H
  have c2b0 : decide (1048576 < (l0.length : Int)) = false := decide_eq_false c2
  have c2b1 : decide (1048576 < l0.length) = false := decide_eq_false (by omega)
  clear c2
  replace H := Option.bind_eq_some_iff.mp H
  obtain ⟨⟨t262, t263, t264, t265⟩, A30, H⟩ := H
  replace H : ((impl_Binary.f k t262 t263 t264 t265).bind fun bt266 => ((spec_Binary.f k t262 t263 t264 t265).bind fun bt268 => (if bt266.1 = bt268.1 then (if bt266.2 = bt268.2 then ((some (([(([4, 6] : List Int)), (([5, 7] : List Int))] : List (List Int)) : List (List Int))).bind fun y276 => (laws_FnDivided.l0 k t262 t264 t265 y276 (y276.length : Int) 0)) else (some false)) else (some false)))) = some r := H
  have A3 := Aside0.mk A30
  clear A30
  replace H := Option.bind_eq_some_iff.mp H
  obtain ⟨⟨t266, t267⟩, A40, H⟩ := H
  replace H : ((spec_Binary.f k t262 t263 t264 t265).bind fun bt268 => (if t266 = bt268.1 then (if t267 = bt268.2 then ((some (([(([4, 6] : List Int)), (([5, 7] : List Int))] : List (List Int)) : List (List Int))).bind fun y276 => (laws_FnDivided.l0 k t262 t264 t265 y276 (y276.length : Int) 0)) else (some false)) else (some false))) = some r := H
  have A4 := Aside0.mk A40
  clear A40
  replace H := Option.bind_eq_some_iff.mp H
  obtain ⟨⟨t268, t269⟩, A50, H⟩ := H
  replace H : (if t266 = t268 then (if t267 = t269 then ((some (([(([4, 6] : List Int)), (([5, 7] : List Int))] : List (List Int)) : List (List Int))).bind fun y276 => (laws_FnDivided.l0 k t262 t264 t265 y276 (y276.length : Int) 0)) else (some false)) else (some false)) = some r := H
  have A5 := Aside0.mk A50
  clear A50
  by_cases c6 : t266 = t268
  ·
   rw [if_pos c6] at H
   have c6b0 : (t266 == t268) = true := beq_iff_eq.mpr c6
   have c6b1 : (t266 != t268) = false := bne_eq_false_iff_eq.mpr c6
   clear c6
   by_cases c7 : t267 = t269
   ·
    rw [if_pos c7] at H
    have c7b0 : (t267 == t269) = true := beq_iff_eq.mpr c7
    have c7b1 : (t267 != t269) = false := bne_eq_false_iff_eq.mpr c7
    clear c7
    obtain ⟨y270, hy270⟩ : ∃ y_ : List Int, y_ = (([4, 6] : List Int)) := ⟨_, rfl⟩
    replace H : ((some (([y270, (([5, 7] : List Int))] : List (List Int)) : List (List Int))).bind fun y276 => (laws_FnDivided.l0 k t262 t264 t265 y276 (y276.length : Int) 0)) = some r := by first | (rw [hy270]; with_reducible exact H) | (have H2_ := (Option.bind_some _ _).symm.trans H; rw [hy270]; with_reducible exact H2_) | (have H2_ := (Option.bind_some _ _).symm.trans H; with_reducible exact H2_) | with_reducible exact H | (rw [hy270]; exact H) | exact H
    have Ny270 := Aside0.mk hy270
    clear hy270
    obtain ⟨y273, hy273⟩ : ∃ y_ : List Int, y_ = (([5, 7] : List Int)) := ⟨_, rfl⟩
    replace H : ((some (([y270, y273] : List (List Int)) : List (List Int))).bind fun y276 => (laws_FnDivided.l0 k t262 t264 t265 y276 (y276.length : Int) 0)) = some r := by first | (rw [hy273]; with_reducible exact H) | (have H2_ := (Option.bind_some _ _).symm.trans H; rw [hy273]; with_reducible exact H2_) | (have H2_ := (Option.bind_some _ _).symm.trans H; with_reducible exact H2_) | with_reducible exact H | (rw [hy273]; exact H) | exact H
    have Ny273 := Aside0.mk hy273
    clear hy273
    obtain ⟨y276, hy276⟩ : ∃ y_ : List (List Int), y_ = (([y270, y273] : List (List Int))) := ⟨_, rfl⟩
    replace H : (laws_FnDivided.l0 k t262 t264 t265 y276 (y276.length : Int) 0) = some r := by first | (rw [hy276]; with_reducible exact H) | (have H2_ := (Option.bind_some _ _).symm.trans H; rw [hy276]; with_reducible exact H2_) | (have H2_ := (Option.bind_some _ _).symm.trans H; with_reducible exact H2_) | with_reducible exact H | (rw [hy276]; exact H) | exact H
    have Ny276 := Aside0.mk hy276
    clear hy276
    have H' := Aside0.mk H
    clear H
    go_enter Try.func11, Try.ntmps11
    go_wp2_with (first | ((with_reducible refine gate_callee (f := 40) rfl ?_); refine goesL_ (some 34) rfl rfl Try.func40 (by kernel_rfl) rfl #[.slice A0 l0.length c0] rfl (by (try simp only [List.map_toArray, List.map_cons, List.map_nil]); first | done | rfl | (simp only [List.length_drop, List.length_take]; rfl)) ?_; (with_reducible refine (spec_DrawBinary.calls k _ _ l0 t262 t263 t264 t265 _ ?side1 ?side2 A3.out).mono ?_); (case side1 => repeat (first | exact HR0.out | (with_reducible refine Kd.C_alloc ?_ _) | (with_reducible refine Kd.C_drewN ?_ _) | (with_reducible refine Kd.C_drew ?_))); (case side2 => exact HC0.out); rintro e w8 ⟨rfl, hb⟩; refine ⟨_, rfl, ?_⟩; have n0_ := Aside0.mk (below_step (by repeat (first | (with_reducible first | exact HB.out | apply below_alloc | apply pw_below_drewN | apply below_drew1) | exact HB.out)) hb); clear HB; have HB := n0_; clear n0_; (try clear hb); (try clear hb2); (try clear hk); (try clear hi)) | ((with_reducible refine gate_callee (f := 41) rfl ?_); refine goesL_ (some 44) rfl rfl Try.func41 (by kernel_rfl) rfl #[.int .i64 t262, .int .i64 t263, .int .u64 t264, .int .u64 t265] rfl (by (try simp only [List.map_toArray, List.map_cons, List.map_nil]); first | done | rfl | (simp only [List.length_drop, List.length_take]; rfl)) ?_; (with_reducible refine (impl_Binary.calls k t262 t263 t264 t265 t266 t267 _ A4.out).mono ?_); rintro e w' ⟨rfl, ⟨nd, rfl⟩⟩; refine ⟨_, rfl, ?_⟩) | ((with_reducible refine gate_callee (f := 42) rfl ?_); refine goesL_ (some 52) rfl rfl Try.func42 (by kernel_rfl) rfl #[.int .i64 t262, .int .i64 t263, .int .u64 t264, .int .u64 t265] rfl (by (try simp only [List.map_toArray, List.map_cons, List.map_nil]); first | done | rfl | (simp only [List.length_drop, List.length_take]; rfl)) ?_; (with_reducible refine (spec_Binary.calls k t262 t263 t264 t265 t268 t269 _ A5.out).mono ?_); rintro e w' ⟨rfl, ⟨nd, rfl⟩⟩; refine ⟨_, rfl, ?_⟩) | ((with_reducible refine gate_dst (N := 63) rfl ?_); refine Kd.R_lit (Kd.int .i64) _ 3 ?hg (N := 63) ?hd (xs := ([4, 6] : List Int)) (inner := [.int .i64 4, .int .i64 6]) (ok := fun _ => True) (okp := fun _ => True) ?hr ?hp (fun _ hk => hk) trivial (Below.refl _ _) (Nat.le_refl _) (by simp) ?_; (case hd => rfl); (case hg => rfl); (case hr => first | (go_simp; done) | (go_simp; rfl)); (case hp => exact (Reps.one (show Kd.M (Kd.int .i64) _ _ _ 4 [.int .i64 4] from rfl) (Reps.one (show Kd.M (Kd.int .i64) _ _ _ 6 [.int .i64 6] from rfl) (Reps.none _ _)))); intro v271 w9 ho10 hb hg_ hnew_; clear hg_ hnew_; (first | rw [← Ny270.out] at ho10 | (simp only [Int.reduceToNat] at ho10; rw [← Ny270.out] at ho10)); have n0_ := Aside0.mk (Kd.R_lower ho10 (below_size (by repeat (first | (with_reducible first | exact HB.out | apply below_alloc | apply pw_below_drewN | apply below_drew1) | exact HB.out)))); have n1_ := Aside0.mk (below_step (by repeat (first | (with_reducible first | exact HB.out | apply below_alloc | apply pw_below_drewN | apply below_drew1) | exact HB.out)) hb); clear HB; have HO272 := n0_; have HB := n1_; clear n0_ n1_; clear hb ho10) | ((with_reducible refine gate_dst (N := 64) rfl ?_); refine Kd.R_lit (Kd.int .i64) _ 3 ?hg (N := 64) ?hd (xs := ([5, 7] : List Int)) (inner := [.int .i64 5, .int .i64 7]) (ok := fun _ => True) (okp := fun _ => True) ?hr ?hp (fun _ hk => hk) trivial (Below.refl _ _) (Nat.le_refl _) (by simp) ?_; (case hd => rfl); (case hg => rfl); (case hr => first | (go_simp; done) | (go_simp; rfl)); (case hp => exact (Reps.one (show Kd.M (Kd.int .i64) _ _ _ 5 [.int .i64 5] from rfl) (Reps.one (show Kd.M (Kd.int .i64) _ _ _ 7 [.int .i64 7] from rfl) (Reps.none _ _)))); intro v274 w11 ho12 hb hg_ hnew_; clear hg_ hnew_; (first | rw [← Ny273.out] at ho12 | (simp only [Int.reduceToNat] at ho12; rw [← Ny273.out] at ho12)); have n0_ := Aside0.mk (Kd.R_elder' (by (with_reducible repeat (first | apply Kd.R_alloc | apply Kd.R_drewN | apply Kd.R_drew)); exact HO272.out) (Kd.R_base ho12) hb); have n1_ := Aside0.mk (Kd.R_lower (Kd.R_new' ho12 (Kd.R_lt (by (with_reducible repeat (first | apply Kd.R_alloc | apply Kd.R_drewN | apply Kd.R_drew)); exact HO272.out))) (below_size (by repeat (first | (with_reducible first | exact HB.out | apply below_alloc | apply pw_below_drewN | apply below_drew1) | exact HB.out)))); have n2_ := Aside0.mk (below_step (by repeat (first | (with_reducible first | exact HB.out | apply below_alloc | apply pw_below_drewN | apply below_drew1) | exact HB.out)) hb); clear HO272; clear HB; have HO272 := n0_; have HO275 := n1_; have HB := n2_; clear n0_ n1_ n2_; clear hb ho12; obtain ⟨Ao13, co13, eo13⟩ := Kd.R_slice HO272.out; subst eo13; obtain ⟨Ao14, co14, eo14⟩ := Kd.R_slice HO275.out; subst eo14) | ((with_reducible refine gate_dst (N := 65) rfl ?_); refine Kd.N_lit (Kd.slice 3 (Kd.int .i64)) _ 67 ?hg (N' := 65) ?hd (xs := ([y270, y273] : List (List Int))) (inner := [.slice Ao13 y270.length co13, .slice Ao14 y273.length co14]) (ok := (fun _ => True)) (okp := (fun _ => True)) ?hr ?hp (fun _ hk => hk) ((show ∀ k_, w11.heap.size ≤ k_ → (fun _ => True) k_ from fun k_ hk => trivial) _ (Nat.le_refl _)) (Below.refl _ _) (Nat.le_refl _) (by simp) ?_; (case hd => rfl); (case hg => rfl); (case hr => first | (go_simp; done) | (go_simp; rfl)); (case hp => exact (Reps.one (show Kd.FK (Kd.slice 3 (Kd.int .i64)) _ _ y270 [.slice Ao13 y270.length co13] from (Kd.FK_slice_mk (Kd.R_reads' (Kd.R_mono (ok' := (fun _ => True)) (HO272.out) (fun k_ hk => trivial))).2.1 (Kd.R_F (Kd.R_mono (ok' := (fun _ => True)) (HO272.out) (fun k_ hk => trivial))))) (Reps.one (show Kd.FK (Kd.slice 3 (Kd.int .i64)) _ _ y273 [.slice Ao14 y273.length co14] from (Kd.FK_slice_mk (Kd.R_reads' (Kd.R_mono (ok' := (fun _ => True)) (HO275.out) (fun k_ hk => trivial))).2.1 (Kd.R_F (Kd.R_mono (ok' := (fun _ => True)) (HO275.out) (fun k_ hk => trivial))))) (Reps.none _ _)))); intro v277 w15 ho16 hb hg_ hnew_; clear hg_ hnew_; (first | rw [← Ny276.out] at ho16 | (simp only [Int.reduceToNat] at ho16; rw [← Ny276.out] at ho16)); have n0_ := Aside0.mk (Kd.N_lower ho16 (below_size (by repeat (first | (with_reducible first | exact HB.out | apply below_alloc | apply pw_below_drewN | apply below_drew1) | exact HB.out)))); have n1_ := Aside0.mk (below_step (by repeat (first | (with_reducible first | exact HB.out | apply below_alloc | apply pw_below_drewN | apply below_drew1) | exact HB.out)) hb); clear HB; clear HO272; clear HO275; have HO278 := n0_; have HB := n1_; clear n0_ n1_; clear hb ho16; obtain ⟨Ao17, co17, eo17⟩ := Kd.N_slice HO278.out; subst eo17))
    (try simp only [Act.put, List.setIfInBounds_toArray, List.set_cons_zero, List.set_cons_succ])
    go_loopg [67] k (fun kq v67 w' => ∃ (x67_1 : Int), v67 = .int .i64 x67_1 ∧ Aside0 (laws_FnDivided.l0 kq t262 t264 t265 y276 (y276.length : Int) x67_1 = some r) ∧ Aside0 (kq ≤ k) ∧ Aside0 (Kd.N (Kd.slice 3 (Kd.int .i64)) 67 w' w.heap.size (fun _ => True) (.slice Ao17 y276.length co17) y276) ∧ Aside0 (Below w.heap.size w w'))
    case atStart => exact ⟨(0), (by first | rfl | (simp; done) | (simp [*]; done)), H', ⟨Nat.le_refl _⟩, ⟨by (with_reducible repeat (first | apply Kd.N_alloc | apply Kd.N_drewN | apply Kd.N_drew)); exact HO278.out⟩, ⟨by repeat (first | (with_reducible first | exact HB.out | apply below_alloc | apply pw_below_drewN | apply below_drew1) | exact HB.out)⟩⟩
    case round =>
     clear H'
     try clear c1
     try clear c2
     try clear c2b0
     try clear c2b1
     try clear p2
     try clear c4
     try clear c6
     try clear c6b0
     try clear c6b1
     try clear c7
     try clear c7b0
     try clear c7b1
     try clear c11
     obtain ⟨x67_1, rfl, HA, HK1, HO_65, HB⟩ := hrel
     cases gk with
     | zero => exact absurd HA.out (by simp [laws_FnDivided.l0])
     | succ k1 =>
      have H := HA.out
      clear HA
      simp only [laws_FnDivided.l0] at H
      by_cases c18 : x67_1 < (y276.length : Int)
      ·
       rw [if_pos c18] at H
       have c18b0 : decide (x67_1 < (y276.length : Int)) = true := decide_eq_true c18
       clear c18
       by_cases c19 : 0 ≤ x67_1
       ·
        rw [if_pos c19] at H
        have c19b0 : decide (0 ≤ x67_1) = true := decide_eq_true c19
        clear c19
        by_cases c20 : x67_1 < (y276.length : Int)
        ·
         rw [if_pos c20] at H
         have c20b0 : decide (x67_1 < (y276.length : Int)) = true := decide_eq_true c20
         clear c20
         by_cases c21 : 0 < ((rd_L2 y276 x67_1).length : Int)
         ·
          rw [if_pos c21] at H
          have c21b0 : decide (0 < ((rd_L2 y276 x67_1).length : Int)) = true := decide_eq_true c21
          have c21b1 : decide (0 < (rd_L2 y276 x67_1).length) = true := decide_eq_true (by omega)
          clear c21
          replace H := Option.bind_eq_some_iff.mp H
          obtain ⟨⟨t281, t282⟩, A220, H⟩ := H
          replace H : (if 1 < ((rd_L2 y276 x67_1).length : Int) then ((impl_Binary.f k1 t262 (rd (rd_L2 y276 x67_1) 1) t264 t265).bind fun bt284 => (if t282 = 0 then (if bt284.2 = 0 then ((impl_Binary.f k1 t262 3 t281 t265).bind fun bt286 => ((impl_Binary.f k1 t262 1 bt286.1 bt284.1).bind fun bt288 => ((impl_Binary.f k1 t262 1 t264 0).bind fun bt290 => (if bt288.1 = bt290.1 then ((impl_Binary.f k1 t262 19 bt284.1 t265).bind fun bt292 => (if (rd (rd_L2 y276 x67_1) 0) = 5 then (if bt292.1 = 1 then ((spec_SignedOf.f t262 bt284.1).bind fun bt295 => ((spec_SignedOf.f t262 t264).bind fun bt297 => (if (rd (rd_L2 y276 x67_1) 0) = 4 then (if bt295.1 = 0 then (laws_FnDivided.l0 k1 t262 t264 t265 y276 (y276.length : Int) (wrap64 (x67_1 + 1))) else (if ((decide (bt295.1 < 0)) != (decide (bt297.1 < 0))) = true then (some false) else (laws_FnDivided.l0 k1 t262 t264 t265 y276 (y276.length : Int) (wrap64 (x67_1 + 1))))) else (laws_FnDivided.l0 k1 t262 t264 t265 y276 (y276.length : Int) (wrap64 (x67_1 + 1)))))) else (some false)) else ((spec_SignedOf.f t262 bt284.1).bind fun bt300 => ((spec_SignedOf.f t262 t264).bind fun bt302 => (if (rd (rd_L2 y276 x67_1) 0) = 4 then (if bt300.1 = 0 then (laws_FnDivided.l0 k1 t262 t264 t265 y276 (y276.length : Int) (wrap64 (x67_1 + 1))) else (if ((decide (bt300.1 < 0)) != (decide (bt302.1 < 0))) = true then (some false) else (laws_FnDivided.l0 k1 t262 t264 t265 y276 (y276.length : Int) (wrap64 (x67_1 + 1))))) else (laws_FnDivided.l0 k1 t262 t264 t265 y276 (y276.length : Int) (wrap64 (x67_1 + 1)))))))) else (some false))))) else (laws_FnDivided.l0 k1 t262 t264 t265 y276 (y276.length : Int) (wrap64 (x67_1 + 1)))) else (laws_FnDivided.l0 k1 t262 t264 t265 y276 (y276.length : Int) (wrap64 (x67_1 + 1))))) else (none)) = some r := H
          have A22 := Aside0.mk A220
          clear A220
          by_cases c23 : 1 < ((rd_L2 y276 x67_1).length : Int)
          ·
           rw [if_pos c23] at H
           have c23b0 : decide (1 < ((rd_L2 y276 x67_1).length : Int)) = true := decide_eq_true c23
           have c23b1 : decide (1 < (rd_L2 y276 x67_1).length) = true := decide_eq_true (by omega)
           clear c23
           replace H := Option.bind_eq_some_iff.mp H
           obtain ⟨⟨t284, t285⟩, A240, H⟩ := H
           replace H : (if t282 = 0 then (if t285 = 0 then ((impl_Binary.f k1 t262 3 t281 t265).bind fun bt286 => ((impl_Binary.f k1 t262 1 bt286.1 t284).bind fun bt288 => ((impl_Binary.f k1 t262 1 t264 0).bind fun bt290 => (if bt288.1 = bt290.1 then ((impl_Binary.f k1 t262 19 t284 t265).bind fun bt292 => (if (rd (rd_L2 y276 x67_1) 0) = 5 then (if bt292.1 = 1 then ((spec_SignedOf.f t262 t284).bind fun bt295 => ((spec_SignedOf.f t262 t264).bind fun bt297 => (if (rd (rd_L2 y276 x67_1) 0) = 4 then (if bt295.1 = 0 then (laws_FnDivided.l0 k1 t262 t264 t265 y276 (y276.length : Int) (wrap64 (x67_1 + 1))) else (if ((decide (bt295.1 < 0)) != (decide (bt297.1 < 0))) = true then (some false) else (laws_FnDivided.l0 k1 t262 t264 t265 y276 (y276.length : Int) (wrap64 (x67_1 + 1))))) else (laws_FnDivided.l0 k1 t262 t264 t265 y276 (y276.length : Int) (wrap64 (x67_1 + 1)))))) else (some false)) else ((spec_SignedOf.f t262 t284).bind fun bt300 => ((spec_SignedOf.f t262 t264).bind fun bt302 => (if (rd (rd_L2 y276 x67_1) 0) = 4 then (if bt300.1 = 0 then (laws_FnDivided.l0 k1 t262 t264 t265 y276 (y276.length : Int) (wrap64 (x67_1 + 1))) else (if ((decide (bt300.1 < 0)) != (decide (bt302.1 < 0))) = true then (some false) else (laws_FnDivided.l0 k1 t262 t264 t265 y276 (y276.length : Int) (wrap64 (x67_1 + 1))))) else (laws_FnDivided.l0 k1 t262 t264 t265 y276 (y276.length : Int) (wrap64 (x67_1 + 1)))))))) else (some false))))) else (laws_FnDivided.l0 k1 t262 t264 t265 y276 (y276.length : Int) (wrap64 (x67_1 + 1)))) else (laws_FnDivided.l0 k1 t262 t264 t265 y276 (y276.length : Int) (wrap64 (x67_1 + 1)))) = some r := H
           have A24 := Aside0.mk A240
           clear A240
           by_cases c25 : t282 = 0
           ·
            rw [if_pos c25] at H
            have c25b0 : (t282 == 0) = true := beq_iff_eq.mpr c25
            have c25b1 : (t282 != 0) = false := bne_eq_false_iff_eq.mpr c25
            clear c25
            by_cases c26 : t285 = 0
            ·
             rw [if_pos c26] at H
             have c26b0 : (t285 == 0) = true := beq_iff_eq.mpr c26
             have c26b1 : (t285 != 0) = false := bne_eq_false_iff_eq.mpr c26
             clear c26
             replace H := Option.bind_eq_some_iff.mp H
             obtain ⟨⟨t286, t287⟩, A270, H⟩ := H
             replace H : ((impl_Binary.f k1 t262 1 t286 t284).bind fun bt288 => ((impl_Binary.f k1 t262 1 t264 0).bind fun bt290 => (if bt288.1 = bt290.1 then ((impl_Binary.f k1 t262 19 t284 t265).bind fun bt292 => (if (rd (rd_L2 y276 x67_1) 0) = 5 then (if bt292.1 = 1 then ((spec_SignedOf.f t262 t284).bind fun bt295 => ((spec_SignedOf.f t262 t264).bind fun bt297 => (if (rd (rd_L2 y276 x67_1) 0) = 4 then (if bt295.1 = 0 then (laws_FnDivided.l0 k1 t262 t264 t265 y276 (y276.length : Int) (wrap64 (x67_1 + 1))) else (if ((decide (bt295.1 < 0)) != (decide (bt297.1 < 0))) = true then (some false) else (laws_FnDivided.l0 k1 t262 t264 t265 y276 (y276.length : Int) (wrap64 (x67_1 + 1))))) else (laws_FnDivided.l0 k1 t262 t264 t265 y276 (y276.length : Int) (wrap64 (x67_1 + 1)))))) else (some false)) else ((spec_SignedOf.f t262 t284).bind fun bt300 => ((spec_SignedOf.f t262 t264).bind fun bt302 => (if (rd (rd_L2 y276 x67_1) 0) = 4 then (if bt300.1 = 0 then (laws_FnDivided.l0 k1 t262 t264 t265 y276 (y276.length : Int) (wrap64 (x67_1 + 1))) else (if ((decide (bt300.1 < 0)) != (decide (bt302.1 < 0))) = true then (some false) else (laws_FnDivided.l0 k1 t262 t264 t265 y276 (y276.length : Int) (wrap64 (x67_1 + 1))))) else (laws_FnDivided.l0 k1 t262 t264 t265 y276 (y276.length : Int) (wrap64 (x67_1 + 1)))))))) else (some false)))) = some r := H
             have A27 := Aside0.mk A270
             clear A270
             replace H := Option.bind_eq_some_iff.mp H
             obtain ⟨⟨t288, t289⟩, A280, H⟩ := H
             replace H : ((impl_Binary.f k1 t262 1 t264 0).bind fun bt290 => (if t288 = bt290.1 then ((impl_Binary.f k1 t262 19 t284 t265).bind fun bt292 => (if (rd (rd_L2 y276 x67_1) 0) = 5 then (if bt292.1 = 1 then ((spec_SignedOf.f t262 t284).bind fun bt295 => ((spec_SignedOf.f t262 t264).bind fun bt297 => (if (rd (rd_L2 y276 x67_1) 0) = 4 then (if bt295.1 = 0 then (laws_FnDivided.l0 k1 t262 t264 t265 y276 (y276.length : Int) (wrap64 (x67_1 + 1))) else (if ((decide (bt295.1 < 0)) != (decide (bt297.1 < 0))) = true then (some false) else (laws_FnDivided.l0 k1 t262 t264 t265 y276 (y276.length : Int) (wrap64 (x67_1 + 1))))) else (laws_FnDivided.l0 k1 t262 t264 t265 y276 (y276.length : Int) (wrap64 (x67_1 + 1)))))) else (some false)) else ((spec_SignedOf.f t262 t284).bind fun bt300 => ((spec_SignedOf.f t262 t264).bind fun bt302 => (if (rd (rd_L2 y276 x67_1) 0) = 4 then (if bt300.1 = 0 then (laws_FnDivided.l0 k1 t262 t264 t265 y276 (y276.length : Int) (wrap64 (x67_1 + 1))) else (if ((decide (bt300.1 < 0)) != (decide (bt302.1 < 0))) = true then (some false) else (laws_FnDivided.l0 k1 t262 t264 t265 y276 (y276.length : Int) (wrap64 (x67_1 + 1))))) else (laws_FnDivided.l0 k1 t262 t264 t265 y276 (y276.length : Int) (wrap64 (x67_1 + 1)))))))) else (some false))) = some r := H
             have A28 := Aside0.mk A280
             clear A280
             replace H := Option.bind_eq_some_iff.mp H
             obtain ⟨⟨t290, t291⟩, A290, H⟩ := H
             replace H : (if t288 = t290 then ((impl_Binary.f k1 t262 19 t284 t265).bind fun bt292 => (if (rd (rd_L2 y276 x67_1) 0) = 5 then (if bt292.1 = 1 then ((spec_SignedOf.f t262 t284).bind fun bt295 => ((spec_SignedOf.f t262 t264).bind fun bt297 => (if (rd (rd_L2 y276 x67_1) 0) = 4 then (if bt295.1 = 0 then (laws_FnDivided.l0 k1 t262 t264 t265 y276 (y276.length : Int) (wrap64 (x67_1 + 1))) else (if ((decide (bt295.1 < 0)) != (decide (bt297.1 < 0))) = true then (some false) else (laws_FnDivided.l0 k1 t262 t264 t265 y276 (y276.length : Int) (wrap64 (x67_1 + 1))))) else (laws_FnDivided.l0 k1 t262 t264 t265 y276 (y276.length : Int) (wrap64 (x67_1 + 1)))))) else (some false)) else ((spec_SignedOf.f t262 t284).bind fun bt300 => ((spec_SignedOf.f t262 t264).bind fun bt302 => (if (rd (rd_L2 y276 x67_1) 0) = 4 then (if bt300.1 = 0 then (laws_FnDivided.l0 k1 t262 t264 t265 y276 (y276.length : Int) (wrap64 (x67_1 + 1))) else (if ((decide (bt300.1 < 0)) != (decide (bt302.1 < 0))) = true then (some false) else (laws_FnDivided.l0 k1 t262 t264 t265 y276 (y276.length : Int) (wrap64 (x67_1 + 1))))) else (laws_FnDivided.l0 k1 t262 t264 t265 y276 (y276.length : Int) (wrap64 (x67_1 + 1)))))))) else (some false)) = some r := H
             have A29 := Aside0.mk A290
             clear A290
             by_cases c30 : t288 = t290
             ·
              rw [if_pos c30] at H
              have c30b0 : (t288 == t290) = true := beq_iff_eq.mpr c30
              have c30b1 : (t288 != t290) = false := bne_eq_false_iff_eq.mpr c30
              clear c30
              replace H := Option.bind_eq_some_iff.mp H
              obtain ⟨⟨t292, t293⟩, A310, H⟩ := H
              replace H : (if (rd (rd_L2 y276 x67_1) 0) = 5 then (if t292 = 1 then ((spec_SignedOf.f t262 t284).bind fun bt295 => ((spec_SignedOf.f t262 t264).bind fun bt297 => (if (rd (rd_L2 y276 x67_1) 0) = 4 then (if bt295.1 = 0 then (laws_FnDivided.l0 k1 t262 t264 t265 y276 (y276.length : Int) (wrap64 (x67_1 + 1))) else (if ((decide (bt295.1 < 0)) != (decide (bt297.1 < 0))) = true then (some false) else (laws_FnDivided.l0 k1 t262 t264 t265 y276 (y276.length : Int) (wrap64 (x67_1 + 1))))) else (laws_FnDivided.l0 k1 t262 t264 t265 y276 (y276.length : Int) (wrap64 (x67_1 + 1)))))) else (some false)) else ((spec_SignedOf.f t262 t284).bind fun bt300 => ((spec_SignedOf.f t262 t264).bind fun bt302 => (if (rd (rd_L2 y276 x67_1) 0) = 4 then (if bt300.1 = 0 then (laws_FnDivided.l0 k1 t262 t264 t265 y276 (y276.length : Int) (wrap64 (x67_1 + 1))) else (if ((decide (bt300.1 < 0)) != (decide (bt302.1 < 0))) = true then (some false) else (laws_FnDivided.l0 k1 t262 t264 t265 y276 (y276.length : Int) (wrap64 (x67_1 + 1))))) else (laws_FnDivided.l0 k1 t262 t264 t265 y276 (y276.length : Int) (wrap64 (x67_1 + 1))))))) = some r := H
              have A31 := Aside0.mk A310
              clear A310
              by_cases c32 : (rd (rd_L2 y276 x67_1) 0) = 5
              ·
               rw [if_pos c32] at H
               have c32b0 : ((rd (rd_L2 y276 x67_1) 0) == 5) = true := beq_iff_eq.mpr c32
               have c32b1 : ((rd (rd_L2 y276 x67_1) 0) != 5) = false := bne_eq_false_iff_eq.mpr c32
               clear c32
               by_cases c33 : t292 = 1
               ·
                rw [if_pos c33] at H
                have c33b0 : (t292 == 1) = true := beq_iff_eq.mpr c33
                have c33b1 : (t292 != 1) = false := bne_eq_false_iff_eq.mpr c33
                clear c33
                replace H := Option.bind_eq_some_iff.mp H
                obtain ⟨⟨t295, t296⟩, A340, H⟩ := H
                replace H : ((spec_SignedOf.f t262 t264).bind fun bt297 => (if (rd (rd_L2 y276 x67_1) 0) = 4 then (if t295 = 0 then (laws_FnDivided.l0 k1 t262 t264 t265 y276 (y276.length : Int) (wrap64 (x67_1 + 1))) else (if ((decide (t295 < 0)) != (decide (bt297.1 < 0))) = true then (some false) else (laws_FnDivided.l0 k1 t262 t264 t265 y276 (y276.length : Int) (wrap64 (x67_1 + 1))))) else (laws_FnDivided.l0 k1 t262 t264 t265 y276 (y276.length : Int) (wrap64 (x67_1 + 1))))) = some r := H
                have A34 := Aside0.mk A340
                clear A340
                replace H := Option.bind_eq_some_iff.mp H
                obtain ⟨⟨t297, t298⟩, A350, H⟩ := H
                replace H : (if (rd (rd_L2 y276 x67_1) 0) = 4 then (if t295 = 0 then (laws_FnDivided.l0 k1 t262 t264 t265 y276 (y276.length : Int) (wrap64 (x67_1 + 1))) else (if ((decide (t295 < 0)) != (decide (t297 < 0))) = true then (some false) else (laws_FnDivided.l0 k1 t262 t264 t265 y276 (y276.length : Int) (wrap64 (x67_1 + 1))))) else (laws_FnDivided.l0 k1 t262 t264 t265 y276 (y276.length : Int) (wrap64 (x67_1 + 1)))) = some r := H
                have A35 := Aside0.mk A350
                clear A350
                by_cases c36 : (rd (rd_L2 y276 x67_1) 0) = 4
                ·
                 rw [if_pos c36] at H
                 have c36b0 : ((rd (rd_L2 y276 x67_1) 0) == 4) = true := beq_iff_eq.mpr c36
                 have c36b1 : ((rd (rd_L2 y276 x67_1) 0) != 4) = false := bne_eq_false_iff_eq.mpr c36
                 clear c36
                 by_cases c37 : t295 = 0
                 ·
                  rw [if_pos c37] at H
                  have c37b0 : (t295 == 0) = true := beq_iff_eq.mpr c37
                  have c37b1 : (t295 != 0) = false := bne_eq_false_iff_eq.mpr c37
                  clear c37
                  have H' := Aside0.mk H
                  clear H
                  have p279 : 0 ≤ (x67_1 : Int) := of_decide_eq_true (by first | (with_reducible assumption) | assumption)
                  have q279 : x67_1 < (y276.length : Int) := of_decide_eq_true (by first | (with_reducible assumption) | assumption)
                  obtain ⟨ad279, A279_0, c279_0, e279, hx279_0, hl279_0, hi279_0⟩ := at_L2 (Kd.N_reads' HO_65.out).2.2 x67_1 p279 q279
                  cases e279
                  obtain ⟨ce279, hce279, hMe279, hcc279⟩ := Kd.N_get HO_65.out [] x67_1 p279 (by first | exact q279 | exact of_decide_eq_true (by first | (with_reducible assumption) | assumption) | (have e_ := (Kd.N_reads' HO_65.out).1; omega))
                  obtain ⟨ua279_0, uc279_0, rfl, ul279_0, ge279_0⟩ := Kd.FK_slice_open hMe279
                  have hv279_0 := hcc279 0 _ rfl
                  rw [Nat.add_zero, show ((Kd.slice 3 (Kd.int .i64))).sz = 1 from rfl, Nat.mul_one] at hv279_0
                  replace hv279_0 := Option.some.inj (hv279_0.symm.trans hx279_0)
                  injection hv279_0 with hva_ hvn_ hvc_
                  rw [hva_] at ge279_0
                  rw [hvc_] at ul279_0
                  have HL279_0 := Aside0.mk (show Kd.V (Kd.int .i64) 3 _ w.heap.size _ _ (rd_L2 y276 x67_1) from Kd.V_mk ul279_0 ge279_0)
                  clear hva_ hvn_ hvc_ ge279_0 ul279_0
                  clear hcc279 hce279
                  have HR279_0 := Aside0.mk hi279_0
                  have HC279_0 := Aside0.mk hl279_0
                  clear hi279_0 hl279_0
                  replace p279 := eq_true p279
                  replace q279 := eq_true q279
                  have p280 : 0 ≤ (0 : Int) := (by omega)
                  have q280 : 0 < ((rd_L2 y276 x67_1).length : Int) := of_decide_eq_true (by first | (with_reducible assumption) | assumption)
                  obtain ⟨ad280, e280, hx280_0⟩ := Kd.at_int (by repeat (first | (with_reducible exact HR279_0.out) | (with_reducible refine Kd.C_alloc ?_ _) | (with_reducible refine Kd.C_drewN ?_ _) | (with_reducible refine Kd.C_drew ?_) | exact HR279_0.out)) 0 p280 q280
                  cases e280
                  have qi280 : (0 < (rd_L2 y276 x67_1).length) = True := eq_true (by omega)
                  (try rw [show ((0 : Int)).toNat = 0 from rfl] at hx280_0)
                  (try rw [Addr.add_zero'] at hx280_0)
                  replace p280 := eq_true p280
                  replace q280 := eq_true q280
                  go_wp2_with (first | ((with_reducible refine gate_callee (f := 41) rfl ?_); refine goesL_ (some 78) rfl rfl Try.func41 (by kernel_rfl) rfl #[.int .i64 t262, .int .i64 (rd (rd_L2 y276 x67_1) 0), .int .u64 t264, .int .u64 t265] rfl (by (try simp only [List.map_toArray, List.map_cons, List.map_nil]); first | done | rfl | (simp only [List.length_drop, List.length_take]; rfl)) ?_; (with_reducible refine (impl_Binary.calls k1 t262 (rd (rd_L2 y276 x67_1) 0) t264 t265 t281 t282 _ A22.out).mono ?_); rintro e w' ⟨rfl, ⟨nd, rfl⟩⟩; refine ⟨_, rfl, ?_⟩; have p283 : 0 ≤ (1 : Int) := (by omega); have q283 : 1 < ((rd_L2 y276 x67_1).length : Int) := of_decide_eq_true (by first | (with_reducible assumption) | assumption); obtain ⟨ad283, e283, hx283_0⟩ := Kd.at_int (by repeat (first | (with_reducible exact HR279_0.out) | (with_reducible refine Kd.C_alloc ?_ _) | (with_reducible refine Kd.C_drewN ?_ _) | (with_reducible refine Kd.C_drew ?_) | exact HR279_0.out)) 1 p283 q283; obtain rfl : ad280 = ad283 := (by injection e283); (try simp only [show (1 : Int).toNat = 1 from rfl, Nat.reduceMul, Nat.reduceEqDiff, Go.Addr.add, ↓reduceIte] at hx283_0); have qi283 : (1 < (rd_L2 y276 x67_1).length) = True := eq_true (by omega); (try rw [show ((1 : Int)).toNat = 1 from rfl] at hx283_0); replace p283 := eq_true p283; replace q283 := eq_true q283) | ((with_reducible refine gate_callee (f := 41) rfl ?_); refine goesL_ (some 88) rfl rfl Try.func41 (by kernel_rfl) rfl #[.int .i64 t262, .int .i64 (rd (rd_L2 y276 x67_1) 1), .int .u64 t264, .int .u64 t265] rfl (by (try simp only [List.map_toArray, List.map_cons, List.map_nil]); first | done | rfl | (simp only [List.length_drop, List.length_take]; rfl)) ?_; (with_reducible refine (impl_Binary.calls k1 t262 (rd (rd_L2 y276 x67_1) 1) t264 t265 t284 t285 _ A24.out).mono ?_); rintro e w' ⟨rfl, ⟨nd, rfl⟩⟩; refine ⟨_, rfl, ?_⟩) | ((with_reducible refine gate_callee (f := 41) rfl ?_); refine goesL_ (some 101) rfl rfl Try.func41 (by kernel_rfl) rfl #[.int .i64 t262, .int .i64 3, .int .u64 t281, .int .u64 t265] rfl (by (try simp only [List.map_toArray, List.map_cons, List.map_nil]); first | done | rfl | (simp only [List.length_drop, List.length_take]; rfl)) ?_; (with_reducible refine (impl_Binary.calls k1 t262 3 t281 t265 t286 t287 _ A27.out).mono ?_); rintro e w' ⟨rfl, ⟨nd, rfl⟩⟩; refine ⟨_, rfl, ?_⟩) | ((with_reducible refine gate_callee (f := 41) rfl ?_); refine goesL_ (some 108) rfl rfl Try.func41 (by kernel_rfl) rfl #[.int .i64 t262, .int .i64 1, .int .u64 t286, .int .u64 t284] rfl (by (try simp only [List.map_toArray, List.map_cons, List.map_nil]); first | done | rfl | (simp only [List.length_drop, List.length_take]; rfl)) ?_; (with_reducible refine (impl_Binary.calls k1 t262 1 t286 t284 t288 t289 _ A28.out).mono ?_); rintro e w' ⟨rfl, ⟨nd, rfl⟩⟩; refine ⟨_, rfl, ?_⟩) | ((with_reducible refine gate_callee (f := 41) rfl ?_); refine goesL_ (some 114) rfl rfl Try.func41 (by kernel_rfl) rfl #[.int .i64 t262, .int .i64 1, .int .u64 t264, .int .u64 0] rfl (by (try simp only [List.map_toArray, List.map_cons, List.map_nil]); first | done | rfl | (simp only [List.length_drop, List.length_take]; rfl)) ?_; (with_reducible refine (impl_Binary.calls k1 t262 1 t264 0 t290 t291 _ A29.out).mono ?_); rintro e w' ⟨rfl, ⟨nd, rfl⟩⟩; refine ⟨_, rfl, ?_⟩) | ((with_reducible refine gate_callee (f := 41) rfl ?_); refine goesL_ (some 124) rfl rfl Try.func41 (by kernel_rfl) rfl #[.int .i64 t262, .int .i64 19, .int .u64 t284, .int .u64 t265] rfl (by (try simp only [List.map_toArray, List.map_cons, List.map_nil]); first | done | rfl | (simp only [List.length_drop, List.length_take]; rfl)) ?_; (with_reducible refine (impl_Binary.calls k1 t262 19 t284 t265 t292 t293 _ A31.out).mono ?_); rintro e w' ⟨rfl, ⟨nd, rfl⟩⟩; refine ⟨_, rfl, ?_⟩; have p294 : 0 ≤ (0 : Int) := (by omega); have q294 : 0 < ((rd_L2 y276 x67_1).length : Int) := of_decide_eq_true (by first | (with_reducible assumption) | assumption); obtain ⟨ad294, e294, hx294_0⟩ := Kd.at_int (by repeat (first | (with_reducible exact HR279_0.out) | (with_reducible refine Kd.C_alloc ?_ _) | (with_reducible refine Kd.C_drewN ?_ _) | (with_reducible refine Kd.C_drew ?_) | exact HR279_0.out)) 0 p294 q294; obtain rfl : ad280 = ad294 := (by injection e294); have qi294 : (0 < (rd_L2 y276 x67_1).length) = True := eq_true (by omega); (try rw [show ((0 : Int)).toNat = 0 from rfl] at hx294_0); (try rw [Addr.add_zero'] at hx294_0); replace p294 := eq_true p294; replace q294 := eq_true q294) | ((with_reducible refine gate_callee (f := 43) rfl ?_); refine goesL_ (some 138) rfl rfl Try.func43 (by kernel_rfl) rfl #[.int .i64 t262, .int .u64 t284] rfl (by (try simp only [List.map_toArray, List.map_cons, List.map_nil]); first | done | rfl | (simp only [List.length_drop, List.length_take]; rfl)) ?_; (with_reducible refine (spec_SignedOf.calls t262 t284 t295 t296 _ A34.out).mono ?_); rintro e w' ⟨rfl, ⟨nd, rfl⟩⟩; refine ⟨_, rfl, ?_⟩) | ((with_reducible refine gate_callee (f := 43) rfl ?_); refine goesL_ (some 144) rfl rfl Try.func43 (by kernel_rfl) rfl #[.int .i64 t262, .int .u64 t264] rfl (by (try simp only [List.map_toArray, List.map_cons, List.map_nil]); first | done | rfl | (simp only [List.length_drop, List.length_take]; rfl)) ?_; (with_reducible refine (spec_SignedOf.calls t262 t264 t297 t298 _ A35.out).mono ?_); rintro e w' ⟨rfl, ⟨nd, rfl⟩⟩; refine ⟨_, rfl, ?_⟩; have p299 : 0 ≤ (0 : Int) := (by omega); have q299 : 0 < ((rd_L2 y276 x67_1).length : Int) := of_decide_eq_true (by first | (with_reducible assumption) | assumption); obtain ⟨ad299, e299, hx299_0⟩ := Kd.at_int (by repeat (first | (with_reducible exact HR279_0.out) | (with_reducible refine Kd.C_alloc ?_ _) | (with_reducible refine Kd.C_drewN ?_ _) | (with_reducible refine Kd.C_drew ?_) | exact HR279_0.out)) 0 p299 q299; obtain rfl : ad280 = ad299 := (by injection e299); have qi299 : (0 < (rd_L2 y276 x67_1).length) = True := eq_true (by omega); (try rw [show ((0 : Int)).toNat = 0 from rfl] at hx299_0); (try rw [Addr.add_zero'] at hx299_0); replace p299 := eq_true p299; replace q299 := eq_true q299))
                  go_roundg k1
                  case measure => have := HK1.out; omega
                  case rel => exact ⟨(wrap64 (x67_1 + 1)), (by first | rfl | (simp; done) | (simp [*]; done)), H', ⟨by have := HK1.out; omega⟩, ⟨by (with_reducible repeat (first | apply Kd.N_alloc | apply Kd.N_drewN | apply Kd.N_drew)); exact HO_65.out⟩, ⟨by repeat (first | (with_reducible first | exact HB.out | apply below_alloc | apply pw_below_drewN | apply below_drew1) | exact HB.out)⟩⟩
                 ·
                  rw [if_neg c37] at H
                  have c37b0 : (t295 == 0) = false := beq_eq_false_iff_ne.mpr c37
                  have c37b1 : (t295 != 0) = true := bne_iff_ne.mpr c37
                  by_cases c38 : ((decide (t295 < 0)) != (decide (t297 < 0))) = true
                  ·
                   rw [if_pos c38] at H
                   have c38b0 : ((decide (t295 < 0)) != (decide (t297 < 0))) = true := c38
                   (try (have c38b1 : decide ((decide (t295 < 0)) = (decide (t297 < 0))) = false := by simpa using c38))
                   (try (have c38b2 : ((decide (t295 < 0)) == (decide (t297 < 0))) = false := by simpa using c38))
                   (try (have c38b3 : ¬ ((decide (t295 < 0)) = (decide (t297 < 0))) := by simpa using c38))
                   clear c38
                   obtain rfl := Option.some.inj H
                   exact absurd HT.out (by decide)
                  ·
                   rw [if_neg c38] at H
                   have c38b0 : ((decide (t295 < 0)) != (decide (t297 < 0))) = false := by simpa using c38
                   (try (have c38b1 : decide ((decide (t295 < 0)) = (decide (t297 < 0))) = true := by simpa using c38))
                   (try (have c38b2 : ((decide (t295 < 0)) == (decide (t297 < 0))) = true := by simpa using c38))
                   clear c38
                   have H' := Aside0.mk H
                   clear H
                   have p279 : 0 ≤ (x67_1 : Int) := of_decide_eq_true (by first | (with_reducible assumption) | assumption)
                   have q279 : x67_1 < (y276.length : Int) := of_decide_eq_true (by first | (with_reducible assumption) | assumption)
                   obtain ⟨ad279, A279_0, c279_0, e279, hx279_0, hl279_0, hi279_0⟩ := at_L2 (Kd.N_reads' HO_65.out).2.2 x67_1 p279 q279
                   cases e279
                   obtain ⟨ce279, hce279, hMe279, hcc279⟩ := Kd.N_get HO_65.out [] x67_1 p279 (by first | exact q279 | exact of_decide_eq_true (by first | (with_reducible assumption) | assumption) | (have e_ := (Kd.N_reads' HO_65.out).1; omega))
                   obtain ⟨ua279_0, uc279_0, rfl, ul279_0, ge279_0⟩ := Kd.FK_slice_open hMe279
                   have hv279_0 := hcc279 0 _ rfl
                   rw [Nat.add_zero, show ((Kd.slice 3 (Kd.int .i64))).sz = 1 from rfl, Nat.mul_one] at hv279_0
                   replace hv279_0 := Option.some.inj (hv279_0.symm.trans hx279_0)
                   injection hv279_0 with hva_ hvn_ hvc_
                   rw [hva_] at ge279_0
                   rw [hvc_] at ul279_0
                   have HL279_0 := Aside0.mk (show Kd.V (Kd.int .i64) 3 _ w.heap.size _ _ (rd_L2 y276 x67_1) from Kd.V_mk ul279_0 ge279_0)
                   clear hva_ hvn_ hvc_ ge279_0 ul279_0
                   clear hcc279 hce279
                   have HR279_0 := Aside0.mk hi279_0
                   have HC279_0 := Aside0.mk hl279_0
                   clear hi279_0 hl279_0
                   replace p279 := eq_true p279
                   replace q279 := eq_true q279
                   have p280 : 0 ≤ (0 : Int) := (by omega)
                   have q280 : 0 < ((rd_L2 y276 x67_1).length : Int) := of_decide_eq_true (by first | (with_reducible assumption) | assumption)
                   obtain ⟨ad280, e280, hx280_0⟩ := Kd.at_int (by repeat (first | (with_reducible exact HR279_0.out) | (with_reducible refine Kd.C_alloc ?_ _) | (with_reducible refine Kd.C_drewN ?_ _) | (with_reducible refine Kd.C_drew ?_) | exact HR279_0.out)) 0 p280 q280
                   cases e280
                   have qi280 : (0 < (rd_L2 y276 x67_1).length) = True := eq_true (by omega)
                   (try rw [show ((0 : Int)).toNat = 0 from rfl] at hx280_0)
                   (try rw [Addr.add_zero'] at hx280_0)
                   replace p280 := eq_true p280
                   replace q280 := eq_true q280
                   go_wp2_with (first | ((with_reducible refine gate_callee (f := 41) rfl ?_); refine goesL_ (some 78) rfl rfl Try.func41 (by kernel_rfl) rfl #[.int .i64 t262, .int .i64 (rd (rd_L2 y276 x67_1) 0), .int .u64 t264, .int .u64 t265] rfl (by (try simp only [List.map_toArray, List.map_cons, List.map_nil]); first | done | rfl | (simp only [List.length_drop, List.length_take]; rfl)) ?_; (with_reducible refine (impl_Binary.calls k1 t262 (rd (rd_L2 y276 x67_1) 0) t264 t265 t281 t282 _ A22.out).mono ?_); rintro e w' ⟨rfl, ⟨nd, rfl⟩⟩; refine ⟨_, rfl, ?_⟩; have p283 : 0 ≤ (1 : Int) := (by omega); have q283 : 1 < ((rd_L2 y276 x67_1).length : Int) := of_decide_eq_true (by first | (with_reducible assumption) | assumption); obtain ⟨ad283, e283, hx283_0⟩ := Kd.at_int (by repeat (first | (with_reducible exact HR279_0.out) | (with_reducible refine Kd.C_alloc ?_ _) | (with_reducible refine Kd.C_drewN ?_ _) | (with_reducible refine Kd.C_drew ?_) | exact HR279_0.out)) 1 p283 q283; obtain rfl : ad280 = ad283 := (by injection e283); (try simp only [show (1 : Int).toNat = 1 from rfl, Nat.reduceMul, Nat.reduceEqDiff, Go.Addr.add, ↓reduceIte] at hx283_0); have qi283 : (1 < (rd_L2 y276 x67_1).length) = True := eq_true (by omega); (try rw [show ((1 : Int)).toNat = 1 from rfl] at hx283_0); replace p283 := eq_true p283; replace q283 := eq_true q283) | ((with_reducible refine gate_callee (f := 41) rfl ?_); refine goesL_ (some 88) rfl rfl Try.func41 (by kernel_rfl) rfl #[.int .i64 t262, .int .i64 (rd (rd_L2 y276 x67_1) 1), .int .u64 t264, .int .u64 t265] rfl (by (try simp only [List.map_toArray, List.map_cons, List.map_nil]); first | done | rfl | (simp only [List.length_drop, List.length_take]; rfl)) ?_; (with_reducible refine (impl_Binary.calls k1 t262 (rd (rd_L2 y276 x67_1) 1) t264 t265 t284 t285 _ A24.out).mono ?_); rintro e w' ⟨rfl, ⟨nd, rfl⟩⟩; refine ⟨_, rfl, ?_⟩) | ((with_reducible refine gate_callee (f := 41) rfl ?_); refine goesL_ (some 101) rfl rfl Try.func41 (by kernel_rfl) rfl #[.int .i64 t262, .int .i64 3, .int .u64 t281, .int .u64 t265] rfl (by (try simp only [List.map_toArray, List.map_cons, List.map_nil]); first | done | rfl | (simp only [List.length_drop, List.length_take]; rfl)) ?_; (with_reducible refine (impl_Binary.calls k1 t262 3 t281 t265 t286 t287 _ A27.out).mono ?_); rintro e w' ⟨rfl, ⟨nd, rfl⟩⟩; refine ⟨_, rfl, ?_⟩) | ((with_reducible refine gate_callee (f := 41) rfl ?_); refine goesL_ (some 108) rfl rfl Try.func41 (by kernel_rfl) rfl #[.int .i64 t262, .int .i64 1, .int .u64 t286, .int .u64 t284] rfl (by (try simp only [List.map_toArray, List.map_cons, List.map_nil]); first | done | rfl | (simp only [List.length_drop, List.length_take]; rfl)) ?_; (with_reducible refine (impl_Binary.calls k1 t262 1 t286 t284 t288 t289 _ A28.out).mono ?_); rintro e w' ⟨rfl, ⟨nd, rfl⟩⟩; refine ⟨_, rfl, ?_⟩) | ((with_reducible refine gate_callee (f := 41) rfl ?_); refine goesL_ (some 114) rfl rfl Try.func41 (by kernel_rfl) rfl #[.int .i64 t262, .int .i64 1, .int .u64 t264, .int .u64 0] rfl (by (try simp only [List.map_toArray, List.map_cons, List.map_nil]); first | done | rfl | (simp only [List.length_drop, List.length_take]; rfl)) ?_; (with_reducible refine (impl_Binary.calls k1 t262 1 t264 0 t290 t291 _ A29.out).mono ?_); rintro e w' ⟨rfl, ⟨nd, rfl⟩⟩; refine ⟨_, rfl, ?_⟩) | ((with_reducible refine gate_callee (f := 41) rfl ?_); refine goesL_ (some 124) rfl rfl Try.func41 (by kernel_rfl) rfl #[.int .i64 t262, .int .i64 19, .int .u64 t284, .int .u64 t265] rfl (by (try simp only [List.map_toArray, List.map_cons, List.map_nil]); first | done | rfl | (simp only [List.length_drop, List.length_take]; rfl)) ?_; (with_reducible refine (impl_Binary.calls k1 t262 19 t284 t265 t292 t293 _ A31.out).mono ?_); rintro e w' ⟨rfl, ⟨nd, rfl⟩⟩; refine ⟨_, rfl, ?_⟩; have p294 : 0 ≤ (0 : Int) := (by omega); have q294 : 0 < ((rd_L2 y276 x67_1).length : Int) := of_decide_eq_true (by first | (with_reducible assumption) | assumption); obtain ⟨ad294, e294, hx294_0⟩ := Kd.at_int (by repeat (first | (with_reducible exact HR279_0.out) | (with_reducible refine Kd.C_alloc ?_ _) | (with_reducible refine Kd.C_drewN ?_ _) | (with_reducible refine Kd.C_drew ?_) | exact HR279_0.out)) 0 p294 q294; obtain rfl : ad280 = ad294 := (by injection e294); have qi294 : (0 < (rd_L2 y276 x67_1).length) = True := eq_true (by omega); (try rw [show ((0 : Int)).toNat = 0 from rfl] at hx294_0); (try rw [Addr.add_zero'] at hx294_0); replace p294 := eq_true p294; replace q294 := eq_true q294) | ((with_reducible refine gate_callee (f := 43) rfl ?_); refine goesL_ (some 138) rfl rfl Try.func43 (by kernel_rfl) rfl #[.int .i64 t262, .int .u64 t284] rfl (by (try simp only [List.map_toArray, List.map_cons, List.map_nil]); first | done | rfl | (simp only [List.length_drop, List.length_take]; rfl)) ?_; (with_reducible refine (spec_SignedOf.calls t262 t284 t295 t296 _ A34.out).mono ?_); rintro e w' ⟨rfl, ⟨nd, rfl⟩⟩; refine ⟨_, rfl, ?_⟩) | ((with_reducible refine gate_callee (f := 43) rfl ?_); refine goesL_ (some 144) rfl rfl Try.func43 (by kernel_rfl) rfl #[.int .i64 t262, .int .u64 t264] rfl (by (try simp only [List.map_toArray, List.map_cons, List.map_nil]); first | done | rfl | (simp only [List.length_drop, List.length_take]; rfl)) ?_; (with_reducible refine (spec_SignedOf.calls t262 t264 t297 t298 _ A35.out).mono ?_); rintro e w' ⟨rfl, ⟨nd, rfl⟩⟩; refine ⟨_, rfl, ?_⟩; have p299 : 0 ≤ (0 : Int) := (by omega); have q299 : 0 < ((rd_L2 y276 x67_1).length : Int) := of_decide_eq_true (by first | (with_reducible assumption) | assumption); obtain ⟨ad299, e299, hx299_0⟩ := Kd.at_int (by repeat (first | (with_reducible exact HR279_0.out) | (with_reducible refine Kd.C_alloc ?_ _) | (with_reducible refine Kd.C_drewN ?_ _) | (with_reducible refine Kd.C_drew ?_) | exact HR279_0.out)) 0 p299 q299; obtain rfl : ad280 = ad299 := (by injection e299); have qi299 : (0 < (rd_L2 y276 x67_1).length) = True := eq_true (by omega); (try rw [show ((0 : Int)).toNat = 0 from rfl] at hx299_0); (try rw [Addr.add_zero'] at hx299_0); replace p299 := eq_true p299; replace q299 := eq_true q299))
                   go_roundg k1
                   case measure => have := HK1.out; omega
                   case rel => exact ⟨(wrap64 (x67_1 + 1)), (by first | rfl | (simp; done) | (simp [*]; done)), H', ⟨by have := HK1.out; omega⟩, ⟨by (with_reducible repeat (first | apply Kd.N_alloc | apply Kd.N_drewN | apply Kd.N_drew)); exact HO_65.out⟩, ⟨by repeat (first | (with_reducible first | exact HB.out | apply below_alloc | apply pw_below_drewN | apply below_drew1) | exact HB.out)⟩⟩
                ·
                 rw [if_neg c36] at H
                 have c36b0 : ((rd (rd_L2 y276 x67_1) 0) == 4) = false := beq_eq_false_iff_ne.mpr c36
                 have c36b1 : ((rd (rd_L2 y276 x67_1) 0) != 4) = true := bne_iff_ne.mpr c36
                 have H' := Aside0.mk H
                 clear H
                 have p279 : 0 ≤ (x67_1 : Int) := of_decide_eq_true (by first | (with_reducible assumption) | assumption)
                 have q279 : x67_1 < (y276.length : Int) := of_decide_eq_true (by first | (with_reducible assumption) | assumption)
                 obtain ⟨ad279, A279_0, c279_0, e279, hx279_0, hl279_0, hi279_0⟩ := at_L2 (Kd.N_reads' HO_65.out).2.2 x67_1 p279 q279
                 cases e279
                 obtain ⟨ce279, hce279, hMe279, hcc279⟩ := Kd.N_get HO_65.out [] x67_1 p279 (by first | exact q279 | exact of_decide_eq_true (by first | (with_reducible assumption) | assumption) | (have e_ := (Kd.N_reads' HO_65.out).1; omega))
                 obtain ⟨ua279_0, uc279_0, rfl, ul279_0, ge279_0⟩ := Kd.FK_slice_open hMe279
                 have hv279_0 := hcc279 0 _ rfl
                 rw [Nat.add_zero, show ((Kd.slice 3 (Kd.int .i64))).sz = 1 from rfl, Nat.mul_one] at hv279_0
                 replace hv279_0 := Option.some.inj (hv279_0.symm.trans hx279_0)
                 injection hv279_0 with hva_ hvn_ hvc_
                 rw [hva_] at ge279_0
                 rw [hvc_] at ul279_0
                 have HL279_0 := Aside0.mk (show Kd.V (Kd.int .i64) 3 _ w.heap.size _ _ (rd_L2 y276 x67_1) from Kd.V_mk ul279_0 ge279_0)
                 clear hva_ hvn_ hvc_ ge279_0 ul279_0
                 clear hcc279 hce279
                 have HR279_0 := Aside0.mk hi279_0
                 have HC279_0 := Aside0.mk hl279_0
                 clear hi279_0 hl279_0
                 replace p279 := eq_true p279
                 replace q279 := eq_true q279
                 have p280 : 0 ≤ (0 : Int) := (by omega)
                 have q280 : 0 < ((rd_L2 y276 x67_1).length : Int) := of_decide_eq_true (by first | (with_reducible assumption) | assumption)
                 obtain ⟨ad280, e280, hx280_0⟩ := Kd.at_int (by repeat (first | (with_reducible exact HR279_0.out) | (with_reducible refine Kd.C_alloc ?_ _) | (with_reducible refine Kd.C_drewN ?_ _) | (with_reducible refine Kd.C_drew ?_) | exact HR279_0.out)) 0 p280 q280
                 cases e280
                 have qi280 : (0 < (rd_L2 y276 x67_1).length) = True := eq_true (by omega)
                 (try rw [show ((0 : Int)).toNat = 0 from rfl] at hx280_0)
                 (try rw [Addr.add_zero'] at hx280_0)
                 replace p280 := eq_true p280
                 replace q280 := eq_true q280
                 go_wp2_with (first | ((with_reducible refine gate_callee (f := 41) rfl ?_); refine goesL_ (some 78) rfl rfl Try.func41 (by kernel_rfl) rfl #[.int .i64 t262, .int .i64 (rd (rd_L2 y276 x67_1) 0), .int .u64 t264, .int .u64 t265] rfl (by (try simp only [List.map_toArray, List.map_cons, List.map_nil]); first | done | rfl | (simp only [List.length_drop, List.length_take]; rfl)) ?_; (with_reducible refine (impl_Binary.calls k1 t262 (rd (rd_L2 y276 x67_1) 0) t264 t265 t281 t282 _ A22.out).mono ?_); rintro e w' ⟨rfl, ⟨nd, rfl⟩⟩; refine ⟨_, rfl, ?_⟩; have p283 : 0 ≤ (1 : Int) := (by omega); have q283 : 1 < ((rd_L2 y276 x67_1).length : Int) := of_decide_eq_true (by first | (with_reducible assumption) | assumption); obtain ⟨ad283, e283, hx283_0⟩ := Kd.at_int (by repeat (first | (with_reducible exact HR279_0.out) | (with_reducible refine Kd.C_alloc ?_ _) | (with_reducible refine Kd.C_drewN ?_ _) | (with_reducible refine Kd.C_drew ?_) | exact HR279_0.out)) 1 p283 q283; obtain rfl : ad280 = ad283 := (by injection e283); (try simp only [show (1 : Int).toNat = 1 from rfl, Nat.reduceMul, Nat.reduceEqDiff, Go.Addr.add, ↓reduceIte] at hx283_0); have qi283 : (1 < (rd_L2 y276 x67_1).length) = True := eq_true (by omega); (try rw [show ((1 : Int)).toNat = 1 from rfl] at hx283_0); replace p283 := eq_true p283; replace q283 := eq_true q283) | ((with_reducible refine gate_callee (f := 41) rfl ?_); refine goesL_ (some 88) rfl rfl Try.func41 (by kernel_rfl) rfl #[.int .i64 t262, .int .i64 (rd (rd_L2 y276 x67_1) 1), .int .u64 t264, .int .u64 t265] rfl (by (try simp only [List.map_toArray, List.map_cons, List.map_nil]); first | done | rfl | (simp only [List.length_drop, List.length_take]; rfl)) ?_; (with_reducible refine (impl_Binary.calls k1 t262 (rd (rd_L2 y276 x67_1) 1) t264 t265 t284 t285 _ A24.out).mono ?_); rintro e w' ⟨rfl, ⟨nd, rfl⟩⟩; refine ⟨_, rfl, ?_⟩) | ((with_reducible refine gate_callee (f := 41) rfl ?_); refine goesL_ (some 101) rfl rfl Try.func41 (by kernel_rfl) rfl #[.int .i64 t262, .int .i64 3, .int .u64 t281, .int .u64 t265] rfl (by (try simp only [List.map_toArray, List.map_cons, List.map_nil]); first | done | rfl | (simp only [List.length_drop, List.length_take]; rfl)) ?_; (with_reducible refine (impl_Binary.calls k1 t262 3 t281 t265 t286 t287 _ A27.out).mono ?_); rintro e w' ⟨rfl, ⟨nd, rfl⟩⟩; refine ⟨_, rfl, ?_⟩) | ((with_reducible refine gate_callee (f := 41) rfl ?_); refine goesL_ (some 108) rfl rfl Try.func41 (by kernel_rfl) rfl #[.int .i64 t262, .int .i64 1, .int .u64 t286, .int .u64 t284] rfl (by (try simp only [List.map_toArray, List.map_cons, List.map_nil]); first | done | rfl | (simp only [List.length_drop, List.length_take]; rfl)) ?_; (with_reducible refine (impl_Binary.calls k1 t262 1 t286 t284 t288 t289 _ A28.out).mono ?_); rintro e w' ⟨rfl, ⟨nd, rfl⟩⟩; refine ⟨_, rfl, ?_⟩) | ((with_reducible refine gate_callee (f := 41) rfl ?_); refine goesL_ (some 114) rfl rfl Try.func41 (by kernel_rfl) rfl #[.int .i64 t262, .int .i64 1, .int .u64 t264, .int .u64 0] rfl (by (try simp only [List.map_toArray, List.map_cons, List.map_nil]); first | done | rfl | (simp only [List.length_drop, List.length_take]; rfl)) ?_; (with_reducible refine (impl_Binary.calls k1 t262 1 t264 0 t290 t291 _ A29.out).mono ?_); rintro e w' ⟨rfl, ⟨nd, rfl⟩⟩; refine ⟨_, rfl, ?_⟩) | ((with_reducible refine gate_callee (f := 41) rfl ?_); refine goesL_ (some 124) rfl rfl Try.func41 (by kernel_rfl) rfl #[.int .i64 t262, .int .i64 19, .int .u64 t284, .int .u64 t265] rfl (by (try simp only [List.map_toArray, List.map_cons, List.map_nil]); first | done | rfl | (simp only [List.length_drop, List.length_take]; rfl)) ?_; (with_reducible refine (impl_Binary.calls k1 t262 19 t284 t265 t292 t293 _ A31.out).mono ?_); rintro e w' ⟨rfl, ⟨nd, rfl⟩⟩; refine ⟨_, rfl, ?_⟩; have p294 : 0 ≤ (0 : Int) := (by omega); have q294 : 0 < ((rd_L2 y276 x67_1).length : Int) := of_decide_eq_true (by first | (with_reducible assumption) | assumption); obtain ⟨ad294, e294, hx294_0⟩ := Kd.at_int (by repeat (first | (with_reducible exact HR279_0.out) | (with_reducible refine Kd.C_alloc ?_ _) | (with_reducible refine Kd.C_drewN ?_ _) | (with_reducible refine Kd.C_drew ?_) | exact HR279_0.out)) 0 p294 q294; obtain rfl : ad280 = ad294 := (by injection e294); have qi294 : (0 < (rd_L2 y276 x67_1).length) = True := eq_true (by omega); (try rw [show ((0 : Int)).toNat = 0 from rfl] at hx294_0); (try rw [Addr.add_zero'] at hx294_0); replace p294 := eq_true p294; replace q294 := eq_true q294) | ((with_reducible refine gate_callee (f := 43) rfl ?_); refine goesL_ (some 138) rfl rfl Try.func43 (by kernel_rfl) rfl #[.int .i64 t262, .int .u64 t284] rfl (by (try simp only [List.map_toArray, List.map_cons, List.map_nil]); first | done | rfl | (simp only [List.length_drop, List.length_take]; rfl)) ?_; (with_reducible refine (spec_SignedOf.calls t262 t284 t295 t296 _ A34.out).mono ?_); rintro e w' ⟨rfl, ⟨nd, rfl⟩⟩; refine ⟨_, rfl, ?_⟩) | ((with_reducible refine gate_callee (f := 43) rfl ?_); refine goesL_ (some 144) rfl rfl Try.func43 (by kernel_rfl) rfl #[.int .i64 t262, .int .u64 t264] rfl (by (try simp only [List.map_toArray, List.map_cons, List.map_nil]); first | done | rfl | (simp only [List.length_drop, List.length_take]; rfl)) ?_; (with_reducible refine (spec_SignedOf.calls t262 t264 t297 t298 _ A35.out).mono ?_); rintro e w' ⟨rfl, ⟨nd, rfl⟩⟩; refine ⟨_, rfl, ?_⟩; have p299 : 0 ≤ (0 : Int) := (by omega); have q299 : 0 < ((rd_L2 y276 x67_1).length : Int) := of_decide_eq_true (by first | (with_reducible assumption) | assumption); obtain ⟨ad299, e299, hx299_0⟩ := Kd.at_int (by repeat (first | (with_reducible exact HR279_0.out) | (with_reducible refine Kd.C_alloc ?_ _) | (with_reducible refine Kd.C_drewN ?_ _) | (with_reducible refine Kd.C_drew ?_) | exact HR279_0.out)) 0 p299 q299; obtain rfl : ad280 = ad299 := (by injection e299); have qi299 : (0 < (rd_L2 y276 x67_1).length) = True := eq_true (by omega); (try rw [show ((0 : Int)).toNat = 0 from rfl] at hx299_0); (try rw [Addr.add_zero'] at hx299_0); replace p299 := eq_true p299; replace q299 := eq_true q299))
                 go_roundg k1
                 case measure => have := HK1.out; omega
                 case rel => exact ⟨(wrap64 (x67_1 + 1)), (by first | rfl | (simp; done) | (simp [*]; done)), H', ⟨by have := HK1.out; omega⟩, ⟨by (with_reducible repeat (first | apply Kd.N_alloc | apply Kd.N_drewN | apply Kd.N_drew)); exact HO_65.out⟩, ⟨by repeat (first | (with_reducible first | exact HB.out | apply below_alloc | apply pw_below_drewN | apply below_drew1) | exact HB.out)⟩⟩
               ·
                rw [if_neg c33] at H
                have c33b0 : (t292 == 1) = false := beq_eq_false_iff_ne.mpr c33
                have c33b1 : (t292 != 1) = true := bne_iff_ne.mpr c33
                obtain rfl := Option.some.inj H
                exact absurd HT.out (by decide)
              ·
               rw [if_neg c32] at H
               have c32b0 : ((rd (rd_L2 y276 x67_1) 0) == 5) = false := beq_eq_false_iff_ne.mpr c32
               have c32b1 : ((rd (rd_L2 y276 x67_1) 0) != 5) = true := bne_iff_ne.mpr c32
               replace H := Option.bind_eq_some_iff.mp H
               obtain ⟨⟨t300, t301⟩, A390, H⟩ := H
               replace H : ((spec_SignedOf.f t262 t264).bind fun bt302 => (if (rd (rd_L2 y276 x67_1) 0) = 4 then (if t300 = 0 then (laws_FnDivided.l0 k1 t262 t264 t265 y276 (y276.length : Int) (wrap64 (x67_1 + 1))) else (if ((decide (t300 < 0)) != (decide (bt302.1 < 0))) = true then (some false) else (laws_FnDivided.l0 k1 t262 t264 t265 y276 (y276.length : Int) (wrap64 (x67_1 + 1))))) else (laws_FnDivided.l0 k1 t262 t264 t265 y276 (y276.length : Int) (wrap64 (x67_1 + 1))))) = some r := H
               have A39 := Aside0.mk A390
               clear A390
               replace H := Option.bind_eq_some_iff.mp H
               obtain ⟨⟨t302, t303⟩, A400, H⟩ := H
               replace H : (if (rd (rd_L2 y276 x67_1) 0) = 4 then (if t300 = 0 then (laws_FnDivided.l0 k1 t262 t264 t265 y276 (y276.length : Int) (wrap64 (x67_1 + 1))) else (if ((decide (t300 < 0)) != (decide (t302 < 0))) = true then (some false) else (laws_FnDivided.l0 k1 t262 t264 t265 y276 (y276.length : Int) (wrap64 (x67_1 + 1))))) else (laws_FnDivided.l0 k1 t262 t264 t265 y276 (y276.length : Int) (wrap64 (x67_1 + 1)))) = some r := H
               have A40 := Aside0.mk A400
               clear A400
               by_cases c41 : (rd (rd_L2 y276 x67_1) 0) = 4
               ·
                rw [if_pos c41] at H
                have c41b0 : ((rd (rd_L2 y276 x67_1) 0) == 4) = true := beq_iff_eq.mpr c41
                have c41b1 : ((rd (rd_L2 y276 x67_1) 0) != 4) = false := bne_eq_false_iff_eq.mpr c41
                clear c41
                by_cases c42 : t300 = 0
                ·
                 rw [if_pos c42] at H
                 have c42b0 : (t300 == 0) = true := beq_iff_eq.mpr c42
                 have c42b1 : (t300 != 0) = false := bne_eq_false_iff_eq.mpr c42
                 clear c42
                 have H' := Aside0.mk H
                 clear H
                 have p279 : 0 ≤ (x67_1 : Int) := of_decide_eq_true (by first | (with_reducible assumption) | assumption)
                 have q279 : x67_1 < (y276.length : Int) := of_decide_eq_true (by first | (with_reducible assumption) | assumption)
                 obtain ⟨ad279, A279_0, c279_0, e279, hx279_0, hl279_0, hi279_0⟩ := at_L2 (Kd.N_reads' HO_65.out).2.2 x67_1 p279 q279
                 cases e279
                 obtain ⟨ce279, hce279, hMe279, hcc279⟩ := Kd.N_get HO_65.out [] x67_1 p279 (by first | exact q279 | exact of_decide_eq_true (by first | (with_reducible assumption) | assumption) | (have e_ := (Kd.N_reads' HO_65.out).1; omega))
                 obtain ⟨ua279_0, uc279_0, rfl, ul279_0, ge279_0⟩ := Kd.FK_slice_open hMe279
                 have hv279_0 := hcc279 0 _ rfl
                 rw [Nat.add_zero, show ((Kd.slice 3 (Kd.int .i64))).sz = 1 from rfl, Nat.mul_one] at hv279_0
                 replace hv279_0 := Option.some.inj (hv279_0.symm.trans hx279_0)
                 injection hv279_0 with hva_ hvn_ hvc_
                 rw [hva_] at ge279_0
                 rw [hvc_] at ul279_0
                 have HL279_0 := Aside0.mk (show Kd.V (Kd.int .i64) 3 _ w.heap.size _ _ (rd_L2 y276 x67_1) from Kd.V_mk ul279_0 ge279_0)
                 clear hva_ hvn_ hvc_ ge279_0 ul279_0
                 clear hcc279 hce279
                 have HR279_0 := Aside0.mk hi279_0
                 have HC279_0 := Aside0.mk hl279_0
                 clear hi279_0 hl279_0
                 replace p279 := eq_true p279
                 replace q279 := eq_true q279
                 have p280 : 0 ≤ (0 : Int) := (by omega)
                 have q280 : 0 < ((rd_L2 y276 x67_1).length : Int) := of_decide_eq_true (by first | (with_reducible assumption) | assumption)
                 obtain ⟨ad280, e280, hx280_0⟩ := Kd.at_int (by repeat (first | (with_reducible exact HR279_0.out) | (with_reducible refine Kd.C_alloc ?_ _) | (with_reducible refine Kd.C_drewN ?_ _) | (with_reducible refine Kd.C_drew ?_) | exact HR279_0.out)) 0 p280 q280
                 cases e280
                 have qi280 : (0 < (rd_L2 y276 x67_1).length) = True := eq_true (by omega)
                 (try rw [show ((0 : Int)).toNat = 0 from rfl] at hx280_0)
                 (try rw [Addr.add_zero'] at hx280_0)
                 replace p280 := eq_true p280
                 replace q280 := eq_true q280
                 go_wp2_with (first | ((with_reducible refine gate_callee (f := 41) rfl ?_); refine goesL_ (some 78) rfl rfl Try.func41 (by kernel_rfl) rfl #[.int .i64 t262, .int .i64 (rd (rd_L2 y276 x67_1) 0), .int .u64 t264, .int .u64 t265] rfl (by (try simp only [List.map_toArray, List.map_cons, List.map_nil]); first | done | rfl | (simp only [List.length_drop, List.length_take]; rfl)) ?_; (with_reducible refine (impl_Binary.calls k1 t262 (rd (rd_L2 y276 x67_1) 0) t264 t265 t281 t282 _ A22.out).mono ?_); rintro e w' ⟨rfl, ⟨nd, rfl⟩⟩; refine ⟨_, rfl, ?_⟩; have p283 : 0 ≤ (1 : Int) := (by omega); have q283 : 1 < ((rd_L2 y276 x67_1).length : Int) := of_decide_eq_true (by first | (with_reducible assumption) | assumption); obtain ⟨ad283, e283, hx283_0⟩ := Kd.at_int (by repeat (first | (with_reducible exact HR279_0.out) | (with_reducible refine Kd.C_alloc ?_ _) | (with_reducible refine Kd.C_drewN ?_ _) | (with_reducible refine Kd.C_drew ?_) | exact HR279_0.out)) 1 p283 q283; obtain rfl : ad280 = ad283 := (by injection e283); (try simp only [show (1 : Int).toNat = 1 from rfl, Nat.reduceMul, Nat.reduceEqDiff, Go.Addr.add, ↓reduceIte] at hx283_0); have qi283 : (1 < (rd_L2 y276 x67_1).length) = True := eq_true (by omega); (try rw [show ((1 : Int)).toNat = 1 from rfl] at hx283_0); replace p283 := eq_true p283; replace q283 := eq_true q283) | ((with_reducible refine gate_callee (f := 41) rfl ?_); refine goesL_ (some 88) rfl rfl Try.func41 (by kernel_rfl) rfl #[.int .i64 t262, .int .i64 (rd (rd_L2 y276 x67_1) 1), .int .u64 t264, .int .u64 t265] rfl (by (try simp only [List.map_toArray, List.map_cons, List.map_nil]); first | done | rfl | (simp only [List.length_drop, List.length_take]; rfl)) ?_; (with_reducible refine (impl_Binary.calls k1 t262 (rd (rd_L2 y276 x67_1) 1) t264 t265 t284 t285 _ A24.out).mono ?_); rintro e w' ⟨rfl, ⟨nd, rfl⟩⟩; refine ⟨_, rfl, ?_⟩) | ((with_reducible refine gate_callee (f := 41) rfl ?_); refine goesL_ (some 101) rfl rfl Try.func41 (by kernel_rfl) rfl #[.int .i64 t262, .int .i64 3, .int .u64 t281, .int .u64 t265] rfl (by (try simp only [List.map_toArray, List.map_cons, List.map_nil]); first | done | rfl | (simp only [List.length_drop, List.length_take]; rfl)) ?_; (with_reducible refine (impl_Binary.calls k1 t262 3 t281 t265 t286 t287 _ A27.out).mono ?_); rintro e w' ⟨rfl, ⟨nd, rfl⟩⟩; refine ⟨_, rfl, ?_⟩) | ((with_reducible refine gate_callee (f := 41) rfl ?_); refine goesL_ (some 108) rfl rfl Try.func41 (by kernel_rfl) rfl #[.int .i64 t262, .int .i64 1, .int .u64 t286, .int .u64 t284] rfl (by (try simp only [List.map_toArray, List.map_cons, List.map_nil]); first | done | rfl | (simp only [List.length_drop, List.length_take]; rfl)) ?_; (with_reducible refine (impl_Binary.calls k1 t262 1 t286 t284 t288 t289 _ A28.out).mono ?_); rintro e w' ⟨rfl, ⟨nd, rfl⟩⟩; refine ⟨_, rfl, ?_⟩) | ((with_reducible refine gate_callee (f := 41) rfl ?_); refine goesL_ (some 114) rfl rfl Try.func41 (by kernel_rfl) rfl #[.int .i64 t262, .int .i64 1, .int .u64 t264, .int .u64 0] rfl (by (try simp only [List.map_toArray, List.map_cons, List.map_nil]); first | done | rfl | (simp only [List.length_drop, List.length_take]; rfl)) ?_; (with_reducible refine (impl_Binary.calls k1 t262 1 t264 0 t290 t291 _ A29.out).mono ?_); rintro e w' ⟨rfl, ⟨nd, rfl⟩⟩; refine ⟨_, rfl, ?_⟩) | ((with_reducible refine gate_callee (f := 41) rfl ?_); refine goesL_ (some 124) rfl rfl Try.func41 (by kernel_rfl) rfl #[.int .i64 t262, .int .i64 19, .int .u64 t284, .int .u64 t265] rfl (by (try simp only [List.map_toArray, List.map_cons, List.map_nil]); first | done | rfl | (simp only [List.length_drop, List.length_take]; rfl)) ?_; (with_reducible refine (impl_Binary.calls k1 t262 19 t284 t265 t292 t293 _ A31.out).mono ?_); rintro e w' ⟨rfl, ⟨nd, rfl⟩⟩; refine ⟨_, rfl, ?_⟩; have p294 : 0 ≤ (0 : Int) := (by omega); have q294 : 0 < ((rd_L2 y276 x67_1).length : Int) := of_decide_eq_true (by first | (with_reducible assumption) | assumption); obtain ⟨ad294, e294, hx294_0⟩ := Kd.at_int (by repeat (first | (with_reducible exact HR279_0.out) | (with_reducible refine Kd.C_alloc ?_ _) | (with_reducible refine Kd.C_drewN ?_ _) | (with_reducible refine Kd.C_drew ?_) | exact HR279_0.out)) 0 p294 q294; obtain rfl : ad280 = ad294 := (by injection e294); have qi294 : (0 < (rd_L2 y276 x67_1).length) = True := eq_true (by omega); (try rw [show ((0 : Int)).toNat = 0 from rfl] at hx294_0); (try rw [Addr.add_zero'] at hx294_0); replace p294 := eq_true p294; replace q294 := eq_true q294) | ((with_reducible refine gate_callee (f := 43) rfl ?_); refine goesL_ (some 138) rfl rfl Try.func43 (by kernel_rfl) rfl #[.int .i64 t262, .int .u64 t284] rfl (by (try simp only [List.map_toArray, List.map_cons, List.map_nil]); first | done | rfl | (simp only [List.length_drop, List.length_take]; rfl)) ?_; (with_reducible refine (spec_SignedOf.calls t262 t284 t300 t301 _ A39.out).mono ?_); rintro e w' ⟨rfl, ⟨nd, rfl⟩⟩; refine ⟨_, rfl, ?_⟩) | ((with_reducible refine gate_callee (f := 43) rfl ?_); refine goesL_ (some 144) rfl rfl Try.func43 (by kernel_rfl) rfl #[.int .i64 t262, .int .u64 t264] rfl (by (try simp only [List.map_toArray, List.map_cons, List.map_nil]); first | done | rfl | (simp only [List.length_drop, List.length_take]; rfl)) ?_; (with_reducible refine (spec_SignedOf.calls t262 t264 t302 t303 _ A40.out).mono ?_); rintro e w' ⟨rfl, ⟨nd, rfl⟩⟩; refine ⟨_, rfl, ?_⟩; have p304 : 0 ≤ (0 : Int) := (by omega); have q304 : 0 < ((rd_L2 y276 x67_1).length : Int) := of_decide_eq_true (by first | (with_reducible assumption) | assumption); obtain ⟨ad304, e304, hx304_0⟩ := Kd.at_int (by repeat (first | (with_reducible exact HR279_0.out) | (with_reducible refine Kd.C_alloc ?_ _) | (with_reducible refine Kd.C_drewN ?_ _) | (with_reducible refine Kd.C_drew ?_) | exact HR279_0.out)) 0 p304 q304; obtain rfl : ad280 = ad304 := (by injection e304); have qi304 : (0 < (rd_L2 y276 x67_1).length) = True := eq_true (by omega); (try rw [show ((0 : Int)).toNat = 0 from rfl] at hx304_0); (try rw [Addr.add_zero'] at hx304_0); replace p304 := eq_true p304; replace q304 := eq_true q304))
                 go_roundg k1
                 case measure => have := HK1.out; omega
                 case rel => exact ⟨(wrap64 (x67_1 + 1)), (by first | rfl | (simp; done) | (simp [*]; done)), H', ⟨by have := HK1.out; omega⟩, ⟨by (with_reducible repeat (first | apply Kd.N_alloc | apply Kd.N_drewN | apply Kd.N_drew)); exact HO_65.out⟩, ⟨by repeat (first | (with_reducible first | exact HB.out | apply below_alloc | apply pw_below_drewN | apply below_drew1) | exact HB.out)⟩⟩
                ·
                 rw [if_neg c42] at H
                 have c42b0 : (t300 == 0) = false := beq_eq_false_iff_ne.mpr c42
                 have c42b1 : (t300 != 0) = true := bne_iff_ne.mpr c42
                 by_cases c43 : ((decide (t300 < 0)) != (decide (t302 < 0))) = true
                 ·
                  rw [if_pos c43] at H
                  have c43b0 : ((decide (t300 < 0)) != (decide (t302 < 0))) = true := c43
                  (try (have c43b1 : decide ((decide (t300 < 0)) = (decide (t302 < 0))) = false := by simpa using c43))
                  (try (have c43b2 : ((decide (t300 < 0)) == (decide (t302 < 0))) = false := by simpa using c43))
                  (try (have c43b3 : ¬ ((decide (t300 < 0)) = (decide (t302 < 0))) := by simpa using c43))
                  clear c43
                  obtain rfl := Option.some.inj H
                  exact absurd HT.out (by decide)
                 ·
                  rw [if_neg c43] at H
                  have c43b0 : ((decide (t300 < 0)) != (decide (t302 < 0))) = false := by simpa using c43
                  (try (have c43b1 : decide ((decide (t300 < 0)) = (decide (t302 < 0))) = true := by simpa using c43))
                  (try (have c43b2 : ((decide (t300 < 0)) == (decide (t302 < 0))) = true := by simpa using c43))
                  clear c43
                  have H' := Aside0.mk H
                  clear H
                  have p279 : 0 ≤ (x67_1 : Int) := of_decide_eq_true (by first | (with_reducible assumption) | assumption)
                  have q279 : x67_1 < (y276.length : Int) := of_decide_eq_true (by first | (with_reducible assumption) | assumption)
                  obtain ⟨ad279, A279_0, c279_0, e279, hx279_0, hl279_0, hi279_0⟩ := at_L2 (Kd.N_reads' HO_65.out).2.2 x67_1 p279 q279
                  cases e279
                  obtain ⟨ce279, hce279, hMe279, hcc279⟩ := Kd.N_get HO_65.out [] x67_1 p279 (by first | exact q279 | exact of_decide_eq_true (by first | (with_reducible assumption) | assumption) | (have e_ := (Kd.N_reads' HO_65.out).1; omega))
                  obtain ⟨ua279_0, uc279_0, rfl, ul279_0, ge279_0⟩ := Kd.FK_slice_open hMe279
                  have hv279_0 := hcc279 0 _ rfl
                  rw [Nat.add_zero, show ((Kd.slice 3 (Kd.int .i64))).sz = 1 from rfl, Nat.mul_one] at hv279_0
                  replace hv279_0 := Option.some.inj (hv279_0.symm.trans hx279_0)
                  injection hv279_0 with hva_ hvn_ hvc_
                  rw [hva_] at ge279_0
                  rw [hvc_] at ul279_0
                  have HL279_0 := Aside0.mk (show Kd.V (Kd.int .i64) 3 _ w.heap.size _ _ (rd_L2 y276 x67_1) from Kd.V_mk ul279_0 ge279_0)
                  clear hva_ hvn_ hvc_ ge279_0 ul279_0
                  clear hcc279 hce279
                  have HR279_0 := Aside0.mk hi279_0
                  have HC279_0 := Aside0.mk hl279_0
                  clear hi279_0 hl279_0
                  replace p279 := eq_true p279
                  replace q279 := eq_true q279
                  have p280 : 0 ≤ (0 : Int) := (by omega)
                  have q280 : 0 < ((rd_L2 y276 x67_1).length : Int) := of_decide_eq_true (by first | (with_reducible assumption) | assumption)
                  obtain ⟨ad280, e280, hx280_0⟩ := Kd.at_int (by repeat (first | (with_reducible exact HR279_0.out) | (with_reducible refine Kd.C_alloc ?_ _) | (with_reducible refine Kd.C_drewN ?_ _) | (with_reducible refine Kd.C_drew ?_) | exact HR279_0.out)) 0 p280 q280
                  cases e280
                  have qi280 : (0 < (rd_L2 y276 x67_1).length) = True := eq_true (by omega)
                  (try rw [show ((0 : Int)).toNat = 0 from rfl] at hx280_0)
                  (try rw [Addr.add_zero'] at hx280_0)
                  replace p280 := eq_true p280
                  replace q280 := eq_true q280
                  go_wp2_with (first | ((with_reducible refine gate_callee (f := 41) rfl ?_); refine goesL_ (some 78) rfl rfl Try.func41 (by kernel_rfl) rfl #[.int .i64 t262, .int .i64 (rd (rd_L2 y276 x67_1) 0), .int .u64 t264, .int .u64 t265] rfl (by (try simp only [List.map_toArray, List.map_cons, List.map_nil]); first | done | rfl | (simp only [List.length_drop, List.length_take]; rfl)) ?_; (with_reducible refine (impl_Binary.calls k1 t262 (rd (rd_L2 y276 x67_1) 0) t264 t265 t281 t282 _ A22.out).mono ?_); rintro e w' ⟨rfl, ⟨nd, rfl⟩⟩; refine ⟨_, rfl, ?_⟩; have p283 : 0 ≤ (1 : Int) := (by omega); have q283 : 1 < ((rd_L2 y276 x67_1).length : Int) := of_decide_eq_true (by first | (with_reducible assumption) | assumption); obtain ⟨ad283, e283, hx283_0⟩ := Kd.at_int (by repeat (first | (with_reducible exact HR279_0.out) | (with_reducible refine Kd.C_alloc ?_ _) | (with_reducible refine Kd.C_drewN ?_ _) | (with_reducible refine Kd.C_drew ?_) | exact HR279_0.out)) 1 p283 q283; obtain rfl : ad280 = ad283 := (by injection e283); (try simp only [show (1 : Int).toNat = 1 from rfl, Nat.reduceMul, Nat.reduceEqDiff, Go.Addr.add, ↓reduceIte] at hx283_0); have qi283 : (1 < (rd_L2 y276 x67_1).length) = True := eq_true (by omega); (try rw [show ((1 : Int)).toNat = 1 from rfl] at hx283_0); replace p283 := eq_true p283; replace q283 := eq_true q283) | ((with_reducible refine gate_callee (f := 41) rfl ?_); refine goesL_ (some 88) rfl rfl Try.func41 (by kernel_rfl) rfl #[.int .i64 t262, .int .i64 (rd (rd_L2 y276 x67_1) 1), .int .u64 t264, .int .u64 t265] rfl (by (try simp only [List.map_toArray, List.map_cons, List.map_nil]); first | done | rfl | (simp only [List.length_drop, List.length_take]; rfl)) ?_; (with_reducible refine (impl_Binary.calls k1 t262 (rd (rd_L2 y276 x67_1) 1) t264 t265 t284 t285 _ A24.out).mono ?_); rintro e w' ⟨rfl, ⟨nd, rfl⟩⟩; refine ⟨_, rfl, ?_⟩) | ((with_reducible refine gate_callee (f := 41) rfl ?_); refine goesL_ (some 101) rfl rfl Try.func41 (by kernel_rfl) rfl #[.int .i64 t262, .int .i64 3, .int .u64 t281, .int .u64 t265] rfl (by (try simp only [List.map_toArray, List.map_cons, List.map_nil]); first | done | rfl | (simp only [List.length_drop, List.length_take]; rfl)) ?_; (with_reducible refine (impl_Binary.calls k1 t262 3 t281 t265 t286 t287 _ A27.out).mono ?_); rintro e w' ⟨rfl, ⟨nd, rfl⟩⟩; refine ⟨_, rfl, ?_⟩) | ((with_reducible refine gate_callee (f := 41) rfl ?_); refine goesL_ (some 108) rfl rfl Try.func41 (by kernel_rfl) rfl #[.int .i64 t262, .int .i64 1, .int .u64 t286, .int .u64 t284] rfl (by (try simp only [List.map_toArray, List.map_cons, List.map_nil]); first | done | rfl | (simp only [List.length_drop, List.length_take]; rfl)) ?_; (with_reducible refine (impl_Binary.calls k1 t262 1 t286 t284 t288 t289 _ A28.out).mono ?_); rintro e w' ⟨rfl, ⟨nd, rfl⟩⟩; refine ⟨_, rfl, ?_⟩) | ((with_reducible refine gate_callee (f := 41) rfl ?_); refine goesL_ (some 114) rfl rfl Try.func41 (by kernel_rfl) rfl #[.int .i64 t262, .int .i64 1, .int .u64 t264, .int .u64 0] rfl (by (try simp only [List.map_toArray, List.map_cons, List.map_nil]); first | done | rfl | (simp only [List.length_drop, List.length_take]; rfl)) ?_; (with_reducible refine (impl_Binary.calls k1 t262 1 t264 0 t290 t291 _ A29.out).mono ?_); rintro e w' ⟨rfl, ⟨nd, rfl⟩⟩; refine ⟨_, rfl, ?_⟩) | ((with_reducible refine gate_callee (f := 41) rfl ?_); refine goesL_ (some 124) rfl rfl Try.func41 (by kernel_rfl) rfl #[.int .i64 t262, .int .i64 19, .int .u64 t284, .int .u64 t265] rfl (by (try simp only [List.map_toArray, List.map_cons, List.map_nil]); first | done | rfl | (simp only [List.length_drop, List.length_take]; rfl)) ?_; (with_reducible refine (impl_Binary.calls k1 t262 19 t284 t265 t292 t293 _ A31.out).mono ?_); rintro e w' ⟨rfl, ⟨nd, rfl⟩⟩; refine ⟨_, rfl, ?_⟩; have p294 : 0 ≤ (0 : Int) := (by omega); have q294 : 0 < ((rd_L2 y276 x67_1).length : Int) := of_decide_eq_true (by first | (with_reducible assumption) | assumption); obtain ⟨ad294, e294, hx294_0⟩ := Kd.at_int (by repeat (first | (with_reducible exact HR279_0.out) | (with_reducible refine Kd.C_alloc ?_ _) | (with_reducible refine Kd.C_drewN ?_ _) | (with_reducible refine Kd.C_drew ?_) | exact HR279_0.out)) 0 p294 q294; obtain rfl : ad280 = ad294 := (by injection e294); have qi294 : (0 < (rd_L2 y276 x67_1).length) = True := eq_true (by omega); (try rw [show ((0 : Int)).toNat = 0 from rfl] at hx294_0); (try rw [Addr.add_zero'] at hx294_0); replace p294 := eq_true p294; replace q294 := eq_true q294) | ((with_reducible refine gate_callee (f := 43) rfl ?_); refine goesL_ (some 138) rfl rfl Try.func43 (by kernel_rfl) rfl #[.int .i64 t262, .int .u64 t284] rfl (by (try simp only [List.map_toArray, List.map_cons, List.map_nil]); first | done | rfl | (simp only [List.length_drop, List.length_take]; rfl)) ?_; (with_reducible refine (spec_SignedOf.calls t262 t284 t300 t301 _ A39.out).mono ?_); rintro e w' ⟨rfl, ⟨nd, rfl⟩⟩; refine ⟨_, rfl, ?_⟩) | ((with_reducible refine gate_callee (f := 43) rfl ?_); refine goesL_ (some 144) rfl rfl Try.func43 (by kernel_rfl) rfl #[.int .i64 t262, .int .u64 t264] rfl (by (try simp only [List.map_toArray, List.map_cons, List.map_nil]); first | done | rfl | (simp only [List.length_drop, List.length_take]; rfl)) ?_; (with_reducible refine (spec_SignedOf.calls t262 t264 t302 t303 _ A40.out).mono ?_); rintro e w' ⟨rfl, ⟨nd, rfl⟩⟩; refine ⟨_, rfl, ?_⟩; have p304 : 0 ≤ (0 : Int) := (by omega); have q304 : 0 < ((rd_L2 y276 x67_1).length : Int) := of_decide_eq_true (by first | (with_reducible assumption) | assumption); obtain ⟨ad304, e304, hx304_0⟩ := Kd.at_int (by repeat (first | (with_reducible exact HR279_0.out) | (with_reducible refine Kd.C_alloc ?_ _) | (with_reducible refine Kd.C_drewN ?_ _) | (with_reducible refine Kd.C_drew ?_) | exact HR279_0.out)) 0 p304 q304; obtain rfl : ad280 = ad304 := (by injection e304); have qi304 : (0 < (rd_L2 y276 x67_1).length) = True := eq_true (by omega); (try rw [show ((0 : Int)).toNat = 0 from rfl] at hx304_0); (try rw [Addr.add_zero'] at hx304_0); replace p304 := eq_true p304; replace q304 := eq_true q304))
                  go_roundg k1
                  case measure => have := HK1.out; omega
                  case rel => exact ⟨(wrap64 (x67_1 + 1)), (by first | rfl | (simp; done) | (simp [*]; done)), H', ⟨by have := HK1.out; omega⟩, ⟨by (with_reducible repeat (first | apply Kd.N_alloc | apply Kd.N_drewN | apply Kd.N_drew)); exact HO_65.out⟩, ⟨by repeat (first | (with_reducible first | exact HB.out | apply below_alloc | apply pw_below_drewN | apply below_drew1) | exact HB.out)⟩⟩
               ·
                rw [if_neg c41] at H
                have c41b0 : ((rd (rd_L2 y276 x67_1) 0) == 4) = false := beq_eq_false_iff_ne.mpr c41
                have c41b1 : ((rd (rd_L2 y276 x67_1) 0) != 4) = true := bne_iff_ne.mpr c41
                have H' := Aside0.mk H
                clear H
                have p279 : 0 ≤ (x67_1 : Int) := of_decide_eq_true (by first | (with_reducible assumption) | assumption)
                have q279 : x67_1 < (y276.length : Int) := of_decide_eq_true (by first | (with_reducible assumption) | assumption)
                obtain ⟨ad279, A279_0, c279_0, e279, hx279_0, hl279_0, hi279_0⟩ := at_L2 (Kd.N_reads' HO_65.out).2.2 x67_1 p279 q279
                cases e279
                obtain ⟨ce279, hce279, hMe279, hcc279⟩ := Kd.N_get HO_65.out [] x67_1 p279 (by first | exact q279 | exact of_decide_eq_true (by first | (with_reducible assumption) | assumption) | (have e_ := (Kd.N_reads' HO_65.out).1; omega))
                obtain ⟨ua279_0, uc279_0, rfl, ul279_0, ge279_0⟩ := Kd.FK_slice_open hMe279
                have hv279_0 := hcc279 0 _ rfl
                rw [Nat.add_zero, show ((Kd.slice 3 (Kd.int .i64))).sz = 1 from rfl, Nat.mul_one] at hv279_0
                replace hv279_0 := Option.some.inj (hv279_0.symm.trans hx279_0)
                injection hv279_0 with hva_ hvn_ hvc_
                rw [hva_] at ge279_0
                rw [hvc_] at ul279_0
                have HL279_0 := Aside0.mk (show Kd.V (Kd.int .i64) 3 _ w.heap.size _ _ (rd_L2 y276 x67_1) from Kd.V_mk ul279_0 ge279_0)
                clear hva_ hvn_ hvc_ ge279_0 ul279_0
                clear hcc279 hce279
                have HR279_0 := Aside0.mk hi279_0
                have HC279_0 := Aside0.mk hl279_0
                clear hi279_0 hl279_0
                replace p279 := eq_true p279
                replace q279 := eq_true q279
                have p280 : 0 ≤ (0 : Int) := (by omega)
                have q280 : 0 < ((rd_L2 y276 x67_1).length : Int) := of_decide_eq_true (by first | (with_reducible assumption) | assumption)
                obtain ⟨ad280, e280, hx280_0⟩ := Kd.at_int (by repeat (first | (with_reducible exact HR279_0.out) | (with_reducible refine Kd.C_alloc ?_ _) | (with_reducible refine Kd.C_drewN ?_ _) | (with_reducible refine Kd.C_drew ?_) | exact HR279_0.out)) 0 p280 q280
                cases e280
                have qi280 : (0 < (rd_L2 y276 x67_1).length) = True := eq_true (by omega)
                (try rw [show ((0 : Int)).toNat = 0 from rfl] at hx280_0)
                (try rw [Addr.add_zero'] at hx280_0)
                replace p280 := eq_true p280
                replace q280 := eq_true q280
                go_wp2_with (first | ((with_reducible refine gate_callee (f := 41) rfl ?_); refine goesL_ (some 78) rfl rfl Try.func41 (by kernel_rfl) rfl #[.int .i64 t262, .int .i64 (rd (rd_L2 y276 x67_1) 0), .int .u64 t264, .int .u64 t265] rfl (by (try simp only [List.map_toArray, List.map_cons, List.map_nil]); first | done | rfl | (simp only [List.length_drop, List.length_take]; rfl)) ?_; (with_reducible refine (impl_Binary.calls k1 t262 (rd (rd_L2 y276 x67_1) 0) t264 t265 t281 t282 _ A22.out).mono ?_); rintro e w' ⟨rfl, ⟨nd, rfl⟩⟩; refine ⟨_, rfl, ?_⟩; have p283 : 0 ≤ (1 : Int) := (by omega); have q283 : 1 < ((rd_L2 y276 x67_1).length : Int) := of_decide_eq_true (by first | (with_reducible assumption) | assumption); obtain ⟨ad283, e283, hx283_0⟩ := Kd.at_int (by repeat (first | (with_reducible exact HR279_0.out) | (with_reducible refine Kd.C_alloc ?_ _) | (with_reducible refine Kd.C_drewN ?_ _) | (with_reducible refine Kd.C_drew ?_) | exact HR279_0.out)) 1 p283 q283; obtain rfl : ad280 = ad283 := (by injection e283); (try simp only [show (1 : Int).toNat = 1 from rfl, Nat.reduceMul, Nat.reduceEqDiff, Go.Addr.add, ↓reduceIte] at hx283_0); have qi283 : (1 < (rd_L2 y276 x67_1).length) = True := eq_true (by omega); (try rw [show ((1 : Int)).toNat = 1 from rfl] at hx283_0); replace p283 := eq_true p283; replace q283 := eq_true q283) | ((with_reducible refine gate_callee (f := 41) rfl ?_); refine goesL_ (some 88) rfl rfl Try.func41 (by kernel_rfl) rfl #[.int .i64 t262, .int .i64 (rd (rd_L2 y276 x67_1) 1), .int .u64 t264, .int .u64 t265] rfl (by (try simp only [List.map_toArray, List.map_cons, List.map_nil]); first | done | rfl | (simp only [List.length_drop, List.length_take]; rfl)) ?_; (with_reducible refine (impl_Binary.calls k1 t262 (rd (rd_L2 y276 x67_1) 1) t264 t265 t284 t285 _ A24.out).mono ?_); rintro e w' ⟨rfl, ⟨nd, rfl⟩⟩; refine ⟨_, rfl, ?_⟩) | ((with_reducible refine gate_callee (f := 41) rfl ?_); refine goesL_ (some 101) rfl rfl Try.func41 (by kernel_rfl) rfl #[.int .i64 t262, .int .i64 3, .int .u64 t281, .int .u64 t265] rfl (by (try simp only [List.map_toArray, List.map_cons, List.map_nil]); first | done | rfl | (simp only [List.length_drop, List.length_take]; rfl)) ?_; (with_reducible refine (impl_Binary.calls k1 t262 3 t281 t265 t286 t287 _ A27.out).mono ?_); rintro e w' ⟨rfl, ⟨nd, rfl⟩⟩; refine ⟨_, rfl, ?_⟩) | ((with_reducible refine gate_callee (f := 41) rfl ?_); refine goesL_ (some 108) rfl rfl Try.func41 (by kernel_rfl) rfl #[.int .i64 t262, .int .i64 1, .int .u64 t286, .int .u64 t284] rfl (by (try simp only [List.map_toArray, List.map_cons, List.map_nil]); first | done | rfl | (simp only [List.length_drop, List.length_take]; rfl)) ?_; (with_reducible refine (impl_Binary.calls k1 t262 1 t286 t284 t288 t289 _ A28.out).mono ?_); rintro e w' ⟨rfl, ⟨nd, rfl⟩⟩; refine ⟨_, rfl, ?_⟩) | ((with_reducible refine gate_callee (f := 41) rfl ?_); refine goesL_ (some 114) rfl rfl Try.func41 (by kernel_rfl) rfl #[.int .i64 t262, .int .i64 1, .int .u64 t264, .int .u64 0] rfl (by (try simp only [List.map_toArray, List.map_cons, List.map_nil]); first | done | rfl | (simp only [List.length_drop, List.length_take]; rfl)) ?_; (with_reducible refine (impl_Binary.calls k1 t262 1 t264 0 t290 t291 _ A29.out).mono ?_); rintro e w' ⟨rfl, ⟨nd, rfl⟩⟩; refine ⟨_, rfl, ?_⟩) | ((with_reducible refine gate_callee (f := 41) rfl ?_); refine goesL_ (some 124) rfl rfl Try.func41 (by kernel_rfl) rfl #[.int .i64 t262, .int .i64 19, .int .u64 t284, .int .u64 t265] rfl (by (try simp only [List.map_toArray, List.map_cons, List.map_nil]); first | done | rfl | (simp only [List.length_drop, List.length_take]; rfl)) ?_; (with_reducible refine (impl_Binary.calls k1 t262 19 t284 t265 t292 t293 _ A31.out).mono ?_); rintro e w' ⟨rfl, ⟨nd, rfl⟩⟩; refine ⟨_, rfl, ?_⟩; have p294 : 0 ≤ (0 : Int) := (by omega); have q294 : 0 < ((rd_L2 y276 x67_1).length : Int) := of_decide_eq_true (by first | (with_reducible assumption) | assumption); obtain ⟨ad294, e294, hx294_0⟩ := Kd.at_int (by repeat (first | (with_reducible exact HR279_0.out) | (with_reducible refine Kd.C_alloc ?_ _) | (with_reducible refine Kd.C_drewN ?_ _) | (with_reducible refine Kd.C_drew ?_) | exact HR279_0.out)) 0 p294 q294; obtain rfl : ad280 = ad294 := (by injection e294); have qi294 : (0 < (rd_L2 y276 x67_1).length) = True := eq_true (by omega); (try rw [show ((0 : Int)).toNat = 0 from rfl] at hx294_0); (try rw [Addr.add_zero'] at hx294_0); replace p294 := eq_true p294; replace q294 := eq_true q294) | ((with_reducible refine gate_callee (f := 43) rfl ?_); refine goesL_ (some 138) rfl rfl Try.func43 (by kernel_rfl) rfl #[.int .i64 t262, .int .u64 t284] rfl (by (try simp only [List.map_toArray, List.map_cons, List.map_nil]); first | done | rfl | (simp only [List.length_drop, List.length_take]; rfl)) ?_; (with_reducible refine (spec_SignedOf.calls t262 t284 t300 t301 _ A39.out).mono ?_); rintro e w' ⟨rfl, ⟨nd, rfl⟩⟩; refine ⟨_, rfl, ?_⟩) | ((with_reducible refine gate_callee (f := 43) rfl ?_); refine goesL_ (some 144) rfl rfl Try.func43 (by kernel_rfl) rfl #[.int .i64 t262, .int .u64 t264] rfl (by (try simp only [List.map_toArray, List.map_cons, List.map_nil]); first | done | rfl | (simp only [List.length_drop, List.length_take]; rfl)) ?_; (with_reducible refine (spec_SignedOf.calls t262 t264 t302 t303 _ A40.out).mono ?_); rintro e w' ⟨rfl, ⟨nd, rfl⟩⟩; refine ⟨_, rfl, ?_⟩; have p304 : 0 ≤ (0 : Int) := (by omega); have q304 : 0 < ((rd_L2 y276 x67_1).length : Int) := of_decide_eq_true (by first | (with_reducible assumption) | assumption); obtain ⟨ad304, e304, hx304_0⟩ := Kd.at_int (by repeat (first | (with_reducible exact HR279_0.out) | (with_reducible refine Kd.C_alloc ?_ _) | (with_reducible refine Kd.C_drewN ?_ _) | (with_reducible refine Kd.C_drew ?_) | exact HR279_0.out)) 0 p304 q304; obtain rfl : ad280 = ad304 := (by injection e304); have qi304 : (0 < (rd_L2 y276 x67_1).length) = True := eq_true (by omega); (try rw [show ((0 : Int)).toNat = 0 from rfl] at hx304_0); (try rw [Addr.add_zero'] at hx304_0); replace p304 := eq_true p304; replace q304 := eq_true q304))
                go_roundg k1
                case measure => have := HK1.out; omega
                case rel => exact ⟨(wrap64 (x67_1 + 1)), (by first | rfl | (simp; done) | (simp [*]; done)), H', ⟨by have := HK1.out; omega⟩, ⟨by (with_reducible repeat (first | apply Kd.N_alloc | apply Kd.N_drewN | apply Kd.N_drew)); exact HO_65.out⟩, ⟨by repeat (first | (with_reducible first | exact HB.out | apply below_alloc | apply pw_below_drewN | apply below_drew1) | exact HB.out)⟩⟩
             ·
              rw [if_neg c30] at H
              have c30b0 : (t288 == t290) = false := beq_eq_false_iff_ne.mpr c30
              have c30b1 : (t288 != t290) = true := bne_iff_ne.mpr c30
              obtain rfl := Option.some.inj H
              exact absurd HT.out (by decide)
            ·
             rw [if_neg c26] at H
             have c26b0 : (t285 == 0) = false := beq_eq_false_iff_ne.mpr c26
             have c26b1 : (t285 != 0) = true := bne_iff_ne.mpr c26
             have H' := Aside0.mk H
             clear H
             have p279 : 0 ≤ (x67_1 : Int) := of_decide_eq_true (by first | (with_reducible assumption) | assumption)
             have q279 : x67_1 < (y276.length : Int) := of_decide_eq_true (by first | (with_reducible assumption) | assumption)
             obtain ⟨ad279, A279_0, c279_0, e279, hx279_0, hl279_0, hi279_0⟩ := at_L2 (Kd.N_reads' HO_65.out).2.2 x67_1 p279 q279
             cases e279
             obtain ⟨ce279, hce279, hMe279, hcc279⟩ := Kd.N_get HO_65.out [] x67_1 p279 (by first | exact q279 | exact of_decide_eq_true (by first | (with_reducible assumption) | assumption) | (have e_ := (Kd.N_reads' HO_65.out).1; omega))
             obtain ⟨ua279_0, uc279_0, rfl, ul279_0, ge279_0⟩ := Kd.FK_slice_open hMe279
             have hv279_0 := hcc279 0 _ rfl
             rw [Nat.add_zero, show ((Kd.slice 3 (Kd.int .i64))).sz = 1 from rfl, Nat.mul_one] at hv279_0
             replace hv279_0 := Option.some.inj (hv279_0.symm.trans hx279_0)
             injection hv279_0 with hva_ hvn_ hvc_
             rw [hva_] at ge279_0
             rw [hvc_] at ul279_0
             have HL279_0 := Aside0.mk (show Kd.V (Kd.int .i64) 3 _ w.heap.size _ _ (rd_L2 y276 x67_1) from Kd.V_mk ul279_0 ge279_0)
             clear hva_ hvn_ hvc_ ge279_0 ul279_0
             clear hcc279 hce279
             have HR279_0 := Aside0.mk hi279_0
             have HC279_0 := Aside0.mk hl279_0
             clear hi279_0 hl279_0
             replace p279 := eq_true p279
             replace q279 := eq_true q279
             have p280 : 0 ≤ (0 : Int) := (by omega)
             have q280 : 0 < ((rd_L2 y276 x67_1).length : Int) := of_decide_eq_true (by first | (with_reducible assumption) | assumption)
             obtain ⟨ad280, e280, hx280_0⟩ := Kd.at_int (by repeat (first | (with_reducible exact HR279_0.out) | (with_reducible refine Kd.C_alloc ?_ _) | (with_reducible refine Kd.C_drewN ?_ _) | (with_reducible refine Kd.C_drew ?_) | exact HR279_0.out)) 0 p280 q280
             cases e280
             have qi280 : (0 < (rd_L2 y276 x67_1).length) = True := eq_true (by omega)
             (try rw [show ((0 : Int)).toNat = 0 from rfl] at hx280_0)
             (try rw [Addr.add_zero'] at hx280_0)
             replace p280 := eq_true p280
             replace q280 := eq_true q280
             go_wp2_with (first | ((with_reducible refine gate_callee (f := 41) rfl ?_); refine goesL_ (some 78) rfl rfl Try.func41 (by kernel_rfl) rfl #[.int .i64 t262, .int .i64 (rd (rd_L2 y276 x67_1) 0), .int .u64 t264, .int .u64 t265] rfl (by (try simp only [List.map_toArray, List.map_cons, List.map_nil]); first | done | rfl | (simp only [List.length_drop, List.length_take]; rfl)) ?_; (with_reducible refine (impl_Binary.calls k1 t262 (rd (rd_L2 y276 x67_1) 0) t264 t265 t281 t282 _ A22.out).mono ?_); rintro e w' ⟨rfl, ⟨nd, rfl⟩⟩; refine ⟨_, rfl, ?_⟩; have p283 : 0 ≤ (1 : Int) := (by omega); have q283 : 1 < ((rd_L2 y276 x67_1).length : Int) := of_decide_eq_true (by first | (with_reducible assumption) | assumption); obtain ⟨ad283, e283, hx283_0⟩ := Kd.at_int (by repeat (first | (with_reducible exact HR279_0.out) | (with_reducible refine Kd.C_alloc ?_ _) | (with_reducible refine Kd.C_drewN ?_ _) | (with_reducible refine Kd.C_drew ?_) | exact HR279_0.out)) 1 p283 q283; obtain rfl : ad280 = ad283 := (by injection e283); (try simp only [show (1 : Int).toNat = 1 from rfl, Nat.reduceMul, Nat.reduceEqDiff, Go.Addr.add, ↓reduceIte] at hx283_0); have qi283 : (1 < (rd_L2 y276 x67_1).length) = True := eq_true (by omega); (try rw [show ((1 : Int)).toNat = 1 from rfl] at hx283_0); replace p283 := eq_true p283; replace q283 := eq_true q283) | ((with_reducible refine gate_callee (f := 41) rfl ?_); refine goesL_ (some 88) rfl rfl Try.func41 (by kernel_rfl) rfl #[.int .i64 t262, .int .i64 (rd (rd_L2 y276 x67_1) 1), .int .u64 t264, .int .u64 t265] rfl (by (try simp only [List.map_toArray, List.map_cons, List.map_nil]); first | done | rfl | (simp only [List.length_drop, List.length_take]; rfl)) ?_; (with_reducible refine (impl_Binary.calls k1 t262 (rd (rd_L2 y276 x67_1) 1) t264 t265 t284 t285 _ A24.out).mono ?_); rintro e w' ⟨rfl, ⟨nd, rfl⟩⟩; refine ⟨_, rfl, ?_⟩))
             go_roundg k1
             case measure => have := HK1.out; omega
             case rel => exact ⟨(wrap64 (x67_1 + 1)), (by first | rfl | (simp; done) | (simp [*]; done)), H', ⟨by have := HK1.out; omega⟩, ⟨by (with_reducible repeat (first | apply Kd.N_alloc | apply Kd.N_drewN | apply Kd.N_drew)); exact HO_65.out⟩, ⟨by repeat (first | (with_reducible first | exact HB.out | apply below_alloc | apply pw_below_drewN | apply below_drew1) | exact HB.out)⟩⟩
           ·
            rw [if_neg c25] at H
            have c25b0 : (t282 == 0) = false := beq_eq_false_iff_ne.mpr c25
            have c25b1 : (t282 != 0) = true := bne_iff_ne.mpr c25
            have H' := Aside0.mk H
            clear H
            have p279 : 0 ≤ (x67_1 : Int) := of_decide_eq_true (by first | (with_reducible assumption) | assumption)
            have q279 : x67_1 < (y276.length : Int) := of_decide_eq_true (by first | (with_reducible assumption) | assumption)
            obtain ⟨ad279, A279_0, c279_0, e279, hx279_0, hl279_0, hi279_0⟩ := at_L2 (Kd.N_reads' HO_65.out).2.2 x67_1 p279 q279
            cases e279
            obtain ⟨ce279, hce279, hMe279, hcc279⟩ := Kd.N_get HO_65.out [] x67_1 p279 (by first | exact q279 | exact of_decide_eq_true (by first | (with_reducible assumption) | assumption) | (have e_ := (Kd.N_reads' HO_65.out).1; omega))
            obtain ⟨ua279_0, uc279_0, rfl, ul279_0, ge279_0⟩ := Kd.FK_slice_open hMe279
            have hv279_0 := hcc279 0 _ rfl
            rw [Nat.add_zero, show ((Kd.slice 3 (Kd.int .i64))).sz = 1 from rfl, Nat.mul_one] at hv279_0
            replace hv279_0 := Option.some.inj (hv279_0.symm.trans hx279_0)
            injection hv279_0 with hva_ hvn_ hvc_
            rw [hva_] at ge279_0
            rw [hvc_] at ul279_0
            have HL279_0 := Aside0.mk (show Kd.V (Kd.int .i64) 3 _ w.heap.size _ _ (rd_L2 y276 x67_1) from Kd.V_mk ul279_0 ge279_0)
            clear hva_ hvn_ hvc_ ge279_0 ul279_0
            clear hcc279 hce279
            have HR279_0 := Aside0.mk hi279_0
            have HC279_0 := Aside0.mk hl279_0
            clear hi279_0 hl279_0
            replace p279 := eq_true p279
            replace q279 := eq_true q279
            have p280 : 0 ≤ (0 : Int) := (by omega)
            have q280 : 0 < ((rd_L2 y276 x67_1).length : Int) := of_decide_eq_true (by first | (with_reducible assumption) | assumption)
            obtain ⟨ad280, e280, hx280_0⟩ := Kd.at_int (by repeat (first | (with_reducible exact HR279_0.out) | (with_reducible refine Kd.C_alloc ?_ _) | (with_reducible refine Kd.C_drewN ?_ _) | (with_reducible refine Kd.C_drew ?_) | exact HR279_0.out)) 0 p280 q280
            cases e280
            have qi280 : (0 < (rd_L2 y276 x67_1).length) = True := eq_true (by omega)
            (try rw [show ((0 : Int)).toNat = 0 from rfl] at hx280_0)
            (try rw [Addr.add_zero'] at hx280_0)
            replace p280 := eq_true p280
            replace q280 := eq_true q280
            go_wp2_with (first | ((with_reducible refine gate_callee (f := 41) rfl ?_); refine goesL_ (some 78) rfl rfl Try.func41 (by kernel_rfl) rfl #[.int .i64 t262, .int .i64 (rd (rd_L2 y276 x67_1) 0), .int .u64 t264, .int .u64 t265] rfl (by (try simp only [List.map_toArray, List.map_cons, List.map_nil]); first | done | rfl | (simp only [List.length_drop, List.length_take]; rfl)) ?_; (with_reducible refine (impl_Binary.calls k1 t262 (rd (rd_L2 y276 x67_1) 0) t264 t265 t281 t282 _ A22.out).mono ?_); rintro e w' ⟨rfl, ⟨nd, rfl⟩⟩; refine ⟨_, rfl, ?_⟩; have p283 : 0 ≤ (1 : Int) := (by omega); have q283 : 1 < ((rd_L2 y276 x67_1).length : Int) := of_decide_eq_true (by first | (with_reducible assumption) | assumption); obtain ⟨ad283, e283, hx283_0⟩ := Kd.at_int (by repeat (first | (with_reducible exact HR279_0.out) | (with_reducible refine Kd.C_alloc ?_ _) | (with_reducible refine Kd.C_drewN ?_ _) | (with_reducible refine Kd.C_drew ?_) | exact HR279_0.out)) 1 p283 q283; obtain rfl : ad280 = ad283 := (by injection e283); (try simp only [show (1 : Int).toNat = 1 from rfl, Nat.reduceMul, Nat.reduceEqDiff, Go.Addr.add, ↓reduceIte] at hx283_0); have qi283 : (1 < (rd_L2 y276 x67_1).length) = True := eq_true (by omega); (try rw [show ((1 : Int)).toNat = 1 from rfl] at hx283_0); replace p283 := eq_true p283; replace q283 := eq_true q283) | ((with_reducible refine gate_callee (f := 41) rfl ?_); refine goesL_ (some 88) rfl rfl Try.func41 (by kernel_rfl) rfl #[.int .i64 t262, .int .i64 (rd (rd_L2 y276 x67_1) 1), .int .u64 t264, .int .u64 t265] rfl (by (try simp only [List.map_toArray, List.map_cons, List.map_nil]); first | done | rfl | (simp only [List.length_drop, List.length_take]; rfl)) ?_; (with_reducible refine (impl_Binary.calls k1 t262 (rd (rd_L2 y276 x67_1) 1) t264 t265 t284 t285 _ A24.out).mono ?_); rintro e w' ⟨rfl, ⟨nd, rfl⟩⟩; refine ⟨_, rfl, ?_⟩))
            go_roundg k1
            case measure => have := HK1.out; omega
            case rel => exact ⟨(wrap64 (x67_1 + 1)), (by first | rfl | (simp; done) | (simp [*]; done)), H', ⟨by have := HK1.out; omega⟩, ⟨by (with_reducible repeat (first | apply Kd.N_alloc | apply Kd.N_drewN | apply Kd.N_drew)); exact HO_65.out⟩, ⟨by repeat (first | (with_reducible first | exact HB.out | apply below_alloc | apply pw_below_drewN | apply below_drew1) | exact HB.out)⟩⟩
          ·
           rw [if_neg c23] at H
           exact absurd H (by simp)
         ·
          rw [if_neg c21] at H
          exact absurd H (by simp)
        ·
         rw [if_neg c20] at H
         exact absurd H (by simp)
       ·
        rw [if_neg c19] at H
        exact absurd H (by simp)
      ·
       rw [if_neg c18] at H
       have c18b0 : decide (x67_1 < (y276.length : Int)) = false := decide_eq_false c18
       clear c18
       obtain rfl := Option.some.inj H
       simp only [Option.some.injEq, Prod.mk.injEq] at H
       obtain ⟨rfl⟩ := H
       go_wp2
       go_ret
       exact ⟨by first | rfl | (simp [errW_none, errW_some] <;> rfl) | (simp [*, errW_none, errW_some] <;> rfl), by repeat (first | (with_reducible first | exact HB.out | apply below_alloc | apply pw_below_drewN | apply below_drew1) | exact HB.out)⟩
   ·
    rw [if_neg c7] at H
    have c7b0 : (t267 == t269) = false := beq_eq_false_iff_ne.mpr c7
    have c7b1 : (t267 != t269) = true := bne_iff_ne.mpr c7
    obtain rfl := Option.some.inj H
    exact absurd HT.out (by decide)
  ·
   rw [if_neg c6] at H
   have c6b0 : (t266 == t268) = false := beq_eq_false_iff_ne.mpr c6
   have c6b1 : (t266 != t268) = true := bne_iff_ne.mpr c6
   obtain rfl := Option.some.inj H
   exact absurd HT.out (by decide)

/-- THE ONE PURE STATEMENT of laws_FnDivided: yours. -/
def laws_FnDivided.Pure : Prop := ∀ (l0 : List Int), l0.length ≤ maxLen → l0.length * 1 ≤ 140737488351232 → (∀ x ∈ l0, (Lit.int .u8 x).wf = true) → ∃ k, laws_FnDivided.f k l0 = some true
theorem laws_FnDivided.walk (P : laws_FnDivided.Pure) (a0 : Option Addr) (len0 cap0 : Nat) (z0 : List Int) (w : World) (w0 : (a0 = none ∧ len0 = 0 ∧ cap0 = 0 ∧ z0 = []) ∨ ∃ x, a0 = some x ∧ len0 ≤ cap0 ∧ cap0 ≤ maxLen ∧ z0.length = cap0 ∧ (∀ i, i < z0.length → w.cell? (x.add i) = some (.int .u8 (z0.getD i 0))) ∧ ∀ n ∈ z0, (Lit.int .u8 n).wf = true) (y0 : len0 * 1 ≤ 140737488351232) :
  Calls Try.prog 11 #[.slice a0 len0 cap0] w fun e w' => e = .returned (.bool true) ∧ Below w.heap.size w w' := by
 obtain ⟨l0, rfl, hr0, hm0, hw0, hc0⟩ := ReadsInt.ofRowC w0
 obtain ⟨k, h⟩ := P l0 hm0 y0 hw0
 refine (laws_FnDivided.calls k _ _ l0 true w (Kd.C_of_reads (d := (0 : Int)) (h1 := fun _ => rfl) hr0) hc0 rfl h).mono ?_
 rintro e w' ⟨rfl, hd⟩
 exact ⟨rfl, hd⟩

end Go.Proofs.Ytdjpbhmkcamkpaa.Q
