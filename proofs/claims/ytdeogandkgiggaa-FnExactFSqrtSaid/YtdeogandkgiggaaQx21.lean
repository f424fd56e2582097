-- Written by a program of this session; it walks the functions that the law reaches.
import Derived.Test.YtdeogandkgiggaaQx0
import Derived.Test.YtdeogandkgiggaaQx6
import Derived.Test.YtdeogandkgiggaaQx7
import Derived.Test.YtdeogandkgiggaaQx8
import Derived.Test.YtdeogandkgiggaaQx9
import Derived.Test.YtdeogandkgiggaaQx10
import Derived.Test.YtdeogandkgiggaaQx11
namespace Go.Proofs.Ytdeogandkgiggaa.Q
open Go.RowKit Go.Proofs.YtdeogandkgiggaaW.PrintWords Go.Proofs.YtdeogandkgiggaaW.PrintLast Go.Proofs.YtdeogandkgiggaaW.PrintMore
attribute [local go_sem] max2_int min2_int max_two min_two max_three min_three max_four min_four   -- for this text's walks alone
set_option linter.unusedVariables false
set_option linter.unusedSimpArgs false

/-! ### impl_FDiv: function 21 -/
mutual
def impl_FDiv.j0 : Nat → Bool → Bool → Bool → Int → Int → Bool → Bool → Bool → Int → Int → Bool → Bool → Bool → Int → Int → Option (Int)
 | 0, _, _, _, _, _, _, _, _, _, _, _, _, _, _, _ => none
 | k + 1, x11, x12, x13, x264000, x264001, x275000, x275001, x275002, x275003, x275004, x276000, x276001, x276002, x276003, x276004 => if x275001 = true then (impl_FDiv.j1 k x11 x12 x13 true x264000 x264001 x275000 x275001 x275002 x275003 x275004 x276000 x276001 x276002 x276003 x276004) else (if x276001 = true then (impl_FDiv.j1 k x11 x12 x13 true x264000 x264001 x275000 x275001 x275002 x275003 x275004 x276000 x276001 x276002 x276003 x276004) else (if x275002 = true then (if x276002 = true then (impl_FDiv.j1 k x11 x12 x13 true x264000 x264001 x275000 x275001 x275002 x275003 x275004 x276000 x276001 x276002 x276003 x276004) else (if x12 = true then (impl_FDiv.j1 k x11 x12 x13 x13 x264000 x264001 x275000 x275001 x275002 x275003 x275004 x276000 x276001 x276002 x276003 x276004) else (impl_FDiv.j1 k x11 x12 x13 false x264000 x264001 x275000 x275001 x275002 x275003 x275004 x276000 x276001 x276002 x276003 x276004))) else (if x12 = true then (impl_FDiv.j1 k x11 x12 x13 x13 x264000 x264001 x275000 x275001 x275002 x275003 x275004 x276000 x276001 x276002 x276003 x276004) else (impl_FDiv.j1 k x11 x12 x13 false x264000 x264001 x275000 x275001 x275002 x275003 x275004 x276000 x276001 x276002 x276003 x276004))))
def impl_FDiv.j1 : Nat → Bool → Bool → Bool → Bool → Int → Int → Bool → Bool → Bool → Int → Int → Bool → Bool → Bool → Int → Int → Option (Int)
 | 0, _, _, _, _, _, _, _, _, _, _, _, _, _, _, _, _ => none
 | k + 1, x11, x12, x13, x50, x264000, x264001, x275000, x275001, x275002, x275003, x275004, x276000, x276001, x276002, x276003, x276004 => if x50 = true then ((impl_format_noNumber.f x264000 x264001).bind fun t276 => (some t276)) else (if x275002 = true then (impl_FDiv.j2 k x11 x12 true x264000 x264001 x275000 x275001 x275002 x275003 x275004 x276000 x276001 x276002 x276003 x276004) else (impl_FDiv.j2 k x11 x12 x13 x264000 x264001 x275000 x275001 x275002 x275003 x275004 x276000 x276001 x276002 x276003 x276004))
def impl_FDiv.j2 : Nat → Bool → Bool → Bool → Int → Int → Bool → Bool → Bool → Int → Int → Bool → Bool → Bool → Int → Int → Option (Int)
 | 0, _, _, _, _, _, _, _, _, _, _, _, _, _, _, _ => none
 | k + 1, x11, x12, x73, x264000, x264001, x275000, x275001, x275002, x275003, x275004, x276000, x276001, x276002, x276003, x276004 => if x73 = true then ((impl_format_infinite.f x264000 x264001 x11).bind fun t277 => (some t277)) else (if x276002 = true then (impl_FDiv.j3 k x11 true x264000 x264001 x275000 x275001 x275002 x275003 x275004 x276000 x276001 x276002 x276003 x276004) else (impl_FDiv.j3 k x11 x12 x264000 x264001 x275000 x275001 x275002 x275003 x275004 x276000 x276001 x276002 x276003 x276004))
def impl_FDiv.j3 : Nat → Bool → Bool → Int → Int → Bool → Bool → Bool → Int → Int → Bool → Bool → Bool → Int → Int → Option (Int)
 | 0, _, _, _, _, _, _, _, _, _, _, _, _, _, _ => none
 | k + 1, x11, x82, x264000, x264001, x275000, x275001, x275002, x275003, x275004, x276000, x276001, x276002, x276003, x276004 => if x82 = true then ((impl_format_signed.f x264000 x264001 x11 0).bind fun t278 => (some t278)) else ((bits_Len64.f x275003).bind fun t279 => (if 0 ≤ (wrap64 (60 - t279)) then (if x276003 = 0 then (none) else ((impl_format_round.f k x264000 x264001 x11 (IntKind.u64.wrap (Int.tdiv (shl .u64 x275003 (wrap64 (60 - t279))) x276003)) (wrap64 ((wrap64 (x275004 - (wrap64 (60 - t279)))) - x276004)) ((Int.tmod (shl .u64 x275003 (wrap64 (60 - t279))) x276003) != 0)).bind fun t280 => (some t280))) else (none)))
end
def impl_FDiv.f (k : Nat) (a0 : Int) (a1 : Int) (a2 : Int) : Option (Int) := (impl_formatOf.f a0).bind fun bt260 => (if bt260.2.2 = true then ((impl_format_open.f bt260.1 bt260.2.1 a1).bind fun bt264 => ((impl_format_open.f bt260.1 bt260.2.1 a2).bind fun bt269 => (if bt264.2.2.1 = true then (if bt269.2.2.1 = true then (impl_FDiv.j0 k (bt264.1 != bt269.1) false false bt260.1 bt260.2.1 bt264.1 bt264.2.1 bt264.2.2.1 bt264.2.2.2.1 bt264.2.2.2.2 bt269.1 bt269.2.1 bt269.2.2.1 bt269.2.2.2.1 bt269.2.2.2.2) else (impl_FDiv.j0 k (bt264.1 != bt269.1) false (bt269.2.2.2.1 == 0) bt260.1 bt260.2.1 bt264.1 bt264.2.1 bt264.2.2.1 bt264.2.2.2.1 bt264.2.2.2.2 bt269.1 bt269.2.1 bt269.2.2.1 bt269.2.2.2.1 bt269.2.2.2.2)) else (if bt269.2.2.1 = true then (impl_FDiv.j0 k (bt264.1 != bt269.1) (bt264.2.2.2.1 == 0) false bt260.1 bt260.2.1 bt264.1 bt264.2.1 bt264.2.2.1 bt264.2.2.2.1 bt264.2.2.2.2 bt269.1 bt269.2.1 bt269.2.2.1 bt269.2.2.2.1 bt269.2.2.2.2) else (impl_FDiv.j0 k (bt264.1 != bt269.1) (bt264.2.2.2.1 == 0) (bt269.2.2.2.1 == 0) bt260.1 bt260.2.1 bt264.1 bt264.2.1 bt264.2.2.1 bt264.2.2.2.1 bt264.2.2.2.2 bt269.1 bt269.2.1 bt269.2.2.1 bt269.2.2.2.1 bt269.2.2.2.2))))) else (some 0))
theorem impl_FDiv.mono_l : ∀ k, (∀ y0 y1 y2 y3 y4 y5 y6 y7 y8 y9 y10 y11 y12 y13 y14, LeO (impl_FDiv.j0 k y0 y1 y2 y3 y4 y5 y6 y7 y8 y9 y10 y11 y12 y13 y14) (impl_FDiv.j0 (k + 1) y0 y1 y2 y3 y4 y5 y6 y7 y8 y9 y10 y11 y12 y13 y14)) ∧ (∀ y0 y1 y2 y3 y4 y5 y6 y7 y8 y9 y10 y11 y12 y13 y14 y15, LeO (impl_FDiv.j1 k y0 y1 y2 y3 y4 y5 y6 y7 y8 y9 y10 y11 y12 y13 y14 y15) (impl_FDiv.j1 (k + 1) y0 y1 y2 y3 y4 y5 y6 y7 y8 y9 y10 y11 y12 y13 y14 y15)) ∧ (∀ y0 y1 y2 y3 y4 y5 y6 y7 y8 y9 y10 y11 y12 y13 y14, LeO (impl_FDiv.j2 k y0 y1 y2 y3 y4 y5 y6 y7 y8 y9 y10 y11 y12 y13 y14) (impl_FDiv.j2 (k + 1) y0 y1 y2 y3 y4 y5 y6 y7 y8 y9 y10 y11 y12 y13 y14)) ∧ (∀ y0 y1 y2 y3 y4 y5 y6 y7 y8 y9 y10 y11 y12 y13, LeO (impl_FDiv.j3 k y0 y1 y2 y3 y4 y5 y6 y7 y8 y9 y10 y11 y12 y13) (impl_FDiv.j3 (k + 1) y0 y1 y2 y3 y4 y5 y6 y7 y8 y9 y10 y11 y12 y13))
 | 0 => ⟨fun _ _ _ _ _ _ _ _ _ _ _ _ _ _ _ r h => by simp [impl_FDiv.j0] at h, fun _ _ _ _ _ _ _ _ _ _ _ _ _ _ _ _ r h => by simp [impl_FDiv.j1] at h, fun _ _ _ _ _ _ _ _ _ _ _ _ _ _ _ r h => by simp [impl_FDiv.j2] at h, fun _ _ _ _ _ _ _ _ _ _ _ _ _ _ r h => by simp [impl_FDiv.j3] at h⟩
 | k + 1 => by
  obtain ⟨ih0, ih1, ih2, ih3⟩ := impl_FDiv.mono_l k
  refine ⟨?_, ?_, ?_, ?_⟩
  ·
   intro y0 y1 y2 y3 y4 y5 y6 y7 y8 y9 y10 y11 y12 y13 y14
   unfold impl_FDiv.j0
   repeat' first
   | (with_reducible exact ih0 _ _ _ _ _ _ _ _ _ _ _ _ _ _ _)
   | (with_reducible exact ih1 _ _ _ _ _ _ _ _ _ _ _ _ _ _ _ _)
   | (with_reducible exact ih2 _ _ _ _ _ _ _ _ _ _ _ _ _ _ _)
   | (with_reducible exact ih3 _ _ _ _ _ _ _ _ _ _ _ _ _ _)
   | (with_reducible exact impl_format_round.mono _ _ _ _ _ _ _)
   | (with_reducible exact LeO.refl _)
   | (with_reducible exact LeO.none _)
   | (with_reducible refine LeO.ite ?_ ?_)
   | (with_reducible refine LeO.bind ?_ (fun _ => ?_))
   | exact ih0 _ _ _ _ _ _ _ _ _ _ _ _ _ _ _
   | exact ih1 _ _ _ _ _ _ _ _ _ _ _ _ _ _ _ _
   | exact ih2 _ _ _ _ _ _ _ _ _ _ _ _ _ _ _
   | exact ih3 _ _ _ _ _ _ _ _ _ _ _ _ _ _
   | exact impl_format_round.mono _ _ _ _ _ _ _
   | exact LeO.none _
   | refine LeO.ite ?_ ?_
   | refine LeO.bind ?_ (fun _ => ?_)
  ·
   intro y0 y1 y2 y3 y4 y5 y6 y7 y8 y9 y10 y11 y12 y13 y14 y15
   unfold impl_FDiv.j1
   repeat' first
   | (with_reducible exact ih0 _ _ _ _ _ _ _ _ _ _ _ _ _ _ _)
   | (with_reducible exact ih1 _ _ _ _ _ _ _ _ _ _ _ _ _ _ _ _)
   | (with_reducible exact ih2 _ _ _ _ _ _ _ _ _ _ _ _ _ _ _)
   | (with_reducible exact ih3 _ _ _ _ _ _ _ _ _ _ _ _ _ _)
   | (with_reducible exact impl_format_round.mono _ _ _ _ _ _ _)
   | (with_reducible exact LeO.refl _)
   | (with_reducible exact LeO.none _)
   | (with_reducible refine LeO.ite ?_ ?_)
   | (with_reducible refine LeO.bind ?_ (fun _ => ?_))
   | exact ih0 _ _ _ _ _ _ _ _ _ _ _ _ _ _ _
   | exact ih1 _ _ _ _ _ _ _ _ _ _ _ _ _ _ _ _
   | exact ih2 _ _ _ _ _ _ _ _ _ _ _ _ _ _ _
   | exact ih3 _ _ _ _ _ _ _ _ _ _ _ _ _ _
   | exact impl_format_round.mono _ _ _ _ _ _ _
   | exact LeO.none _
   | refine LeO.ite ?_ ?_
   | refine LeO.bind ?_ (fun _ => ?_)
  ·
   intro y0 y1 y2 y3 y4 y5 y6 y7 y8 y9 y10 y11 y12 y13 y14
   unfold impl_FDiv.j2
   repeat' first
   | (with_reducible exact ih0 _ _ _ _ _ _ _ _ _ _ _ _ _ _ _)
   | (with_reducible exact ih1 _ _ _ _ _ _ _ _ _ _ _ _ _ _ _ _)
   | (with_reducible exact ih2 _ _ _ _ _ _ _ _ _ _ _ _ _ _ _)
   | (with_reducible exact ih3 _ _ _ _ _ _ _ _ _ _ _ _ _ _)
   | (with_reducible exact impl_format_round.mono _ _ _ _ _ _ _)
   | (with_reducible exact LeO.refl _)
   | (with_reducible exact LeO.none _)
   | (with_reducible refine LeO.ite ?_ ?_)
   | (with_reducible refine LeO.bind ?_ (fun _ => ?_))
   | exact ih0 _ _ _ _ _ _ _ _ _ _ _ _ _ _ _
   | exact ih1 _ _ _ _ _ _ _ _ _ _ _ _ _ _ _ _
   | exact ih2 _ _ _ _ _ _ _ _ _ _ _ _ _ _ _
   | exact ih3 _ _ _ _ _ _ _ _ _ _ _ _ _ _
   | exact impl_format_round.mono _ _ _ _ _ _ _
   | exact LeO.none _
   | refine LeO.ite ?_ ?_
   | refine LeO.bind ?_ (fun _ => ?_)
  ·
   intro y0 y1 y2 y3 y4 y5 y6 y7 y8 y9 y10 y11 y12 y13
   unfold impl_FDiv.j3
   repeat' first
   | (with_reducible exact ih0 _ _ _ _ _ _ _ _ _ _ _ _ _ _ _)
   | (with_reducible exact ih1 _ _ _ _ _ _ _ _ _ _ _ _ _ _ _ _)
   | (with_reducible exact ih2 _ _ _ _ _ _ _ _ _ _ _ _ _ _ _)
   | (with_reducible exact ih3 _ _ _ _ _ _ _ _ _ _ _ _ _ _)
   | (with_reducible exact impl_format_round.mono _ _ _ _ _ _ _)
   | (with_reducible exact LeO.refl _)
   | (with_reducible exact LeO.none _)
   | (with_reducible refine LeO.ite ?_ ?_)
   | (with_reducible refine LeO.bind ?_ (fun _ => ?_))
   | exact ih0 _ _ _ _ _ _ _ _ _ _ _ _ _ _ _
   | exact ih1 _ _ _ _ _ _ _ _ _ _ _ _ _ _ _ _
   | exact ih2 _ _ _ _ _ _ _ _ _ _ _ _ _ _ _
   | exact ih3 _ _ _ _ _ _ _ _ _ _ _ _ _ _
   | exact impl_format_round.mono _ _ _ _ _ _ _
   | exact LeO.none _
   | refine LeO.ite ?_ ?_
   | refine LeO.bind ?_ (fun _ => ?_)
theorem impl_FDiv.mono : ∀ a0 a1 a2 k, LeO (impl_FDiv.f k a0 a1 a2) (impl_FDiv.f (k + 1) a0 a1 a2) := by
 intro a0 a1 a2 k
 obtain ⟨ih0, ih1, ih2, ih3⟩ := impl_FDiv.mono_l k
 unfold impl_FDiv.f
 repeat' first
   | (with_reducible exact ih0 _ _ _ _ _ _ _ _ _ _ _ _ _ _ _)
   | (with_reducible exact ih1 _ _ _ _ _ _ _ _ _ _ _ _ _ _ _ _)
   | (with_reducible exact ih2 _ _ _ _ _ _ _ _ _ _ _ _ _ _ _)
   | (with_reducible exact ih3 _ _ _ _ _ _ _ _ _ _ _ _ _ _)
   | (with_reducible exact impl_format_round.mono _ _ _ _ _ _ _)
   | (with_reducible exact LeO.refl _)
   | (with_reducible exact LeO.none _)
   | (with_reducible refine LeO.ite ?_ ?_)
   | (with_reducible refine LeO.bind ?_ (fun _ => ?_))
   | exact ih0 _ _ _ _ _ _ _ _ _ _ _ _ _ _ _
   | exact ih1 _ _ _ _ _ _ _ _ _ _ _ _ _ _ _ _
   | exact ih2 _ _ _ _ _ _ _ _ _ _ _ _ _ _ _
   | exact ih3 _ _ _ _ _ _ _ _ _ _ _ _ _ _
   | exact impl_format_round.mono _ _ _ _ _ _ _
   | exact LeO.none _
   | refine LeO.ite ?_ ?_
   | refine LeO.bind ?_ (fun _ => ?_)
def impl_FDiv.T4 : Bool × List (List Nat × List Nat) := (true, [([], []), ([], []), ([0, 1], [0, 1]), ([], []), ([], []), ([3, 4, 2], [3, 4]), ([], []), ([], []), ([6, 2, 5, 0, 1, 2, 6, 7], [2, 6]), ([7, 5, 8, 0, 1, 2, 3, 4, 5, 6, 7, 8], [5, 7])])
def impl_FDiv.B4 : List Nat := [0, 0, 3, 0, 0, 31, 0, 0, 255, 511]
theorem impl_FDiv.tab4 : rtab .any (opsOf Try.f21 4) = impl_FDiv.T4 := by kernel_rfl
theorem impl_FDiv.bits4 : waitsOk impl_FDiv.T4.2 impl_FDiv.B4 = true := by kernel_rfl
def impl_FDiv.T6 : Bool × List (List Nat × List Nat) := (true, [([], []), ([0], [0]), ([1], [1]), ([2], [2]), ([3], [3]), ([4, 3], [3, 4]), ([5, 3], [3, 5]), ([3, 6], [3, 6]), ([], []), ([8], [8]), ([9], [9]), ([10, 3], [10]), ([11], [11]), ([12, 11], [11, 12]), ([13, 11], [11, 13]), ([11, 14], [11, 14]), ([7, 11, 0, 1, 2, 3, 4, 5, 6, 7], [7]), ([15, 16, 0, 1, 2, 3, 4, 5, 6, 7, 8, 9, 10, 11, 12, 13, 14, 15, 16], [15])])
def impl_FDiv.B6 : List Nat := [0, 1, 3, 7, 15, 31, 63, 127, 0, 256, 768, 1807, 3855, 7951, 16143, 32527, 4095, 131071]
theorem impl_FDiv.tab6 : rtab .any (opsOf Try.f21 6) = impl_FDiv.T6 := by kernel_rfl
theorem impl_FDiv.bits6 : waitsOk impl_FDiv.T6.2 impl_FDiv.B6 = true := by kernel_rfl
def impl_FDiv.T15 : Bool × List (List Nat × List Nat) := (true, [([], []), ([], []), ([], []), ([], []), ([3], [3]), ([2, 4], [2, 4]), ([], []), ([6], [6]), ([], []), ([7, 8], [7, 8]), ([], []), ([10], [10]), ([9, 11], [9, 11]), ([], []), ([], []), ([14], [14]), ([13, 15], [13, 15]), ([16], [16]), ([0, 1, 5, 12, 17], [0, 1, 5, 12, 17]), ([18, 18, 0, 1, 2, 3, 4, 5, 6, 7, 8, 9, 10, 11, 12, 13, 14, 15, 16, 17, 18], [18])])
def impl_FDiv.B15 : List Nat := [0, 0, 0, 0, 8, 28, 0, 64, 0, 448, 0, 1024, 4032, 0, 0, 16384, 57344, 122880, 262143, 524287]
theorem impl_FDiv.tab15 : rtab .any (opsOf Try.f21 15) = impl_FDiv.T15 := by kernel_rfl
theorem impl_FDiv.bits15 : waitsOk impl_FDiv.T15.2 impl_FDiv.B15 = true := by kernel_rfl
set_option maxHeartbeats 8000000 in
set_option maxRecDepth 100000 in
theorem impl_FDiv.calls (k : Nat) (a0 : Int) (a1 : Int) (a2 : Int) (r : Int) (w : World) (h : impl_FDiv.f k a0 a1 a2 = some r) :
  Calls Try.prog 21 #[.int .i64 a0, .int .u32 a1, .int .u32 a2] w fun e w' => e = .returned (.int .u32 r) ∧ Below w.heap.size w w' := by
 have hu62 := Try.underlying62
 have hu66 := Try.underlying66
 have HB := Aside0.mk (Below.refl w.heap.size w)
 have H : ((impl_formatOf.f a0).bind fun bt260 => (if bt260.2.2 = true then ((impl_format_open.f bt260.1 bt260.2.1 a1).bind fun bt264 => ((impl_format_open.f bt260.1 bt260.2.1 a2).bind fun bt269 => (if bt264.2.2.1 = true then (if bt269.2.2.1 = true then (impl_FDiv.j0 k (bt264.1 != bt269.1) false false bt260.1 bt260.2.1 bt264.1 bt264.2.1 bt264.2.2.1 bt264.2.2.2.1 bt264.2.2.2.2 bt269.1 bt269.2.1 bt269.2.2.1 bt269.2.2.2.1 bt269.2.2.2.2) else (impl_FDiv.j0 k (bt264.1 != bt269.1) false (bt269.2.2.2.1 == 0) bt260.1 bt260.2.1 bt264.1 bt264.2.1 bt264.2.2.1 bt264.2.2.2.1 bt264.2.2.2.2 bt269.1 bt269.2.1 bt269.2.2.1 bt269.2.2.2.1 bt269.2.2.2.2)) else (if bt269.2.2.1 = true then (impl_FDiv.j0 k (bt264.1 != bt269.1) (bt264.2.2.2.1 == 0) false bt260.1 bt260.2.1 bt264.1 bt264.2.1 bt264.2.2.1 bt264.2.2.2.1 bt264.2.2.2.2 bt269.1 bt269.2.1 bt269.2.2.1 bt269.2.2.2.1 bt269.2.2.2.2) else (impl_FDiv.j0 k (bt264.1 != bt269.1) (bt264.2.2.2.1 == 0) (bt269.2.2.2.1 == 0) bt260.1 bt260.2.1 bt264.1 bt264.2.1 bt264.2.2.1 bt264.2.2.2.1 bt264.2.2.2.2 bt269.1 bt269.2.1 bt269.2.2.1 bt269.2.2.2.1 bt269.2.2.2.2))))) else (some 0))) = some r := h
 clear h
 replace H := Option.bind_eq_some_iff.mp H
 obtain ⟨⟨t260, t261, t262⟩, A40, H⟩ := H
 replace H : (if t262 = true then ((impl_format_open.f t260 t261 a1).bind fun bt264 => ((impl_format_open.f t260 t261 a2).bind fun bt269 => (if bt264.2.2.1 = true then (if bt269.2.2.1 = true then (impl_FDiv.j0 k (bt264.1 != bt269.1) false false t260 t261 bt264.1 bt264.2.1 bt264.2.2.1 bt264.2.2.2.1 bt264.2.2.2.2 bt269.1 bt269.2.1 bt269.2.2.1 bt269.2.2.2.1 bt269.2.2.2.2) else (impl_FDiv.j0 k (bt264.1 != bt269.1) false (bt269.2.2.2.1 == 0) t260 t261 bt264.1 bt264.2.1 bt264.2.2.1 bt264.2.2.2.1 bt264.2.2.2.2 bt269.1 bt269.2.1 bt269.2.2.1 bt269.2.2.2.1 bt269.2.2.2.2)) else (if bt269.2.2.1 = true then (impl_FDiv.j0 k (bt264.1 != bt269.1) (bt264.2.2.2.1 == 0) false t260 t261 bt264.1 bt264.2.1 bt264.2.2.1 bt264.2.2.2.1 bt264.2.2.2.2 bt269.1 bt269.2.1 bt269.2.2.1 bt269.2.2.2.1 bt269.2.2.2.2) else (impl_FDiv.j0 k (bt264.1 != bt269.1) (bt264.2.2.2.1 == 0) (bt269.2.2.2.1 == 0) t260 t261 bt264.1 bt264.2.1 bt264.2.2.1 bt264.2.2.2.1 bt264.2.2.2.2 bt269.1 bt269.2.1 bt269.2.2.1 bt269.2.2.2.1 bt269.2.2.2.2))))) else (some 0)) = some r := H
 have A4 := Aside0.mk A40
 clear A40
 by_cases c5 : t262 = true
 ·
  subst c5
  have H1 : ((impl_format_open.f t260 t261 a1).bind fun bt264 => ((impl_format_open.f t260 t261 a2).bind fun bt269 => (if bt264.2.2.1 = true then (if bt269.2.2.1 = true then (impl_FDiv.j0 k (bt264.1 != bt269.1) false false t260 t261 bt264.1 bt264.2.1 bt264.2.2.1 bt264.2.2.2.1 bt264.2.2.2.2 bt269.1 bt269.2.1 bt269.2.2.1 bt269.2.2.2.1 bt269.2.2.2.2) else (impl_FDiv.j0 k (bt264.1 != bt269.1) false (bt269.2.2.2.1 == 0) t260 t261 bt264.1 bt264.2.1 bt264.2.2.1 bt264.2.2.2.1 bt264.2.2.2.2 bt269.1 bt269.2.1 bt269.2.2.1 bt269.2.2.2.1 bt269.2.2.2.2)) else (if bt269.2.2.1 = true then (impl_FDiv.j0 k (bt264.1 != bt269.1) (bt264.2.2.2.1 == 0) false t260 t261 bt264.1 bt264.2.1 bt264.2.2.1 bt264.2.2.2.1 bt264.2.2.2.2 bt269.1 bt269.2.1 bt269.2.2.1 bt269.2.2.2.1 bt269.2.2.2.2) else (impl_FDiv.j0 k (bt264.1 != bt269.1) (bt264.2.2.2.1 == 0) (bt269.2.2.2.1 == 0) t260 t261 bt264.1 bt264.2.1 bt264.2.2.1 bt264.2.2.2.1 bt264.2.2.2.2 bt269.1 bt269.2.1 bt269.2.2.1 bt269.2.2.2.1 bt269.2.2.2.2))))) = some r := by rw [if_pos rfl] at H; exact H
  clear H
  have H := H1
  clear H1
  replace H := Option.bind_eq_some_iff.mp H
  obtain ⟨⟨t264, t265, t266, t267, t268⟩, A60, H⟩ := H
  replace H : ((impl_format_open.f t260 t261 a2).bind fun bt269 => (if t266 = true then (if bt269.2.2.1 = true then (impl_FDiv.j0 k (t264 != bt269.1) false false t260 t261 t264 t265 t266 t267 t268 bt269.1 bt269.2.1 bt269.2.2.1 bt269.2.2.2.1 bt269.2.2.2.2) else (impl_FDiv.j0 k (t264 != bt269.1) false (bt269.2.2.2.1 == 0) t260 t261 t264 t265 t266 t267 t268 bt269.1 bt269.2.1 bt269.2.2.1 bt269.2.2.2.1 bt269.2.2.2.2)) else (if bt269.2.2.1 = true then (impl_FDiv.j0 k (t264 != bt269.1) (t267 == 0) false t260 t261 t264 t265 t266 t267 t268 bt269.1 bt269.2.1 bt269.2.2.1 bt269.2.2.2.1 bt269.2.2.2.2) else (impl_FDiv.j0 k (t264 != bt269.1) (t267 == 0) (bt269.2.2.2.1 == 0) t260 t261 t264 t265 t266 t267 t268 bt269.1 bt269.2.1 bt269.2.2.1 bt269.2.2.2.1 bt269.2.2.2.2)))) = some r := H
  have A6 := Aside0.mk A60
  clear A60
  replace H := Option.bind_eq_some_iff.mp H
  obtain ⟨⟨t269, t270, t271, t272, t273⟩, A70, H⟩ := H
  replace H : (if t266 = true then (if t271 = true then (impl_FDiv.j0 k (t264 != t269) false false t260 t261 t264 t265 t266 t267 t268 t269 t270 t271 t272 t273) else (impl_FDiv.j0 k (t264 != t269) false (t272 == 0) t260 t261 t264 t265 t266 t267 t268 t269 t270 t271 t272 t273)) else (if t271 = true then (impl_FDiv.j0 k (t264 != t269) (t267 == 0) false t260 t261 t264 t265 t266 t267 t268 t269 t270 t271 t272 t273) else (impl_FDiv.j0 k (t264 != t269) (t267 == 0) (t272 == 0) t260 t261 t264 t265 t266 t267 t268 t269 t270 t271 t272 t273))) = some r := H
  have A7 := Aside0.mk A70
  clear A70
  have HC8 := Aside0.mk H
  clear H
  go_enter Try.func21, Try.ntmps21
  try go_wp2_with (first | ((with_reducible refine gate_callee (f := 51) rfl ?_); refine goesL_ (some 18) rfl rfl Try.func51 (by kernel_rfl) rfl #[.int .i64 a0] rfl (by (try simp only [List.map_toArray, List.map_cons, List.map_nil]); first | done | rfl | (simp only [List.length_drop, List.length_take]; rfl)) ?_; (with_reducible refine (impl_formatOf.calls a0 t260 t261 true _ A4.out).mono ?_); rintro e w9 ⟨rfl, hb⟩; refine ⟨_, rfl, ?_⟩; have n0_ := Aside0.mk (below_step (by repeat (first | (with_reducible first | exact HB.out | apply below_alloc | apply pw_below_drewN | apply below_drew1) | exact HB.out)) hb); clear HB; have HB := n0_; clear n0_; (try clear hb); (try clear hb2); (try clear hk); (try clear hi)) | ((with_reducible refine gate_dst (N := 7) rfl ?_); refine box_event ?hg (N := 7) ?hd (cs := #[.int .i64 0, .int .i64 0]) (t := 62) ?hr ?_; (case hd => rfl); (case hg => rfl); (case hr => first | (go_simp; done) | (go_simp; rfl)); intro gb263 hg w10 hbox hb; have n0_ := Aside0.mk (below_step (by repeat (first | (with_reducible first | exact HB.out | apply below_alloc | apply pw_below_drewN | apply below_drew1) | exact HB.out)) hb); have n1_ := Aside0.mk (hbox); have n2_ := Aside0.mk ((by rw [hg]; exact (below_size (by repeat (first | (with_reducible first | exact HB.out | apply below_alloc | apply pw_below_drewN | apply below_drew1) | exact HB.out))) : w.heap.size ≤ gb263)); have n3_ := Aside0.mk ((by rw [hg]; exact (below_size (by repeat (first | (with_reducible first | exact HB.out | apply below_alloc | apply pw_below_drewN | apply below_drew1) | exact HB.out))) : w.heap.size ≤ gb263)); clear HB; have HB := n0_; have BK263 := n1_; have GW263 := n2_; have GE263 := n3_; clear n0_ n1_ n2_ n3_; clear hb hbox hg; have hcz11_0 : w10.cell? ⟨gb263, 0, none⟩ = some (.int .i64 0) := (blk_cell BK263.out 0).trans rfl; have hcz11_1 : w10.cell? ⟨gb263, 1, none⟩ = some (.int .i64 0) := (blk_cell BK263.out 1).trans rfl; have hfz11_0 := blk_frozen BK263.out 0; have hfz11_1 := blk_frozen BK263.out 1))
  have n0_ : Aside0 (((w10.setCell ⟨gb263, 0, none⟩ (.int .i64 t260)).setCell ⟨gb263, 1, none⟩ (.int .i64 t261)).heap[gb263]? = some (.cells #[.int .i64 t260, .int .i64 t261] 62 (0, 0))) := ⟨by (with_reducible repeat (first | refine blk_drewN ?_ _ | refine blk_drew ?_ | refine blk_alloc ?_ _)); refine blk_put (cs := #[.int .i64 t260, .int .i64 0]) ?_ 1 _ rfl; (with_reducible repeat (first | refine blk_drewN ?_ _ | refine blk_drew ?_ | refine blk_alloc ?_ _)); refine blk_put (cs := #[.int .i64 0, .int .i64 0]) ?_ 0 _ rfl; (with_reducible repeat (first | refine blk_drewN ?_ _ | refine blk_drew ?_ | refine blk_alloc ?_ _)); exact BK263.out⟩
  have n1_ : Aside0 (Below w.heap.size w ((w10.setCell ⟨gb263, 0, none⟩ (.int .i64 t260)).setCell ⟨gb263, 1, none⟩ (.int .i64 t261))) := ⟨by repeat (first | (with_reducible first | exact HB.out | apply below_alloc | apply pw_below_drewN | apply below_drew1 | refine below_set ?_ GE263.out) | exact HB.out)⟩
  (try clear BK263)
  (try clear HB)
  generalize ((w10.setCell ⟨gb263, 0, none⟩ (.int .i64 t260)).setCell ⟨gb263, 1, none⟩ (.int .i64 t261)) = w12 at n0_ n1_ ⊢
  have BK263 := n0_
  have HB := n1_
  clear n0_ n1_
  have n0_ := Aside0.mk (blk_drew BK263.out)
  have n1_ := Aside0.mk (below_drew1 HB.out)
  clear BK263
  clear HB
  have BK263 := n0_
  have HB := n1_
  clear n0_ n1_
  refine start_ (n := 10) (S := fun w' => w'.cell? ⟨gb263, 0, none⟩ = some (.int .i64 t260) ∧ w'.cell? ⟨gb263, 1, none⟩ = some (.int .i64 t261)) (ds := []) #[false, false, false, false, false, false, false, false, false, false] (by kernel_rfl) rfl rfl ⟨(blk_cell BK263.out 0).trans rfl, (blk_cell BK263.out 1).trans rfl⟩ (fun hHeld => ?_); refine with_tabW impl_FDiv.tab4 impl_FDiv.bits4 (fun HT_ HW_ => ?_)
  generalize w12.drew = w13 at BK263 HB hHeld ⊢
  refine pure_ (i := 1) (N := some 24) (v := ?_) (a' := ?_) #[false, true, false, false, false, false, false, false, false, false] rfl rfl (any_of HT_.out (by kernel_rfl)) (fun _ _ _ h => h) (Or.inl ⟨by rfl, ?_⟩) ?_ ?_
  rotate_left
  ·
   intro w'
   go_simp
   with_reducible rfl
  rotate_left
  ·
   simp only [Act.put, List.setIfInBounds_toArray, List.set_cons_zero, List.set_cons_succ, i64_w, i32_w]
   rfl
  refine pure_ (i := 4) (N := some 27) (v := ?_) (a' := ?_) #[false, true, false, false, true, false, false, false, false, false] rfl rfl (any_of HT_.out (by kernel_rfl)) (fun _ _ _ h => h) (Or.inl ⟨by rfl, ?_⟩) ?_ ?_
  rotate_left
  ·
   intro w'
   go_simp
   with_reducible rfl
  rotate_left
  ·
   simp only [Act.put, List.setIfInBounds_toArray, List.set_cons_zero, List.set_cons_succ, i64_w, i32_w]
   rfl
  refine take_ (i := 0) (N := some 23) (v := ?_) (a' := ?_) #[true, true, false, false, true, false, false, false, false, false] rfl rfl (take_ofW HT_.out HW_.out (by kernel_rfl)) (fun _ _ _ h => h) (Or.inl ⟨by rfl, ?_⟩) hHeld ?_ ?_
  rotate_left
  ·
   rintro w' ⟨s0, s1⟩
   go_simp
   with_reducible rfl
  rotate_left
  ·
   simp only [Act.put, List.setIfInBounds_toArray, List.set_cons_zero, List.set_cons_succ, i64_w, i32_w]
   rfl
  refine take_ (i := 3) (N := some 26) (v := ?_) (a' := ?_) #[true, true, false, true, true, false, false, false, false, false] rfl rfl (take_ofW HT_.out HW_.out (by kernel_rfl)) (fun _ _ _ h => h) (Or.inl ⟨by rfl, ?_⟩) hHeld ?_ ?_
  rotate_left
  ·
   rintro w' ⟨s0, s1⟩
   go_simp
   with_reducible rfl
  rotate_left
  ·
   simp only [Act.put, List.setIfInBounds_toArray, List.set_cons_zero, List.set_cons_succ, i64_w, i32_w]
   rfl
  refine join_ (σ := Nat × Nat) 2 #[true, true, true, true, true, true, true, true, false, false] (fun s_ => [(25, .agg #[.bool t264, .bool t265, .bool t266, .int .u64 t267, .int .i64 t268]), (28, .agg #[.bool t269, .bool t270, .bool t271, .int .u64 t272, .int .i64 t273]), (9, .pointer (some ⟨s_.1, 0, none⟩)), (10, .pointer (some ⟨s_.2, 0, none⟩))]) (fun s_ w' => (w'.cell? ⟨gb263, 0, none⟩ = some (.int .i64 t260) ∧ w'.cell? ⟨gb263, 1, none⟩ = some (.int .i64 t261)) ∧ (w'.heap[gb263]? = some (.cells #[.int .i64 t260, .int .i64 t261] 62 (0, 0))) ∧ (w'.heap[s_.1]? = some (.cells #[.bool false, .bool false, .bool false, .int .u64 0, .int .i64 0] 66 (0, 0))) ∧ (w'.heap[s_.2]? = some (.cells #[.bool false, .bool false, .bool false, .int .u64 0, .int .i64 0] 66 (0, 0))) ∧ (w.heap.size ≤ s_.1) ∧ (w.heap.size ≤ s_.1) ∧ (gb263 ≠ s_.1) ∧ (s_.1 ≠ gb263) ∧ (s_.2 ≠ s_.1) ∧ (s_.1 ≠ s_.2) ∧ (w.heap.size ≤ s_.2) ∧ (w.heap.size ≤ s_.2) ∧ (gb263 ≠ s_.2) ∧ (s_.2 ≠ gb263) ∧ (Below w.heap.size w w')) ?_ ?_
  rotate_left
  ·
   intro hJ2_5_6_7
   refine join_ (σ := Nat) 3 #[true, true, true, true, true, true, true, false, false, false] (fun s_ => [(25, .agg #[.bool t264, .bool t265, .bool t266, .int .u64 t267, .int .i64 t268]), (28, .agg #[.bool t269, .bool t270, .bool t271, .int .u64 t272, .int .i64 t273]), (9, .pointer (some ⟨s_, 0, none⟩))]) (fun s_ w' => (w'.cell? ⟨gb263, 0, none⟩ = some (.int .i64 t260) ∧ w'.cell? ⟨gb263, 1, none⟩ = some (.int .i64 t261)) ∧ (w'.heap[gb263]? = some (.cells #[.int .i64 t260, .int .i64 t261] 62 (0, 0))) ∧ (w'.heap[s_]? = some (.cells #[.bool false, .bool false, .bool false, .int .u64 0, .int .i64 0] 66 (0, 0))) ∧ (w.heap.size ≤ s_) ∧ (w.heap.size ≤ s_) ∧ (gb263 ≠ s_) ∧ (s_ ≠ gb263) ∧ (Below w.heap.size w w')) ?_ ?_
   rotate_left
   ·
    intro hJ2_5_6
    refine join_ (σ := Nat) 3 #[true, true, true, true, true, true, false, true, false, false] (fun s_ => [(25, .agg #[.bool t264, .bool t265, .bool t266, .int .u64 t267, .int .i64 t268]), (28, .agg #[.bool t269, .bool t270, .bool t271, .int .u64 t272, .int .i64 t273]), (10, .pointer (some ⟨s_, 0, none⟩))]) (fun s_ w' => (w'.cell? ⟨gb263, 0, none⟩ = some (.int .i64 t260) ∧ w'.cell? ⟨gb263, 1, none⟩ = some (.int .i64 t261)) ∧ (w'.heap[gb263]? = some (.cells #[.int .i64 t260, .int .i64 t261] 62 (0, 0))) ∧ (w'.heap[s_]? = some (.cells #[.bool false, .bool false, .bool false, .int .u64 0, .int .i64 0] 66 (0, 0))) ∧ (w.heap.size ≤ s_) ∧ (w.heap.size ≤ s_) ∧ (gb263 ≠ s_) ∧ (s_ ≠ gb263) ∧ (Below w.heap.size w w')) ?_ ?_
    rotate_left
    ·
     intro hJ2_5_7
     refine join_ (σ := Nat × Nat) 3 #[true, true, true, true, true, false, true, true, false, false] (fun s_ => [(25, .agg #[.bool t264, .bool t265, .bool t266, .int .u64 t267, .int .i64 t268]), (9, .pointer (some ⟨s_.1, 0, none⟩)), (10, .pointer (some ⟨s_.2, 0, none⟩))]) (fun s_ w' => (w'.cell? ⟨gb263, 0, none⟩ = some (.int .i64 t260) ∧ w'.cell? ⟨gb263, 1, none⟩ = some (.int .i64 t261)) ∧ (w'.heap[gb263]? = some (.cells #[.int .i64 t260, .int .i64 t261] 62 (0, 0))) ∧ (w'.heap[s_.1]? = some (.cells #[.bool false, .bool false, .bool false, .int .u64 0, .int .i64 0] 66 (0, 0))) ∧ (w'.heap[s_.2]? = some (.cells #[.bool false, .bool false, .bool false, .int .u64 0, .int .i64 0] 66 (0, 0))) ∧ (w.heap.size ≤ s_.1) ∧ (w.heap.size ≤ s_.1) ∧ (gb263 ≠ s_.1) ∧ (s_.1 ≠ gb263) ∧ (s_.2 ≠ s_.1) ∧ (s_.1 ≠ s_.2) ∧ (w.heap.size ≤ s_.2) ∧ (w.heap.size ≤ s_.2) ∧ (gb263 ≠ s_.2) ∧ (s_.2 ≠ gb263) ∧ (Below w.heap.size w w')) ?_ ?_
     rotate_left
     ·
      intro hJ2_6_7
      refine join_ (σ := Unit) 4 #[true, true, true, true, true, true, false, false, false, false] (fun s_ => [(25, .agg #[.bool t264, .bool t265, .bool t266, .int .u64 t267, .int .i64 t268]), (28, .agg #[.bool t269, .bool t270, .bool t271, .int .u64 t272, .int .i64 t273])]) (fun s_ w' => (w'.cell? ⟨gb263, 0, none⟩ = some (.int .i64 t260) ∧ w'.cell? ⟨gb263, 1, none⟩ = some (.int .i64 t261)) ∧ (w'.heap[gb263]? = some (.cells #[.int .i64 t260, .int .i64 t261] 62 (0, 0))) ∧ (Below w.heap.size w w')) ?_ ?_
      rotate_left
      ·
       intro hJ2_5
       refine join_ (σ := Nat) 4 #[true, true, true, true, true, false, true, false, false, false] (fun s_ => [(25, .agg #[.bool t264, .bool t265, .bool t266, .int .u64 t267, .int .i64 t268]), (9, .pointer (some ⟨s_, 0, none⟩))]) (fun s_ w' => (w'.cell? ⟨gb263, 0, none⟩ = some (.int .i64 t260) ∧ w'.cell? ⟨gb263, 1, none⟩ = some (.int .i64 t261)) ∧ (w'.heap[gb263]? = some (.cells #[.int .i64 t260, .int .i64 t261] 62 (0, 0))) ∧ (w'.heap[s_]? = some (.cells #[.bool false, .bool false, .bool false, .int .u64 0, .int .i64 0] 66 (0, 0))) ∧ (w.heap.size ≤ s_) ∧ (w.heap.size ≤ s_) ∧ (gb263 ≠ s_) ∧ (s_ ≠ gb263) ∧ (Below w.heap.size w w')) ?_ ?_
       rotate_left
       ·
        intro hJ2_6
        refine join_ (σ := Nat) 4 #[true, true, true, true, true, false, false, true, false, false] (fun s_ => [(25, .agg #[.bool t264, .bool t265, .bool t266, .int .u64 t267, .int .i64 t268]), (10, .pointer (some ⟨s_, 0, none⟩))]) (fun s_ w' => (w'.cell? ⟨gb263, 0, none⟩ = some (.int .i64 t260) ∧ w'.cell? ⟨gb263, 1, none⟩ = some (.int .i64 t261)) ∧ (w'.heap[gb263]? = some (.cells #[.int .i64 t260, .int .i64 t261] 62 (0, 0))) ∧ (w'.heap[s_]? = some (.cells #[.bool false, .bool false, .bool false, .int .u64 0, .int .i64 0] 66 (0, 0))) ∧ (w.heap.size ≤ s_) ∧ (w.heap.size ≤ s_) ∧ (gb263 ≠ s_) ∧ (s_ ≠ gb263) ∧ (Below w.heap.size w w')) ?_ ?_
        rotate_left
        ·
         intro hJ2_7
         refine join_ (σ := Nat × Nat) 4 #[true, true, false, true, true, false, true, true, false, false] (fun s_ => [(9, .pointer (some ⟨s_.1, 0, none⟩)), (10, .pointer (some ⟨s_.2, 0, none⟩))]) (fun s_ w' => (w'.cell? ⟨gb263, 0, none⟩ = some (.int .i64 t260) ∧ w'.cell? ⟨gb263, 1, none⟩ = some (.int .i64 t261)) ∧ (w'.heap[gb263]? = some (.cells #[.int .i64 t260, .int .i64 t261] 62 (0, 0))) ∧ (w'.heap[s_.1]? = some (.cells #[.bool false, .bool false, .bool false, .int .u64 0, .int .i64 0] 66 (0, 0))) ∧ (w'.heap[s_.2]? = some (.cells #[.bool false, .bool false, .bool false, .int .u64 0, .int .i64 0] 66 (0, 0))) ∧ (w.heap.size ≤ s_.1) ∧ (w.heap.size ≤ s_.1) ∧ (gb263 ≠ s_.1) ∧ (s_.1 ≠ gb263) ∧ (s_.2 ≠ s_.1) ∧ (s_.1 ≠ s_.2) ∧ (w.heap.size ≤ s_.2) ∧ (w.heap.size ≤ s_.2) ∧ (gb263 ≠ s_.2) ∧ (s_.2 ≠ gb263) ∧ (Below w.heap.size w w')) ?_ ?_
         rotate_left
         ·
          intro hJ6_7
          refine join_ (σ := Unit) 5 #[true, true, true, true, true, false, false, false, false, false] (fun s_ => [(25, .agg #[.bool t264, .bool t265, .bool t266, .int .u64 t267, .int .i64 t268])]) (fun s_ w' => (w'.cell? ⟨gb263, 0, none⟩ = some (.int .i64 t260) ∧ w'.cell? ⟨gb263, 1, none⟩ = some (.int .i64 t261)) ∧ (w'.heap[gb263]? = some (.cells #[.int .i64 t260, .int .i64 t261] 62 (0, 0))) ∧ (Below w.heap.size w w')) ?_ ?_
          rotate_left
          ·
           intro hJ2
           refine join_ (σ := Nat) 5 #[true, true, false, true, true, false, true, false, false, false] (fun s_ => [(9, .pointer (some ⟨s_, 0, none⟩))]) (fun s_ w' => (w'.cell? ⟨gb263, 0, none⟩ = some (.int .i64 t260) ∧ w'.cell? ⟨gb263, 1, none⟩ = some (.int .i64 t261)) ∧ (w'.heap[gb263]? = some (.cells #[.int .i64 t260, .int .i64 t261] 62 (0, 0))) ∧ (w'.heap[s_]? = some (.cells #[.bool false, .bool false, .bool false, .int .u64 0, .int .i64 0] 66 (0, 0))) ∧ (w.heap.size ≤ s_) ∧ (w.heap.size ≤ s_) ∧ (gb263 ≠ s_) ∧ (s_ ≠ gb263) ∧ (Below w.heap.size w w')) ?_ ?_
           rotate_left
           ·
            intro hJ6
            refine join_ (σ := Nat) 5 #[true, true, false, true, true, false, false, true, false, false] (fun s_ => [(10, .pointer (some ⟨s_, 0, none⟩))]) (fun s_ w' => (w'.cell? ⟨gb263, 0, none⟩ = some (.int .i64 t260) ∧ w'.cell? ⟨gb263, 1, none⟩ = some (.int .i64 t261)) ∧ (w'.heap[gb263]? = some (.cells #[.int .i64 t260, .int .i64 t261] 62 (0, 0))) ∧ (w'.heap[s_]? = some (.cells #[.bool false, .bool false, .bool false, .int .u64 0, .int .i64 0] 66 (0, 0))) ∧ (w.heap.size ≤ s_) ∧ (w.heap.size ≤ s_) ∧ (gb263 ≠ s_) ∧ (s_ ≠ gb263) ∧ (Below w.heap.size w w')) ?_ ?_
            rotate_left
            ·
             intro hJ7
             refine three_ (i := 2) (j := 6) (k := 7) (Ni := some 25) (Nj := some 9) (Nk := some 10) #[true, true, true, true, true, false, false, false, false, false] #[true, true, false, true, true, false, true, false, false, false] #[true, true, false, true, true, false, false, true, false, false] rfl rfl rfl rfl rfl rfl (three_of HT_.out (by kernel_rfl)) (by decide) (by decide) (by decide) (fun K hK => ?_) (fun K hK => ?_) (fun K hK => ?_)
             ·
              skip
              refine goes_ Try.func52 (by kernel_rfl) rfl #[.agg #[.int .i64 t260, .int .i64 t261], .int .u32 a1] (by rfl) rfl rfl (by (try simp only [List.map_toArray, List.map_cons, List.map_nil]); first | done | rfl | (simp only [List.length_drop, List.length_take]; rfl)) ?_
              with_reducible refine (impl_format_open.calls t260 t261 a1 t264 t265 t266 t267 t268 _ A6.out).mono ?_
              rintro e w14 ⟨rfl, hb⟩
              refine ⟨_, rfl, ?_⟩
              have n0_ := Aside0.mk (blk_below (g := gb263) (o := .cells #[.int .i64 t260, .int .i64 t261] 62 (0, 0)) (by (with_reducible repeat (first | refine blk_drewN ?_ _ | refine blk_drew ?_ | refine blk_alloc ?_ _)); exact BK263.out) hb)
              have n1_ := Aside0.mk (below_step (by repeat (first | (with_reducible first | exact HB.out | apply below_alloc | apply pw_below_drewN | apply below_drew1 | refine below_set ?_ GE263.out) | exact HB.out)) hb)
              clear BK263
              clear HB
              have BK263 := n0_
              have HB := n1_
              clear n0_ n1_
              (try clear hb)
              (try clear hb2)
              (try clear hk)
              (try clear hi)
              refine hK.out _ _ ⟨(blk_cell BK263.out 0).trans rfl, (blk_cell BK263.out 1).trans rfl⟩ (fun hHeld => ?_)
              clear hK K
              refine norm_ (a' := ?_) ?_ ?_
              rotate_left
              ·
               show Act.put _ (some 25) _ = _
               simp only [Act.put, List.setIfInBounds_toArray, List.set_cons_zero, List.set_cons_succ, i64_w, i32_w]
               rfl
              exact norm_ (by first | (simp only [putAll, Act.put, List.setIfInBounds_toArray, List.set_cons_zero, List.set_cons_succ]; done) | (simp only [putAll, Act.put, List.setIfInBounds_toArray, List.set_cons_zero, List.set_cons_succ]; rfl)) (hJ2 () _ ⟨hHeld, (by (with_reducible repeat (first | refine blk_drewN ?_ _ | refine blk_drew ?_ | refine blk_alloc ?_ _)); exact BK263.out), (by repeat (first | (with_reducible first | exact HB.out | apply below_alloc | apply pw_below_drewN | apply below_drew1 | refine below_set ?_ GE263.out) | exact HB.out))⟩)
             ·
              skip
              refine box_step ?hg (N := 9) ?hd (cs := #[.bool false, .bool false, .bool false, .int .u64 0, .int .i64 0]) (t := 66) ?hr ?_; (case hd => rfl); (case hg => rfl); (case hr => first | (go_simp; done) | (go_simp; rfl))
              intro gb274 hg w14 hbox hb
              have n0_ := Aside0.mk (blk_below (g := gb263) (o := .cells #[.int .i64 t260, .int .i64 t261] 62 (0, 0)) (by (with_reducible repeat (first | refine blk_drewN ?_ _ | refine blk_drew ?_ | refine blk_alloc ?_ _)); exact BK263.out) hb)
              have n1_ := Aside0.mk (below_step (by repeat (first | (with_reducible first | exact HB.out | apply below_alloc | apply pw_below_drewN | apply below_drew1 | refine below_set ?_ GE263.out) | exact HB.out)) hb)
              have n2_ := Aside0.mk (hbox)
              have n3_ := Aside0.mk ((by rw [hg]; exact (below_size (by repeat (first | (with_reducible first | exact HB.out | apply below_alloc | apply pw_below_drewN | apply below_drew1 | refine below_set ?_ GE263.out) | exact HB.out))) : w.heap.size ≤ gb274))
              have n4_ := Aside0.mk ((by rw [hg]; exact (below_size (by repeat (first | (with_reducible first | exact HB.out | apply below_alloc | apply pw_below_drewN | apply below_drew1 | refine below_set ?_ GE263.out) | exact HB.out))) : w.heap.size ≤ gb274))
              have n5_ := Aside0.mk ((by rw [hg]; exact Nat.ne_of_lt (blk_lt (g := gb263) (o := .cells #[.int .i64 t260, .int .i64 t261] 62 (0, 0)) (by (with_reducible repeat (first | refine blk_drewN ?_ _ | refine blk_drew ?_ | refine blk_alloc ?_ _)); exact BK263.out)) : gb263 ≠ gb274))
              have n6_ := Aside0.mk ((by rw [hg]; exact Nat.ne_of_gt (blk_lt (g := gb263) (o := .cells #[.int .i64 t260, .int .i64 t261] 62 (0, 0)) (by (with_reducible repeat (first | refine blk_drewN ?_ _ | refine blk_drew ?_ | refine blk_alloc ?_ _)); exact BK263.out)) : gb274 ≠ gb263))
              clear BK263
              clear HB
              have BK263 := n0_
              have HB := n1_
              have BK274 := n2_
              have GW274 := n3_
              have GE274 := n4_
              have NB263_274 := n5_
              have NB274_263 := n6_
              clear n0_ n1_ n2_ n3_ n4_ n5_ n6_
              clear hb hbox hg
              refine hK.out _ _ ⟨(blk_cell BK263.out 0).trans rfl, (blk_cell BK263.out 1).trans rfl⟩ (fun hHeld => ?_)
              clear hK K
              refine norm_ (a' := ?_) ?_ ?_
              rotate_left
              ·
               show Act.put _ (some 9) _ = _
               simp only [Act.put, List.setIfInBounds_toArray, List.set_cons_zero, List.set_cons_succ, i64_w, i32_w]
               rfl
              exact norm_ (by first | (simp only [putAll, Act.put, List.setIfInBounds_toArray, List.set_cons_zero, List.set_cons_succ]; done) | (simp only [putAll, Act.put, List.setIfInBounds_toArray, List.set_cons_zero, List.set_cons_succ]; rfl)) (hJ6 (gb274) _ ⟨hHeld, (by (with_reducible repeat (first | refine blk_drewN ?_ _ | refine blk_drew ?_ | refine blk_alloc ?_ _)); exact BK263.out), (by (with_reducible repeat (first | refine blk_drewN ?_ _ | refine blk_drew ?_ | refine blk_alloc ?_ _)); exact BK274.out), GW274.out, GE274.out, NB263_274.out, NB274_263.out, (by repeat (first | (with_reducible first | exact HB.out | apply below_alloc | apply pw_below_drewN | apply below_drew1 | refine below_set ?_ GE263.out | refine below_set ?_ GE274.out) | exact HB.out))⟩)
             ·
              skip
              refine box_step ?hg (N := 10) ?hd (cs := #[.bool false, .bool false, .bool false, .int .u64 0, .int .i64 0]) (t := 66) ?hr ?_; (case hd => rfl); (case hg => rfl); (case hr => first | (go_simp; done) | (go_simp; rfl))
              intro gb275 hg w14 hbox hb
              have n0_ := Aside0.mk (blk_below (g := gb263) (o := .cells #[.int .i64 t260, .int .i64 t261] 62 (0, 0)) (by (with_reducible repeat (first | refine blk_drewN ?_ _ | refine blk_drew ?_ | refine blk_alloc ?_ _)); exact BK263.out) hb)
              have n1_ := Aside0.mk (below_step (by repeat (first | (with_reducible first | exact HB.out | apply below_alloc | apply pw_below_drewN | apply below_drew1 | refine below_set ?_ GE263.out) | exact HB.out)) hb)
              have n2_ := Aside0.mk (hbox)
              have n3_ := Aside0.mk ((by rw [hg]; exact (below_size (by repeat (first | (with_reducible first | exact HB.out | apply below_alloc | apply pw_below_drewN | apply below_drew1 | refine below_set ?_ GE263.out) | exact HB.out))) : w.heap.size ≤ gb275))
              have n4_ := Aside0.mk ((by rw [hg]; exact (below_size (by repeat (first | (with_reducible first | exact HB.out | apply below_alloc | apply pw_below_drewN | apply below_drew1 | refine below_set ?_ GE263.out) | exact HB.out))) : w.heap.size ≤ gb275))
              have n5_ := Aside0.mk ((by rw [hg]; exact Nat.ne_of_lt (blk_lt (g := gb263) (o := .cells #[.int .i64 t260, .int .i64 t261] 62 (0, 0)) (by (with_reducible repeat (first | refine blk_drewN ?_ _ | refine blk_drew ?_ | refine blk_alloc ?_ _)); exact BK263.out)) : gb263 ≠ gb275))
              have n6_ := Aside0.mk ((by rw [hg]; exact Nat.ne_of_gt (blk_lt (g := gb263) (o := .cells #[.int .i64 t260, .int .i64 t261] 62 (0, 0)) (by (with_reducible repeat (first | refine blk_drewN ?_ _ | refine blk_drew ?_ | refine blk_alloc ?_ _)); exact BK263.out)) : gb275 ≠ gb263))
              clear BK263
              clear HB
              have BK263 := n0_
              have HB := n1_
              have BK275 := n2_
              have GW275 := n3_
              have GE275 := n4_
              have NB263_275 := n5_
              have NB275_263 := n6_
              clear n0_ n1_ n2_ n3_ n4_ n5_ n6_
              clear hb hbox hg
              refine hK.out _ _ ⟨(blk_cell BK263.out 0).trans rfl, (blk_cell BK263.out 1).trans rfl⟩ (fun hHeld => ?_)
              clear hK K
              refine norm_ (a' := ?_) ?_ ?_
              rotate_left
              ·
               show Act.put _ (some 10) _ = _
               simp only [Act.put, List.setIfInBounds_toArray, List.set_cons_zero, List.set_cons_succ, i64_w, i32_w]
               rfl
              exact norm_ (by first | (simp only [putAll, Act.put, List.setIfInBounds_toArray, List.set_cons_zero, List.set_cons_succ]; done) | (simp only [putAll, Act.put, List.setIfInBounds_toArray, List.set_cons_zero, List.set_cons_succ]; rfl)) (hJ7 (gb275) _ ⟨hHeld, (by (with_reducible repeat (first | refine blk_drewN ?_ _ | refine blk_drew ?_ | refine blk_alloc ?_ _)); exact BK263.out), (by (with_reducible repeat (first | refine blk_drewN ?_ _ | refine blk_drew ?_ | refine blk_alloc ?_ _)); exact BK275.out), GW275.out, GE275.out, NB263_275.out, NB275_263.out, (by repeat (first | (with_reducible first | exact HB.out | apply below_alloc | apply pw_below_drewN | apply below_drew1 | refine below_set ?_ GE263.out | refine below_set ?_ GE275.out) | exact HB.out))⟩)
            ·
             skip
             rintro gb275 w15 ⟨hS_, h0_, h1_, h2_, h3_, h4_, h5_, h6_⟩
             have n0_ : Aside0 (w15.heap[gb263]? = some (.cells #[.int .i64 t260, .int .i64 t261] 62 (0, 0))) := ⟨h0_⟩
             have n1_ : Aside0 (w15.heap[gb275]? = some (.cells #[.bool false, .bool false, .bool false, .int .u64 0, .int .i64 0] 66 (0, 0))) := ⟨h1_⟩
             have n2_ : Aside0 (w.heap.size ≤ gb275) := ⟨h2_⟩
             have n3_ : Aside0 (w.heap.size ≤ gb275) := ⟨h3_⟩
             have n4_ : Aside0 (gb263 ≠ gb275) := ⟨h4_⟩
             have n5_ : Aside0 (gb275 ≠ gb263) := ⟨h5_⟩
             have n6_ : Aside0 (Below w.heap.size w w15) := ⟨h6_⟩
             clear BK263
             clear HB
             clear h0_ h1_ h2_ h3_ h4_ h5_ h6_
             have BK263 := n0_
             have BK275 := n1_
             have GW275 := n2_
             have GE275 := n3_
             have NB263_275 := n4_
             have NB275_263 := n5_
             have HB := n6_
             clear n0_ n1_ n2_ n3_ n4_ n5_ n6_
             have hHeld : w15.cell? ⟨gb263, 0, none⟩ = some (.int .i64 t260) ∧ w15.cell? ⟨gb263, 1, none⟩ = some (.int .i64 t261) := hS_
             refine norm_ (a' := ?_) ?_ ?_
             rotate_left
             ·
              simp only [putAll, Act.put, List.setIfInBounds_toArray, List.set_cons_zero, List.set_cons_succ]
              rfl
             refine two_ (i := 2) (j := 6) (Ni := some 25) (Nj := some 9) #[true, true, true, true, true, false, false, true, false, false] #[true, true, false, true, true, false, true, true, false, false] rfl rfl rfl rfl (two_of HT_.out (by kernel_rfl)) (by decide) (by decide) (fun K hK => ?_) (fun K hK => ?_)
             ·
              skip
              refine goes_ Try.func52 (by kernel_rfl) rfl #[.agg #[.int .i64 t260, .int .i64 t261], .int .u32 a1] (by rfl) rfl rfl (by (try simp only [List.map_toArray, List.map_cons, List.map_nil]); first | done | rfl | (simp only [List.length_drop, List.length_take]; rfl)) ?_
              with_reducible refine (impl_format_open.calls t260 t261 a1 t264 t265 t266 t267 t268 _ A6.out).mono ?_
              rintro e w16 ⟨rfl, hb⟩
              refine ⟨_, rfl, ?_⟩
              have n0_ := Aside0.mk (blk_below (g := gb263) (o := .cells #[.int .i64 t260, .int .i64 t261] 62 (0, 0)) (by (with_reducible repeat (first | refine blk_drewN ?_ _ | refine blk_drew ?_ | refine blk_alloc ?_ _)); exact BK263.out) hb)
              have n1_ := Aside0.mk (blk_below (g := gb275) (o := .cells #[.bool false, .bool false, .bool false, .int .u64 0, .int .i64 0] 66 (0, 0)) (by (with_reducible repeat (first | refine blk_drewN ?_ _ | refine blk_drew ?_ | refine blk_alloc ?_ _)); exact BK275.out) hb)
              have n2_ := Aside0.mk (below_step (by repeat (first | (with_reducible first | exact HB.out | apply below_alloc | apply pw_below_drewN | apply below_drew1 | refine below_set ?_ GE263.out | refine below_set ?_ GE275.out) | exact HB.out)) hb)
              clear BK263
              clear BK275
              clear HB
              have BK263 := n0_
              have BK275 := n1_
              have HB := n2_
              clear n0_ n1_ n2_
              (try clear hb)
              (try clear hb2)
              (try clear hk)
              (try clear hi)
              refine hK.out _ _ ⟨(blk_cell BK263.out 0).trans rfl, (blk_cell BK263.out 1).trans rfl⟩ (fun hHeld => ?_)
              clear hK K
              refine norm_ (a' := ?_) ?_ ?_
              rotate_left
              ·
               show Act.put _ (some 25) _ = _
               simp only [Act.put, List.setIfInBounds_toArray, List.set_cons_zero, List.set_cons_succ, i64_w, i32_w]
               rfl
              exact norm_ (by first | (simp only [putAll, Act.put, List.setIfInBounds_toArray, List.set_cons_zero, List.set_cons_succ]; done) | (simp only [putAll, Act.put, List.setIfInBounds_toArray, List.set_cons_zero, List.set_cons_succ]; rfl)) (hJ2_7 (gb275) _ ⟨hHeld, (by (with_reducible repeat (first | refine blk_drewN ?_ _ | refine blk_drew ?_ | refine blk_alloc ?_ _)); exact BK263.out), (by (with_reducible repeat (first | refine blk_drewN ?_ _ | refine blk_drew ?_ | refine blk_alloc ?_ _)); exact BK275.out), GW275.out, GE275.out, NB263_275.out, NB275_263.out, (by repeat (first | (with_reducible first | exact HB.out | apply below_alloc | apply pw_below_drewN | apply below_drew1 | refine below_set ?_ GE263.out | refine below_set ?_ GE275.out) | exact HB.out))⟩)
             ·
              skip
              refine box_step ?hg (N := 9) ?hd (cs := #[.bool false, .bool false, .bool false, .int .u64 0, .int .i64 0]) (t := 66) ?hr ?_; (case hd => rfl); (case hg => rfl); (case hr => first | (go_simp; done) | (go_simp; rfl))
              intro gb274 hg w16 hbox hb
              have n0_ := Aside0.mk (blk_below (g := gb263) (o := .cells #[.int .i64 t260, .int .i64 t261] 62 (0, 0)) (by (with_reducible repeat (first | refine blk_drewN ?_ _ | refine blk_drew ?_ | refine blk_alloc ?_ _)); exact BK263.out) hb)
              have n1_ := Aside0.mk (blk_below (g := gb275) (o := .cells #[.bool false, .bool false, .bool false, .int .u64 0, .int .i64 0] 66 (0, 0)) (by (with_reducible repeat (first | refine blk_drewN ?_ _ | refine blk_drew ?_ | refine blk_alloc ?_ _)); exact BK275.out) hb)
              have n2_ := Aside0.mk (below_step (by repeat (first | (with_reducible first | exact HB.out | apply below_alloc | apply pw_below_drewN | apply below_drew1 | refine below_set ?_ GE263.out | refine below_set ?_ GE275.out) | exact HB.out)) hb)
              have n3_ := Aside0.mk (hbox)
              have n4_ := Aside0.mk ((by rw [hg]; exact (below_size (by repeat (first | (with_reducible first | exact HB.out | apply below_alloc | apply pw_below_drewN | apply below_drew1 | refine below_set ?_ GE263.out | refine below_set ?_ GE275.out) | exact HB.out))) : w.heap.size ≤ gb274))
              have n5_ := Aside0.mk ((by rw [hg]; exact (below_size (by repeat (first | (with_reducible first | exact HB.out | apply below_alloc | apply pw_below_drewN | apply below_drew1 | refine below_set ?_ GE263.out | refine below_set ?_ GE275.out) | exact HB.out))) : w.heap.size ≤ gb274))
              have n6_ := Aside0.mk ((by rw [hg]; exact Nat.ne_of_lt (blk_lt (g := gb263) (o := .cells #[.int .i64 t260, .int .i64 t261] 62 (0, 0)) (by (with_reducible repeat (first | refine blk_drewN ?_ _ | refine blk_drew ?_ | refine blk_alloc ?_ _)); exact BK263.out)) : gb263 ≠ gb274))
              have n7_ := Aside0.mk ((by rw [hg]; exact Nat.ne_of_gt (blk_lt (g := gb263) (o := .cells #[.int .i64 t260, .int .i64 t261] 62 (0, 0)) (by (with_reducible repeat (first | refine blk_drewN ?_ _ | refine blk_drew ?_ | refine blk_alloc ?_ _)); exact BK263.out)) : gb274 ≠ gb263))
              have n8_ := Aside0.mk ((by rw [hg]; exact Nat.ne_of_lt (blk_lt (g := gb275) (o := .cells #[.bool false, .bool false, .bool false, .int .u64 0, .int .i64 0] 66 (0, 0)) (by (with_reducible repeat (first | refine blk_drewN ?_ _ | refine blk_drew ?_ | refine blk_alloc ?_ _)); exact BK275.out)) : gb275 ≠ gb274))
              have n9_ := Aside0.mk ((by rw [hg]; exact Nat.ne_of_gt (blk_lt (g := gb275) (o := .cells #[.bool false, .bool false, .bool false, .int .u64 0, .int .i64 0] 66 (0, 0)) (by (with_reducible repeat (first | refine blk_drewN ?_ _ | refine blk_drew ?_ | refine blk_alloc ?_ _)); exact BK275.out)) : gb274 ≠ gb275))
              clear BK263
              clear BK275
              clear HB
              have BK263 := n0_
              have BK275 := n1_
              have HB := n2_
              have BK274 := n3_
              have GW274 := n4_
              have GE274 := n5_
              have NB263_274 := n6_
              have NB274_263 := n7_
              have NB275_274 := n8_
              have NB274_275 := n9_
              clear n0_ n1_ n2_ n3_ n4_ n5_ n6_ n7_ n8_ n9_
              clear hb hbox hg
              refine hK.out _ _ ⟨(blk_cell BK263.out 0).trans rfl, (blk_cell BK263.out 1).trans rfl⟩ (fun hHeld => ?_)
              clear hK K
              refine norm_ (a' := ?_) ?_ ?_
              rotate_left
              ·
               show Act.put _ (some 9) _ = _
               simp only [Act.put, List.setIfInBounds_toArray, List.set_cons_zero, List.set_cons_succ, i64_w, i32_w]
               rfl
              exact norm_ (by first | (simp only [putAll, Act.put, List.setIfInBounds_toArray, List.set_cons_zero, List.set_cons_succ]; done) | (simp only [putAll, Act.put, List.setIfInBounds_toArray, List.set_cons_zero, List.set_cons_succ]; rfl)) (hJ6_7 (gb274, gb275) _ ⟨hHeld, (by (with_reducible repeat (first | refine blk_drewN ?_ _ | refine blk_drew ?_ | refine blk_alloc ?_ _)); exact BK263.out), (by (with_reducible repeat (first | refine blk_drewN ?_ _ | refine blk_drew ?_ | refine blk_alloc ?_ _)); exact BK274.out), (by (with_reducible repeat (first | refine blk_drewN ?_ _ | refine blk_drew ?_ | refine blk_alloc ?_ _)); exact BK275.out), GW274.out, GE274.out, NB263_274.out, NB274_263.out, NB275_274.out, NB274_275.out, GW275.out, GE275.out, NB263_275.out, NB275_263.out, (by repeat (first | (with_reducible first | exact HB.out | apply below_alloc | apply pw_below_drewN | apply below_drew1 | refine below_set ?_ GE263.out | refine below_set ?_ GE275.out | refine below_set ?_ GE274.out) | exact HB.out))⟩)
           ·
            skip
            rintro gb274 w15 ⟨hS_, h0_, h1_, h2_, h3_, h4_, h5_, h6_⟩
            have n0_ : Aside0 (w15.heap[gb263]? = some (.cells #[.int .i64 t260, .int .i64 t261] 62 (0, 0))) := ⟨h0_⟩
            have n1_ : Aside0 (w15.heap[gb274]? = some (.cells #[.bool false, .bool false, .bool false, .int .u64 0, .int .i64 0] 66 (0, 0))) := ⟨h1_⟩
            have n2_ : Aside0 (w.heap.size ≤ gb274) := ⟨h2_⟩
            have n3_ : Aside0 (w.heap.size ≤ gb274) := ⟨h3_⟩
            have n4_ : Aside0 (gb263 ≠ gb274) := ⟨h4_⟩
            have n5_ : Aside0 (gb274 ≠ gb263) := ⟨h5_⟩
            have n6_ : Aside0 (Below w.heap.size w w15) := ⟨h6_⟩
            clear BK263
            clear HB
            clear h0_ h1_ h2_ h3_ h4_ h5_ h6_
            have BK263 := n0_
            have BK274 := n1_
            have GW274 := n2_
            have GE274 := n3_
            have NB263_274 := n4_
            have NB274_263 := n5_
            have HB := n6_
            clear n0_ n1_ n2_ n3_ n4_ n5_ n6_
            have hHeld : w15.cell? ⟨gb263, 0, none⟩ = some (.int .i64 t260) ∧ w15.cell? ⟨gb263, 1, none⟩ = some (.int .i64 t261) := hS_
            refine norm_ (a' := ?_) ?_ ?_
            rotate_left
            ·
             simp only [putAll, Act.put, List.setIfInBounds_toArray, List.set_cons_zero, List.set_cons_succ]
             rfl
            refine two_ (i := 2) (j := 7) (Ni := some 25) (Nj := some 10) #[true, true, true, true, true, false, true, false, false, false] #[true, true, false, true, true, false, true, true, false, false] rfl rfl rfl rfl (two_of HT_.out (by kernel_rfl)) (by decide) (by decide) (fun K hK => ?_) (fun K hK => ?_)
            ·
             skip
             refine goes_ Try.func52 (by kernel_rfl) rfl #[.agg #[.int .i64 t260, .int .i64 t261], .int .u32 a1] (by rfl) rfl rfl (by (try simp only [List.map_toArray, List.map_cons, List.map_nil]); first | done | rfl | (simp only [List.length_drop, List.length_take]; rfl)) ?_
             with_reducible refine (impl_format_open.calls t260 t261 a1 t264 t265 t266 t267 t268 _ A6.out).mono ?_
             rintro e w16 ⟨rfl, hb⟩
             refine ⟨_, rfl, ?_⟩
             have n0_ := Aside0.mk (blk_below (g := gb263) (o := .cells #[.int .i64 t260, .int .i64 t261] 62 (0, 0)) (by (with_reducible repeat (first | refine blk_drewN ?_ _ | refine blk_drew ?_ | refine blk_alloc ?_ _)); exact BK263.out) hb)
             have n1_ := Aside0.mk (blk_below (g := gb274) (o := .cells #[.bool false, .bool false, .bool false, .int .u64 0, .int .i64 0] 66 (0, 0)) (by (with_reducible repeat (first | refine blk_drewN ?_ _ | refine blk_drew ?_ | refine blk_alloc ?_ _)); exact BK274.out) hb)
             have n2_ := Aside0.mk (below_step (by repeat (first | (with_reducible first | exact HB.out | apply below_alloc | apply pw_below_drewN | apply below_drew1 | refine below_set ?_ GE263.out | refine below_set ?_ GE274.out) | exact HB.out)) hb)
             clear BK263
             clear BK274
             clear HB
             have BK263 := n0_
             have BK274 := n1_
             have HB := n2_
             clear n0_ n1_ n2_
             (try clear hb)
             (try clear hb2)
             (try clear hk)
             (try clear hi)
             refine hK.out _ _ ⟨(blk_cell BK263.out 0).trans rfl, (blk_cell BK263.out 1).trans rfl⟩ (fun hHeld => ?_)
             clear hK K
             refine norm_ (a' := ?_) ?_ ?_
             rotate_left
             ·
              show Act.put _ (some 25) _ = _
              simp only [Act.put, List.setIfInBounds_toArray, List.set_cons_zero, List.set_cons_succ, i64_w, i32_w]
              rfl
             exact norm_ (by first | (simp only [putAll, Act.put, List.setIfInBounds_toArray, List.set_cons_zero, List.set_cons_succ]; done) | (simp only [putAll, Act.put, List.setIfInBounds_toArray, List.set_cons_zero, List.set_cons_succ]; rfl)) (hJ2_6 (gb274) _ ⟨hHeld, (by (with_reducible repeat (first | refine blk_drewN ?_ _ | refine blk_drew ?_ | refine blk_alloc ?_ _)); exact BK263.out), (by (with_reducible repeat (first | refine blk_drewN ?_ _ | refine blk_drew ?_ | refine blk_alloc ?_ _)); exact BK274.out), GW274.out, GE274.out, NB263_274.out, NB274_263.out, (by repeat (first | (with_reducible first | exact HB.out | apply below_alloc | apply pw_below_drewN | apply below_drew1 | refine below_set ?_ GE263.out | refine below_set ?_ GE274.out) | exact HB.out))⟩)
            ·
             skip
             refine box_step ?hg (N := 10) ?hd (cs := #[.bool false, .bool false, .bool false, .int .u64 0, .int .i64 0]) (t := 66) ?hr ?_; (case hd => rfl); (case hg => rfl); (case hr => first | (go_simp; done) | (go_simp; rfl))
             intro gb275 hg w16 hbox hb
             have n0_ := Aside0.mk (blk_below (g := gb263) (o := .cells #[.int .i64 t260, .int .i64 t261] 62 (0, 0)) (by (with_reducible repeat (first | refine blk_drewN ?_ _ | refine blk_drew ?_ | refine blk_alloc ?_ _)); exact BK263.out) hb)
             have n1_ := Aside0.mk (blk_below (g := gb274) (o := .cells #[.bool false, .bool false, .bool false, .int .u64 0, .int .i64 0] 66 (0, 0)) (by (with_reducible repeat (first | refine blk_drewN ?_ _ | refine blk_drew ?_ | refine blk_alloc ?_ _)); exact BK274.out) hb)
             have n2_ := Aside0.mk (below_step (by repeat (first | (with_reducible first | exact HB.out | apply below_alloc | apply pw_below_drewN | apply below_drew1 | refine below_set ?_ GE263.out | refine below_set ?_ GE274.out) | exact HB.out)) hb)
             have n3_ := Aside0.mk (hbox)
             have n4_ := Aside0.mk ((by rw [hg]; exact (below_size (by repeat (first | (with_reducible first | exact HB.out | apply below_alloc | apply pw_below_drewN | apply below_drew1 | refine below_set ?_ GE263.out | refine below_set ?_ GE274.out) | exact HB.out))) : w.heap.size ≤ gb275))
             have n5_ := Aside0.mk ((by rw [hg]; exact (below_size (by repeat (first | (with_reducible first | exact HB.out | apply below_alloc | apply pw_below_drewN | apply below_drew1 | refine below_set ?_ GE263.out | refine below_set ?_ GE274.out) | exact HB.out))) : w.heap.size ≤ gb275))
             have n6_ := Aside0.mk ((by rw [hg]; exact Nat.ne_of_lt (blk_lt (g := gb263) (o := .cells #[.int .i64 t260, .int .i64 t261] 62 (0, 0)) (by (with_reducible repeat (first | refine blk_drewN ?_ _ | refine blk_drew ?_ | refine blk_alloc ?_ _)); exact BK263.out)) : gb263 ≠ gb275))
             have n7_ := Aside0.mk ((by rw [hg]; exact Nat.ne_of_gt (blk_lt (g := gb263) (o := .cells #[.int .i64 t260, .int .i64 t261] 62 (0, 0)) (by (with_reducible repeat (first | refine blk_drewN ?_ _ | refine blk_drew ?_ | refine blk_alloc ?_ _)); exact BK263.out)) : gb275 ≠ gb263))
             have n8_ := Aside0.mk ((by rw [hg]; exact Nat.ne_of_lt (blk_lt (g := gb274) (o := .cells #[.bool false, .bool false, .bool false, .int .u64 0, .int .i64 0] 66 (0, 0)) (by (with_reducible repeat (first | refine blk_drewN ?_ _ | refine blk_drew ?_ | refine blk_alloc ?_ _)); exact BK274.out)) : gb274 ≠ gb275))
             have n9_ := Aside0.mk ((by rw [hg]; exact Nat.ne_of_gt (blk_lt (g := gb274) (o := .cells #[.bool false, .bool false, .bool false, .int .u64 0, .int .i64 0] 66 (0, 0)) (by (with_reducible repeat (first | refine blk_drewN ?_ _ | refine blk_drew ?_ | refine blk_alloc ?_ _)); exact BK274.out)) : gb275 ≠ gb274))
             clear BK263
             clear BK274
             clear HB
             have BK263 := n0_
             have BK274 := n1_
             have HB := n2_
             have BK275 := n3_
             have GW275 := n4_
             have GE275 := n5_
             have NB263_275 := n6_
             have NB275_263 := n7_
             have NB274_275 := n8_
             have NB275_274 := n9_
             clear n0_ n1_ n2_ n3_ n4_ n5_ n6_ n7_ n8_ n9_
             clear hb hbox hg
             refine hK.out _ _ ⟨(blk_cell BK263.out 0).trans rfl, (blk_cell BK263.out 1).trans rfl⟩ (fun hHeld => ?_)
             clear hK K
             refine norm_ (a' := ?_) ?_ ?_
             rotate_left
             ·
              show Act.put _ (some 10) _ = _
              simp only [Act.put, List.setIfInBounds_toArray, List.set_cons_zero, List.set_cons_succ, i64_w, i32_w]
              rfl
             exact norm_ (by first | (simp only [putAll, Act.put, List.setIfInBounds_toArray, List.set_cons_zero, List.set_cons_succ]; done) | (simp only [putAll, Act.put, List.setIfInBounds_toArray, List.set_cons_zero, List.set_cons_succ]; rfl)) (hJ6_7 (gb274, gb275) _ ⟨hHeld, (by (with_reducible repeat (first | refine blk_drewN ?_ _ | refine blk_drew ?_ | refine blk_alloc ?_ _)); exact BK263.out), (by (with_reducible repeat (first | refine blk_drewN ?_ _ | refine blk_drew ?_ | refine blk_alloc ?_ _)); exact BK274.out), (by (with_reducible repeat (first | refine blk_drewN ?_ _ | refine blk_drew ?_ | refine blk_alloc ?_ _)); exact BK275.out), GW274.out, GE274.out, NB263_274.out, NB274_263.out, NB275_274.out, NB274_275.out, GW275.out, GE275.out, NB263_275.out, NB275_263.out, (by repeat (first | (with_reducible first | exact HB.out | apply below_alloc | apply pw_below_drewN | apply below_drew1 | refine below_set ?_ GE263.out | refine below_set ?_ GE274.out | refine below_set ?_ GE275.out) | exact HB.out))⟩)
          ·
           skip
           rintro _ w15 ⟨hS_, h0_, h1_⟩
           have n0_ : Aside0 (w15.heap[gb263]? = some (.cells #[.int .i64 t260, .int .i64 t261] 62 (0, 0))) := ⟨h0_⟩
           have n1_ : Aside0 (Below w.heap.size w w15) := ⟨h1_⟩
           clear BK263
           clear HB
           clear h0_ h1_
           have BK263 := n0_
           have HB := n1_
           clear n0_ n1_
           have hHeld : w15.cell? ⟨gb263, 0, none⟩ = some (.int .i64 t260) ∧ w15.cell? ⟨gb263, 1, none⟩ = some (.int .i64 t261) := hS_
           refine norm_ (a' := ?_) ?_ ?_
           rotate_left
           ·
            simp only [putAll, Act.put, List.setIfInBounds_toArray, List.set_cons_zero, List.set_cons_succ]
            rfl
           refine three_ (i := 5) (j := 6) (k := 7) (Ni := some 28) (Nj := some 9) (Nk := some 10) #[true, true, true, true, true, true, false, false, false, false] #[true, true, true, true, true, false, true, false, false, false] #[true, true, true, true, true, false, false, true, false, false] rfl rfl rfl rfl rfl rfl (three_of HT_.out (by kernel_rfl)) (by decide) (by decide) (by decide) (fun K hK => ?_) (fun K hK => ?_) (fun K hK => ?_)
           ·
            skip
            refine goes_ Try.func52 (by kernel_rfl) rfl #[.agg #[.int .i64 t260, .int .i64 t261], .int .u32 a2] (by rfl) rfl rfl (by (try simp only [List.map_toArray, List.map_cons, List.map_nil]); first | done | rfl | (simp only [List.length_drop, List.length_take]; rfl)) ?_
            with_reducible refine (impl_format_open.calls t260 t261 a2 t269 t270 t271 t272 t273 _ A7.out).mono ?_
            rintro e w16 ⟨rfl, hb⟩
            refine ⟨_, rfl, ?_⟩
            have n0_ := Aside0.mk (blk_below (g := gb263) (o := .cells #[.int .i64 t260, .int .i64 t261] 62 (0, 0)) (by (with_reducible repeat (first | refine blk_drewN ?_ _ | refine blk_drew ?_ | refine blk_alloc ?_ _)); exact BK263.out) hb)
            have n1_ := Aside0.mk (below_step (by repeat (first | (with_reducible first | exact HB.out | apply below_alloc | apply pw_below_drewN | apply below_drew1 | refine below_set ?_ GE263.out) | exact HB.out)) hb)
            clear BK263
            clear HB
            have BK263 := n0_
            have HB := n1_
            clear n0_ n1_
            (try clear hb)
            (try clear hb2)
            (try clear hk)
            (try clear hi)
            refine hK.out _ _ ⟨(blk_cell BK263.out 0).trans rfl, (blk_cell BK263.out 1).trans rfl⟩ (fun hHeld => ?_)
            clear hK K
            refine norm_ (a' := ?_) ?_ ?_
            rotate_left
            ·
             show Act.put _ (some 28) _ = _
             simp only [Act.put, List.setIfInBounds_toArray, List.set_cons_zero, List.set_cons_succ, i64_w, i32_w]
             rfl
            exact norm_ (by first | (simp only [putAll, Act.put, List.setIfInBounds_toArray, List.set_cons_zero, List.set_cons_succ]; done) | (simp only [putAll, Act.put, List.setIfInBounds_toArray, List.set_cons_zero, List.set_cons_succ]; rfl)) (hJ2_5 () _ ⟨hHeld, (by (with_reducible repeat (first | refine blk_drewN ?_ _ | refine blk_drew ?_ | refine blk_alloc ?_ _)); exact BK263.out), (by repeat (first | (with_reducible first | exact HB.out | apply below_alloc | apply pw_below_drewN | apply below_drew1 | refine below_set ?_ GE263.out) | exact HB.out))⟩)
           ·
            skip
            refine box_step ?hg (N := 9) ?hd (cs := #[.bool false, .bool false, .bool false, .int .u64 0, .int .i64 0]) (t := 66) ?hr ?_; (case hd => rfl); (case hg => rfl); (case hr => first | (go_simp; done) | (go_simp; rfl))
            intro gb274 hg w16 hbox hb
            have n0_ := Aside0.mk (blk_below (g := gb263) (o := .cells #[.int .i64 t260, .int .i64 t261] 62 (0, 0)) (by (with_reducible repeat (first | refine blk_drewN ?_ _ | refine blk_drew ?_ | refine blk_alloc ?_ _)); exact BK263.out) hb)
            have n1_ := Aside0.mk (below_step (by repeat (first | (with_reducible first | exact HB.out | apply below_alloc | apply pw_below_drewN | apply below_drew1 | refine below_set ?_ GE263.out) | exact HB.out)) hb)
            have n2_ := Aside0.mk (hbox)
            have n3_ := Aside0.mk ((by rw [hg]; exact (below_size (by repeat (first | (with_reducible first | exact HB.out | apply below_alloc | apply pw_below_drewN | apply below_drew1 | refine below_set ?_ GE263.out) | exact HB.out))) : w.heap.size ≤ gb274))
            have n4_ := Aside0.mk ((by rw [hg]; exact (below_size (by repeat (first | (with_reducible first | exact HB.out | apply below_alloc | apply pw_below_drewN | apply below_drew1 | refine below_set ?_ GE263.out) | exact HB.out))) : w.heap.size ≤ gb274))
            have n5_ := Aside0.mk ((by rw [hg]; exact Nat.ne_of_lt (blk_lt (g := gb263) (o := .cells #[.int .i64 t260, .int .i64 t261] 62 (0, 0)) (by (with_reducible repeat (first | refine blk_drewN ?_ _ | refine blk_drew ?_ | refine blk_alloc ?_ _)); exact BK263.out)) : gb263 ≠ gb274))
            have n6_ := Aside0.mk ((by rw [hg]; exact Nat.ne_of_gt (blk_lt (g := gb263) (o := .cells #[.int .i64 t260, .int .i64 t261] 62 (0, 0)) (by (with_reducible repeat (first | refine blk_drewN ?_ _ | refine blk_drew ?_ | refine blk_alloc ?_ _)); exact BK263.out)) : gb274 ≠ gb263))
            clear BK263
            clear HB
            have BK263 := n0_
            have HB := n1_
            have BK274 := n2_
            have GW274 := n3_
            have GE274 := n4_
            have NB263_274 := n5_
            have NB274_263 := n6_
            clear n0_ n1_ n2_ n3_ n4_ n5_ n6_
            clear hb hbox hg
            refine hK.out _ _ ⟨(blk_cell BK263.out 0).trans rfl, (blk_cell BK263.out 1).trans rfl⟩ (fun hHeld => ?_)
            clear hK K
            refine norm_ (a' := ?_) ?_ ?_
            rotate_left
            ·
             show Act.put _ (some 9) _ = _
             simp only [Act.put, List.setIfInBounds_toArray, List.set_cons_zero, List.set_cons_succ, i64_w, i32_w]
             rfl
            exact norm_ (by first | (simp only [putAll, Act.put, List.setIfInBounds_toArray, List.set_cons_zero, List.set_cons_succ]; done) | (simp only [putAll, Act.put, List.setIfInBounds_toArray, List.set_cons_zero, List.set_cons_succ]; rfl)) (hJ2_6 (gb274) _ ⟨hHeld, (by (with_reducible repeat (first | refine blk_drewN ?_ _ | refine blk_drew ?_ | refine blk_alloc ?_ _)); exact BK263.out), (by (with_reducible repeat (first | refine blk_drewN ?_ _ | refine blk_drew ?_ | refine blk_alloc ?_ _)); exact BK274.out), GW274.out, GE274.out, NB263_274.out, NB274_263.out, (by repeat (first | (with_reducible first | exact HB.out | apply below_alloc | apply pw_below_drewN | apply below_drew1 | refine below_set ?_ GE263.out | refine below_set ?_ GE274.out) | exact HB.out))⟩)
           ·
            skip
            refine box_step ?hg (N := 10) ?hd (cs := #[.bool false, .bool false, .bool false, .int .u64 0, .int .i64 0]) (t := 66) ?hr ?_; (case hd => rfl); (case hg => rfl); (case hr => first | (go_simp; done) | (go_simp; rfl))
            intro gb275 hg w16 hbox hb
            have n0_ := Aside0.mk (blk_below (g := gb263) (o := .cells #[.int .i64 t260, .int .i64 t261] 62 (0, 0)) (by (with_reducible repeat (first | refine blk_drewN ?_ _ | refine blk_drew ?_ | refine blk_alloc ?_ _)); exact BK263.out) hb)
            have n1_ := Aside0.mk (below_step (by repeat (first | (with_reducible first | exact HB.out | apply below_alloc | apply pw_below_drewN | apply below_drew1 | refine below_set ?_ GE263.out) | exact HB.out)) hb)
            have n2_ := Aside0.mk (hbox)
            have n3_ := Aside0.mk ((by rw [hg]; exact (below_size (by repeat (first | (with_reducible first | exact HB.out | apply below_alloc | apply pw_below_drewN | apply below_drew1 | refine below_set ?_ GE263.out) | exact HB.out))) : w.heap.size ≤ gb275))
            have n4_ := Aside0.mk ((by rw [hg]; exact (below_size (by repeat (first | (with_reducible first | exact HB.out | apply below_alloc | apply pw_below_drewN | apply below_drew1 | refine below_set ?_ GE263.out) | exact HB.out))) : w.heap.size ≤ gb275))
            have n5_ := Aside0.mk ((by rw [hg]; exact Nat.ne_of_lt (blk_lt (g := gb263) (o := .cells #[.int .i64 t260, .int .i64 t261] 62 (0, 0)) (by (with_reducible repeat (first | refine blk_drewN ?_ _ | refine blk_drew ?_ | refine blk_alloc ?_ _)); exact BK263.out)) : gb263 ≠ gb275))
            have n6_ := Aside0.mk ((by rw [hg]; exact Nat.ne_of_gt (blk_lt (g := gb263) (o := .cells #[.int .i64 t260, .int .i64 t261] 62 (0, 0)) (by (with_reducible repeat (first | refine blk_drewN ?_ _ | refine blk_drew ?_ | refine blk_alloc ?_ _)); exact BK263.out)) : gb275 ≠ gb263))
            clear BK263
            clear HB
            have BK263 := n0_
            have HB := n1_
            have BK275 := n2_
            have GW275 := n3_
            have GE275 := n4_
            have NB263_275 := n5_
            have NB275_263 := n6_
            clear n0_ n1_ n2_ n3_ n4_ n5_ n6_
            clear hb hbox hg
            refine hK.out _ _ ⟨(blk_cell BK263.out 0).trans rfl, (blk_cell BK263.out 1).trans rfl⟩ (fun hHeld => ?_)
            clear hK K
            refine norm_ (a' := ?_) ?_ ?_
            rotate_left
            ·
             show Act.put _ (some 10) _ = _
             simp only [Act.put, List.setIfInBounds_toArray, List.set_cons_zero, List.set_cons_succ, i64_w, i32_w]
             rfl
            exact norm_ (by first | (simp only [putAll, Act.put, List.setIfInBounds_toArray, List.set_cons_zero, List.set_cons_succ]; done) | (simp only [putAll, Act.put, List.setIfInBounds_toArray, List.set_cons_zero, List.set_cons_succ]; rfl)) (hJ2_7 (gb275) _ ⟨hHeld, (by (with_reducible repeat (first | refine blk_drewN ?_ _ | refine blk_drew ?_ | refine blk_alloc ?_ _)); exact BK263.out), (by (with_reducible repeat (first | refine blk_drewN ?_ _ | refine blk_drew ?_ | refine blk_alloc ?_ _)); exact BK275.out), GW275.out, GE275.out, NB263_275.out, NB275_263.out, (by repeat (first | (with_reducible first | exact HB.out | apply below_alloc | apply pw_below_drewN | apply below_drew1 | refine below_set ?_ GE263.out | refine below_set ?_ GE275.out) | exact HB.out))⟩)
         ·
          skip
          rintro ⟨gb274, gb275⟩ w16 ⟨hS_, h0_, h1_, h2_, h3_, h4_, h5_, h6_, h7_, h8_, h9_, h10_, h11_, h12_, h13_⟩
          have n0_ : Aside0 (w16.heap[gb263]? = some (.cells #[.int .i64 t260, .int .i64 t261] 62 (0, 0))) := ⟨h0_⟩
          have n1_ : Aside0 (w16.heap[gb274]? = some (.cells #[.bool false, .bool false, .bool false, .int .u64 0, .int .i64 0] 66 (0, 0))) := ⟨h1_⟩
          have n2_ : Aside0 (w16.heap[gb275]? = some (.cells #[.bool false, .bool false, .bool false, .int .u64 0, .int .i64 0] 66 (0, 0))) := ⟨h2_⟩
          have n3_ : Aside0 (w.heap.size ≤ gb274) := ⟨h3_⟩
          have n4_ : Aside0 (w.heap.size ≤ gb274) := ⟨h4_⟩
          have n5_ : Aside0 (gb263 ≠ gb274) := ⟨h5_⟩
          have n6_ : Aside0 (gb274 ≠ gb263) := ⟨h6_⟩
          have n7_ : Aside0 (gb275 ≠ gb274) := ⟨h7_⟩
          have n8_ : Aside0 (gb274 ≠ gb275) := ⟨h8_⟩
          have n9_ : Aside0 (w.heap.size ≤ gb275) := ⟨h9_⟩
          have n10_ : Aside0 (w.heap.size ≤ gb275) := ⟨h10_⟩
          have n11_ : Aside0 (gb263 ≠ gb275) := ⟨h11_⟩
          have n12_ : Aside0 (gb275 ≠ gb263) := ⟨h12_⟩
          have n13_ : Aside0 (Below w.heap.size w w16) := ⟨h13_⟩
          clear BK263
          clear HB
          clear h0_ h1_ h2_ h3_ h4_ h5_ h6_ h7_ h8_ h9_ h10_ h11_ h12_ h13_
          have BK263 := n0_
          have BK274 := n1_
          have BK275 := n2_
          have GW274 := n3_
          have GE274 := n4_
          have NB263_274 := n5_
          have NB274_263 := n6_
          have NB275_274 := n7_
          have NB274_275 := n8_
          have GW275 := n9_
          have GE275 := n10_
          have NB263_275 := n11_
          have NB275_263 := n12_
          have HB := n13_
          clear n0_ n1_ n2_ n3_ n4_ n5_ n6_ n7_ n8_ n9_ n10_ n11_ n12_ n13_
          have hHeld : w16.cell? ⟨gb263, 0, none⟩ = some (.int .i64 t260) ∧ w16.cell? ⟨gb263, 1, none⟩ = some (.int .i64 t261) := hS_
          refine norm_ (a' := ?_) ?_ ?_
          rotate_left
          ·
           simp only [putAll, Act.put, List.setIfInBounds_toArray, List.set_cons_zero, List.set_cons_succ]
           rfl
          refine one_ (i := 2) (N := some 25) #[true, true, true, true, true, false, true, true, false, false] rfl rfl (one_of HT_.out (by kernel_rfl)) (by decide) (fun K hK => ?_)
          refine goes_ Try.func52 (by kernel_rfl) rfl #[.agg #[.int .i64 t260, .int .i64 t261], .int .u32 a1] (by rfl) rfl rfl (by (try simp only [List.map_toArray, List.map_cons, List.map_nil]); first | done | rfl | (simp only [List.length_drop, List.length_take]; rfl)) ?_
          with_reducible refine (impl_format_open.calls t260 t261 a1 t264 t265 t266 t267 t268 _ A6.out).mono ?_
          rintro e w17 ⟨rfl, hb⟩
          refine ⟨_, rfl, ?_⟩
          have n0_ := Aside0.mk (blk_below (g := gb263) (o := .cells #[.int .i64 t260, .int .i64 t261] 62 (0, 0)) (by (with_reducible repeat (first | refine blk_drewN ?_ _ | refine blk_drew ?_ | refine blk_alloc ?_ _)); exact BK263.out) hb)
          have n1_ := Aside0.mk (blk_below (g := gb274) (o := .cells #[.bool false, .bool false, .bool false, .int .u64 0, .int .i64 0] 66 (0, 0)) (by (with_reducible repeat (first | refine blk_drewN ?_ _ | refine blk_drew ?_ | refine blk_alloc ?_ _)); exact BK274.out) hb)
          have n2_ := Aside0.mk (blk_below (g := gb275) (o := .cells #[.bool false, .bool false, .bool false, .int .u64 0, .int .i64 0] 66 (0, 0)) (by (with_reducible repeat (first | refine blk_drewN ?_ _ | refine blk_drew ?_ | refine blk_alloc ?_ _)); exact BK275.out) hb)
          have n3_ := Aside0.mk (below_step (by repeat (first | (with_reducible first | exact HB.out | apply below_alloc | apply pw_below_drewN | apply below_drew1 | refine below_set ?_ GE263.out | refine below_set ?_ GE274.out | refine below_set ?_ GE275.out) | exact HB.out)) hb)
          clear BK263
          clear BK274
          clear BK275
          clear HB
          have BK263 := n0_
          have BK274 := n1_
          have BK275 := n2_
          have HB := n3_
          clear n0_ n1_ n2_ n3_
          (try clear hb)
          (try clear hb2)
          (try clear hk)
          (try clear hi)
          refine hK.out _ _ ⟨(blk_cell BK263.out 0).trans rfl, (blk_cell BK263.out 1).trans rfl⟩ (fun hHeld => ?_)
          clear hK K
          refine norm_ (a' := ?_) ?_ ?_
          rotate_left
          ·
           show Act.put _ (some 25) _ = _
           simp only [Act.put, List.setIfInBounds_toArray, List.set_cons_zero, List.set_cons_succ, i64_w, i32_w]
           rfl
          exact norm_ (by first | (simp only [putAll, Act.put, List.setIfInBounds_toArray, List.set_cons_zero, List.set_cons_succ]; done) | (simp only [putAll, Act.put, List.setIfInBounds_toArray, List.set_cons_zero, List.set_cons_succ]; rfl)) (hJ2_6_7 (gb274, gb275) _ ⟨hHeld, (by (with_reducible repeat (first | refine blk_drewN ?_ _ | refine blk_drew ?_ | refine blk_alloc ?_ _)); exact BK263.out), (by (with_reducible repeat (first | refine blk_drewN ?_ _ | refine blk_drew ?_ | refine blk_alloc ?_ _)); exact BK274.out), (by (with_reducible repeat (first | refine blk_drewN ?_ _ | refine blk_drew ?_ | refine blk_alloc ?_ _)); exact BK275.out), GW274.out, GE274.out, NB263_274.out, NB274_263.out, NB275_274.out, NB274_275.out, GW275.out, GE275.out, NB263_275.out, NB275_263.out, (by repeat (first | (with_reducible first | exact HB.out | apply below_alloc | apply pw_below_drewN | apply below_drew1 | refine below_set ?_ GE263.out | refine below_set ?_ GE274.out | refine below_set ?_ GE275.out) | exact HB.out))⟩)
        ·
         skip
         rintro gb275 w16 ⟨hS_, h0_, h1_, h2_, h3_, h4_, h5_, h6_⟩
         have n0_ : Aside0 (w16.heap[gb263]? = some (.cells #[.int .i64 t260, .int .i64 t261] 62 (0, 0))) := ⟨h0_⟩
         have n1_ : Aside0 (w16.heap[gb275]? = some (.cells #[.bool false, .bool false, .bool false, .int .u64 0, .int .i64 0] 66 (0, 0))) := ⟨h1_⟩
         have n2_ : Aside0 (w.heap.size ≤ gb275) := ⟨h2_⟩
         have n3_ : Aside0 (w.heap.size ≤ gb275) := ⟨h3_⟩
         have n4_ : Aside0 (gb263 ≠ gb275) := ⟨h4_⟩
         have n5_ : Aside0 (gb275 ≠ gb263) := ⟨h5_⟩
         have n6_ : Aside0 (Below w.heap.size w w16) := ⟨h6_⟩
         clear BK263
         clear HB
         clear h0_ h1_ h2_ h3_ h4_ h5_ h6_
         have BK263 := n0_
         have BK275 := n1_
         have GW275 := n2_
         have GE275 := n3_
         have NB263_275 := n4_
         have NB275_263 := n5_
         have HB := n6_
         clear n0_ n1_ n2_ n3_ n4_ n5_ n6_
         have hHeld : w16.cell? ⟨gb263, 0, none⟩ = some (.int .i64 t260) ∧ w16.cell? ⟨gb263, 1, none⟩ = some (.int .i64 t261) := hS_
         refine norm_ (a' := ?_) ?_ ?_
         rotate_left
         ·
          simp only [putAll, Act.put, List.setIfInBounds_toArray, List.set_cons_zero, List.set_cons_succ]
          rfl
         refine two_ (i := 5) (j := 6) (Ni := some 28) (Nj := some 9) #[true, true, true, true, true, true, false, true, false, false] #[true, true, true, true, true, false, true, true, false, false] rfl rfl rfl rfl (two_of HT_.out (by kernel_rfl)) (by decide) (by decide) (fun K hK => ?_) (fun K hK => ?_)
         ·
          skip
          refine goes_ Try.func52 (by kernel_rfl) rfl #[.agg #[.int .i64 t260, .int .i64 t261], .int .u32 a2] (by rfl) rfl rfl (by (try simp only [List.map_toArray, List.map_cons, List.map_nil]); first | done | rfl | (simp only [List.length_drop, List.length_take]; rfl)) ?_
          with_reducible refine (impl_format_open.calls t260 t261 a2 t269 t270 t271 t272 t273 _ A7.out).mono ?_
          rintro e w17 ⟨rfl, hb⟩
          refine ⟨_, rfl, ?_⟩
          have n0_ := Aside0.mk (blk_below (g := gb263) (o := .cells #[.int .i64 t260, .int .i64 t261] 62 (0, 0)) (by (with_reducible repeat (first | refine blk_drewN ?_ _ | refine blk_drew ?_ | refine blk_alloc ?_ _)); exact BK263.out) hb)
          have n1_ := Aside0.mk (blk_below (g := gb275) (o := .cells #[.bool false, .bool false, .bool false, .int .u64 0, .int .i64 0] 66 (0, 0)) (by (with_reducible repeat (first | refine blk_drewN ?_ _ | refine blk_drew ?_ | refine blk_alloc ?_ _)); exact BK275.out) hb)
          have n2_ := Aside0.mk (below_step (by repeat (first | (with_reducible first | exact HB.out | apply below_alloc | apply pw_below_drewN | apply below_drew1 | refine below_set ?_ GE263.out | refine below_set ?_ GE275.out) | exact HB.out)) hb)
          clear BK263
          clear BK275
          clear HB
          have BK263 := n0_
          have BK275 := n1_
          have HB := n2_
          clear n0_ n1_ n2_
          (try clear hb)
          (try clear hb2)
          (try clear hk)
          (try clear hi)
          refine hK.out _ _ ⟨(blk_cell BK263.out 0).trans rfl, (blk_cell BK263.out 1).trans rfl⟩ (fun hHeld => ?_)
          clear hK K
          refine norm_ (a' := ?_) ?_ ?_
          rotate_left
          ·
           show Act.put _ (some 28) _ = _
           simp only [Act.put, List.setIfInBounds_toArray, List.set_cons_zero, List.set_cons_succ, i64_w, i32_w]
           rfl
          exact norm_ (by first | (simp only [putAll, Act.put, List.setIfInBounds_toArray, List.set_cons_zero, List.set_cons_succ]; done) | (simp only [putAll, Act.put, List.setIfInBounds_toArray, List.set_cons_zero, List.set_cons_succ]; rfl)) (hJ2_5_7 (gb275) _ ⟨hHeld, (by (with_reducible repeat (first | refine blk_drewN ?_ _ | refine blk_drew ?_ | refine blk_alloc ?_ _)); exact BK263.out), (by (with_reducible repeat (first | refine blk_drewN ?_ _ | refine blk_drew ?_ | refine blk_alloc ?_ _)); exact BK275.out), GW275.out, GE275.out, NB263_275.out, NB275_263.out, (by repeat (first | (with_reducible first | exact HB.out | apply below_alloc | apply pw_below_drewN | apply below_drew1 | refine below_set ?_ GE263.out | refine below_set ?_ GE275.out) | exact HB.out))⟩)
         ·
          skip
          refine box_step ?hg (N := 9) ?hd (cs := #[.bool false, .bool false, .bool false, .int .u64 0, .int .i64 0]) (t := 66) ?hr ?_; (case hd => rfl); (case hg => rfl); (case hr => first | (go_simp; done) | (go_simp; rfl))
          intro gb274 hg w17 hbox hb
          have n0_ := Aside0.mk (blk_below (g := gb263) (o := .cells #[.int .i64 t260, .int .i64 t261] 62 (0, 0)) (by (with_reducible repeat (first | refine blk_drewN ?_ _ | refine blk_drew ?_ | refine blk_alloc ?_ _)); exact BK263.out) hb)
          have n1_ := Aside0.mk (blk_below (g := gb275) (o := .cells #[.bool false, .bool false, .bool false, .int .u64 0, .int .i64 0] 66 (0, 0)) (by (with_reducible repeat (first | refine blk_drewN ?_ _ | refine blk_drew ?_ | refine blk_alloc ?_ _)); exact BK275.out) hb)
          have n2_ := Aside0.mk (below_step (by repeat (first | (with_reducible first | exact HB.out | apply below_alloc | apply pw_below_drewN | apply below_drew1 | refine below_set ?_ GE263.out | refine below_set ?_ GE275.out) | exact HB.out)) hb)
          have n3_ := Aside0.mk (hbox)
          have n4_ := Aside0.mk ((by rw [hg]; exact (below_size (by repeat (first | (with_reducible first | exact HB.out | apply below_alloc | apply pw_below_drewN | apply below_drew1 | refine below_set ?_ GE263.out | refine below_set ?_ GE275.out) | exact HB.out))) : w.heap.size ≤ gb274))
          have n5_ := Aside0.mk ((by rw [hg]; exact (below_size (by repeat (first | (with_reducible first | exact HB.out | apply below_alloc | apply pw_below_drewN | apply below_drew1 | refine below_set ?_ GE263.out | refine below_set ?_ GE275.out) | exact HB.out))) : w.heap.size ≤ gb274))
          have n6_ := Aside0.mk ((by rw [hg]; exact Nat.ne_of_lt (blk_lt (g := gb263) (o := .cells #[.int .i64 t260, .int .i64 t261] 62 (0, 0)) (by (with_reducible repeat (first | refine blk_drewN ?_ _ | refine blk_drew ?_ | refine blk_alloc ?_ _)); exact BK263.out)) : gb263 ≠ gb274))
          have n7_ := Aside0.mk ((by rw [hg]; exact Nat.ne_of_gt (blk_lt (g := gb263) (o := .cells #[.int .i64 t260, .int .i64 t261] 62 (0, 0)) (by (with_reducible repeat (first | refine blk_drewN ?_ _ | refine blk_drew ?_ | refine blk_alloc ?_ _)); exact BK263.out)) : gb274 ≠ gb263))
          have n8_ := Aside0.mk ((by rw [hg]; exact Nat.ne_of_lt (blk_lt (g := gb275) (o := .cells #[.bool false, .bool false, .bool false, .int .u64 0, .int .i64 0] 66 (0, 0)) (by (with_reducible repeat (first | refine blk_drewN ?_ _ | refine blk_drew ?_ | refine blk_alloc ?_ _)); exact BK275.out)) : gb275 ≠ gb274))
          have n9_ := Aside0.mk ((by rw [hg]; exact Nat.ne_of_gt (blk_lt (g := gb275) (o := .cells #[.bool false, .bool false, .bool false, .int .u64 0, .int .i64 0] 66 (0, 0)) (by (with_reducible repeat (first | refine blk_drewN ?_ _ | refine blk_drew ?_ | refine blk_alloc ?_ _)); exact BK275.out)) : gb274 ≠ gb275))
          clear BK263
          clear BK275
          clear HB
          have BK263 := n0_
          have BK275 := n1_
          have HB := n2_
          have BK274 := n3_
          have GW274 := n4_
          have GE274 := n5_
          have NB263_274 := n6_
          have NB274_263 := n7_
          have NB275_274 := n8_
          have NB274_275 := n9_
          clear n0_ n1_ n2_ n3_ n4_ n5_ n6_ n7_ n8_ n9_
          clear hb hbox hg
          refine hK.out _ _ ⟨(blk_cell BK263.out 0).trans rfl, (blk_cell BK263.out 1).trans rfl⟩ (fun hHeld => ?_)
          clear hK K
          refine norm_ (a' := ?_) ?_ ?_
          rotate_left
          ·
           show Act.put _ (some 9) _ = _
           simp only [Act.put, List.setIfInBounds_toArray, List.set_cons_zero, List.set_cons_succ, i64_w, i32_w]
           rfl
          exact norm_ (by first | (simp only [putAll, Act.put, List.setIfInBounds_toArray, List.set_cons_zero, List.set_cons_succ]; done) | (simp only [putAll, Act.put, List.setIfInBounds_toArray, List.set_cons_zero, List.set_cons_succ]; rfl)) (hJ2_6_7 (gb274, gb275) _ ⟨hHeld, (by (with_reducible repeat (first | refine blk_drewN ?_ _ | refine blk_drew ?_ | refine blk_alloc ?_ _)); exact BK263.out), (by (with_reducible repeat (first | refine blk_drewN ?_ _ | refine blk_drew ?_ | refine blk_alloc ?_ _)); exact BK274.out), (by (with_reducible repeat (first | refine blk_drewN ?_ _ | refine blk_drew ?_ | refine blk_alloc ?_ _)); exact BK275.out), GW274.out, GE274.out, NB263_274.out, NB274_263.out, NB275_274.out, NB274_275.out, GW275.out, GE275.out, NB263_275.out, NB275_263.out, (by repeat (first | (with_reducible first | exact HB.out | apply below_alloc | apply pw_below_drewN | apply below_drew1 | refine below_set ?_ GE263.out | refine below_set ?_ GE275.out | refine below_set ?_ GE274.out) | exact HB.out))⟩)
       ·
        skip
        rintro gb274 w16 ⟨hS_, h0_, h1_, h2_, h3_, h4_, h5_, h6_⟩
        have n0_ : Aside0 (w16.heap[gb263]? = some (.cells #[.int .i64 t260, .int .i64 t261] 62 (0, 0))) := ⟨h0_⟩
        have n1_ : Aside0 (w16.heap[gb274]? = some (.cells #[.bool false, .bool false, .bool false, .int .u64 0, .int .i64 0] 66 (0, 0))) := ⟨h1_⟩
        have n2_ : Aside0 (w.heap.size ≤ gb274) := ⟨h2_⟩
        have n3_ : Aside0 (w.heap.size ≤ gb274) := ⟨h3_⟩
        have n4_ : Aside0 (gb263 ≠ gb274) := ⟨h4_⟩
        have n5_ : Aside0 (gb274 ≠ gb263) := ⟨h5_⟩
        have n6_ : Aside0 (Below w.heap.size w w16) := ⟨h6_⟩
        clear BK263
        clear HB
        clear h0_ h1_ h2_ h3_ h4_ h5_ h6_
        have BK263 := n0_
        have BK274 := n1_
        have GW274 := n2_
        have GE274 := n3_
        have NB263_274 := n4_
        have NB274_263 := n5_
        have HB := n6_
        clear n0_ n1_ n2_ n3_ n4_ n5_ n6_
        have hHeld : w16.cell? ⟨gb263, 0, none⟩ = some (.int .i64 t260) ∧ w16.cell? ⟨gb263, 1, none⟩ = some (.int .i64 t261) := hS_
        refine norm_ (a' := ?_) ?_ ?_
        rotate_left
        ·
         simp only [putAll, Act.put, List.setIfInBounds_toArray, List.set_cons_zero, List.set_cons_succ]
         rfl
        refine two_ (i := 5) (j := 7) (Ni := some 28) (Nj := some 10) #[true, true, true, true, true, true, true, false, false, false] #[true, true, true, true, true, false, true, true, false, false] rfl rfl rfl rfl (two_of HT_.out (by kernel_rfl)) (by decide) (by decide) (fun K hK => ?_) (fun K hK => ?_)
        ·
         skip
         refine goes_ Try.func52 (by kernel_rfl) rfl #[.agg #[.int .i64 t260, .int .i64 t261], .int .u32 a2] (by rfl) rfl rfl (by (try simp only [List.map_toArray, List.map_cons, List.map_nil]); first | done | rfl | (simp only [List.length_drop, List.length_take]; rfl)) ?_
         with_reducible refine (impl_format_open.calls t260 t261 a2 t269 t270 t271 t272 t273 _ A7.out).mono ?_
         rintro e w17 ⟨rfl, hb⟩
         refine ⟨_, rfl, ?_⟩
         have n0_ := Aside0.mk (blk_below (g := gb263) (o := .cells #[.int .i64 t260, .int .i64 t261] 62 (0, 0)) (by (with_reducible repeat (first | refine blk_drewN ?_ _ | refine blk_drew ?_ | refine blk_alloc ?_ _)); exact BK263.out) hb)
         have n1_ := Aside0.mk (blk_below (g := gb274) (o := .cells #[.bool false, .bool false, .bool false, .int .u64 0, .int .i64 0] 66 (0, 0)) (by (with_reducible repeat (first | refine blk_drewN ?_ _ | refine blk_drew ?_ | refine blk_alloc ?_ _)); exact BK274.out) hb)
         have n2_ := Aside0.mk (below_step (by repeat (first | (with_reducible first | exact HB.out | apply below_alloc | apply pw_below_drewN | apply below_drew1 | refine below_set ?_ GE263.out | refine below_set ?_ GE274.out) | exact HB.out)) hb)
         clear BK263
         clear BK274
         clear HB
         have BK263 := n0_
         have BK274 := n1_
         have HB := n2_
         clear n0_ n1_ n2_
         (try clear hb)
         (try clear hb2)
         (try clear hk)
         (try clear hi)
         refine hK.out _ _ ⟨(blk_cell BK263.out 0).trans rfl, (blk_cell BK263.out 1).trans rfl⟩ (fun hHeld => ?_)
         clear hK K
         refine norm_ (a' := ?_) ?_ ?_
         rotate_left
         ·
          show Act.put _ (some 28) _ = _
          simp only [Act.put, List.setIfInBounds_toArray, List.set_cons_zero, List.set_cons_succ, i64_w, i32_w]
          rfl
         exact norm_ (by first | (simp only [putAll, Act.put, List.setIfInBounds_toArray, List.set_cons_zero, List.set_cons_succ]; done) | (simp only [putAll, Act.put, List.setIfInBounds_toArray, List.set_cons_zero, List.set_cons_succ]; rfl)) (hJ2_5_6 (gb274) _ ⟨hHeld, (by (with_reducible repeat (first | refine blk_drewN ?_ _ | refine blk_drew ?_ | refine blk_alloc ?_ _)); exact BK263.out), (by (with_reducible repeat (first | refine blk_drewN ?_ _ | refine blk_drew ?_ | refine blk_alloc ?_ _)); exact BK274.out), GW274.out, GE274.out, NB263_274.out, NB274_263.out, (by repeat (first | (with_reducible first | exact HB.out | apply below_alloc | apply pw_below_drewN | apply below_drew1 | refine below_set ?_ GE263.out | refine below_set ?_ GE274.out) | exact HB.out))⟩)
        ·
         skip
         refine box_step ?hg (N := 10) ?hd (cs := #[.bool false, .bool false, .bool false, .int .u64 0, .int .i64 0]) (t := 66) ?hr ?_; (case hd => rfl); (case hg => rfl); (case hr => first | (go_simp; done) | (go_simp; rfl))
         intro gb275 hg w17 hbox hb
         have n0_ := Aside0.mk (blk_below (g := gb263) (o := .cells #[.int .i64 t260, .int .i64 t261] 62 (0, 0)) (by (with_reducible repeat (first | refine blk_drewN ?_ _ | refine blk_drew ?_ | refine blk_alloc ?_ _)); exact BK263.out) hb)
         have n1_ := Aside0.mk (blk_below (g := gb274) (o := .cells #[.bool false, .bool false, .bool false, .int .u64 0, .int .i64 0] 66 (0, 0)) (by (with_reducible repeat (first | refine blk_drewN ?_ _ | refine blk_drew ?_ | refine blk_alloc ?_ _)); exact BK274.out) hb)
         have n2_ := Aside0.mk (below_step (by repeat (first | (with_reducible first | exact HB.out | apply below_alloc | apply pw_below_drewN | apply below_drew1 | refine below_set ?_ GE263.out | refine below_set ?_ GE274.out) | exact HB.out)) hb)
         have n3_ := Aside0.mk (hbox)
         have n4_ := Aside0.mk ((by rw [hg]; exact (below_size (by repeat (first | (with_reducible first | exact HB.out | apply below_alloc | apply pw_below_drewN | apply below_drew1 | refine below_set ?_ GE263.out | refine below_set ?_ GE274.out) | exact HB.out))) : w.heap.size ≤ gb275))
         have n5_ := Aside0.mk ((by rw [hg]; exact (below_size (by repeat (first | (with_reducible first | exact HB.out | apply below_alloc | apply pw_below_drewN | apply below_drew1 | refine below_set ?_ GE263.out | refine below_set ?_ GE274.out) | exact HB.out))) : w.heap.size ≤ gb275))
         have n6_ := Aside0.mk ((by rw [hg]; exact Nat.ne_of_lt (blk_lt (g := gb263) (o := .cells #[.int .i64 t260, .int .i64 t261] 62 (0, 0)) (by (with_reducible repeat (first | refine blk_drewN ?_ _ | refine blk_drew ?_ | refine blk_alloc ?_ _)); exact BK263.out)) : gb263 ≠ gb275))
         have n7_ := Aside0.mk ((by rw [hg]; exact Nat.ne_of_gt (blk_lt (g := gb263) (o := .cells #[.int .i64 t260, .int .i64 t261] 62 (0, 0)) (by (with_reducible repeat (first | refine blk_drewN ?_ _ | refine blk_drew ?_ | refine blk_alloc ?_ _)); exact BK263.out)) : gb275 ≠ gb263))
         have n8_ := Aside0.mk ((by rw [hg]; exact Nat.ne_of_lt (blk_lt (g := gb274) (o := .cells #[.bool false, .bool false, .bool false, .int .u64 0, .int .i64 0] 66 (0, 0)) (by (with_reducible repeat (first | refine blk_drewN ?_ _ | refine blk_drew ?_ | refine blk_alloc ?_ _)); exact BK274.out)) : gb274 ≠ gb275))
         have n9_ := Aside0.mk ((by rw [hg]; exact Nat.ne_of_gt (blk_lt (g := gb274) (o := .cells #[.bool false, .bool false, .bool false, .int .u64 0, .int .i64 0] 66 (0, 0)) (by (with_reducible repeat (first | refine blk_drewN ?_ _ | refine blk_drew ?_ | refine blk_alloc ?_ _)); exact BK274.out)) : gb275 ≠ gb274))
         clear BK263
         clear BK274
         clear HB
         have BK263 := n0_
         have BK274 := n1_
         have HB := n2_
         have BK275 := n3_
         have GW275 := n4_
         have GE275 := n5_
         have NB263_275 := n6_
         have NB275_263 := n7_
         have NB274_275 := n8_
         have NB275_274 := n9_
         clear n0_ n1_ n2_ n3_ n4_ n5_ n6_ n7_ n8_ n9_
         clear hb hbox hg
         refine hK.out _ _ ⟨(blk_cell BK263.out 0).trans rfl, (blk_cell BK263.out 1).trans rfl⟩ (fun hHeld => ?_)
         clear hK K
         refine norm_ (a' := ?_) ?_ ?_
         rotate_left
         ·
          show Act.put _ (some 10) _ = _
          simp only [Act.put, List.setIfInBounds_toArray, List.set_cons_zero, List.set_cons_succ, i64_w, i32_w]
          rfl
         exact norm_ (by first | (simp only [putAll, Act.put, List.setIfInBounds_toArray, List.set_cons_zero, List.set_cons_succ]; done) | (simp only [putAll, Act.put, List.setIfInBounds_toArray, List.set_cons_zero, List.set_cons_succ]; rfl)) (hJ2_6_7 (gb274, gb275) _ ⟨hHeld, (by (with_reducible repeat (first | refine blk_drewN ?_ _ | refine blk_drew ?_ | refine blk_alloc ?_ _)); exact BK263.out), (by (with_reducible repeat (first | refine blk_drewN ?_ _ | refine blk_drew ?_ | refine blk_alloc ?_ _)); exact BK274.out), (by (with_reducible repeat (first | refine blk_drewN ?_ _ | refine blk_drew ?_ | refine blk_alloc ?_ _)); exact BK275.out), GW274.out, GE274.out, NB263_274.out, NB274_263.out, NB275_274.out, NB274_275.out, GW275.out, GE275.out, NB263_275.out, NB275_263.out, (by repeat (first | (with_reducible first | exact HB.out | apply below_alloc | apply pw_below_drewN | apply below_drew1 | refine below_set ?_ GE263.out | refine below_set ?_ GE274.out | refine below_set ?_ GE275.out) | exact HB.out))⟩)
      ·
       skip
       rintro _ w16 ⟨hS_, h0_, h1_⟩
       have n0_ : Aside0 (w16.heap[gb263]? = some (.cells #[.int .i64 t260, .int .i64 t261] 62 (0, 0))) := ⟨h0_⟩
       have n1_ : Aside0 (Below w.heap.size w w16) := ⟨h1_⟩
       clear BK263
       clear HB
       clear h0_ h1_
       have BK263 := n0_
       have HB := n1_
       clear n0_ n1_
       have hHeld : w16.cell? ⟨gb263, 0, none⟩ = some (.int .i64 t260) ∧ w16.cell? ⟨gb263, 1, none⟩ = some (.int .i64 t261) := hS_
       refine norm_ (a' := ?_) ?_ ?_
       rotate_left
       ·
        simp only [putAll, Act.put, List.setIfInBounds_toArray, List.set_cons_zero, List.set_cons_succ]
        rfl
       refine two_ (i := 6) (j := 7) (Ni := some 9) (Nj := some 10) #[true, true, true, true, true, true, true, false, false, false] #[true, true, true, true, true, true, false, true, false, false] rfl rfl rfl rfl (two_of HT_.out (by kernel_rfl)) (by decide) (by decide) (fun K hK => ?_) (fun K hK => ?_)
       ·
        skip
        refine box_step ?hg (N := 9) ?hd (cs := #[.bool false, .bool false, .bool false, .int .u64 0, .int .i64 0]) (t := 66) ?hr ?_; (case hd => rfl); (case hg => rfl); (case hr => first | (go_simp; done) | (go_simp; rfl))
        intro gb274 hg w17 hbox hb
        have n0_ := Aside0.mk (blk_below (g := gb263) (o := .cells #[.int .i64 t260, .int .i64 t261] 62 (0, 0)) (by (with_reducible repeat (first | refine blk_drewN ?_ _ | refine blk_drew ?_ | refine blk_alloc ?_ _)); exact BK263.out) hb)
        have n1_ := Aside0.mk (below_step (by repeat (first | (with_reducible first | exact HB.out | apply below_alloc | apply pw_below_drewN | apply below_drew1 | refine below_set ?_ GE263.out) | exact HB.out)) hb)
        have n2_ := Aside0.mk (hbox)
        have n3_ := Aside0.mk ((by rw [hg]; exact (below_size (by repeat (first | (with_reducible first | exact HB.out | apply below_alloc | apply pw_below_drewN | apply below_drew1 | refine below_set ?_ GE263.out) | exact HB.out))) : w.heap.size ≤ gb274))
        have n4_ := Aside0.mk ((by rw [hg]; exact (below_size (by repeat (first | (with_reducible first | exact HB.out | apply below_alloc | apply pw_below_drewN | apply below_drew1 | refine below_set ?_ GE263.out) | exact HB.out))) : w.heap.size ≤ gb274))
        have n5_ := Aside0.mk ((by rw [hg]; exact Nat.ne_of_lt (blk_lt (g := gb263) (o := .cells #[.int .i64 t260, .int .i64 t261] 62 (0, 0)) (by (with_reducible repeat (first | refine blk_drewN ?_ _ | refine blk_drew ?_ | refine blk_alloc ?_ _)); exact BK263.out)) : gb263 ≠ gb274))
        have n6_ := Aside0.mk ((by rw [hg]; exact Nat.ne_of_gt (blk_lt (g := gb263) (o := .cells #[.int .i64 t260, .int .i64 t261] 62 (0, 0)) (by (with_reducible repeat (first | refine blk_drewN ?_ _ | refine blk_drew ?_ | refine blk_alloc ?_ _)); exact BK263.out)) : gb274 ≠ gb263))
        clear BK263
        clear HB
        have BK263 := n0_
        have HB := n1_
        have BK274 := n2_
        have GW274 := n3_
        have GE274 := n4_
        have NB263_274 := n5_
        have NB274_263 := n6_
        clear n0_ n1_ n2_ n3_ n4_ n5_ n6_
        clear hb hbox hg
        refine hK.out _ _ ⟨(blk_cell BK263.out 0).trans rfl, (blk_cell BK263.out 1).trans rfl⟩ (fun hHeld => ?_)
        clear hK K
        refine norm_ (a' := ?_) ?_ ?_
        rotate_left
        ·
         show Act.put _ (some 9) _ = _
         simp only [Act.put, List.setIfInBounds_toArray, List.set_cons_zero, List.set_cons_succ, i64_w, i32_w]
         rfl
        exact norm_ (by first | (simp only [putAll, Act.put, List.setIfInBounds_toArray, List.set_cons_zero, List.set_cons_succ]; done) | (simp only [putAll, Act.put, List.setIfInBounds_toArray, List.set_cons_zero, List.set_cons_succ]; rfl)) (hJ2_5_6 (gb274) _ ⟨hHeld, (by (with_reducible repeat (first | refine blk_drewN ?_ _ | refine blk_drew ?_ | refine blk_alloc ?_ _)); exact BK263.out), (by (with_reducible repeat (first | refine blk_drewN ?_ _ | refine blk_drew ?_ | refine blk_alloc ?_ _)); exact BK274.out), GW274.out, GE274.out, NB263_274.out, NB274_263.out, (by repeat (first | (with_reducible first | exact HB.out | apply below_alloc | apply pw_below_drewN | apply below_drew1 | refine below_set ?_ GE263.out | refine below_set ?_ GE274.out) | exact HB.out))⟩)
       ·
        skip
        refine box_step ?hg (N := 10) ?hd (cs := #[.bool false, .bool false, .bool false, .int .u64 0, .int .i64 0]) (t := 66) ?hr ?_; (case hd => rfl); (case hg => rfl); (case hr => first | (go_simp; done) | (go_simp; rfl))
        intro gb275 hg w17 hbox hb
        have n0_ := Aside0.mk (blk_below (g := gb263) (o := .cells #[.int .i64 t260, .int .i64 t261] 62 (0, 0)) (by (with_reducible repeat (first | refine blk_drewN ?_ _ | refine blk_drew ?_ | refine blk_alloc ?_ _)); exact BK263.out) hb)
        have n1_ := Aside0.mk (below_step (by repeat (first | (with_reducible first | exact HB.out | apply below_alloc | apply pw_below_drewN | apply below_drew1 | refine below_set ?_ GE263.out) | exact HB.out)) hb)
        have n2_ := Aside0.mk (hbox)
        have n3_ := Aside0.mk ((by rw [hg]; exact (below_size (by repeat (first | (with_reducible first | exact HB.out | apply below_alloc | apply pw_below_drewN | apply below_drew1 | refine below_set ?_ GE263.out) | exact HB.out))) : w.heap.size ≤ gb275))
        have n4_ := Aside0.mk ((by rw [hg]; exact (below_size (by repeat (first | (with_reducible first | exact HB.out | apply below_alloc | apply pw_below_drewN | apply below_drew1 | refine below_set ?_ GE263.out) | exact HB.out))) : w.heap.size ≤ gb275))
        have n5_ := Aside0.mk ((by rw [hg]; exact Nat.ne_of_lt (blk_lt (g := gb263) (o := .cells #[.int .i64 t260, .int .i64 t261] 62 (0, 0)) (by (with_reducible repeat (first | refine blk_drewN ?_ _ | refine blk_drew ?_ | refine blk_alloc ?_ _)); exact BK263.out)) : gb263 ≠ gb275))
        have n6_ := Aside0.mk ((by rw [hg]; exact Nat.ne_of_gt (blk_lt (g := gb263) (o := .cells #[.int .i64 t260, .int .i64 t261] 62 (0, 0)) (by (with_reducible repeat (first | refine blk_drewN ?_ _ | refine blk_drew ?_ | refine blk_alloc ?_ _)); exact BK263.out)) : gb275 ≠ gb263))
        clear BK263
        clear HB
        have BK263 := n0_
        have HB := n1_
        have BK275 := n2_
        have GW275 := n3_
        have GE275 := n4_
        have NB263_275 := n5_
        have NB275_263 := n6_
        clear n0_ n1_ n2_ n3_ n4_ n5_ n6_
        clear hb hbox hg
        refine hK.out _ _ ⟨(blk_cell BK263.out 0).trans rfl, (blk_cell BK263.out 1).trans rfl⟩ (fun hHeld => ?_)
        clear hK K
        refine norm_ (a' := ?_) ?_ ?_
        rotate_left
        ·
         show Act.put _ (some 10) _ = _
         simp only [Act.put, List.setIfInBounds_toArray, List.set_cons_zero, List.set_cons_succ, i64_w, i32_w]
         rfl
        exact norm_ (by first | (simp only [putAll, Act.put, List.setIfInBounds_toArray, List.set_cons_zero, List.set_cons_succ]; done) | (simp only [putAll, Act.put, List.setIfInBounds_toArray, List.set_cons_zero, List.set_cons_succ]; rfl)) (hJ2_5_7 (gb275) _ ⟨hHeld, (by (with_reducible repeat (first | refine blk_drewN ?_ _ | refine blk_drew ?_ | refine blk_alloc ?_ _)); exact BK263.out), (by (with_reducible repeat (first | refine blk_drewN ?_ _ | refine blk_drew ?_ | refine blk_alloc ?_ _)); exact BK275.out), GW275.out, GE275.out, NB263_275.out, NB275_263.out, (by repeat (first | (with_reducible first | exact HB.out | apply below_alloc | apply pw_below_drewN | apply below_drew1 | refine below_set ?_ GE263.out | refine below_set ?_ GE275.out) | exact HB.out))⟩)
     ·
      skip
      rintro ⟨gb274, gb275⟩ w17 ⟨hS_, h0_, h1_, h2_, h3_, h4_, h5_, h6_, h7_, h8_, h9_, h10_, h11_, h12_, h13_⟩
      have n0_ : Aside0 (w17.heap[gb263]? = some (.cells #[.int .i64 t260, .int .i64 t261] 62 (0, 0))) := ⟨h0_⟩
      have n1_ : Aside0 (w17.heap[gb274]? = some (.cells #[.bool false, .bool false, .bool false, .int .u64 0, .int .i64 0] 66 (0, 0))) := ⟨h1_⟩
      have n2_ : Aside0 (w17.heap[gb275]? = some (.cells #[.bool false, .bool false, .bool false, .int .u64 0, .int .i64 0] 66 (0, 0))) := ⟨h2_⟩
      have n3_ : Aside0 (w.heap.size ≤ gb274) := ⟨h3_⟩
      have n4_ : Aside0 (w.heap.size ≤ gb274) := ⟨h4_⟩
      have n5_ : Aside0 (gb263 ≠ gb274) := ⟨h5_⟩
      have n6_ : Aside0 (gb274 ≠ gb263) := ⟨h6_⟩
      have n7_ : Aside0 (gb275 ≠ gb274) := ⟨h7_⟩
      have n8_ : Aside0 (gb274 ≠ gb275) := ⟨h8_⟩
      have n9_ : Aside0 (w.heap.size ≤ gb275) := ⟨h9_⟩
      have n10_ : Aside0 (w.heap.size ≤ gb275) := ⟨h10_⟩
      have n11_ : Aside0 (gb263 ≠ gb275) := ⟨h11_⟩
      have n12_ : Aside0 (gb275 ≠ gb263) := ⟨h12_⟩
      have n13_ : Aside0 (Below w.heap.size w w17) := ⟨h13_⟩
      clear BK263
      clear HB
      clear h0_ h1_ h2_ h3_ h4_ h5_ h6_ h7_ h8_ h9_ h10_ h11_ h12_ h13_
      have BK263 := n0_
      have BK274 := n1_
      have BK275 := n2_
      have GW274 := n3_
      have GE274 := n4_
      have NB263_274 := n5_
      have NB274_263 := n6_
      have NB275_274 := n7_
      have NB274_275 := n8_
      have GW275 := n9_
      have GE275 := n10_
      have NB263_275 := n11_
      have NB275_263 := n12_
      have HB := n13_
      clear n0_ n1_ n2_ n3_ n4_ n5_ n6_ n7_ n8_ n9_ n10_ n11_ n12_ n13_
      have hHeld : w17.cell? ⟨gb263, 0, none⟩ = some (.int .i64 t260) ∧ w17.cell? ⟨gb263, 1, none⟩ = some (.int .i64 t261) := hS_
      refine norm_ (a' := ?_) ?_ ?_
      rotate_left
      ·
       simp only [putAll, Act.put, List.setIfInBounds_toArray, List.set_cons_zero, List.set_cons_succ]
       rfl
      refine one_ (i := 5) (N := some 28) #[true, true, true, true, true, true, true, true, false, false] rfl rfl (one_of HT_.out (by kernel_rfl)) (by decide) (fun K hK => ?_)
      refine goes_ Try.func52 (by kernel_rfl) rfl #[.agg #[.int .i64 t260, .int .i64 t261], .int .u32 a2] (by rfl) rfl rfl (by (try simp only [List.map_toArray, List.map_cons, List.map_nil]); first | done | rfl | (simp only [List.length_drop, List.length_take]; rfl)) ?_
      with_reducible refine (impl_format_open.calls t260 t261 a2 t269 t270 t271 t272 t273 _ A7.out).mono ?_
      rintro e w18 ⟨rfl, hb⟩
      refine ⟨_, rfl, ?_⟩
      have n0_ := Aside0.mk (blk_below (g := gb263) (o := .cells #[.int .i64 t260, .int .i64 t261] 62 (0, 0)) (by (with_reducible repeat (first | refine blk_drewN ?_ _ | refine blk_drew ?_ | refine blk_alloc ?_ _)); exact BK263.out) hb)
      have n1_ := Aside0.mk (blk_below (g := gb274) (o := .cells #[.bool false, .bool false, .bool false, .int .u64 0, .int .i64 0] 66 (0, 0)) (by (with_reducible repeat (first | refine blk_drewN ?_ _ | refine blk_drew ?_ | refine blk_alloc ?_ _)); exact BK274.out) hb)
      have n2_ := Aside0.mk (blk_below (g := gb275) (o := .cells #[.bool false, .bool false, .bool false, .int .u64 0, .int .i64 0] 66 (0, 0)) (by (with_reducible repeat (first | refine blk_drewN ?_ _ | refine blk_drew ?_ | refine blk_alloc ?_ _)); exact BK275.out) hb)
      have n3_ := Aside0.mk (below_step (by repeat (first | (with_reducible first | exact HB.out | apply below_alloc | apply pw_below_drewN | apply below_drew1 | refine below_set ?_ GE263.out | refine below_set ?_ GE274.out | refine below_set ?_ GE275.out) | exact HB.out)) hb)
      clear BK263
      clear BK274
      clear BK275
      clear HB
      have BK263 := n0_
      have BK274 := n1_
      have BK275 := n2_
      have HB := n3_
      clear n0_ n1_ n2_ n3_
      (try clear hb)
      (try clear hb2)
      (try clear hk)
      (try clear hi)
      refine hK.out _ _ ⟨(blk_cell BK263.out 0).trans rfl, (blk_cell BK263.out 1).trans rfl⟩ (fun hHeld => ?_)
      clear hK K
      refine norm_ (a' := ?_) ?_ ?_
      rotate_left
      ·
       show Act.put _ (some 28) _ = _
       simp only [Act.put, List.setIfInBounds_toArray, List.set_cons_zero, List.set_cons_succ, i64_w, i32_w]
       rfl
      exact norm_ (by first | (simp only [putAll, Act.put, List.setIfInBounds_toArray, List.set_cons_zero, List.set_cons_succ]; done) | (simp only [putAll, Act.put, List.setIfInBounds_toArray, List.set_cons_zero, List.set_cons_succ]; rfl)) (hJ2_5_6_7 (gb274, gb275) _ ⟨hHeld, (by (with_reducible repeat (first | refine blk_drewN ?_ _ | refine blk_drew ?_ | refine blk_alloc ?_ _)); exact BK263.out), (by (with_reducible repeat (first | refine blk_drewN ?_ _ | refine blk_drew ?_ | refine blk_alloc ?_ _)); exact BK274.out), (by (with_reducible repeat (first | refine blk_drewN ?_ _ | refine blk_drew ?_ | refine blk_alloc ?_ _)); exact BK275.out), GW274.out, GE274.out, NB263_274.out, NB274_263.out, NB275_274.out, NB274_275.out, GW275.out, GE275.out, NB263_275.out, NB275_263.out, (by repeat (first | (with_reducible first | exact HB.out | apply below_alloc | apply pw_below_drewN | apply below_drew1 | refine below_set ?_ GE263.out | refine below_set ?_ GE274.out | refine below_set ?_ GE275.out) | exact HB.out))⟩)
    ·
     skip
     rintro gb275 w17 ⟨hS_, h0_, h1_, h2_, h3_, h4_, h5_, h6_⟩
     have n0_ : Aside0 (w17.heap[gb263]? = some (.cells #[.int .i64 t260, .int .i64 t261] 62 (0, 0))) := ⟨h0_⟩
     have n1_ : Aside0 (w17.heap[gb275]? = some (.cells #[.bool false, .bool false, .bool false, .int .u64 0, .int .i64 0] 66 (0, 0))) := ⟨h1_⟩
     have n2_ : Aside0 (w.heap.size ≤ gb275) := ⟨h2_⟩
     have n3_ : Aside0 (w.heap.size ≤ gb275) := ⟨h3_⟩
     have n4_ : Aside0 (gb263 ≠ gb275) := ⟨h4_⟩
     have n5_ : Aside0 (gb275 ≠ gb263) := ⟨h5_⟩
     have n6_ : Aside0 (Below w.heap.size w w17) := ⟨h6_⟩
     clear BK263
     clear HB
     clear h0_ h1_ h2_ h3_ h4_ h5_ h6_
     have BK263 := n0_
     have BK275 := n1_
     have GW275 := n2_
     have GE275 := n3_
     have NB263_275 := n4_
     have NB275_263 := n5_
     have HB := n6_
     clear n0_ n1_ n2_ n3_ n4_ n5_ n6_
     have hHeld : w17.cell? ⟨gb263, 0, none⟩ = some (.int .i64 t260) ∧ w17.cell? ⟨gb263, 1, none⟩ = some (.int .i64 t261) := hS_
     refine norm_ (a' := ?_) ?_ ?_
     rotate_left
     ·
      simp only [putAll, Act.put, List.setIfInBounds_toArray, List.set_cons_zero, List.set_cons_succ]
      rfl
     refine one_ (i := 6) (N := some 9) #[true, true, true, true, true, true, true, true, false, false] rfl rfl (one_of HT_.out (by kernel_rfl)) (by decide) (fun K hK => ?_)
     refine box_step ?hg (N := 9) ?hd (cs := #[.bool false, .bool false, .bool false, .int .u64 0, .int .i64 0]) (t := 66) ?hr ?_; (case hd => rfl); (case hg => rfl); (case hr => first | (go_simp; done) | (go_simp; rfl))
     intro gb274 hg w18 hbox hb
     have n0_ := Aside0.mk (blk_below (g := gb263) (o := .cells #[.int .i64 t260, .int .i64 t261] 62 (0, 0)) (by (with_reducible repeat (first | refine blk_drewN ?_ _ | refine blk_drew ?_ | refine blk_alloc ?_ _)); exact BK263.out) hb)
     have n1_ := Aside0.mk (blk_below (g := gb275) (o := .cells #[.bool false, .bool false, .bool false, .int .u64 0, .int .i64 0] 66 (0, 0)) (by (with_reducible repeat (first | refine blk_drewN ?_ _ | refine blk_drew ?_ | refine blk_alloc ?_ _)); exact BK275.out) hb)
     have n2_ := Aside0.mk (below_step (by repeat (first | (with_reducible first | exact HB.out | apply below_alloc | apply pw_below_drewN | apply below_drew1 | refine below_set ?_ GE263.out | refine below_set ?_ GE275.out) | exact HB.out)) hb)
     have n3_ := Aside0.mk (hbox)
     have n4_ := Aside0.mk ((by rw [hg]; exact (below_size (by repeat (first | (with_reducible first | exact HB.out | apply below_alloc | apply pw_below_drewN | apply below_drew1 | refine below_set ?_ GE263.out | refine below_set ?_ GE275.out) | exact HB.out))) : w.heap.size ≤ gb274))
     have n5_ := Aside0.mk ((by rw [hg]; exact (below_size (by repeat (first | (with_reducible first | exact HB.out | apply below_alloc | apply pw_below_drewN | apply below_drew1 | refine below_set ?_ GE263.out | refine below_set ?_ GE275.out) | exact HB.out))) : w.heap.size ≤ gb274))
     have n6_ := Aside0.mk ((by rw [hg]; exact Nat.ne_of_lt (blk_lt (g := gb263) (o := .cells #[.int .i64 t260, .int .i64 t261] 62 (0, 0)) (by (with_reducible repeat (first | refine blk_drewN ?_ _ | refine blk_drew ?_ | refine blk_alloc ?_ _)); exact BK263.out)) : gb263 ≠ gb274))
     have n7_ := Aside0.mk ((by rw [hg]; exact Nat.ne_of_gt (blk_lt (g := gb263) (o := .cells #[.int .i64 t260, .int .i64 t261] 62 (0, 0)) (by (with_reducible repeat (first | refine blk_drewN ?_ _ | refine blk_drew ?_ | refine blk_alloc ?_ _)); exact BK263.out)) : gb274 ≠ gb263))
     have n8_ := Aside0.mk ((by rw [hg]; exact Nat.ne_of_lt (blk_lt (g := gb275) (o := .cells #[.bool false, .bool false, .bool false, .int .u64 0, .int .i64 0] 66 (0, 0)) (by (with_reducible repeat (first | refine blk_drewN ?_ _ | refine blk_drew ?_ | refine blk_alloc ?_ _)); exact BK275.out)) : gb275 ≠ gb274))
     have n9_ := Aside0.mk ((by rw [hg]; exact Nat.ne_of_gt (blk_lt (g := gb275) (o := .cells #[.bool false, .bool false, .bool false, .int .u64 0, .int .i64 0] 66 (0, 0)) (by (with_reducible repeat (first | refine blk_drewN ?_ _ | refine blk_drew ?_ | refine blk_alloc ?_ _)); exact BK275.out)) : gb274 ≠ gb275))
     clear BK263
     clear BK275
     clear HB
     have BK263 := n0_
     have BK275 := n1_
     have HB := n2_
     have BK274 := n3_
     have GW274 := n4_
     have GE274 := n5_
     have NB263_274 := n6_
     have NB274_263 := n7_
     have NB275_274 := n8_
     have NB274_275 := n9_
     clear n0_ n1_ n2_ n3_ n4_ n5_ n6_ n7_ n8_ n9_
     clear hb hbox hg
     refine hK.out _ _ ⟨(blk_cell BK263.out 0).trans rfl, (blk_cell BK263.out 1).trans rfl⟩ (fun hHeld => ?_)
     clear hK K
     refine norm_ (a' := ?_) ?_ ?_
     rotate_left
     ·
      show Act.put _ (some 9) _ = _
      simp only [Act.put, List.setIfInBounds_toArray, List.set_cons_zero, List.set_cons_succ, i64_w, i32_w]
      rfl
     exact norm_ (by first | (simp only [putAll, Act.put, List.setIfInBounds_toArray, List.set_cons_zero, List.set_cons_succ]; done) | (simp only [putAll, Act.put, List.setIfInBounds_toArray, List.set_cons_zero, List.set_cons_succ]; rfl)) (hJ2_5_6_7 (gb274, gb275) _ ⟨hHeld, (by (with_reducible repeat (first | refine blk_drewN ?_ _ | refine blk_drew ?_ | refine blk_alloc ?_ _)); exact BK263.out), (by (with_reducible repeat (first | refine blk_drewN ?_ _ | refine blk_drew ?_ | refine blk_alloc ?_ _)); exact BK274.out), (by (with_reducible repeat (first | refine blk_drewN ?_ _ | refine blk_drew ?_ | refine blk_alloc ?_ _)); exact BK275.out), GW274.out, GE274.out, NB263_274.out, NB274_263.out, NB275_274.out, NB274_275.out, GW275.out, GE275.out, NB263_275.out, NB275_263.out, (by repeat (first | (with_reducible first | exact HB.out | apply below_alloc | apply pw_below_drewN | apply below_drew1 | refine below_set ?_ GE263.out | refine below_set ?_ GE275.out | refine below_set ?_ GE274.out) | exact HB.out))⟩)
   ·
    skip
    rintro gb274 w17 ⟨hS_, h0_, h1_, h2_, h3_, h4_, h5_, h6_⟩
    have n0_ : Aside0 (w17.heap[gb263]? = some (.cells #[.int .i64 t260, .int .i64 t261] 62 (0, 0))) := ⟨h0_⟩
    have n1_ : Aside0 (w17.heap[gb274]? = some (.cells #[.bool false, .bool false, .bool false, .int .u64 0, .int .i64 0] 66 (0, 0))) := ⟨h1_⟩
    have n2_ : Aside0 (w.heap.size ≤ gb274) := ⟨h2_⟩
    have n3_ : Aside0 (w.heap.size ≤ gb274) := ⟨h3_⟩
    have n4_ : Aside0 (gb263 ≠ gb274) := ⟨h4_⟩
    have n5_ : Aside0 (gb274 ≠ gb263) := ⟨h5_⟩
    have n6_ : Aside0 (Below w.heap.size w w17) := ⟨h6_⟩
    clear BK263
    clear HB
    clear h0_ h1_ h2_ h3_ h4_ h5_ h6_
    have BK263 := n0_
    have BK274 := n1_
    have GW274 := n2_
    have GE274 := n3_
    have NB263_274 := n4_
    have NB274_263 := n5_
    have HB := n6_
    clear n0_ n1_ n2_ n3_ n4_ n5_ n6_
    have hHeld : w17.cell? ⟨gb263, 0, none⟩ = some (.int .i64 t260) ∧ w17.cell? ⟨gb263, 1, none⟩ = some (.int .i64 t261) := hS_
    refine norm_ (a' := ?_) ?_ ?_
    rotate_left
    ·
     simp only [putAll, Act.put, List.setIfInBounds_toArray, List.set_cons_zero, List.set_cons_succ]
     rfl
    refine one_ (i := 7) (N := some 10) #[true, true, true, true, true, true, true, true, false, false] rfl rfl (one_of HT_.out (by kernel_rfl)) (by decide) (fun K hK => ?_)
    refine box_step ?hg (N := 10) ?hd (cs := #[.bool false, .bool false, .bool false, .int .u64 0, .int .i64 0]) (t := 66) ?hr ?_; (case hd => rfl); (case hg => rfl); (case hr => first | (go_simp; done) | (go_simp; rfl))
    intro gb275 hg w18 hbox hb
    have n0_ := Aside0.mk (blk_below (g := gb263) (o := .cells #[.int .i64 t260, .int .i64 t261] 62 (0, 0)) (by (with_reducible repeat (first | refine blk_drewN ?_ _ | refine blk_drew ?_ | refine blk_alloc ?_ _)); exact BK263.out) hb)
    have n1_ := Aside0.mk (blk_below (g := gb274) (o := .cells #[.bool false, .bool false, .bool false, .int .u64 0, .int .i64 0] 66 (0, 0)) (by (with_reducible repeat (first | refine blk_drewN ?_ _ | refine blk_drew ?_ | refine blk_alloc ?_ _)); exact BK274.out) hb)
    have n2_ := Aside0.mk (below_step (by repeat (first | (with_reducible first | exact HB.out | apply below_alloc | apply pw_below_drewN | apply below_drew1 | refine below_set ?_ GE263.out | refine below_set ?_ GE274.out) | exact HB.out)) hb)
    have n3_ := Aside0.mk (hbox)
    have n4_ := Aside0.mk ((by rw [hg]; exact (below_size (by repeat (first | (with_reducible first | exact HB.out | apply below_alloc | apply pw_below_drewN | apply below_drew1 | refine below_set ?_ GE263.out | refine below_set ?_ GE274.out) | exact HB.out))) : w.heap.size ≤ gb275))
    have n5_ := Aside0.mk ((by rw [hg]; exact (below_size (by repeat (first | (with_reducible first | exact HB.out | apply below_alloc | apply pw_below_drewN | apply below_drew1 | refine below_set ?_ GE263.out | refine below_set ?_ GE274.out) | exact HB.out))) : w.heap.size ≤ gb275))
    have n6_ := Aside0.mk ((by rw [hg]; exact Nat.ne_of_lt (blk_lt (g := gb263) (o := .cells #[.int .i64 t260, .int .i64 t261] 62 (0, 0)) (by (with_reducible repeat (first | refine blk_drewN ?_ _ | refine blk_drew ?_ | refine blk_alloc ?_ _)); exact BK263.out)) : gb263 ≠ gb275))
    have n7_ := Aside0.mk ((by rw [hg]; exact Nat.ne_of_gt (blk_lt (g := gb263) (o := .cells #[.int .i64 t260, .int .i64 t261] 62 (0, 0)) (by (with_reducible repeat (first | refine blk_drewN ?_ _ | refine blk_drew ?_ | refine blk_alloc ?_ _)); exact BK263.out)) : gb275 ≠ gb263))
    have n8_ := Aside0.mk ((by rw [hg]; exact Nat.ne_of_lt (blk_lt (g := gb274) (o := .cells #[.bool false, .bool false, .bool false, .int .u64 0, .int .i64 0] 66 (0, 0)) (by (with_reducible repeat (first | refine blk_drewN ?_ _ | refine blk_drew ?_ | refine blk_alloc ?_ _)); exact BK274.out)) : gb274 ≠ gb275))
    have n9_ := Aside0.mk ((by rw [hg]; exact Nat.ne_of_gt (blk_lt (g := gb274) (o := .cells #[.bool false, .bool false, .bool false, .int .u64 0, .int .i64 0] 66 (0, 0)) (by (with_reducible repeat (first | refine blk_drewN ?_ _ | refine blk_drew ?_ | refine blk_alloc ?_ _)); exact BK274.out)) : gb275 ≠ gb274))
    clear BK263
    clear BK274
    clear HB
    have BK263 := n0_
    have BK274 := n1_
    have HB := n2_
    have BK275 := n3_
    have GW275 := n4_
    have GE275 := n5_
    have NB263_275 := n6_
    have NB275_263 := n7_
    have NB274_275 := n8_
    have NB275_274 := n9_
    clear n0_ n1_ n2_ n3_ n4_ n5_ n6_ n7_ n8_ n9_
    clear hb hbox hg
    refine hK.out _ _ ⟨(blk_cell BK263.out 0).trans rfl, (blk_cell BK263.out 1).trans rfl⟩ (fun hHeld => ?_)
    clear hK K
    refine norm_ (a' := ?_) ?_ ?_
    rotate_left
    ·
     show Act.put _ (some 10) _ = _
     simp only [Act.put, List.setIfInBounds_toArray, List.set_cons_zero, List.set_cons_succ, i64_w, i32_w]
     rfl
    exact norm_ (by first | (simp only [putAll, Act.put, List.setIfInBounds_toArray, List.set_cons_zero, List.set_cons_succ]; done) | (simp only [putAll, Act.put, List.setIfInBounds_toArray, List.set_cons_zero, List.set_cons_succ]; rfl)) (hJ2_5_6_7 (gb274, gb275) _ ⟨hHeld, (by (with_reducible repeat (first | refine blk_drewN ?_ _ | refine blk_drew ?_ | refine blk_alloc ?_ _)); exact BK263.out), (by (with_reducible repeat (first | refine blk_drewN ?_ _ | refine blk_drew ?_ | refine blk_alloc ?_ _)); exact BK274.out), (by (with_reducible repeat (first | refine blk_drewN ?_ _ | refine blk_drew ?_ | refine blk_alloc ?_ _)); exact BK275.out), GW274.out, GE274.out, NB263_274.out, NB274_263.out, NB275_274.out, NB274_275.out, GW275.out, GE275.out, NB263_275.out, NB275_263.out, (by repeat (first | (with_reducible first | exact HB.out | apply below_alloc | apply pw_below_drewN | apply below_drew1 | refine below_set ?_ GE263.out | refine below_set ?_ GE274.out | refine below_set ?_ GE275.out) | exact HB.out))⟩)
  rintro ⟨gb274, gb275⟩ w18 ⟨hS_, h0_, h1_, h2_, h3_, h4_, h5_, h6_, h7_, h8_, h9_, h10_, h11_, h12_, h13_⟩
  have n0_ : Aside0 (w18.heap[gb263]? = some (.cells #[.int .i64 t260, .int .i64 t261] 62 (0, 0))) := ⟨h0_⟩
  have n1_ : Aside0 (w18.heap[gb274]? = some (.cells #[.bool false, .bool false, .bool false, .int .u64 0, .int .i64 0] 66 (0, 0))) := ⟨h1_⟩
  have n2_ : Aside0 (w18.heap[gb275]? = some (.cells #[.bool false, .bool false, .bool false, .int .u64 0, .int .i64 0] 66 (0, 0))) := ⟨h2_⟩
  have n3_ : Aside0 (w.heap.size ≤ gb274) := ⟨h3_⟩
  have n4_ : Aside0 (w.heap.size ≤ gb274) := ⟨h4_⟩
  have n5_ : Aside0 (gb263 ≠ gb274) := ⟨h5_⟩
  have n6_ : Aside0 (gb274 ≠ gb263) := ⟨h6_⟩
  have n7_ : Aside0 (gb275 ≠ gb274) := ⟨h7_⟩
  have n8_ : Aside0 (gb274 ≠ gb275) := ⟨h8_⟩
  have n9_ : Aside0 (w.heap.size ≤ gb275) := ⟨h9_⟩
  have n10_ : Aside0 (w.heap.size ≤ gb275) := ⟨h10_⟩
  have n11_ : Aside0 (gb263 ≠ gb275) := ⟨h11_⟩
  have n12_ : Aside0 (gb275 ≠ gb263) := ⟨h12_⟩
  have n13_ : Aside0 (Below w.heap.size w w18) := ⟨h13_⟩
  clear BK263
  clear HB
  clear h0_ h1_ h2_ h3_ h4_ h5_ h6_ h7_ h8_ h9_ h10_ h11_ h12_ h13_
  have BK263 := n0_
  have BK274 := n1_
  have BK275 := n2_
  have GW274 := n3_
  have GE274 := n4_
  have NB263_274 := n5_
  have NB274_263 := n6_
  have NB275_274 := n7_
  have NB274_275 := n8_
  have GW275 := n9_
  have GE275 := n10_
  have NB263_275 := n11_
  have NB275_263 := n12_
  have HB := n13_
  clear n0_ n1_ n2_ n3_ n4_ n5_ n6_ n7_ n8_ n9_ n10_ n11_ n12_ n13_
  have hHeld : w18.cell? ⟨gb263, 0, none⟩ = some (.int .i64 t260) ∧ w18.cell? ⟨gb263, 1, none⟩ = some (.int .i64 t261) := hS_
  refine norm_ (a' := ?_) ?_ ?_
  rotate_left
  ·
   simp only [putAll, Act.put, List.setIfInBounds_toArray, List.set_cons_zero, List.set_cons_succ]
   rfl
  refine one_ (i := 8) (N := none) #[true, true, true, true, true, true, true, true, true, false] rfl rfl (one_of HT_.out (by kernel_rfl)) (by decide) (fun K hK => ?_)
  have hs19 : w18.cell? ⟨gb274, 0, none⟩ = some (.bool false) := (blk_cell BK274.out 0).trans rfl
  have hfs19 := blk_frozen BK274.out 0
  have hns19_0 := NB263_274.out
  have hns19_2 := NB275_274.out
  have hms19_0 := NB274_263.out
  have hms19_2 := NB274_275.out
  have hs20 : w18.cell? ⟨gb274, 1, none⟩ = some (.bool false) := (blk_cell BK274.out 1).trans rfl
  have hfs20 := blk_frozen BK274.out 1
  have hns20_0 := NB263_274.out
  have hns20_2 := NB275_274.out
  have hms20_0 := NB274_263.out
  have hms20_2 := NB274_275.out
  have hs21 : w18.cell? ⟨gb274, 2, none⟩ = some (.bool false) := (blk_cell BK274.out 2).trans rfl
  have hfs21 := blk_frozen BK274.out 2
  have hns21_0 := NB263_274.out
  have hns21_2 := NB275_274.out
  have hms21_0 := NB274_263.out
  have hms21_2 := NB274_275.out
  have hs22 : w18.cell? ⟨gb274, 3, none⟩ = some (.int .u64 0) := (blk_cell BK274.out 3).trans rfl
  have hfs22 := blk_frozen BK274.out 3
  have hns22_0 := NB263_274.out
  have hns22_2 := NB275_274.out
  have hms22_0 := NB274_263.out
  have hms22_2 := NB274_275.out
  have hs23 : w18.cell? ⟨gb274, 4, none⟩ = some (.int .i64 0) := (blk_cell BK274.out 4).trans rfl
  have hfs23 := blk_frozen BK274.out 4
  have hns23_0 := NB263_274.out
  have hns23_2 := NB275_274.out
  have hms23_0 := NB274_263.out
  have hms23_2 := NB274_275.out
  refine skip_ (w1 := ?_) (by rfl) rfl ?_ ?_
  rotate_left
  ·
   go_simp
   rfl
  refine hK.out _ _ ⟨((cell_far (p := ⟨gb274, _, none⟩) NB263_274.out _).trans (((cell_far (p := ⟨gb274, _, none⟩) NB263_274.out _).trans (((cell_far (p := ⟨gb274, _, none⟩) NB263_274.out _).trans (((cell_far (p := ⟨gb274, _, none⟩) NB263_274.out _).trans (((cell_far (p := ⟨gb274, _, none⟩) NB263_274.out _).trans (hHeld.1)))))))))), ((cell_far (p := ⟨gb274, _, none⟩) NB263_274.out _).trans (((cell_far (p := ⟨gb274, _, none⟩) NB263_274.out _).trans (((cell_far (p := ⟨gb274, _, none⟩) NB263_274.out _).trans (((cell_far (p := ⟨gb274, _, none⟩) NB263_274.out _).trans (((cell_far (p := ⟨gb274, _, none⟩) NB263_274.out _).trans (hHeld.2))))))))))⟩ (fun hHeld => ?_)
  clear hK K
  refine one_ (i := 9) (N := none) #[true, true, true, true, true, true, true, true, true, true] rfl rfl (one_of HT_.out (by kernel_rfl)) (by decide) (fun K hK => ?_)
  have hs24 : w18.cell? ⟨gb275, 0, none⟩ = some (.bool false) := (blk_cell BK275.out 0).trans rfl
  have hfs24 := blk_frozen BK275.out 0
  have hns24_0 := NB263_275.out
  have hns24_1 := NB274_275.out
  have hms24_0 := NB275_263.out
  have hms24_1 := NB275_274.out
  have hs25 : w18.cell? ⟨gb275, 1, none⟩ = some (.bool false) := (blk_cell BK275.out 1).trans rfl
  have hfs25 := blk_frozen BK275.out 1
  have hns25_0 := NB263_275.out
  have hns25_1 := NB274_275.out
  have hms25_0 := NB275_263.out
  have hms25_1 := NB275_274.out
  have hs26 : w18.cell? ⟨gb275, 2, none⟩ = some (.bool false) := (blk_cell BK275.out 2).trans rfl
  have hfs26 := blk_frozen BK275.out 2
  have hns26_0 := NB263_275.out
  have hns26_1 := NB274_275.out
  have hms26_0 := NB275_263.out
  have hms26_1 := NB275_274.out
  have hs27 : w18.cell? ⟨gb275, 3, none⟩ = some (.int .u64 0) := (blk_cell BK275.out 3).trans rfl
  have hfs27 := blk_frozen BK275.out 3
  have hns27_0 := NB263_275.out
  have hns27_1 := NB274_275.out
  have hms27_0 := NB275_263.out
  have hms27_1 := NB275_274.out
  have hs28 : w18.cell? ⟨gb275, 4, none⟩ = some (.int .i64 0) := (blk_cell BK275.out 4).trans rfl
  have hfs28 := blk_frozen BK275.out 4
  have hns28_0 := NB263_275.out
  have hns28_1 := NB274_275.out
  have hms28_0 := NB275_263.out
  have hms28_1 := NB275_274.out
  refine skip_ (w1 := ?_) (by rfl) rfl ?_ ?_
  rotate_left
  ·
   go_simp
   rfl
  refine hK.out _ _ ⟨((cell_far (p := ⟨gb275, _, none⟩) NB263_275.out _).trans (((cell_far (p := ⟨gb275, _, none⟩) NB263_275.out _).trans (((cell_far (p := ⟨gb275, _, none⟩) NB263_275.out _).trans (((cell_far (p := ⟨gb275, _, none⟩) NB263_275.out _).trans (((cell_far (p := ⟨gb275, _, none⟩) NB263_275.out _).trans (hHeld.1)))))))))), ((cell_far (p := ⟨gb275, _, none⟩) NB263_275.out _).trans (((cell_far (p := ⟨gb275, _, none⟩) NB263_275.out _).trans (((cell_far (p := ⟨gb275, _, none⟩) NB263_275.out _).trans (((cell_far (p := ⟨gb275, _, none⟩) NB263_275.out _).trans (((cell_far (p := ⟨gb275, _, none⟩) NB263_275.out _).trans (hHeld.2))))))))))⟩ (fun hHeld => ?_)
  clear hK K
  refine done_ (done_of HT_.out (by kernel_rfl)) ?_
  have hnb29 := NB274_263.out
  have hnc29 := NB263_274.out
  have hnb30 := NB274_275.out
  have hnc30 := NB275_274.out
  have hcz31_0 : w18.cell? ⟨gb274, 0, none⟩ = some (.bool false) := (blk_cell BK274.out 0).trans rfl
  have hcz31_1 : w18.cell? ⟨gb274, 1, none⟩ = some (.bool false) := (blk_cell BK274.out 1).trans rfl
  have hcz31_2 : w18.cell? ⟨gb274, 2, none⟩ = some (.bool false) := (blk_cell BK274.out 2).trans rfl
  have hcz31_3 : w18.cell? ⟨gb274, 3, none⟩ = some (.int .u64 0) := (blk_cell BK274.out 3).trans rfl
  have hcz31_4 : w18.cell? ⟨gb274, 4, none⟩ = some (.int .i64 0) := (blk_cell BK274.out 4).trans rfl
  have hfz31_0 := blk_frozen BK274.out 0
  have hfz31_1 := blk_frozen BK274.out 1
  have hfz31_2 := blk_frozen BK274.out 2
  have hfz31_3 := blk_frozen BK274.out 3
  have hfz31_4 := blk_frozen BK274.out 4
  have hnb32 := NB275_263.out
  have hnc32 := NB263_275.out
  have hcz33_0 : w18.cell? ⟨gb275, 0, none⟩ = some (.bool false) := (blk_cell BK275.out 0).trans rfl
  have hcz33_1 : w18.cell? ⟨gb275, 1, none⟩ = some (.bool false) := (blk_cell BK275.out 1).trans rfl
  have hcz33_2 : w18.cell? ⟨gb275, 2, none⟩ = some (.bool false) := (blk_cell BK275.out 2).trans rfl
  have hcz33_3 : w18.cell? ⟨gb275, 3, none⟩ = some (.int .u64 0) := (blk_cell BK275.out 3).trans rfl
  have hcz33_4 : w18.cell? ⟨gb275, 4, none⟩ = some (.int .i64 0) := (blk_cell BK275.out 4).trans rfl
  have hfz33_0 := blk_frozen BK275.out 0
  have hfz33_1 := blk_frozen BK275.out 1
  have hfz33_2 := blk_frozen BK275.out 2
  have hfz33_3 := blk_frozen BK275.out 3
  have hfz33_4 := blk_frozen BK275.out 4
  go_upto_region 6 with (fail)
  go_cut [12, 13] (fun v12 v13 wc => ∃ (kq : Nat) (x12_7 : Bool) (x13_7 : Bool), v12 = .bool x12_7 ∧ v13 = .bool x13_7 ∧ Aside0 (impl_FDiv.j0 kq (t264 != t269) x12_7 x13_7 t260 t261 t264 t265 t266 t267 t268 t269 t270 t271 t272 t273 = some r) ∧ Aside0 (kq ≤ k) ∧ Aside0 (wc.heap[gb263]? = some (.cells #[.int .i64 t260, .int .i64 t261] 62 (0, 0))) ∧ Aside0 (wc.heap[gb274]? = some (.cells #[.bool t264, .bool t265, .bool t266, .int .u64 t267, .int .i64 t268] 66 (0, 0))) ∧ Aside0 (wc.heap[gb275]? = some (.cells #[.bool t269, .bool t270, .bool t271, .int .u64 t272, .int .i64 t273] 66 (0, 0))) ∧ Aside0 (Below w.heap.size w wc))
  case first =>
   have H := HC8.out
   clear HC8
   by_cases c34 : t266 = true
   ·
    subst c34
    have H1 : (if t271 = true then (impl_FDiv.j0 k (t264 != t269) false false t260 t261 t264 t265 true t267 t268 t269 t270 t271 t272 t273) else (impl_FDiv.j0 k (t264 != t269) false (t272 == 0) t260 t261 t264 t265 true t267 t268 t269 t270 t271 t272 t273)) = some r := by rw [if_pos rfl] at H; exact H
    clear H
    have H := H1
    clear H1
    by_cases c35 : t271 = true
    ·
     subst c35
     have H1 : (impl_FDiv.j0 k (t264 != t269) false false t260 t261 t264 t265 true t267 t268 t269 t270 true t272 t273) = some r := by rw [if_pos rfl] at H; exact H
     clear H
     have H := H1
     clear H1
     have H' := Aside0.mk H
     clear H
     try go_wp2
     have n0_ : Aside0 (((((((((((w18.setCell ⟨gb274, 0, none⟩ (.bool t264)).setCell ⟨gb274, 1, none⟩ (.bool t265)).setCell ⟨gb274, 2, none⟩ (.bool true)).setCell ⟨gb274, 3, none⟩ (.int .u64 t267)).setCell ⟨gb274, 4, none⟩ (.int .i64 t268)).setCell ⟨gb275, 0, none⟩ (.bool t269)).setCell ⟨gb275, 1, none⟩ (.bool t270)).setCell ⟨gb275, 2, none⟩ (.bool true)).setCell ⟨gb275, 3, none⟩ (.int .u64 t272)).setCell ⟨gb275, 4, none⟩ (.int .i64 t273)).heap[gb263]? = some (.cells #[.int .i64 t260, .int .i64 t261] 62 (0, 0))) := ⟨by (with_reducible repeat (first | refine blk_drewN ?_ _ | refine blk_drew ?_ | refine blk_alloc ?_ _)); refine blk_far ?_ NB263_275.out _; (with_reducible repeat (first | refine blk_drewN ?_ _ | refine blk_drew ?_ | refine blk_alloc ?_ _)); refine blk_far ?_ NB263_275.out _; (with_reducible repeat (first | refine blk_drewN ?_ _ | refine blk_drew ?_ | refine blk_alloc ?_ _)); refine blk_far ?_ NB263_275.out _; (with_reducible repeat (first | refine blk_drewN ?_ _ | refine blk_drew ?_ | refine blk_alloc ?_ _)); refine blk_far ?_ NB263_275.out _; (with_reducible repeat (first | refine blk_drewN ?_ _ | refine blk_drew ?_ | refine blk_alloc ?_ _)); refine blk_far ?_ NB263_275.out _; (with_reducible repeat (first | refine blk_drewN ?_ _ | refine blk_drew ?_ | refine blk_alloc ?_ _)); refine blk_far ?_ NB263_274.out _; (with_reducible repeat (first | refine blk_drewN ?_ _ | refine blk_drew ?_ | refine blk_alloc ?_ _)); refine blk_far ?_ NB263_274.out _; (with_reducible repeat (first | refine blk_drewN ?_ _ | refine blk_drew ?_ | refine blk_alloc ?_ _)); refine blk_far ?_ NB263_274.out _; (with_reducible repeat (first | refine blk_drewN ?_ _ | refine blk_drew ?_ | refine blk_alloc ?_ _)); refine blk_far ?_ NB263_274.out _; (with_reducible repeat (first | refine blk_drewN ?_ _ | refine blk_drew ?_ | refine blk_alloc ?_ _)); refine blk_far ?_ NB263_274.out _; (with_reducible repeat (first | refine blk_drewN ?_ _ | refine blk_drew ?_ | refine blk_alloc ?_ _)); exact BK263.out⟩
     have n1_ : Aside0 (((((((((((w18.setCell ⟨gb274, 0, none⟩ (.bool t264)).setCell ⟨gb274, 1, none⟩ (.bool t265)).setCell ⟨gb274, 2, none⟩ (.bool true)).setCell ⟨gb274, 3, none⟩ (.int .u64 t267)).setCell ⟨gb274, 4, none⟩ (.int .i64 t268)).setCell ⟨gb275, 0, none⟩ (.bool t269)).setCell ⟨gb275, 1, none⟩ (.bool t270)).setCell ⟨gb275, 2, none⟩ (.bool true)).setCell ⟨gb275, 3, none⟩ (.int .u64 t272)).setCell ⟨gb275, 4, none⟩ (.int .i64 t273)).heap[gb274]? = some (.cells #[.bool t264, .bool t265, .bool true, .int .u64 t267, .int .i64 t268] 66 (0, 0))) := ⟨by (with_reducible repeat (first | refine blk_drewN ?_ _ | refine blk_drew ?_ | refine blk_alloc ?_ _)); refine blk_far ?_ NB274_275.out _; (with_reducible repeat (first | refine blk_drewN ?_ _ | refine blk_drew ?_ | refine blk_alloc ?_ _)); refine blk_far ?_ NB274_275.out _; (with_reducible repeat (first | refine blk_drewN ?_ _ | refine blk_drew ?_ | refine blk_alloc ?_ _)); refine blk_far ?_ NB274_275.out _; (with_reducible repeat (first | refine blk_drewN ?_ _ | refine blk_drew ?_ | refine blk_alloc ?_ _)); refine blk_far ?_ NB274_275.out _; (with_reducible repeat (first | refine blk_drewN ?_ _ | refine blk_drew ?_ | refine blk_alloc ?_ _)); refine blk_far ?_ NB274_275.out _; (with_reducible repeat (first | refine blk_drewN ?_ _ | refine blk_drew ?_ | refine blk_alloc ?_ _)); refine blk_put (cs := #[.bool t264, .bool t265, .bool true, .int .u64 t267, .int .i64 0]) ?_ 4 _ rfl; (with_reducible repeat (first | refine blk_drewN ?_ _ | refine blk_drew ?_ | refine blk_alloc ?_ _)); refine blk_put (cs := #[.bool t264, .bool t265, .bool true, .int .u64 0, .int .i64 0]) ?_ 3 _ rfl; (with_reducible repeat (first | refine blk_drewN ?_ _ | refine blk_drew ?_ | refine blk_alloc ?_ _)); refine blk_put (cs := #[.bool t264, .bool t265, .bool false, .int .u64 0, .int .i64 0]) ?_ 2 _ rfl; (with_reducible repeat (first | refine blk_drewN ?_ _ | refine blk_drew ?_ | refine blk_alloc ?_ _)); refine blk_put (cs := #[.bool t264, .bool false, .bool false, .int .u64 0, .int .i64 0]) ?_ 1 _ rfl; (with_reducible repeat (first | refine blk_drewN ?_ _ | refine blk_drew ?_ | refine blk_alloc ?_ _)); refine blk_put (cs := #[.bool false, .bool false, .bool false, .int .u64 0, .int .i64 0]) ?_ 0 _ rfl; (with_reducible repeat (first | refine blk_drewN ?_ _ | refine blk_drew ?_ | refine blk_alloc ?_ _)); exact BK274.out⟩
     have n2_ : Aside0 (((((((((((w18.setCell ⟨gb274, 0, none⟩ (.bool t264)).setCell ⟨gb274, 1, none⟩ (.bool t265)).setCell ⟨gb274, 2, none⟩ (.bool true)).setCell ⟨gb274, 3, none⟩ (.int .u64 t267)).setCell ⟨gb274, 4, none⟩ (.int .i64 t268)).setCell ⟨gb275, 0, none⟩ (.bool t269)).setCell ⟨gb275, 1, none⟩ (.bool t270)).setCell ⟨gb275, 2, none⟩ (.bool true)).setCell ⟨gb275, 3, none⟩ (.int .u64 t272)).setCell ⟨gb275, 4, none⟩ (.int .i64 t273)).heap[gb275]? = some (.cells #[.bool t269, .bool t270, .bool true, .int .u64 t272, .int .i64 t273] 66 (0, 0))) := ⟨by (with_reducible repeat (first | refine blk_drewN ?_ _ | refine blk_drew ?_ | refine blk_alloc ?_ _)); refine blk_put (cs := #[.bool t269, .bool t270, .bool true, .int .u64 t272, .int .i64 0]) ?_ 4 _ rfl; (with_reducible repeat (first | refine blk_drewN ?_ _ | refine blk_drew ?_ | refine blk_alloc ?_ _)); refine blk_put (cs := #[.bool t269, .bool t270, .bool true, .int .u64 0, .int .i64 0]) ?_ 3 _ rfl; (with_reducible repeat (first | refine blk_drewN ?_ _ | refine blk_drew ?_ | refine blk_alloc ?_ _)); refine blk_put (cs := #[.bool t269, .bool t270, .bool false, .int .u64 0, .int .i64 0]) ?_ 2 _ rfl; (with_reducible repeat (first | refine blk_drewN ?_ _ | refine blk_drew ?_ | refine blk_alloc ?_ _)); refine blk_put (cs := #[.bool t269, .bool false, .bool false, .int .u64 0, .int .i64 0]) ?_ 1 _ rfl; (with_reducible repeat (first | refine blk_drewN ?_ _ | refine blk_drew ?_ | refine blk_alloc ?_ _)); refine blk_put (cs := #[.bool false, .bool false, .bool false, .int .u64 0, .int .i64 0]) ?_ 0 _ rfl; (with_reducible repeat (first | refine blk_drewN ?_ _ | refine blk_drew ?_ | refine blk_alloc ?_ _)); refine blk_far ?_ NB275_274.out _; (with_reducible repeat (first | refine blk_drewN ?_ _ | refine blk_drew ?_ | refine blk_alloc ?_ _)); refine blk_far ?_ NB275_274.out _; (with_reducible repeat (first | refine blk_drewN ?_ _ | refine blk_drew ?_ | refine blk_alloc ?_ _)); refine blk_far ?_ NB275_274.out _; (with_reducible repeat (first | refine blk_drewN ?_ _ | refine blk_drew ?_ | refine blk_alloc ?_ _)); refine blk_far ?_ NB275_274.out _; (with_reducible repeat (first | refine blk_drewN ?_ _ | refine blk_drew ?_ | refine blk_alloc ?_ _)); refine blk_far ?_ NB275_274.out _; (with_reducible repeat (first | refine blk_drewN ?_ _ | refine blk_drew ?_ | refine blk_alloc ?_ _)); exact BK275.out⟩
     have n3_ : Aside0 (Below w.heap.size w ((((((((((w18.setCell ⟨gb274, 0, none⟩ (.bool t264)).setCell ⟨gb274, 1, none⟩ (.bool t265)).setCell ⟨gb274, 2, none⟩ (.bool true)).setCell ⟨gb274, 3, none⟩ (.int .u64 t267)).setCell ⟨gb274, 4, none⟩ (.int .i64 t268)).setCell ⟨gb275, 0, none⟩ (.bool t269)).setCell ⟨gb275, 1, none⟩ (.bool t270)).setCell ⟨gb275, 2, none⟩ (.bool true)).setCell ⟨gb275, 3, none⟩ (.int .u64 t272)).setCell ⟨gb275, 4, none⟩ (.int .i64 t273))) := ⟨by repeat (first | (with_reducible first | exact HB.out | apply below_alloc | apply pw_below_drewN | apply below_drew1 | refine below_set ?_ GE263.out | refine below_set ?_ GE274.out | refine below_set ?_ GE275.out) | exact HB.out)⟩
     (try clear BK263)
     (try clear BK274)
     (try clear BK275)
     (try clear HB)
     generalize ((((((((((w18.setCell ⟨gb274, 0, none⟩ (.bool t264)).setCell ⟨gb274, 1, none⟩ (.bool t265)).setCell ⟨gb274, 2, none⟩ (.bool true)).setCell ⟨gb274, 3, none⟩ (.int .u64 t267)).setCell ⟨gb274, 4, none⟩ (.int .i64 t268)).setCell ⟨gb275, 0, none⟩ (.bool t269)).setCell ⟨gb275, 1, none⟩ (.bool t270)).setCell ⟨gb275, 2, none⟩ (.bool true)).setCell ⟨gb275, 3, none⟩ (.int .u64 t272)).setCell ⟨gb275, 4, none⟩ (.int .i64 t273)) = w36 at n0_ n1_ n2_ n3_ ⊢
     have BK263 := n0_
     have BK274 := n1_
     have BK275 := n2_
     have HB := n3_
     clear n0_ n1_ n2_ n3_
     have n0_ := Aside0.mk (blk_drew BK263.out)
     have n1_ := Aside0.mk (blk_drew BK274.out)
     have n2_ := Aside0.mk (blk_drew BK275.out)
     have n3_ := Aside0.mk (below_drew1 HB.out)
     clear BK263
     clear BK274
     clear BK275
     clear HB
     have BK263 := n0_
     have BK274 := n1_
     have BK275 := n2_
     have HB := n3_
     clear n0_ n1_ n2_ n3_
     refine start_ (n := 18) (S := fun w' => w'.cell? ⟨gb274, 0, none⟩ = some (.bool t264) ∧ w'.cell? ⟨gb274, 1, none⟩ = some (.bool t265) ∧ w'.cell? ⟨gb274, 2, none⟩ = some (.bool true) ∧ w'.cell? ⟨gb274, 3, none⟩ = some (.int .u64 t267) ∧ w'.cell? ⟨gb274, 4, none⟩ = some (.int .i64 t268) ∧ w'.cell? ⟨gb275, 0, none⟩ = some (.bool t269) ∧ w'.cell? ⟨gb275, 1, none⟩ = some (.bool t270) ∧ w'.cell? ⟨gb275, 2, none⟩ = some (.bool true) ∧ w'.cell? ⟨gb275, 3, none⟩ = some (.int .u64 t272) ∧ w'.cell? ⟨gb275, 4, none⟩ = some (.int .i64 t273)) (ds := []) #[false, false, false, false, false, false, false, false, false, false, false, false, false, false, false, false, false, false] (by kernel_rfl) rfl rfl ⟨(blk_cell BK274.out 0).trans rfl, (blk_cell BK274.out 1).trans rfl, (blk_cell BK274.out 2).trans rfl, (blk_cell BK274.out 3).trans rfl, (blk_cell BK274.out 4).trans rfl, (blk_cell BK275.out 0).trans rfl, (blk_cell BK275.out 1).trans rfl, (blk_cell BK275.out 2).trans rfl, (blk_cell BK275.out 3).trans rfl, (blk_cell BK275.out 4).trans rfl⟩ (fun hHeld => ?_); refine with_tabW impl_FDiv.tab6 impl_FDiv.bits6 (fun HT_ HW_ => ?_)
     generalize w36.drew = w37 at BK263 BK274 BK275 HB hHeld ⊢
     refine pure_ (i := 0) (N := some 34) (v := ?_) (a' := ?_) #[true, false, false, false, false, false, false, false, false, false, false, false, false, false, false, false, false, false] rfl rfl (any_of HT_.out (by kernel_rfl)) (fun _ _ _ h => h) (Or.inl ⟨by rfl, ?_⟩) ?_ ?_
     rotate_left
     ·
      intro w'
      go_simp
      with_reducible rfl
     rotate_left
     ·
      simp only [Act.put, List.setIfInBounds_toArray, List.set_cons_zero, List.set_cons_succ, i64_w, i32_w]
      rfl
     refine pure_ (i := 8) (N := some 42) (v := ?_) (a' := ?_) #[true, false, false, false, false, false, false, false, true, false, false, false, false, false, false, false, false, false] rfl rfl (any_of HT_.out (by kernel_rfl)) (fun _ _ _ h => h) (Or.inl ⟨by rfl, ?_⟩) ?_ ?_
     rotate_left
     ·
      intro w'
      go_simp
      with_reducible rfl
     rotate_left
     ·
      simp only [Act.put, List.setIfInBounds_toArray, List.set_cons_zero, List.set_cons_succ, i64_w, i32_w]
      rfl
     refine take_ (i := 1) (N := some 35) (v := ?_) (a' := ?_) #[true, true, false, false, false, false, false, false, true, false, false, false, false, false, false, false, false, false] rfl rfl (take_ofW HT_.out HW_.out (by kernel_rfl)) (fun _ _ _ h => h) (Or.inl ⟨by rfl, ?_⟩) hHeld ?_ ?_
     rotate_left
     ·
      rintro w' ⟨s0, s1, s2, s3, s4, s5, s6, s7, s8, s9⟩
      go_simp
      with_reducible rfl
     rotate_left
     ·
      simp only [Act.put, List.setIfInBounds_toArray, List.set_cons_zero, List.set_cons_succ, i64_w, i32_w]
      rfl
     refine pure_ (i := 2) (N := some 36) (v := ?_) (a' := ?_) #[true, true, true, false, false, false, false, false, true, false, false, false, false, false, false, false, false, false] rfl rfl (any_of HT_.out (by kernel_rfl)) (fun _ _ _ h => h) (Or.inl ⟨by rfl, ?_⟩) ?_ ?_
     rotate_left
     ·
      intro w'
      go_simp
      with_reducible rfl
     rotate_left
     ·
      simp only [Act.put, List.setIfInBounds_toArray, List.set_cons_zero, List.set_cons_succ, i64_w, i32_w]
      rfl
     refine pure_ (i := 3) (N := some 37) (v := ?_) (a' := ?_) #[true, true, true, true, false, false, false, false, true, false, false, false, false, false, false, false, false, false] rfl rfl (any_of HT_.out (by kernel_rfl)) (fun _ _ _ h => h) (Or.inl ⟨by rfl, ?_⟩) ?_ ?_
     rotate_left
     ·
      intro w'
      go_simp
      with_reducible rfl
     rotate_left
     ·
      simp only [Act.put, List.setIfInBounds_toArray, List.set_cons_zero, List.set_cons_succ, i64_w, i32_w]
      rfl
     refine pure_ (i := 4) (N := some 38) (v := undef) (a' := ?_) #[true, true, true, true, true, false, false, false, true, false, false, false, false, false, false, false, false, false] rfl rfl (any_of HT_.out (by kernel_rfl)) (fun _ _ _ h => h) (Or.inr ⟨by rfl, rfl⟩) ?_ ?_
     rotate_left
     ·
      simp only [Act.put, List.setIfInBounds_toArray, List.set_cons_zero, List.set_cons_succ, i64_w, i32_w]
      rfl
     refine pure_ (i := 5) (N := some 39) (v := undef) (a' := ?_) #[true, true, true, true, true, true, false, false, true, false, false, false, false, false, false, false, false, false] rfl rfl (any_of HT_.out (by kernel_rfl)) (fun _ _ _ h => h) (Or.inr ⟨by rfl, rfl⟩) ?_ ?_
     rotate_left
     ·
      simp only [Act.put, List.setIfInBounds_toArray, List.set_cons_zero, List.set_cons_succ, i64_w, i32_w]
      rfl
     refine pure_ (i := 6) (N := some 40) (v := undef) (a' := ?_) #[true, true, true, true, true, true, true, false, true, false, false, false, false, false, false, false, false, false] rfl rfl (any_of HT_.out (by kernel_rfl)) (fun _ _ _ h => h) (Or.inr ⟨by rfl, rfl⟩) ?_ ?_
     rotate_left
     ·
      simp only [Act.put, List.setIfInBounds_toArray, List.set_cons_zero, List.set_cons_succ, i64_w, i32_w]
      rfl
     refine pure_ (i := 7) (N := some 41) (v := ?_) (a' := ?_) #[true, true, true, true, true, true, true, true, true, false, false, false, false, false, false, false, false, false] rfl rfl (any_of HT_.out (by kernel_rfl)) (fun _ _ _ h => h) (Or.inl ⟨by rfl, ?_⟩) ?_ ?_
     rotate_left
     ·
      intro w'
      go_simp
      with_reducible rfl
     rotate_left
     ·
      simp only [Act.put, List.setIfInBounds_toArray, List.set_cons_zero, List.set_cons_succ, i64_w, i32_w]
      rfl
     refine take_ (i := 9) (N := some 43) (v := ?_) (a' := ?_) #[true, true, true, true, true, true, true, true, true, true, false, false, false, false, false, false, false, false] rfl rfl (take_ofW HT_.out HW_.out (by kernel_rfl)) (fun _ _ _ h => h) (Or.inl ⟨by rfl, ?_⟩) hHeld ?_ ?_
     rotate_left
     ·
      rintro w' ⟨s0, s1, s2, s3, s4, s5, s6, s7, s8, s9⟩
      go_simp
      with_reducible rfl
     rotate_left
     ·
      simp only [Act.put, List.setIfInBounds_toArray, List.set_cons_zero, List.set_cons_succ, i64_w, i32_w]
      rfl
     refine pure_ (i := 10) (N := some 44) (v := ?_) (a' := ?_) #[true, true, true, true, true, true, true, true, true, true, true, false, false, false, false, false, false, false] rfl rfl (any_of HT_.out (by kernel_rfl)) (fun _ _ _ h => h) (Or.inl ⟨by rfl, ?_⟩) ?_ ?_
     rotate_left
     ·
      intro w'
      go_simp
      with_reducible rfl
     rotate_left
     ·
      simp only [Act.put, List.setIfInBounds_toArray, List.set_cons_zero, List.set_cons_succ, i64_w, i32_w]
      rfl
     refine pure_ (i := 11) (N := some 45) (v := ?_) (a' := ?_) #[true, true, true, true, true, true, true, true, true, true, true, true, false, false, false, false, false, false] rfl rfl (any_of HT_.out (by kernel_rfl)) (fun _ _ _ h => h) (Or.inl ⟨by rfl, ?_⟩) ?_ ?_
     rotate_left
     ·
      intro w'
      go_simp
      with_reducible rfl
     rotate_left
     ·
      simp only [Act.put, List.setIfInBounds_toArray, List.set_cons_zero, List.set_cons_succ, i64_w, i32_w]
      rfl
     refine pure_ (i := 12) (N := some 46) (v := undef) (a' := ?_) #[true, true, true, true, true, true, true, true, true, true, true, true, true, false, false, false, false, false] rfl rfl (any_of HT_.out (by kernel_rfl)) (fun _ _ _ h => h) (Or.inr ⟨by rfl, rfl⟩) ?_ ?_
     rotate_left
     ·
      simp only [Act.put, List.setIfInBounds_toArray, List.set_cons_zero, List.set_cons_succ, i64_w, i32_w]
      rfl
     refine pure_ (i := 13) (N := some 47) (v := undef) (a' := ?_) #[true, true, true, true, true, true, true, true, true, true, true, true, true, true, false, false, false, false] rfl rfl (any_of HT_.out (by kernel_rfl)) (fun _ _ _ h => h) (Or.inr ⟨by rfl, rfl⟩) ?_ ?_
     rotate_left
     ·
      simp only [Act.put, List.setIfInBounds_toArray, List.set_cons_zero, List.set_cons_succ, i64_w, i32_w]
      rfl
     refine pure_ (i := 14) (N := some 48) (v := undef) (a' := ?_) #[true, true, true, true, true, true, true, true, true, true, true, true, true, true, true, false, false, false] rfl rfl (any_of HT_.out (by kernel_rfl)) (fun _ _ _ h => h) (Or.inr ⟨by rfl, rfl⟩) ?_ ?_
     rotate_left
     ·
      simp only [Act.put, List.setIfInBounds_toArray, List.set_cons_zero, List.set_cons_succ, i64_w, i32_w]
      rfl
     refine pure_ (i := 15) (N := some 49) (v := ?_) (a' := ?_) #[true, true, true, true, true, true, true, true, true, true, true, true, true, true, true, true, false, false] rfl rfl (any_of HT_.out (by kernel_rfl)) (fun _ _ _ h => h) (Or.inl ⟨by rfl, ?_⟩) ?_ ?_
     rotate_left
     ·
      intro w'
      go_simp
      with_reducible rfl
     rotate_left
     ·
      simp only [Act.put, List.setIfInBounds_toArray, List.set_cons_zero, List.set_cons_succ, i64_w, i32_w]
      rfl
     refine pure_ (i := 16) (N := some 12) (v := ?_) (a' := ?_) #[true, true, true, true, true, true, true, true, true, true, true, true, true, true, true, true, true, false] rfl rfl (any_of HT_.out (by kernel_rfl)) (fun _ _ _ h => h) (Or.inl ⟨by rfl, ?_⟩) ?_ ?_
     rotate_left
     ·
      intro w'
      go_simp
      with_reducible rfl
     rotate_left
     ·
      simp only [Act.put, List.setIfInBounds_toArray, List.set_cons_zero, List.set_cons_succ, i64_w, i32_w]
      rfl
     refine pure_ (i := 17) (N := some 13) (v := ?_) (a' := ?_) #[true, true, true, true, true, true, true, true, true, true, true, true, true, true, true, true, true, true] rfl rfl (any_of HT_.out (by kernel_rfl)) (fun _ _ _ h => h) (Or.inl ⟨by rfl, ?_⟩) ?_ ?_
     rotate_left
     ·
      intro w'
      go_simp
      with_reducible rfl
     rotate_left
     ·
      simp only [Act.put, List.setIfInBounds_toArray, List.set_cons_zero, List.set_cons_succ, i64_w, i32_w]
      rfl
     refine done_ (done_of HT_.out (by kernel_rfl)) ?_
     try go_wp2
     go_meet
     case rel => exact ⟨_, (false), (false), (by first | rfl | (simp; done) | (simp [*]; done)), (by first | rfl | (simp; done) | (simp [*]; done)), H', ⟨by first | omega | exact Nat.le_refl _⟩, ⟨by (with_reducible repeat (first | refine blk_drewN ?_ _ | refine blk_drew ?_ | refine blk_alloc ?_ _)); exact BK263.out⟩, ⟨by (with_reducible repeat (first | refine blk_drewN ?_ _ | refine blk_drew ?_ | refine blk_alloc ?_ _)); exact BK274.out⟩, ⟨by (with_reducible repeat (first | refine blk_drewN ?_ _ | refine blk_drew ?_ | refine blk_alloc ?_ _)); exact BK275.out⟩, ⟨by repeat (first | (with_reducible first | exact HB.out | apply below_alloc | apply pw_below_drewN | apply below_drew1 | refine below_set ?_ GE263.out | refine below_set ?_ GE274.out | refine below_set ?_ GE275.out) | exact HB.out)⟩⟩
    ·
     replace c35 := Bool.eq_false_iff.mpr c35
     subst c35
     have H1 : (impl_FDiv.j0 k (t264 != t269) false (t272 == 0) t260 t261 t264 t265 true t267 t268 t269 t270 false t272 t273) = some r := by rw [if_neg (show ¬ (false = true) by decide)] at H; exact H
     clear H
     have H := H1
     clear H1
     have H' := Aside0.mk H
     clear H
     try go_wp2
     have n0_ : Aside0 (((((((((((w18.setCell ⟨gb274, 0, none⟩ (.bool t264)).setCell ⟨gb274, 1, none⟩ (.bool t265)).setCell ⟨gb274, 2, none⟩ (.bool true)).setCell ⟨gb274, 3, none⟩ (.int .u64 t267)).setCell ⟨gb274, 4, none⟩ (.int .i64 t268)).setCell ⟨gb275, 0, none⟩ (.bool t269)).setCell ⟨gb275, 1, none⟩ (.bool t270)).setCell ⟨gb275, 2, none⟩ (.bool false)).setCell ⟨gb275, 3, none⟩ (.int .u64 t272)).setCell ⟨gb275, 4, none⟩ (.int .i64 t273)).heap[gb263]? = some (.cells #[.int .i64 t260, .int .i64 t261] 62 (0, 0))) := ⟨by (with_reducible repeat (first | refine blk_drewN ?_ _ | refine blk_drew ?_ | refine blk_alloc ?_ _)); refine blk_far ?_ NB263_275.out _; (with_reducible repeat (first | refine blk_drewN ?_ _ | refine blk_drew ?_ | refine blk_alloc ?_ _)); refine blk_far ?_ NB263_275.out _; (with_reducible repeat (first | refine blk_drewN ?_ _ | refine blk_drew ?_ | refine blk_alloc ?_ _)); refine blk_far ?_ NB263_275.out _; (with_reducible repeat (first | refine blk_drewN ?_ _ | refine blk_drew ?_ | refine blk_alloc ?_ _)); refine blk_far ?_ NB263_275.out _; (with_reducible repeat (first | refine blk_drewN ?_ _ | refine blk_drew ?_ | refine blk_alloc ?_ _)); refine blk_far ?_ NB263_275.out _; (with_reducible repeat (first | refine blk_drewN ?_ _ | refine blk_drew ?_ | refine blk_alloc ?_ _)); refine blk_far ?_ NB263_274.out _; (with_reducible repeat (first | refine blk_drewN ?_ _ | refine blk_drew ?_ | refine blk_alloc ?_ _)); refine blk_far ?_ NB263_274.out _; (with_reducible repeat (first | refine blk_drewN ?_ _ | refine blk_drew ?_ | refine blk_alloc ?_ _)); refine blk_far ?_ NB263_274.out _; (with_reducible repeat (first | refine blk_drewN ?_ _ | refine blk_drew ?_ | refine blk_alloc ?_ _)); refine blk_far ?_ NB263_274.out _; (with_reducible repeat (first | refine blk_drewN ?_ _ | refine blk_drew ?_ | refine blk_alloc ?_ _)); refine blk_far ?_ NB263_274.out _; (with_reducible repeat (first | refine blk_drewN ?_ _ | refine blk_drew ?_ | refine blk_alloc ?_ _)); exact BK263.out⟩
     have n1_ : Aside0 (((((((((((w18.setCell ⟨gb274, 0, none⟩ (.bool t264)).setCell ⟨gb274, 1, none⟩ (.bool t265)).setCell ⟨gb274, 2, none⟩ (.bool true)).setCell ⟨gb274, 3, none⟩ (.int .u64 t267)).setCell ⟨gb274, 4, none⟩ (.int .i64 t268)).setCell ⟨gb275, 0, none⟩ (.bool t269)).setCell ⟨gb275, 1, none⟩ (.bool t270)).setCell ⟨gb275, 2, none⟩ (.bool false)).setCell ⟨gb275, 3, none⟩ (.int .u64 t272)).setCell ⟨gb275, 4, none⟩ (.int .i64 t273)).heap[gb274]? = some (.cells #[.bool t264, .bool t265, .bool true, .int .u64 t267, .int .i64 t268] 66 (0, 0))) := ⟨by (with_reducible repeat (first | refine blk_drewN ?_ _ | refine blk_drew ?_ | refine blk_alloc ?_ _)); refine blk_far ?_ NB274_275.out _; (with_reducible repeat (first | refine blk_drewN ?_ _ | refine blk_drew ?_ | refine blk_alloc ?_ _)); refine blk_far ?_ NB274_275.out _; (with_reducible repeat (first | refine blk_drewN ?_ _ | refine blk_drew ?_ | refine blk_alloc ?_ _)); refine blk_far ?_ NB274_275.out _; (with_reducible repeat (first | refine blk_drewN ?_ _ | refine blk_drew ?_ | refine blk_alloc ?_ _)); refine blk_far ?_ NB274_275.out _; (with_reducible repeat (first | refine blk_drewN ?_ _ | refine blk_drew ?_ | refine blk_alloc ?_ _)); refine blk_far ?_ NB274_275.out _; (with_reducible repeat (first | refine blk_drewN ?_ _ | refine blk_drew ?_ | refine blk_alloc ?_ _)); refine blk_put (cs := #[.bool t264, .bool t265, .bool true, .int .u64 t267, .int .i64 0]) ?_ 4 _ rfl; (with_reducible repeat (first | refine blk_drewN ?_ _ | refine blk_drew ?_ | refine blk_alloc ?_ _)); refine blk_put (cs := #[.bool t264, .bool t265, .bool true, .int .u64 0, .int .i64 0]) ?_ 3 _ rfl; (with_reducible repeat (first | refine blk_drewN ?_ _ | refine blk_drew ?_ | refine blk_alloc ?_ _)); refine blk_put (cs := #[.bool t264, .bool t265, .bool false, .int .u64 0, .int .i64 0]) ?_ 2 _ rfl; (with_reducible repeat (first | refine blk_drewN ?_ _ | refine blk_drew ?_ | refine blk_alloc ?_ _)); refine blk_put (cs := #[.bool t264, .bool false, .bool false, .int .u64 0, .int .i64 0]) ?_ 1 _ rfl; (with_reducible repeat (first | refine blk_drewN ?_ _ | refine blk_drew ?_ | refine blk_alloc ?_ _)); refine blk_put (cs := #[.bool false, .bool false, .bool false, .int .u64 0, .int .i64 0]) ?_ 0 _ rfl; (with_reducible repeat (first | refine blk_drewN ?_ _ | refine blk_drew ?_ | refine blk_alloc ?_ _)); exact BK274.out⟩
     have n2_ : Aside0 (((((((((((w18.setCell ⟨gb274, 0, none⟩ (.bool t264)).setCell ⟨gb274, 1, none⟩ (.bool t265)).setCell ⟨gb274, 2, none⟩ (.bool true)).setCell ⟨gb274, 3, none⟩ (.int .u64 t267)).setCell ⟨gb274, 4, none⟩ (.int .i64 t268)).setCell ⟨gb275, 0, none⟩ (.bool t269)).setCell ⟨gb275, 1, none⟩ (.bool t270)).setCell ⟨gb275, 2, none⟩ (.bool false)).setCell ⟨gb275, 3, none⟩ (.int .u64 t272)).setCell ⟨gb275, 4, none⟩ (.int .i64 t273)).heap[gb275]? = some (.cells #[.bool t269, .bool t270, .bool false, .int .u64 t272, .int .i64 t273] 66 (0, 0))) := ⟨by (with_reducible repeat (first | refine blk_drewN ?_ _ | refine blk_drew ?_ | refine blk_alloc ?_ _)); refine blk_put (cs := #[.bool t269, .bool t270, .bool false, .int .u64 t272, .int .i64 0]) ?_ 4 _ rfl; (with_reducible repeat (first | refine blk_drewN ?_ _ | refine blk_drew ?_ | refine blk_alloc ?_ _)); refine blk_put (cs := #[.bool t269, .bool t270, .bool false, .int .u64 0, .int .i64 0]) ?_ 3 _ rfl; (with_reducible repeat (first | refine blk_drewN ?_ _ | refine blk_drew ?_ | refine blk_alloc ?_ _)); refine blk_put (cs := #[.bool t269, .bool t270, .bool false, .int .u64 0, .int .i64 0]) ?_ 2 _ rfl; (with_reducible repeat (first | refine blk_drewN ?_ _ | refine blk_drew ?_ | refine blk_alloc ?_ _)); refine blk_put (cs := #[.bool t269, .bool false, .bool false, .int .u64 0, .int .i64 0]) ?_ 1 _ rfl; (with_reducible repeat (first | refine blk_drewN ?_ _ | refine blk_drew ?_ | refine blk_alloc ?_ _)); refine blk_put (cs := #[.bool false, .bool false, .bool false, .int .u64 0, .int .i64 0]) ?_ 0 _ rfl; (with_reducible repeat (first | refine blk_drewN ?_ _ | refine blk_drew ?_ | refine blk_alloc ?_ _)); refine blk_far ?_ NB275_274.out _; (with_reducible repeat (first | refine blk_drewN ?_ _ | refine blk_drew ?_ | refine blk_alloc ?_ _)); refine blk_far ?_ NB275_274.out _; (with_reducible repeat (first | refine blk_drewN ?_ _ | refine blk_drew ?_ | refine blk_alloc ?_ _)); refine blk_far ?_ NB275_274.out _; (with_reducible repeat (first | refine blk_drewN ?_ _ | refine blk_drew ?_ | refine blk_alloc ?_ _)); refine blk_far ?_ NB275_274.out _; (with_reducible repeat (first | refine blk_drewN ?_ _ | refine blk_drew ?_ | refine blk_alloc ?_ _)); refine blk_far ?_ NB275_274.out _; (with_reducible repeat (first | refine blk_drewN ?_ _ | refine blk_drew ?_ | refine blk_alloc ?_ _)); exact BK275.out⟩
     have n3_ : Aside0 (Below w.heap.size w ((((((((((w18.setCell ⟨gb274, 0, none⟩ (.bool t264)).setCell ⟨gb274, 1, none⟩ (.bool t265)).setCell ⟨gb274, 2, none⟩ (.bool true)).setCell ⟨gb274, 3, none⟩ (.int .u64 t267)).setCell ⟨gb274, 4, none⟩ (.int .i64 t268)).setCell ⟨gb275, 0, none⟩ (.bool t269)).setCell ⟨gb275, 1, none⟩ (.bool t270)).setCell ⟨gb275, 2, none⟩ (.bool false)).setCell ⟨gb275, 3, none⟩ (.int .u64 t272)).setCell ⟨gb275, 4, none⟩ (.int .i64 t273))) := ⟨by repeat (first | (with_reducible first | exact HB.out | apply below_alloc | apply pw_below_drewN | apply below_drew1 | refine below_set ?_ GE263.out | refine below_set ?_ GE274.out | refine below_set ?_ GE275.out) | exact HB.out)⟩
     (try clear BK263)
     (try clear BK274)
     (try clear BK275)
     (try clear HB)
     generalize ((((((((((w18.setCell ⟨gb274, 0, none⟩ (.bool t264)).setCell ⟨gb274, 1, none⟩ (.bool t265)).setCell ⟨gb274, 2, none⟩ (.bool true)).setCell ⟨gb274, 3, none⟩ (.int .u64 t267)).setCell ⟨gb274, 4, none⟩ (.int .i64 t268)).setCell ⟨gb275, 0, none⟩ (.bool t269)).setCell ⟨gb275, 1, none⟩ (.bool t270)).setCell ⟨gb275, 2, none⟩ (.bool false)).setCell ⟨gb275, 3, none⟩ (.int .u64 t272)).setCell ⟨gb275, 4, none⟩ (.int .i64 t273)) = w38 at n0_ n1_ n2_ n3_ ⊢
     have BK263 := n0_
     have BK274 := n1_
     have BK275 := n2_
     have HB := n3_
     clear n0_ n1_ n2_ n3_
     have n0_ := Aside0.mk (blk_drew BK263.out)
     have n1_ := Aside0.mk (blk_drew BK274.out)
     have n2_ := Aside0.mk (blk_drew BK275.out)
     have n3_ := Aside0.mk (below_drew1 HB.out)
     clear BK263
     clear BK274
     clear BK275
     clear HB
     have BK263 := n0_
     have BK274 := n1_
     have BK275 := n2_
     have HB := n3_
     clear n0_ n1_ n2_ n3_
     refine start_ (n := 18) (S := fun w' => w'.cell? ⟨gb274, 0, none⟩ = some (.bool t264) ∧ w'.cell? ⟨gb274, 1, none⟩ = some (.bool t265) ∧ w'.cell? ⟨gb274, 2, none⟩ = some (.bool true) ∧ w'.cell? ⟨gb274, 3, none⟩ = some (.int .u64 t267) ∧ w'.cell? ⟨gb274, 4, none⟩ = some (.int .i64 t268) ∧ w'.cell? ⟨gb275, 0, none⟩ = some (.bool t269) ∧ w'.cell? ⟨gb275, 1, none⟩ = some (.bool t270) ∧ w'.cell? ⟨gb275, 2, none⟩ = some (.bool false) ∧ w'.cell? ⟨gb275, 3, none⟩ = some (.int .u64 t272) ∧ w'.cell? ⟨gb275, 4, none⟩ = some (.int .i64 t273)) (ds := []) #[false, false, false, false, false, false, false, false, false, false, false, false, false, false, false, false, false, false] (by kernel_rfl) rfl rfl ⟨(blk_cell BK274.out 0).trans rfl, (blk_cell BK274.out 1).trans rfl, (blk_cell BK274.out 2).trans rfl, (blk_cell BK274.out 3).trans rfl, (blk_cell BK274.out 4).trans rfl, (blk_cell BK275.out 0).trans rfl, (blk_cell BK275.out 1).trans rfl, (blk_cell BK275.out 2).trans rfl, (blk_cell BK275.out 3).trans rfl, (blk_cell BK275.out 4).trans rfl⟩ (fun hHeld => ?_); refine with_tabW impl_FDiv.tab6 impl_FDiv.bits6 (fun HT_ HW_ => ?_)
     generalize w38.drew = w39 at BK263 BK274 BK275 HB hHeld ⊢
     refine pure_ (i := 0) (N := some 34) (v := ?_) (a' := ?_) #[true, false, false, false, false, false, false, false, false, false, false, false, false, false, false, false, false, false] rfl rfl (any_of HT_.out (by kernel_rfl)) (fun _ _ _ h => h) (Or.inl ⟨by rfl, ?_⟩) ?_ ?_
     rotate_left
     ·
      intro w'
      go_simp
      with_reducible rfl
     rotate_left
     ·
      simp only [Act.put, List.setIfInBounds_toArray, List.set_cons_zero, List.set_cons_succ, i64_w, i32_w]
      rfl
     refine pure_ (i := 8) (N := some 42) (v := ?_) (a' := ?_) #[true, false, false, false, false, false, false, false, true, false, false, false, false, false, false, false, false, false] rfl rfl (any_of HT_.out (by kernel_rfl)) (fun _ _ _ h => h) (Or.inl ⟨by rfl, ?_⟩) ?_ ?_
     rotate_left
     ·
      intro w'
      go_simp
      with_reducible rfl
     rotate_left
     ·
      simp only [Act.put, List.setIfInBounds_toArray, List.set_cons_zero, List.set_cons_succ, i64_w, i32_w]
      rfl
     refine take_ (i := 1) (N := some 35) (v := ?_) (a' := ?_) #[true, true, false, false, false, false, false, false, true, false, false, false, false, false, false, false, false, false] rfl rfl (take_ofW HT_.out HW_.out (by kernel_rfl)) (fun _ _ _ h => h) (Or.inl ⟨by rfl, ?_⟩) hHeld ?_ ?_
     rotate_left
     ·
      rintro w' ⟨s0, s1, s2, s3, s4, s5, s6, s7, s8, s9⟩
      go_simp
      with_reducible rfl
     rotate_left
     ·
      simp only [Act.put, List.setIfInBounds_toArray, List.set_cons_zero, List.set_cons_succ, i64_w, i32_w]
      rfl
     refine pure_ (i := 2) (N := some 36) (v := ?_) (a' := ?_) #[true, true, true, false, false, false, false, false, true, false, false, false, false, false, false, false, false, false] rfl rfl (any_of HT_.out (by kernel_rfl)) (fun _ _ _ h => h) (Or.inl ⟨by rfl, ?_⟩) ?_ ?_
     rotate_left
     ·
      intro w'
      go_simp
      with_reducible rfl
     rotate_left
     ·
      simp only [Act.put, List.setIfInBounds_toArray, List.set_cons_zero, List.set_cons_succ, i64_w, i32_w]
      rfl
     refine pure_ (i := 3) (N := some 37) (v := ?_) (a' := ?_) #[true, true, true, true, false, false, false, false, true, false, false, false, false, false, false, false, false, false] rfl rfl (any_of HT_.out (by kernel_rfl)) (fun _ _ _ h => h) (Or.inl ⟨by rfl, ?_⟩) ?_ ?_
     rotate_left
     ·
      intro w'
      go_simp
      with_reducible rfl
     rotate_left
     ·
      simp only [Act.put, List.setIfInBounds_toArray, List.set_cons_zero, List.set_cons_succ, i64_w, i32_w]
      rfl
     refine pure_ (i := 4) (N := some 38) (v := undef) (a' := ?_) #[true, true, true, true, true, false, false, false, true, false, false, false, false, false, false, false, false, false] rfl rfl (any_of HT_.out (by kernel_rfl)) (fun _ _ _ h => h) (Or.inr ⟨by rfl, rfl⟩) ?_ ?_
     rotate_left
     ·
      simp only [Act.put, List.setIfInBounds_toArray, List.set_cons_zero, List.set_cons_succ, i64_w, i32_w]
      rfl
     refine pure_ (i := 5) (N := some 39) (v := undef) (a' := ?_) #[true, true, true, true, true, true, false, false, true, false, false, false, false, false, false, false, false, false] rfl rfl (any_of HT_.out (by kernel_rfl)) (fun _ _ _ h => h) (Or.inr ⟨by rfl, rfl⟩) ?_ ?_
     rotate_left
     ·
      simp only [Act.put, List.setIfInBounds_toArray, List.set_cons_zero, List.set_cons_succ, i64_w, i32_w]
      rfl
     refine pure_ (i := 6) (N := some 40) (v := undef) (a' := ?_) #[true, true, true, true, true, true, true, false, true, false, false, false, false, false, false, false, false, false] rfl rfl (any_of HT_.out (by kernel_rfl)) (fun _ _ _ h => h) (Or.inr ⟨by rfl, rfl⟩) ?_ ?_
     rotate_left
     ·
      simp only [Act.put, List.setIfInBounds_toArray, List.set_cons_zero, List.set_cons_succ, i64_w, i32_w]
      rfl
     refine pure_ (i := 7) (N := some 41) (v := ?_) (a' := ?_) #[true, true, true, true, true, true, true, true, true, false, false, false, false, false, false, false, false, false] rfl rfl (any_of HT_.out (by kernel_rfl)) (fun _ _ _ h => h) (Or.inl ⟨by rfl, ?_⟩) ?_ ?_
     rotate_left
     ·
      intro w'
      go_simp
      with_reducible rfl
     rotate_left
     ·
      simp only [Act.put, List.setIfInBounds_toArray, List.set_cons_zero, List.set_cons_succ, i64_w, i32_w]
      rfl
     refine take_ (i := 9) (N := some 43) (v := ?_) (a' := ?_) #[true, true, true, true, true, true, true, true, true, true, false, false, false, false, false, false, false, false] rfl rfl (take_ofW HT_.out HW_.out (by kernel_rfl)) (fun _ _ _ h => h) (Or.inl ⟨by rfl, ?_⟩) hHeld ?_ ?_
     rotate_left
     ·
      rintro w' ⟨s0, s1, s2, s3, s4, s5, s6, s7, s8, s9⟩
      go_simp
      with_reducible rfl
     rotate_left
     ·
      simp only [Act.put, List.setIfInBounds_toArray, List.set_cons_zero, List.set_cons_succ, i64_w, i32_w]
      rfl
     refine pure_ (i := 10) (N := some 44) (v := ?_) (a' := ?_) #[true, true, true, true, true, true, true, true, true, true, true, false, false, false, false, false, false, false] rfl rfl (any_of HT_.out (by kernel_rfl)) (fun _ _ _ h => h) (Or.inl ⟨by rfl, ?_⟩) ?_ ?_
     rotate_left
     ·
      intro w'
      go_simp
      with_reducible rfl
     rotate_left
     ·
      simp only [Act.put, List.setIfInBounds_toArray, List.set_cons_zero, List.set_cons_succ, i64_w, i32_w]
      rfl
     refine pure_ (i := 11) (N := some 45) (v := ?_) (a' := ?_) #[true, true, true, true, true, true, true, true, true, true, true, true, false, false, false, false, false, false] rfl rfl (any_of HT_.out (by kernel_rfl)) (fun _ _ _ h => h) (Or.inl ⟨by rfl, ?_⟩) ?_ ?_
     rotate_left
     ·
      intro w'
      go_simp
      with_reducible rfl
     rotate_left
     ·
      simp only [Act.put, List.setIfInBounds_toArray, List.set_cons_zero, List.set_cons_succ, i64_w, i32_w]
      rfl
     refine pure_ (i := 12) (N := some 46) (v := ?_) (a' := ?_) #[true, true, true, true, true, true, true, true, true, true, true, true, true, false, false, false, false, false] rfl rfl (any_of HT_.out (by kernel_rfl)) (fun _ _ _ h => h) (Or.inl ⟨by rfl, ?_⟩) ?_ ?_
     rotate_left
     ·
      intro w'
      go_simp
      with_reducible rfl
     rotate_left
     ·
      simp only [Act.put, List.setIfInBounds_toArray, List.set_cons_zero, List.set_cons_succ, i64_w, i32_w]
      rfl
     refine pure_ (i := 16) (N := some 12) (v := ?_) (a' := ?_) #[true, true, true, true, true, true, true, true, true, true, true, true, true, false, false, false, true, false] rfl rfl (any_of HT_.out (by kernel_rfl)) (fun _ _ _ h => h) (Or.inl ⟨by rfl, ?_⟩) ?_ ?_
     rotate_left
     ·
      intro w'
      go_simp
      with_reducible rfl
     rotate_left
     ·
      simp only [Act.put, List.setIfInBounds_toArray, List.set_cons_zero, List.set_cons_succ, i64_w, i32_w]
      rfl
     refine take_ (i := 13) (N := some 47) (v := ?_) (a' := ?_) #[true, true, true, true, true, true, true, true, true, true, true, true, true, true, false, false, true, false] rfl rfl (take_ofW HT_.out HW_.out (by kernel_rfl)) (fun _ _ _ h => h) (Or.inl ⟨by rfl, ?_⟩) hHeld ?_ ?_
     rotate_left
     ·
      rintro w' ⟨s0, s1, s2, s3, s4, s5, s6, s7, s8, s9⟩
      go_simp
      with_reducible rfl
     rotate_left
     ·
      simp only [Act.put, List.setIfInBounds_toArray, List.set_cons_zero, List.set_cons_succ, i64_w, i32_w]
      rfl
     refine pure_ (i := 14) (N := some 48) (v := ?_) (a' := ?_) #[true, true, true, true, true, true, true, true, true, true, true, true, true, true, true, false, true, false] rfl rfl (any_of HT_.out (by kernel_rfl)) (fun _ _ _ h => h) (Or.inl ⟨by rfl, ?_⟩) ?_ ?_
     rotate_left
     ·
      intro w'
      go_simp
      with_reducible rfl
     rotate_left
     ·
      simp only [Act.put, List.setIfInBounds_toArray, List.set_cons_zero, List.set_cons_succ, i64_w, i32_w]
      rfl
     refine pure_ (i := 15) (N := some 49) (v := ?_) (a' := ?_) #[true, true, true, true, true, true, true, true, true, true, true, true, true, true, true, true, true, false] rfl rfl (any_of HT_.out (by kernel_rfl)) (fun _ _ _ h => h) (Or.inl ⟨by rfl, ?_⟩) ?_ ?_
     rotate_left
     ·
      intro w'
      go_simp
      with_reducible rfl
     rotate_left
     ·
      simp only [Act.put, List.setIfInBounds_toArray, List.set_cons_zero, List.set_cons_succ, i64_w, i32_w]
      rfl
     refine pure_ (i := 17) (N := some 13) (v := ?_) (a' := ?_) #[true, true, true, true, true, true, true, true, true, true, true, true, true, true, true, true, true, true] rfl rfl (any_of HT_.out (by kernel_rfl)) (fun _ _ _ h => h) (Or.inl ⟨by rfl, ?_⟩) ?_ ?_
     rotate_left
     ·
      intro w'
      go_simp
      with_reducible rfl
     rotate_left
     ·
      simp only [Act.put, List.setIfInBounds_toArray, List.set_cons_zero, List.set_cons_succ, i64_w, i32_w]
      rfl
     refine done_ (done_of HT_.out (by kernel_rfl)) ?_
     try go_wp2
     go_meet
     case rel => exact ⟨_, (false), ((t272 == 0)), (by first | rfl | (simp; done) | (simp [*]; done)), (by first | rfl | (simp; done) | (simp [*]; done)), H', ⟨by first | omega | exact Nat.le_refl _⟩, ⟨by (with_reducible repeat (first | refine blk_drewN ?_ _ | refine blk_drew ?_ | refine blk_alloc ?_ _)); exact BK263.out⟩, ⟨by (with_reducible repeat (first | refine blk_drewN ?_ _ | refine blk_drew ?_ | refine blk_alloc ?_ _)); exact BK274.out⟩, ⟨by (with_reducible repeat (first | refine blk_drewN ?_ _ | refine blk_drew ?_ | refine blk_alloc ?_ _)); exact BK275.out⟩, ⟨by repeat (first | (with_reducible first | exact HB.out | apply below_alloc | apply pw_below_drewN | apply below_drew1 | refine below_set ?_ GE263.out | refine below_set ?_ GE274.out | refine below_set ?_ GE275.out) | exact HB.out)⟩⟩
   ·
    replace c34 := Bool.eq_false_iff.mpr c34
    subst c34
    have H1 : (if t271 = true then (impl_FDiv.j0 k (t264 != t269) (t267 == 0) false t260 t261 t264 t265 false t267 t268 t269 t270 t271 t272 t273) else (impl_FDiv.j0 k (t264 != t269) (t267 == 0) (t272 == 0) t260 t261 t264 t265 false t267 t268 t269 t270 t271 t272 t273)) = some r := by rw [if_neg (show ¬ (false = true) by decide)] at H; exact H
    clear H
    have H := H1
    clear H1
    by_cases c40 : t271 = true
    ·
     subst c40
     have H1 : (impl_FDiv.j0 k (t264 != t269) (t267 == 0) false t260 t261 t264 t265 false t267 t268 t269 t270 true t272 t273) = some r := by rw [if_pos rfl] at H; exact H
     clear H
     have H := H1
     clear H1
     have H' := Aside0.mk H
     clear H
     try go_wp2
     have n0_ : Aside0 (((((((((((w18.setCell ⟨gb274, 0, none⟩ (.bool t264)).setCell ⟨gb274, 1, none⟩ (.bool t265)).setCell ⟨gb274, 2, none⟩ (.bool false)).setCell ⟨gb274, 3, none⟩ (.int .u64 t267)).setCell ⟨gb274, 4, none⟩ (.int .i64 t268)).setCell ⟨gb275, 0, none⟩ (.bool t269)).setCell ⟨gb275, 1, none⟩ (.bool t270)).setCell ⟨gb275, 2, none⟩ (.bool true)).setCell ⟨gb275, 3, none⟩ (.int .u64 t272)).setCell ⟨gb275, 4, none⟩ (.int .i64 t273)).heap[gb263]? = some (.cells #[.int .i64 t260, .int .i64 t261] 62 (0, 0))) := ⟨by (with_reducible repeat (first | refine blk_drewN ?_ _ | refine blk_drew ?_ | refine blk_alloc ?_ _)); refine blk_far ?_ NB263_275.out _; (with_reducible repeat (first | refine blk_drewN ?_ _ | refine blk_drew ?_ | refine blk_alloc ?_ _)); refine blk_far ?_ NB263_275.out _; (with_reducible repeat (first | refine blk_drewN ?_ _ | refine blk_drew ?_ | refine blk_alloc ?_ _)); refine blk_far ?_ NB263_275.out _; (with_reducible repeat (first | refine blk_drewN ?_ _ | refine blk_drew ?_ | refine blk_alloc ?_ _)); refine blk_far ?_ NB263_275.out _; (with_reducible repeat (first | refine blk_drewN ?_ _ | refine blk_drew ?_ | refine blk_alloc ?_ _)); refine blk_far ?_ NB263_275.out _; (with_reducible repeat (first | refine blk_drewN ?_ _ | refine blk_drew ?_ | refine blk_alloc ?_ _)); refine blk_far ?_ NB263_274.out _; (with_reducible repeat (first | refine blk_drewN ?_ _ | refine blk_drew ?_ | refine blk_alloc ?_ _)); refine blk_far ?_ NB263_274.out _; (with_reducible repeat (first | refine blk_drewN ?_ _ | refine blk_drew ?_ | refine blk_alloc ?_ _)); refine blk_far ?_ NB263_274.out _; (with_reducible repeat (first | refine blk_drewN ?_ _ | refine blk_drew ?_ | refine blk_alloc ?_ _)); refine blk_far ?_ NB263_274.out _; (with_reducible repeat (first | refine blk_drewN ?_ _ | refine blk_drew ?_ | refine blk_alloc ?_ _)); refine blk_far ?_ NB263_274.out _; (with_reducible repeat (first | refine blk_drewN ?_ _ | refine blk_drew ?_ | refine blk_alloc ?_ _)); exact BK263.out⟩
     have n1_ : Aside0 (((((((((((w18.setCell ⟨gb274, 0, none⟩ (.bool t264)).setCell ⟨gb274, 1, none⟩ (.bool t265)).setCell ⟨gb274, 2, none⟩ (.bool false)).setCell ⟨gb274, 3, none⟩ (.int .u64 t267)).setCell ⟨gb274, 4, none⟩ (.int .i64 t268)).setCell ⟨gb275, 0, none⟩ (.bool t269)).setCell ⟨gb275, 1, none⟩ (.bool t270)).setCell ⟨gb275, 2, none⟩ (.bool true)).setCell ⟨gb275, 3, none⟩ (.int .u64 t272)).setCell ⟨gb275, 4, none⟩ (.int .i64 t273)).heap[gb274]? = some (.cells #[.bool t264, .bool t265, .bool false, .int .u64 t267, .int .i64 t268] 66 (0, 0))) := ⟨by (with_reducible repeat (first | refine blk_drewN ?_ _ | refine blk_drew ?_ | refine blk_alloc ?_ _)); refine blk_far ?_ NB274_275.out _; (with_reducible repeat (first | refine blk_drewN ?_ _ | refine blk_drew ?_ | refine blk_alloc ?_ _)); refine blk_far ?_ NB274_275.out _; (with_reducible repeat (first | refine blk_drewN ?_ _ | refine blk_drew ?_ | refine blk_alloc ?_ _)); refine blk_far ?_ NB274_275.out _; (with_reducible repeat (first | refine blk_drewN ?_ _ | refine blk_drew ?_ | refine blk_alloc ?_ _)); refine blk_far ?_ NB274_275.out _; (with_reducible repeat (first | refine blk_drewN ?_ _ | refine blk_drew ?_ | refine blk_alloc ?_ _)); refine blk_far ?_ NB274_275.out _; (with_reducible repeat (first | refine blk_drewN ?_ _ | refine blk_drew ?_ | refine blk_alloc ?_ _)); refine blk_put (cs := #[.bool t264, .bool t265, .bool false, .int .u64 t267, .int .i64 0]) ?_ 4 _ rfl; (with_reducible repeat (first | refine blk_drewN ?_ _ | refine blk_drew ?_ | refine blk_alloc ?_ _)); refine blk_put (cs := #[.bool t264, .bool t265, .bool false, .int .u64 0, .int .i64 0]) ?_ 3 _ rfl; (with_reducible repeat (first | refine blk_drewN ?_ _ | refine blk_drew ?_ | refine blk_alloc ?_ _)); refine blk_put (cs := #[.bool t264, .bool t265, .bool false, .int .u64 0, .int .i64 0]) ?_ 2 _ rfl; (with_reducible repeat (first | refine blk_drewN ?_ _ | refine blk_drew ?_ | refine blk_alloc ?_ _)); refine blk_put (cs := #[.bool t264, .bool false, .bool false, .int .u64 0, .int .i64 0]) ?_ 1 _ rfl; (with_reducible repeat (first | refine blk_drewN ?_ _ | refine blk_drew ?_ | refine blk_alloc ?_ _)); refine blk_put (cs := #[.bool false, .bool false, .bool false, .int .u64 0, .int .i64 0]) ?_ 0 _ rfl; (with_reducible repeat (first | refine blk_drewN ?_ _ | refine blk_drew ?_ | refine blk_alloc ?_ _)); exact BK274.out⟩
     have n2_ : Aside0 (((((((((((w18.setCell ⟨gb274, 0, none⟩ (.bool t264)).setCell ⟨gb274, 1, none⟩ (.bool t265)).setCell ⟨gb274, 2, none⟩ (.bool false)).setCell ⟨gb274, 3, none⟩ (.int .u64 t267)).setCell ⟨gb274, 4, none⟩ (.int .i64 t268)).setCell ⟨gb275, 0, none⟩ (.bool t269)).setCell ⟨gb275, 1, none⟩ (.bool t270)).setCell ⟨gb275, 2, none⟩ (.bool true)).setCell ⟨gb275, 3, none⟩ (.int .u64 t272)).setCell ⟨gb275, 4, none⟩ (.int .i64 t273)).heap[gb275]? = some (.cells #[.bool t269, .bool t270, .bool true, .int .u64 t272, .int .i64 t273] 66 (0, 0))) := ⟨by (with_reducible repeat (first | refine blk_drewN ?_ _ | refine blk_drew ?_ | refine blk_alloc ?_ _)); refine blk_put (cs := #[.bool t269, .bool t270, .bool true, .int .u64 t272, .int .i64 0]) ?_ 4 _ rfl; (with_reducible repeat (first | refine blk_drewN ?_ _ | refine blk_drew ?_ | refine blk_alloc ?_ _)); refine blk_put (cs := #[.bool t269, .bool t270, .bool true, .int .u64 0, .int .i64 0]) ?_ 3 _ rfl; (with_reducible repeat (first | refine blk_drewN ?_ _ | refine blk_drew ?_ | refine blk_alloc ?_ _)); refine blk_put (cs := #[.bool t269, .bool t270, .bool false, .int .u64 0, .int .i64 0]) ?_ 2 _ rfl; (with_reducible repeat (first | refine blk_drewN ?_ _ | refine blk_drew ?_ | refine blk_alloc ?_ _)); refine blk_put (cs := #[.bool t269, .bool false, .bool false, .int .u64 0, .int .i64 0]) ?_ 1 _ rfl; (with_reducible repeat (first | refine blk_drewN ?_ _ | refine blk_drew ?_ | refine blk_alloc ?_ _)); refine blk_put (cs := #[.bool false, .bool false, .bool false, .int .u64 0, .int .i64 0]) ?_ 0 _ rfl; (with_reducible repeat (first | refine blk_drewN ?_ _ | refine blk_drew ?_ | refine blk_alloc ?_ _)); refine blk_far ?_ NB275_274.out _; (with_reducible repeat (first | refine blk_drewN ?_ _ | refine blk_drew ?_ | refine blk_alloc ?_ _)); refine blk_far ?_ NB275_274.out _; (with_reducible repeat (first | refine blk_drewN ?_ _ | refine blk_drew ?_ | refine blk_alloc ?_ _)); refine blk_far ?_ NB275_274.out _; (with_reducible repeat (first | refine blk_drewN ?_ _ | refine blk_drew ?_ | refine blk_alloc ?_ _)); refine blk_far ?_ NB275_274.out _; (with_reducible repeat (first | refine blk_drewN ?_ _ | refine blk_drew ?_ | refine blk_alloc ?_ _)); refine blk_far ?_ NB275_274.out _; (with_reducible repeat (first | refine blk_drewN ?_ _ | refine blk_drew ?_ | refine blk_alloc ?_ _)); exact BK275.out⟩
     have n3_ : Aside0 (Below w.heap.size w ((((((((((w18.setCell ⟨gb274, 0, none⟩ (.bool t264)).setCell ⟨gb274, 1, none⟩ (.bool t265)).setCell ⟨gb274, 2, none⟩ (.bool false)).setCell ⟨gb274, 3, none⟩ (.int .u64 t267)).setCell ⟨gb274, 4, none⟩ (.int .i64 t268)).setCell ⟨gb275, 0, none⟩ (.bool t269)).setCell ⟨gb275, 1, none⟩ (.bool t270)).setCell ⟨gb275, 2, none⟩ (.bool true)).setCell ⟨gb275, 3, none⟩ (.int .u64 t272)).setCell ⟨gb275, 4, none⟩ (.int .i64 t273))) := ⟨by repeat (first | (with_reducible first | exact HB.out | apply below_alloc | apply pw_below_drewN | apply below_drew1 | refine below_set ?_ GE263.out | refine below_set ?_ GE274.out | refine below_set ?_ GE275.out) | exact HB.out)⟩
     (try clear BK263)
     (try clear BK274)
     (try clear BK275)
     (try clear HB)
     generalize ((((((((((w18.setCell ⟨gb274, 0, none⟩ (.bool t264)).setCell ⟨gb274, 1, none⟩ (.bool t265)).setCell ⟨gb274, 2, none⟩ (.bool false)).setCell ⟨gb274, 3, none⟩ (.int .u64 t267)).setCell ⟨gb274, 4, none⟩ (.int .i64 t268)).setCell ⟨gb275, 0, none⟩ (.bool t269)).setCell ⟨gb275, 1, none⟩ (.bool t270)).setCell ⟨gb275, 2, none⟩ (.bool true)).setCell ⟨gb275, 3, none⟩ (.int .u64 t272)).setCell ⟨gb275, 4, none⟩ (.int .i64 t273)) = w41 at n0_ n1_ n2_ n3_ ⊢
     have BK263 := n0_
     have BK274 := n1_
     have BK275 := n2_
     have HB := n3_
     clear n0_ n1_ n2_ n3_
     have n0_ := Aside0.mk (blk_drew BK263.out)
     have n1_ := Aside0.mk (blk_drew BK274.out)
     have n2_ := Aside0.mk (blk_drew BK275.out)
     have n3_ := Aside0.mk (below_drew1 HB.out)
     clear BK263
     clear BK274
     clear BK275
     clear HB
     have BK263 := n0_
     have BK274 := n1_
     have BK275 := n2_
     have HB := n3_
     clear n0_ n1_ n2_ n3_
     refine start_ (n := 18) (S := fun w' => w'.cell? ⟨gb274, 0, none⟩ = some (.bool t264) ∧ w'.cell? ⟨gb274, 1, none⟩ = some (.bool t265) ∧ w'.cell? ⟨gb274, 2, none⟩ = some (.bool false) ∧ w'.cell? ⟨gb274, 3, none⟩ = some (.int .u64 t267) ∧ w'.cell? ⟨gb274, 4, none⟩ = some (.int .i64 t268) ∧ w'.cell? ⟨gb275, 0, none⟩ = some (.bool t269) ∧ w'.cell? ⟨gb275, 1, none⟩ = some (.bool t270) ∧ w'.cell? ⟨gb275, 2, none⟩ = some (.bool true) ∧ w'.cell? ⟨gb275, 3, none⟩ = some (.int .u64 t272) ∧ w'.cell? ⟨gb275, 4, none⟩ = some (.int .i64 t273)) (ds := []) #[false, false, false, false, false, false, false, false, false, false, false, false, false, false, false, false, false, false] (by kernel_rfl) rfl rfl ⟨(blk_cell BK274.out 0).trans rfl, (blk_cell BK274.out 1).trans rfl, (blk_cell BK274.out 2).trans rfl, (blk_cell BK274.out 3).trans rfl, (blk_cell BK274.out 4).trans rfl, (blk_cell BK275.out 0).trans rfl, (blk_cell BK275.out 1).trans rfl, (blk_cell BK275.out 2).trans rfl, (blk_cell BK275.out 3).trans rfl, (blk_cell BK275.out 4).trans rfl⟩ (fun hHeld => ?_); refine with_tabW impl_FDiv.tab6 impl_FDiv.bits6 (fun HT_ HW_ => ?_)
     generalize w41.drew = w42 at BK263 BK274 BK275 HB hHeld ⊢
     refine pure_ (i := 0) (N := some 34) (v := ?_) (a' := ?_) #[true, false, false, false, false, false, false, false, false, false, false, false, false, false, false, false, false, false] rfl rfl (any_of HT_.out (by kernel_rfl)) (fun _ _ _ h => h) (Or.inl ⟨by rfl, ?_⟩) ?_ ?_
     rotate_left
     ·
      intro w'
      go_simp
      with_reducible rfl
     rotate_left
     ·
      simp only [Act.put, List.setIfInBounds_toArray, List.set_cons_zero, List.set_cons_succ, i64_w, i32_w]
      rfl
     refine pure_ (i := 8) (N := some 42) (v := ?_) (a' := ?_) #[true, false, false, false, false, false, false, false, true, false, false, false, false, false, false, false, false, false] rfl rfl (any_of HT_.out (by kernel_rfl)) (fun _ _ _ h => h) (Or.inl ⟨by rfl, ?_⟩) ?_ ?_
     rotate_left
     ·
      intro w'
      go_simp
      with_reducible rfl
     rotate_left
     ·
      simp only [Act.put, List.setIfInBounds_toArray, List.set_cons_zero, List.set_cons_succ, i64_w, i32_w]
      rfl
     refine take_ (i := 1) (N := some 35) (v := ?_) (a' := ?_) #[true, true, false, false, false, false, false, false, true, false, false, false, false, false, false, false, false, false] rfl rfl (take_ofW HT_.out HW_.out (by kernel_rfl)) (fun _ _ _ h => h) (Or.inl ⟨by rfl, ?_⟩) hHeld ?_ ?_
     rotate_left
     ·
      rintro w' ⟨s0, s1, s2, s3, s4, s5, s6, s7, s8, s9⟩
      go_simp
      with_reducible rfl
     rotate_left
     ·
      simp only [Act.put, List.setIfInBounds_toArray, List.set_cons_zero, List.set_cons_succ, i64_w, i32_w]
      rfl
     refine pure_ (i := 2) (N := some 36) (v := ?_) (a' := ?_) #[true, true, true, false, false, false, false, false, true, false, false, false, false, false, false, false, false, false] rfl rfl (any_of HT_.out (by kernel_rfl)) (fun _ _ _ h => h) (Or.inl ⟨by rfl, ?_⟩) ?_ ?_
     rotate_left
     ·
      intro w'
      go_simp
      with_reducible rfl
     rotate_left
     ·
      simp only [Act.put, List.setIfInBounds_toArray, List.set_cons_zero, List.set_cons_succ, i64_w, i32_w]
      rfl
     refine pure_ (i := 3) (N := some 37) (v := ?_) (a' := ?_) #[true, true, true, true, false, false, false, false, true, false, false, false, false, false, false, false, false, false] rfl rfl (any_of HT_.out (by kernel_rfl)) (fun _ _ _ h => h) (Or.inl ⟨by rfl, ?_⟩) ?_ ?_
     rotate_left
     ·
      intro w'
      go_simp
      with_reducible rfl
     rotate_left
     ·
      simp only [Act.put, List.setIfInBounds_toArray, List.set_cons_zero, List.set_cons_succ, i64_w, i32_w]
      rfl
     refine pure_ (i := 4) (N := some 38) (v := ?_) (a' := ?_) #[true, true, true, true, true, false, false, false, true, false, false, false, false, false, false, false, false, false] rfl rfl (any_of HT_.out (by kernel_rfl)) (fun _ _ _ h => h) (Or.inl ⟨by rfl, ?_⟩) ?_ ?_
     rotate_left
     ·
      intro w'
      go_simp
      with_reducible rfl
     rotate_left
     ·
      simp only [Act.put, List.setIfInBounds_toArray, List.set_cons_zero, List.set_cons_succ, i64_w, i32_w]
      rfl
     refine take_ (i := 5) (N := some 39) (v := ?_) (a' := ?_) #[true, true, true, true, true, true, false, false, true, false, false, false, false, false, false, false, false, false] rfl rfl (take_ofW HT_.out HW_.out (by kernel_rfl)) (fun _ _ _ h => h) (Or.inl ⟨by rfl, ?_⟩) hHeld ?_ ?_
     rotate_left
     ·
      rintro w' ⟨s0, s1, s2, s3, s4, s5, s6, s7, s8, s9⟩
      go_simp
      with_reducible rfl
     rotate_left
     ·
      simp only [Act.put, List.setIfInBounds_toArray, List.set_cons_zero, List.set_cons_succ, i64_w, i32_w]
      rfl
     refine pure_ (i := 6) (N := some 40) (v := ?_) (a' := ?_) #[true, true, true, true, true, true, true, false, true, false, false, false, false, false, false, false, false, false] rfl rfl (any_of HT_.out (by kernel_rfl)) (fun _ _ _ h => h) (Or.inl ⟨by rfl, ?_⟩) ?_ ?_
     rotate_left
     ·
      intro w'
      go_simp
      with_reducible rfl
     rotate_left
     ·
      simp only [Act.put, List.setIfInBounds_toArray, List.set_cons_zero, List.set_cons_succ, i64_w, i32_w]
      rfl
     refine pure_ (i := 7) (N := some 41) (v := ?_) (a' := ?_) #[true, true, true, true, true, true, true, true, true, false, false, false, false, false, false, false, false, false] rfl rfl (any_of HT_.out (by kernel_rfl)) (fun _ _ _ h => h) (Or.inl ⟨by rfl, ?_⟩) ?_ ?_
     rotate_left
     ·
      intro w'
      go_simp
      with_reducible rfl
     rotate_left
     ·
      simp only [Act.put, List.setIfInBounds_toArray, List.set_cons_zero, List.set_cons_succ, i64_w, i32_w]
      rfl
     refine take_ (i := 9) (N := some 43) (v := ?_) (a' := ?_) #[true, true, true, true, true, true, true, true, true, true, false, false, false, false, false, false, false, false] rfl rfl (take_ofW HT_.out HW_.out (by kernel_rfl)) (fun _ _ _ h => h) (Or.inl ⟨by rfl, ?_⟩) hHeld ?_ ?_
     rotate_left
     ·
      rintro w' ⟨s0, s1, s2, s3, s4, s5, s6, s7, s8, s9⟩
      go_simp
      with_reducible rfl
     rotate_left
     ·
      simp only [Act.put, List.setIfInBounds_toArray, List.set_cons_zero, List.set_cons_succ, i64_w, i32_w]
      rfl
     refine pure_ (i := 10) (N := some 44) (v := ?_) (a' := ?_) #[true, true, true, true, true, true, true, true, true, true, true, false, false, false, false, false, false, false] rfl rfl (any_of HT_.out (by kernel_rfl)) (fun _ _ _ h => h) (Or.inl ⟨by rfl, ?_⟩) ?_ ?_
     rotate_left
     ·
      intro w'
      go_simp
      with_reducible rfl
     rotate_left
     ·
      simp only [Act.put, List.setIfInBounds_toArray, List.set_cons_zero, List.set_cons_succ, i64_w, i32_w]
      rfl
     refine pure_ (i := 11) (N := some 45) (v := ?_) (a' := ?_) #[true, true, true, true, true, true, true, true, true, true, true, true, false, false, false, false, false, false] rfl rfl (any_of HT_.out (by kernel_rfl)) (fun _ _ _ h => h) (Or.inl ⟨by rfl, ?_⟩) ?_ ?_
     rotate_left
     ·
      intro w'
      go_simp
      with_reducible rfl
     rotate_left
     ·
      simp only [Act.put, List.setIfInBounds_toArray, List.set_cons_zero, List.set_cons_succ, i64_w, i32_w]
      rfl
     refine pure_ (i := 12) (N := some 46) (v := undef) (a' := ?_) #[true, true, true, true, true, true, true, true, true, true, true, true, true, false, false, false, false, false] rfl rfl (any_of HT_.out (by kernel_rfl)) (fun _ _ _ h => h) (Or.inr ⟨by rfl, rfl⟩) ?_ ?_
     rotate_left
     ·
      simp only [Act.put, List.setIfInBounds_toArray, List.set_cons_zero, List.set_cons_succ, i64_w, i32_w]
      rfl
     refine pure_ (i := 13) (N := some 47) (v := undef) (a' := ?_) #[true, true, true, true, true, true, true, true, true, true, true, true, true, true, false, false, false, false] rfl rfl (any_of HT_.out (by kernel_rfl)) (fun _ _ _ h => h) (Or.inr ⟨by rfl, rfl⟩) ?_ ?_
     rotate_left
     ·
      simp only [Act.put, List.setIfInBounds_toArray, List.set_cons_zero, List.set_cons_succ, i64_w, i32_w]
      rfl
     refine pure_ (i := 14) (N := some 48) (v := undef) (a' := ?_) #[true, true, true, true, true, true, true, true, true, true, true, true, true, true, true, false, false, false] rfl rfl (any_of HT_.out (by kernel_rfl)) (fun _ _ _ h => h) (Or.inr ⟨by rfl, rfl⟩) ?_ ?_
     rotate_left
     ·
      simp only [Act.put, List.setIfInBounds_toArray, List.set_cons_zero, List.set_cons_succ, i64_w, i32_w]
      rfl
     refine pure_ (i := 15) (N := some 49) (v := ?_) (a' := ?_) #[true, true, true, true, true, true, true, true, true, true, true, true, true, true, true, true, false, false] rfl rfl (any_of HT_.out (by kernel_rfl)) (fun _ _ _ h => h) (Or.inl ⟨by rfl, ?_⟩) ?_ ?_
     rotate_left
     ·
      intro w'
      go_simp
      with_reducible rfl
     rotate_left
     ·
      simp only [Act.put, List.setIfInBounds_toArray, List.set_cons_zero, List.set_cons_succ, i64_w, i32_w]
      rfl
     refine pure_ (i := 16) (N := some 12) (v := ?_) (a' := ?_) #[true, true, true, true, true, true, true, true, true, true, true, true, true, true, true, true, true, false] rfl rfl (any_of HT_.out (by kernel_rfl)) (fun _ _ _ h => h) (Or.inl ⟨by rfl, ?_⟩) ?_ ?_
     rotate_left
     ·
      intro w'
      go_simp
      with_reducible rfl
     rotate_left
     ·
      simp only [Act.put, List.setIfInBounds_toArray, List.set_cons_zero, List.set_cons_succ, i64_w, i32_w]
      rfl
     refine pure_ (i := 17) (N := some 13) (v := ?_) (a' := ?_) #[true, true, true, true, true, true, true, true, true, true, true, true, true, true, true, true, true, true] rfl rfl (any_of HT_.out (by kernel_rfl)) (fun _ _ _ h => h) (Or.inl ⟨by rfl, ?_⟩) ?_ ?_
     rotate_left
     ·
      intro w'
      go_simp
      with_reducible rfl
     rotate_left
     ·
      simp only [Act.put, List.setIfInBounds_toArray, List.set_cons_zero, List.set_cons_succ, i64_w, i32_w]
      rfl
     refine done_ (done_of HT_.out (by kernel_rfl)) ?_
     try go_wp2
     go_meet
     case rel => exact ⟨_, ((t267 == 0)), (false), (by first | rfl | (simp; done) | (simp [*]; done)), (by first | rfl | (simp; done) | (simp [*]; done)), H', ⟨by first | omega | exact Nat.le_refl _⟩, ⟨by (with_reducible repeat (first | refine blk_drewN ?_ _ | refine blk_drew ?_ | refine blk_alloc ?_ _)); exact BK263.out⟩, ⟨by (with_reducible repeat (first | refine blk_drewN ?_ _ | refine blk_drew ?_ | refine blk_alloc ?_ _)); exact BK274.out⟩, ⟨by (with_reducible repeat (first | refine blk_drewN ?_ _ | refine blk_drew ?_ | refine blk_alloc ?_ _)); exact BK275.out⟩, ⟨by repeat (first | (with_reducible first | exact HB.out | apply below_alloc | apply pw_below_drewN | apply below_drew1 | refine below_set ?_ GE263.out | refine below_set ?_ GE274.out | refine below_set ?_ GE275.out) | exact HB.out)⟩⟩
    ·
     replace c40 := Bool.eq_false_iff.mpr c40
     subst c40
     have H1 : (impl_FDiv.j0 k (t264 != t269) (t267 == 0) (t272 == 0) t260 t261 t264 t265 false t267 t268 t269 t270 false t272 t273) = some r := by rw [if_neg (show ¬ (false = true) by decide)] at H; exact H
     clear H
     have H := H1
     clear H1
     have H' := Aside0.mk H
     clear H
     try go_wp2
     have n0_ : Aside0 (((((((((((w18.setCell ⟨gb274, 0, none⟩ (.bool t264)).setCell ⟨gb274, 1, none⟩ (.bool t265)).setCell ⟨gb274, 2, none⟩ (.bool false)).setCell ⟨gb274, 3, none⟩ (.int .u64 t267)).setCell ⟨gb274, 4, none⟩ (.int .i64 t268)).setCell ⟨gb275, 0, none⟩ (.bool t269)).setCell ⟨gb275, 1, none⟩ (.bool t270)).setCell ⟨gb275, 2, none⟩ (.bool false)).setCell ⟨gb275, 3, none⟩ (.int .u64 t272)).setCell ⟨gb275, 4, none⟩ (.int .i64 t273)).heap[gb263]? = some (.cells #[.int .i64 t260, .int .i64 t261] 62 (0, 0))) := ⟨by (with_reducible repeat (first | refine blk_drewN ?_ _ | refine blk_drew ?_ | refine blk_alloc ?_ _)); refine blk_far ?_ NB263_275.out _; (with_reducible repeat (first | refine blk_drewN ?_ _ | refine blk_drew ?_ | refine blk_alloc ?_ _)); refine blk_far ?_ NB263_275.out _; (with_reducible repeat (first | refine blk_drewN ?_ _ | refine blk_drew ?_ | refine blk_alloc ?_ _)); refine blk_far ?_ NB263_275.out _; (with_reducible repeat (first | refine blk_drewN ?_ _ | refine blk_drew ?_ | refine blk_alloc ?_ _)); refine blk_far ?_ NB263_275.out _; (with_reducible repeat (first | refine blk_drewN ?_ _ | refine blk_drew ?_ | refine blk_alloc ?_ _)); refine blk_far ?_ NB263_275.out _; (with_reducible repeat (first | refine blk_drewN ?_ _ | refine blk_drew ?_ | refine blk_alloc ?_ _)); refine blk_far ?_ NB263_274.out _; (with_reducible repeat (first | refine blk_drewN ?_ _ | refine blk_drew ?_ | refine blk_alloc ?_ _)); refine blk_far ?_ NB263_274.out _; (with_reducible repeat (first | refine blk_drewN ?_ _ | refine blk_drew ?_ | refine blk_alloc ?_ _)); refine blk_far ?_ NB263_274.out _; (with_reducible repeat (first | refine blk_drewN ?_ _ | refine blk_drew ?_ | refine blk_alloc ?_ _)); refine blk_far ?_ NB263_274.out _; (with_reducible repeat (first | refine blk_drewN ?_ _ | refine blk_drew ?_ | refine blk_alloc ?_ _)); refine blk_far ?_ NB263_274.out _; (with_reducible repeat (first | refine blk_drewN ?_ _ | refine blk_drew ?_ | refine blk_alloc ?_ _)); exact BK263.out⟩
     have n1_ : Aside0 (((((((((((w18.setCell ⟨gb274, 0, none⟩ (.bool t264)).setCell ⟨gb274, 1, none⟩ (.bool t265)).setCell ⟨gb274, 2, none⟩ (.bool false)).setCell ⟨gb274, 3, none⟩ (.int .u64 t267)).setCell ⟨gb274, 4, none⟩ (.int .i64 t268)).setCell ⟨gb275, 0, none⟩ (.bool t269)).setCell ⟨gb275, 1, none⟩ (.bool t270)).setCell ⟨gb275, 2, none⟩ (.bool false)).setCell ⟨gb275, 3, none⟩ (.int .u64 t272)).setCell ⟨gb275, 4, none⟩ (.int .i64 t273)).heap[gb274]? = some (.cells #[.bool t264, .bool t265, .bool false, .int .u64 t267, .int .i64 t268] 66 (0, 0))) := ⟨by (with_reducible repeat (first | refine blk_drewN ?_ _ | refine blk_drew ?_ | refine blk_alloc ?_ _)); refine blk_far ?_ NB274_275.out _; (with_reducible repeat (first | refine blk_drewN ?_ _ | refine blk_drew ?_ | refine blk_alloc ?_ _)); refine blk_far ?_ NB274_275.out _; (with_reducible repeat (first | refine blk_drewN ?_ _ | refine blk_drew ?_ | refine blk_alloc ?_ _)); refine blk_far ?_ NB274_275.out _; (with_reducible repeat (first | refine blk_drewN ?_ _ | refine blk_drew ?_ | refine blk_alloc ?_ _)); refine blk_far ?_ NB274_275.out _; (with_reducible repeat (first | refine blk_drewN ?_ _ | refine blk_drew ?_ | refine blk_alloc ?_ _)); refine blk_far ?_ NB274_275.out _; (with_reducible repeat (first | refine blk_drewN ?_ _ | refine blk_drew ?_ | refine blk_alloc ?_ _)); refine blk_put (cs := #[.bool t264, .bool t265, .bool false, .int .u64 t267, .int .i64 0]) ?_ 4 _ rfl; (with_reducible repeat (first | refine blk_drewN ?_ _ | refine blk_drew ?_ | refine blk_alloc ?_ _)); refine blk_put (cs := #[.bool t264, .bool t265, .bool false, .int .u64 0, .int .i64 0]) ?_ 3 _ rfl; (with_reducible repeat (first | refine blk_drewN ?_ _ | refine blk_drew ?_ | refine blk_alloc ?_ _)); refine blk_put (cs := #[.bool t264, .bool t265, .bool false, .int .u64 0, .int .i64 0]) ?_ 2 _ rfl; (with_reducible repeat (first | refine blk_drewN ?_ _ | refine blk_drew ?_ | refine blk_alloc ?_ _)); refine blk_put (cs := #[.bool t264, .bool false, .bool false, .int .u64 0, .int .i64 0]) ?_ 1 _ rfl; (with_reducible repeat (first | refine blk_drewN ?_ _ | refine blk_drew ?_ | refine blk_alloc ?_ _)); refine blk_put (cs := #[.bool false, .bool false, .bool false, .int .u64 0, .int .i64 0]) ?_ 0 _ rfl; (with_reducible repeat (first | refine blk_drewN ?_ _ | refine blk_drew ?_ | refine blk_alloc ?_ _)); exact BK274.out⟩
     have n2_ : Aside0 (((((((((((w18.setCell ⟨gb274, 0, none⟩ (.bool t264)).setCell ⟨gb274, 1, none⟩ (.bool t265)).setCell ⟨gb274, 2, none⟩ (.bool false)).setCell ⟨gb274, 3, none⟩ (.int .u64 t267)).setCell ⟨gb274, 4, none⟩ (.int .i64 t268)).setCell ⟨gb275, 0, none⟩ (.bool t269)).setCell ⟨gb275, 1, none⟩ (.bool t270)).setCell ⟨gb275, 2, none⟩ (.bool false)).setCell ⟨gb275, 3, none⟩ (.int .u64 t272)).setCell ⟨gb275, 4, none⟩ (.int .i64 t273)).heap[gb275]? = some (.cells #[.bool t269, .bool t270, .bool false, .int .u64 t272, .int .i64 t273] 66 (0, 0))) := ⟨by (with_reducible repeat (first | refine blk_drewN ?_ _ | refine blk_drew ?_ | refine blk_alloc ?_ _)); refine blk_put (cs := #[.bool t269, .bool t270, .bool false, .int .u64 t272, .int .i64 0]) ?_ 4 _ rfl; (with_reducible repeat (first | refine blk_drewN ?_ _ | refine blk_drew ?_ | refine blk_alloc ?_ _)); refine blk_put (cs := #[.bool t269, .bool t270, .bool false, .int .u64 0, .int .i64 0]) ?_ 3 _ rfl; (with_reducible repeat (first | refine blk_drewN ?_ _ | refine blk_drew ?_ | refine blk_alloc ?_ _)); refine blk_put (cs := #[.bool t269, .bool t270, .bool false, .int .u64 0, .int .i64 0]) ?_ 2 _ rfl; (with_reducible repeat (first | refine blk_drewN ?_ _ | refine blk_drew ?_ | refine blk_alloc ?_ _)); refine blk_put (cs := #[.bool t269, .bool false, .bool false, .int .u64 0, .int .i64 0]) ?_ 1 _ rfl; (with_reducible repeat (first | refine blk_drewN ?_ _ | refine blk_drew ?_ | refine blk_alloc ?_ _)); refine blk_put (cs := #[.bool false, .bool false, .bool false, .int .u64 0, .int .i64 0]) ?_ 0 _ rfl; (with_reducible repeat (first | refine blk_drewN ?_ _ | refine blk_drew ?_ | refine blk_alloc ?_ _)); refine blk_far ?_ NB275_274.out _; (with_reducible repeat (first | refine blk_drewN ?_ _ | refine blk_drew ?_ | refine blk_alloc ?_ _)); refine blk_far ?_ NB275_274.out _; (with_reducible repeat (first | refine blk_drewN ?_ _ | refine blk_drew ?_ | refine blk_alloc ?_ _)); refine blk_far ?_ NB275_274.out _; (with_reducible repeat (first | refine blk_drewN ?_ _ | refine blk_drew ?_ | refine blk_alloc ?_ _)); refine blk_far ?_ NB275_274.out _; (with_reducible repeat (first | refine blk_drewN ?_ _ | refine blk_drew ?_ | refine blk_alloc ?_ _)); refine blk_far ?_ NB275_274.out _; (with_reducible repeat (first | refine blk_drewN ?_ _ | refine blk_drew ?_ | refine blk_alloc ?_ _)); exact BK275.out⟩
     have n3_ : Aside0 (Below w.heap.size w ((((((((((w18.setCell ⟨gb274, 0, none⟩ (.bool t264)).setCell ⟨gb274, 1, none⟩ (.bool t265)).setCell ⟨gb274, 2, none⟩ (.bool false)).setCell ⟨gb274, 3, none⟩ (.int .u64 t267)).setCell ⟨gb274, 4, none⟩ (.int .i64 t268)).setCell ⟨gb275, 0, none⟩ (.bool t269)).setCell ⟨gb275, 1, none⟩ (.bool t270)).setCell ⟨gb275, 2, none⟩ (.bool false)).setCell ⟨gb275, 3, none⟩ (.int .u64 t272)).setCell ⟨gb275, 4, none⟩ (.int .i64 t273))) := ⟨by repeat (first | (with_reducible first | exact HB.out | apply below_alloc | apply pw_below_drewN | apply below_drew1 | refine below_set ?_ GE263.out | refine below_set ?_ GE274.out | refine below_set ?_ GE275.out) | exact HB.out)⟩
     (try clear BK263)
     (try clear BK274)
     (try clear BK275)
     (try clear HB)
     generalize ((((((((((w18.setCell ⟨gb274, 0, none⟩ (.bool t264)).setCell ⟨gb274, 1, none⟩ (.bool t265)).setCell ⟨gb274, 2, none⟩ (.bool false)).setCell ⟨gb274, 3, none⟩ (.int .u64 t267)).setCell ⟨gb274, 4, none⟩ (.int .i64 t268)).setCell ⟨gb275, 0, none⟩ (.bool t269)).setCell ⟨gb275, 1, none⟩ (.bool t270)).setCell ⟨gb275, 2, none⟩ (.bool false)).setCell ⟨gb275, 3, none⟩ (.int .u64 t272)).setCell ⟨gb275, 4, none⟩ (.int .i64 t273)) = w43 at n0_ n1_ n2_ n3_ ⊢
     have BK263 := n0_
     have BK274 := n1_
     have BK275 := n2_
     have HB := n3_
     clear n0_ n1_ n2_ n3_
     have n0_ := Aside0.mk (blk_drew BK263.out)
     have n1_ := Aside0.mk (blk_drew BK274.out)
     have n2_ := Aside0.mk (blk_drew BK275.out)
     have n3_ := Aside0.mk (below_drew1 HB.out)
     clear BK263
     clear BK274
     clear BK275
     clear HB
     have BK263 := n0_
     have BK274 := n1_
     have BK275 := n2_
     have HB := n3_
     clear n0_ n1_ n2_ n3_
     refine start_ (n := 18) (S := fun w' => w'.cell? ⟨gb274, 0, none⟩ = some (.bool t264) ∧ w'.cell? ⟨gb274, 1, none⟩ = some (.bool t265) ∧ w'.cell? ⟨gb274, 2, none⟩ = some (.bool false) ∧ w'.cell? ⟨gb274, 3, none⟩ = some (.int .u64 t267) ∧ w'.cell? ⟨gb274, 4, none⟩ = some (.int .i64 t268) ∧ w'.cell? ⟨gb275, 0, none⟩ = some (.bool t269) ∧ w'.cell? ⟨gb275, 1, none⟩ = some (.bool t270) ∧ w'.cell? ⟨gb275, 2, none⟩ = some (.bool false) ∧ w'.cell? ⟨gb275, 3, none⟩ = some (.int .u64 t272) ∧ w'.cell? ⟨gb275, 4, none⟩ = some (.int .i64 t273)) (ds := []) #[false, false, false, false, false, false, false, false, false, false, false, false, false, false, false, false, false, false] (by kernel_rfl) rfl rfl ⟨(blk_cell BK274.out 0).trans rfl, (blk_cell BK274.out 1).trans rfl, (blk_cell BK274.out 2).trans rfl, (blk_cell BK274.out 3).trans rfl, (blk_cell BK274.out 4).trans rfl, (blk_cell BK275.out 0).trans rfl, (blk_cell BK275.out 1).trans rfl, (blk_cell BK275.out 2).trans rfl, (blk_cell BK275.out 3).trans rfl, (blk_cell BK275.out 4).trans rfl⟩ (fun hHeld => ?_); refine with_tabW impl_FDiv.tab6 impl_FDiv.bits6 (fun HT_ HW_ => ?_)
     generalize w43.drew = w44 at BK263 BK274 BK275 HB hHeld ⊢
     refine pure_ (i := 0) (N := some 34) (v := ?_) (a' := ?_) #[true, false, false, false, false, false, false, false, false, false, false, false, false, false, false, false, false, false] rfl rfl (any_of HT_.out (by kernel_rfl)) (fun _ _ _ h => h) (Or.inl ⟨by rfl, ?_⟩) ?_ ?_
     rotate_left
     ·
      intro w'
      go_simp
      with_reducible rfl
     rotate_left
     ·
      simp only [Act.put, List.setIfInBounds_toArray, List.set_cons_zero, List.set_cons_succ, i64_w, i32_w]
      rfl
     refine pure_ (i := 8) (N := some 42) (v := ?_) (a' := ?_) #[true, false, false, false, false, false, false, false, true, false, false, false, false, false, false, false, false, false] rfl rfl (any_of HT_.out (by kernel_rfl)) (fun _ _ _ h => h) (Or.inl ⟨by rfl, ?_⟩) ?_ ?_
     rotate_left
     ·
      intro w'
      go_simp
      with_reducible rfl
     rotate_left
     ·
      simp only [Act.put, List.setIfInBounds_toArray, List.set_cons_zero, List.set_cons_succ, i64_w, i32_w]
      rfl
     refine take_ (i := 1) (N := some 35) (v := ?_) (a' := ?_) #[true, true, false, false, false, false, false, false, true, false, false, false, false, false, false, false, false, false] rfl rfl (take_ofW HT_.out HW_.out (by kernel_rfl)) (fun _ _ _ h => h) (Or.inl ⟨by rfl, ?_⟩) hHeld ?_ ?_
     rotate_left
     ·
      rintro w' ⟨s0, s1, s2, s3, s4, s5, s6, s7, s8, s9⟩
      go_simp
      with_reducible rfl
     rotate_left
     ·
      simp only [Act.put, List.setIfInBounds_toArray, List.set_cons_zero, List.set_cons_succ, i64_w, i32_w]
      rfl
     refine pure_ (i := 2) (N := some 36) (v := ?_) (a' := ?_) #[true, true, true, false, false, false, false, false, true, false, false, false, false, false, false, false, false, false] rfl rfl (any_of HT_.out (by kernel_rfl)) (fun _ _ _ h => h) (Or.inl ⟨by rfl, ?_⟩) ?_ ?_
     rotate_left
     ·
      intro w'
      go_simp
      with_reducible rfl
     rotate_left
     ·
      simp only [Act.put, List.setIfInBounds_toArray, List.set_cons_zero, List.set_cons_succ, i64_w, i32_w]
      rfl
     refine pure_ (i := 3) (N := some 37) (v := ?_) (a' := ?_) #[true, true, true, true, false, false, false, false, true, false, false, false, false, false, false, false, false, false] rfl rfl (any_of HT_.out (by kernel_rfl)) (fun _ _ _ h => h) (Or.inl ⟨by rfl, ?_⟩) ?_ ?_
     rotate_left
     ·
      intro w'
      go_simp
      with_reducible rfl
     rotate_left
     ·
      simp only [Act.put, List.setIfInBounds_toArray, List.set_cons_zero, List.set_cons_succ, i64_w, i32_w]
      rfl
     refine pure_ (i := 4) (N := some 38) (v := ?_) (a' := ?_) #[true, true, true, true, true, false, false, false, true, false, false, false, false, false, false, false, false, false] rfl rfl (any_of HT_.out (by kernel_rfl)) (fun _ _ _ h => h) (Or.inl ⟨by rfl, ?_⟩) ?_ ?_
     rotate_left
     ·
      intro w'
      go_simp
      with_reducible rfl
     rotate_left
     ·
      simp only [Act.put, List.setIfInBounds_toArray, List.set_cons_zero, List.set_cons_succ, i64_w, i32_w]
      rfl
     refine take_ (i := 5) (N := some 39) (v := ?_) (a' := ?_) #[true, true, true, true, true, true, false, false, true, false, false, false, false, false, false, false, false, false] rfl rfl (take_ofW HT_.out HW_.out (by kernel_rfl)) (fun _ _ _ h => h) (Or.inl ⟨by rfl, ?_⟩) hHeld ?_ ?_
     rotate_left
     ·
      rintro w' ⟨s0, s1, s2, s3, s4, s5, s6, s7, s8, s9⟩
      go_simp
      with_reducible rfl
     rotate_left
     ·
      simp only [Act.put, List.setIfInBounds_toArray, List.set_cons_zero, List.set_cons_succ, i64_w, i32_w]
      rfl
     refine pure_ (i := 6) (N := some 40) (v := ?_) (a' := ?_) #[true, true, true, true, true, true, true, false, true, false, false, false, false, false, false, false, false, false] rfl rfl (any_of HT_.out (by kernel_rfl)) (fun _ _ _ h => h) (Or.inl ⟨by rfl, ?_⟩) ?_ ?_
     rotate_left
     ·
      intro w'
      go_simp
      with_reducible rfl
     rotate_left
     ·
      simp only [Act.put, List.setIfInBounds_toArray, List.set_cons_zero, List.set_cons_succ, i64_w, i32_w]
      rfl
     refine pure_ (i := 7) (N := some 41) (v := ?_) (a' := ?_) #[true, true, true, true, true, true, true, true, true, false, false, false, false, false, false, false, false, false] rfl rfl (any_of HT_.out (by kernel_rfl)) (fun _ _ _ h => h) (Or.inl ⟨by rfl, ?_⟩) ?_ ?_
     rotate_left
     ·
      intro w'
      go_simp
      with_reducible rfl
     rotate_left
     ·
      simp only [Act.put, List.setIfInBounds_toArray, List.set_cons_zero, List.set_cons_succ, i64_w, i32_w]
      rfl
     refine take_ (i := 9) (N := some 43) (v := ?_) (a' := ?_) #[true, true, true, true, true, true, true, true, true, true, false, false, false, false, false, false, false, false] rfl rfl (take_ofW HT_.out HW_.out (by kernel_rfl)) (fun _ _ _ h => h) (Or.inl ⟨by rfl, ?_⟩) hHeld ?_ ?_
     rotate_left
     ·
      rintro w' ⟨s0, s1, s2, s3, s4, s5, s6, s7, s8, s9⟩
      go_simp
      with_reducible rfl
     rotate_left
     ·
      simp only [Act.put, List.setIfInBounds_toArray, List.set_cons_zero, List.set_cons_succ, i64_w, i32_w]
      rfl
     refine pure_ (i := 10) (N := some 44) (v := ?_) (a' := ?_) #[true, true, true, true, true, true, true, true, true, true, true, false, false, false, false, false, false, false] rfl rfl (any_of HT_.out (by kernel_rfl)) (fun _ _ _ h => h) (Or.inl ⟨by rfl, ?_⟩) ?_ ?_
     rotate_left
     ·
      intro w'
      go_simp
      with_reducible rfl
     rotate_left
     ·
      simp only [Act.put, List.setIfInBounds_toArray, List.set_cons_zero, List.set_cons_succ, i64_w, i32_w]
      rfl
     refine pure_ (i := 11) (N := some 45) (v := ?_) (a' := ?_) #[true, true, true, true, true, true, true, true, true, true, true, true, false, false, false, false, false, false] rfl rfl (any_of HT_.out (by kernel_rfl)) (fun _ _ _ h => h) (Or.inl ⟨by rfl, ?_⟩) ?_ ?_
     rotate_left
     ·
      intro w'
      go_simp
      with_reducible rfl
     rotate_left
     ·
      simp only [Act.put, List.setIfInBounds_toArray, List.set_cons_zero, List.set_cons_succ, i64_w, i32_w]
      rfl
     refine pure_ (i := 12) (N := some 46) (v := ?_) (a' := ?_) #[true, true, true, true, true, true, true, true, true, true, true, true, true, false, false, false, false, false] rfl rfl (any_of HT_.out (by kernel_rfl)) (fun _ _ _ h => h) (Or.inl ⟨by rfl, ?_⟩) ?_ ?_
     rotate_left
     ·
      intro w'
      go_simp
      with_reducible rfl
     rotate_left
     ·
      simp only [Act.put, List.setIfInBounds_toArray, List.set_cons_zero, List.set_cons_succ, i64_w, i32_w]
      rfl
     refine pure_ (i := 16) (N := some 12) (v := ?_) (a' := ?_) #[true, true, true, true, true, true, true, true, true, true, true, true, true, false, false, false, true, false] rfl rfl (any_of HT_.out (by kernel_rfl)) (fun _ _ _ h => h) (Or.inl ⟨by rfl, ?_⟩) ?_ ?_
     rotate_left
     ·
      intro w'
      go_simp
      with_reducible rfl
     rotate_left
     ·
      simp only [Act.put, List.setIfInBounds_toArray, List.set_cons_zero, List.set_cons_succ, i64_w, i32_w]
      rfl
     refine take_ (i := 13) (N := some 47) (v := ?_) (a' := ?_) #[true, true, true, true, true, true, true, true, true, true, true, true, true, true, false, false, true, false] rfl rfl (take_ofW HT_.out HW_.out (by kernel_rfl)) (fun _ _ _ h => h) (Or.inl ⟨by rfl, ?_⟩) hHeld ?_ ?_
     rotate_left
     ·
      rintro w' ⟨s0, s1, s2, s3, s4, s5, s6, s7, s8, s9⟩
      go_simp
      with_reducible rfl
     rotate_left
     ·
      simp only [Act.put, List.setIfInBounds_toArray, List.set_cons_zero, List.set_cons_succ, i64_w, i32_w]
      rfl
     refine pure_ (i := 14) (N := some 48) (v := ?_) (a' := ?_) #[true, true, true, true, true, true, true, true, true, true, true, true, true, true, true, false, true, false] rfl rfl (any_of HT_.out (by kernel_rfl)) (fun _ _ _ h => h) (Or.inl ⟨by rfl, ?_⟩) ?_ ?_
     rotate_left
     ·
      intro w'
      go_simp
      with_reducible rfl
     rotate_left
     ·
      simp only [Act.put, List.setIfInBounds_toArray, List.set_cons_zero, List.set_cons_succ, i64_w, i32_w]
      rfl
     refine pure_ (i := 15) (N := some 49) (v := ?_) (a' := ?_) #[true, true, true, true, true, true, true, true, true, true, true, true, true, true, true, true, true, false] rfl rfl (any_of HT_.out (by kernel_rfl)) (fun _ _ _ h => h) (Or.inl ⟨by rfl, ?_⟩) ?_ ?_
     rotate_left
     ·
      intro w'
      go_simp
      with_reducible rfl
     rotate_left
     ·
      simp only [Act.put, List.setIfInBounds_toArray, List.set_cons_zero, List.set_cons_succ, i64_w, i32_w]
      rfl
     refine pure_ (i := 17) (N := some 13) (v := ?_) (a' := ?_) #[true, true, true, true, true, true, true, true, true, true, true, true, true, true, true, true, true, true] rfl rfl (any_of HT_.out (by kernel_rfl)) (fun _ _ _ h => h) (Or.inl ⟨by rfl, ?_⟩) ?_ ?_
     rotate_left
     ·
      intro w'
      go_simp
      with_reducible rfl
     rotate_left
     ·
      simp only [Act.put, List.setIfInBounds_toArray, List.set_cons_zero, List.set_cons_succ, i64_w, i32_w]
      rfl
     refine done_ (done_of HT_.out (by kernel_rfl)) ?_
     try go_wp2
     go_meet
     case rel => exact ⟨_, ((t267 == 0)), ((t272 == 0)), (by first | rfl | (simp; done) | (simp [*]; done)), (by first | rfl | (simp; done) | (simp [*]; done)), H', ⟨by first | omega | exact Nat.le_refl _⟩, ⟨by (with_reducible repeat (first | refine blk_drewN ?_ _ | refine blk_drew ?_ | refine blk_alloc ?_ _)); exact BK263.out⟩, ⟨by (with_reducible repeat (first | refine blk_drewN ?_ _ | refine blk_drew ?_ | refine blk_alloc ?_ _)); exact BK274.out⟩, ⟨by (with_reducible repeat (first | refine blk_drewN ?_ _ | refine blk_drew ?_ | refine blk_alloc ?_ _)); exact BK275.out⟩, ⟨by repeat (first | (with_reducible first | exact HB.out | apply below_alloc | apply pw_below_drewN | apply below_drew1 | refine below_set ?_ GE263.out | refine below_set ?_ GE274.out | refine below_set ?_ GE275.out) | exact HB.out)⟩⟩
  case rest =>
   clear HC8
   try clear p2
   try clear c3
   try clear c4
   try clear c34
   try clear c35
   try clear c40
   obtain ⟨kq, x12_7, x13_7, rfl, rfl, HA, HJ7, BK263, BK274, BK275, HB⟩ := hcut
   cases kq with
   | zero => exact absurd HA.out (by simp [impl_FDiv.j0])
   | succ kj7 =>
    have H := HA.out
    clear HA
    simp only [impl_FDiv.j0] at H
    have HC45 := Aside0.mk H
    clear H
    go_upto_region 7 with (fail)
    go_cut [50] (fun v50 wc => ∃ (kq : Nat) (x50_44 : Bool), v50 = .bool x50_44 ∧ Aside0 (impl_FDiv.j1 kq (t264 != t269) x12_7 x13_7 x50_44 t260 t261 t264 t265 t266 t267 t268 t269 t270 t271 t272 t273 = some r) ∧ Aside0 (kq ≤ kj7) ∧ Aside0 (wc.heap[gb263]? = some (.cells #[.int .i64 t260, .int .i64 t261] 62 (0, 0))) ∧ Aside0 (wc.heap[gb274]? = some (.cells #[.bool t264, .bool t265, .bool t266, .int .u64 t267, .int .i64 t268] 66 (0, 0))) ∧ Aside0 (wc.heap[gb275]? = some (.cells #[.bool t269, .bool t270, .bool t271, .int .u64 t272, .int .i64 t273] 66 (0, 0))) ∧ Aside0 (Below w.heap.size w wc))
    case first =>
     have H := HC45.out
     clear HC45
     by_cases c46 : t265 = true
     ·
      subst c46
      have H1 : (impl_FDiv.j1 kj7 (t264 != t269) x12_7 x13_7 true t260 t261 t264 true t266 t267 t268 t269 t270 t271 t272 t273) = some r := by rw [if_pos rfl] at H; exact H
      clear H
      have H := H1
      clear H1
      have H' := Aside0.mk H
      clear H
      have hnb47 := NB274_263.out
      have hnc47 := NB263_274.out
      have hnb48 := NB274_275.out
      have hnc48 := NB275_274.out
      have hcz49_0 : wc.cell? ⟨gb274, 0, none⟩ = some (.bool t264) := (blk_cell BK274.out 0).trans rfl
      have hcz49_1 : wc.cell? ⟨gb274, 1, none⟩ = some (.bool true) := (blk_cell BK274.out 1).trans rfl
      have hcz49_2 : wc.cell? ⟨gb274, 2, none⟩ = some (.bool t266) := (blk_cell BK274.out 2).trans rfl
      have hcz49_3 : wc.cell? ⟨gb274, 3, none⟩ = some (.int .u64 t267) := (blk_cell BK274.out 3).trans rfl
      have hcz49_4 : wc.cell? ⟨gb274, 4, none⟩ = some (.int .i64 t268) := (blk_cell BK274.out 4).trans rfl
      have hfz49_0 := blk_frozen BK274.out 0
      have hfz49_1 := blk_frozen BK274.out 1
      have hfz49_2 := blk_frozen BK274.out 2
      have hfz49_3 := blk_frozen BK274.out 3
      have hfz49_4 := blk_frozen BK274.out 4
      go_wp2
      go_meet
      case rel => exact ⟨_, (true), (by first | rfl | (simp; done) | (simp [*]; done)), H', ⟨by have := HJ7.out; first | omega | exact Nat.le_refl _⟩, ⟨by (with_reducible repeat (first | refine blk_drewN ?_ _ | refine blk_drew ?_ | refine blk_alloc ?_ _)); exact BK263.out⟩, ⟨by (with_reducible repeat (first | refine blk_drewN ?_ _ | refine blk_drew ?_ | refine blk_alloc ?_ _)); exact BK274.out⟩, ⟨by (with_reducible repeat (first | refine blk_drewN ?_ _ | refine blk_drew ?_ | refine blk_alloc ?_ _)); exact BK275.out⟩, ⟨by repeat (first | (with_reducible first | exact HB.out | apply below_alloc | apply pw_below_drewN | apply below_drew1 | refine below_set ?_ GE263.out | refine below_set ?_ GE274.out | refine below_set ?_ GE275.out) | exact HB.out)⟩⟩
     ·
      replace c46 := Bool.eq_false_iff.mpr c46
      subst c46
      have H1 : (if t270 = true then (impl_FDiv.j1 kj7 (t264 != t269) x12_7 x13_7 true t260 t261 t264 false t266 t267 t268 t269 t270 t271 t272 t273) else (if t266 = true then (if t271 = true then (impl_FDiv.j1 kj7 (t264 != t269) x12_7 x13_7 true t260 t261 t264 false t266 t267 t268 t269 t270 t271 t272 t273) else (if x12_7 = true then (impl_FDiv.j1 kj7 (t264 != t269) x12_7 x13_7 x13_7 t260 t261 t264 false t266 t267 t268 t269 t270 t271 t272 t273) else (impl_FDiv.j1 kj7 (t264 != t269) x12_7 x13_7 false t260 t261 t264 false t266 t267 t268 t269 t270 t271 t272 t273))) else (if x12_7 = true then (impl_FDiv.j1 kj7 (t264 != t269) x12_7 x13_7 x13_7 t260 t261 t264 false t266 t267 t268 t269 t270 t271 t272 t273) else (impl_FDiv.j1 kj7 (t264 != t269) x12_7 x13_7 false t260 t261 t264 false t266 t267 t268 t269 t270 t271 t272 t273)))) = some r := by rw [if_neg (show ¬ (false = true) by decide)] at H; exact H
      clear H
      have H := H1
      clear H1
      by_cases c50 : t270 = true
      ·
       subst c50
       have H1 : (impl_FDiv.j1 kj7 (t264 != t269) x12_7 x13_7 true t260 t261 t264 false t266 t267 t268 t269 true t271 t272 t273) = some r := by rw [if_pos rfl] at H; exact H
       clear H
       have H := H1
       clear H1
       have H' := Aside0.mk H
       clear H
       have hnb51 := NB274_263.out
       have hnc51 := NB263_274.out
       have hnb52 := NB274_275.out
       have hnc52 := NB275_274.out
       have hcz53_0 : wc.cell? ⟨gb274, 0, none⟩ = some (.bool t264) := (blk_cell BK274.out 0).trans rfl
       have hcz53_1 : wc.cell? ⟨gb274, 1, none⟩ = some (.bool false) := (blk_cell BK274.out 1).trans rfl
       have hcz53_2 : wc.cell? ⟨gb274, 2, none⟩ = some (.bool t266) := (blk_cell BK274.out 2).trans rfl
       have hcz53_3 : wc.cell? ⟨gb274, 3, none⟩ = some (.int .u64 t267) := (blk_cell BK274.out 3).trans rfl
       have hcz53_4 : wc.cell? ⟨gb274, 4, none⟩ = some (.int .i64 t268) := (blk_cell BK274.out 4).trans rfl
       have hfz53_0 := blk_frozen BK274.out 0
       have hfz53_1 := blk_frozen BK274.out 1
       have hfz53_2 := blk_frozen BK274.out 2
       have hfz53_3 := blk_frozen BK274.out 3
       have hfz53_4 := blk_frozen BK274.out 4
       have hnb54 := NB275_263.out
       have hnc54 := NB263_275.out
       have hcz55_0 : wc.cell? ⟨gb275, 0, none⟩ = some (.bool t269) := (blk_cell BK275.out 0).trans rfl
       have hcz55_1 : wc.cell? ⟨gb275, 1, none⟩ = some (.bool true) := (blk_cell BK275.out 1).trans rfl
       have hcz55_2 : wc.cell? ⟨gb275, 2, none⟩ = some (.bool t271) := (blk_cell BK275.out 2).trans rfl
       have hcz55_3 : wc.cell? ⟨gb275, 3, none⟩ = some (.int .u64 t272) := (blk_cell BK275.out 3).trans rfl
       have hcz55_4 : wc.cell? ⟨gb275, 4, none⟩ = some (.int .i64 t273) := (blk_cell BK275.out 4).trans rfl
       have hfz55_0 := blk_frozen BK275.out 0
       have hfz55_1 := blk_frozen BK275.out 1
       have hfz55_2 := blk_frozen BK275.out 2
       have hfz55_3 := blk_frozen BK275.out 3
       have hfz55_4 := blk_frozen BK275.out 4
       go_wp2
       go_meet
       case rel => exact ⟨_, (true), (by first | rfl | (simp; done) | (simp [*]; done)), H', ⟨by have := HJ7.out; first | omega | exact Nat.le_refl _⟩, ⟨by (with_reducible repeat (first | refine blk_drewN ?_ _ | refine blk_drew ?_ | refine blk_alloc ?_ _)); exact BK263.out⟩, ⟨by (with_reducible repeat (first | refine blk_drewN ?_ _ | refine blk_drew ?_ | refine blk_alloc ?_ _)); exact BK274.out⟩, ⟨by (with_reducible repeat (first | refine blk_drewN ?_ _ | refine blk_drew ?_ | refine blk_alloc ?_ _)); exact BK275.out⟩, ⟨by repeat (first | (with_reducible first | exact HB.out | apply below_alloc | apply pw_below_drewN | apply below_drew1 | refine below_set ?_ GE263.out | refine below_set ?_ GE274.out | refine below_set ?_ GE275.out) | exact HB.out)⟩⟩
      ·
       replace c50 := Bool.eq_false_iff.mpr c50
       subst c50
       have H1 : (if t266 = true then (if t271 = true then (impl_FDiv.j1 kj7 (t264 != t269) x12_7 x13_7 true t260 t261 t264 false t266 t267 t268 t269 false t271 t272 t273) else (if x12_7 = true then (impl_FDiv.j1 kj7 (t264 != t269) x12_7 x13_7 x13_7 t260 t261 t264 false t266 t267 t268 t269 false t271 t272 t273) else (impl_FDiv.j1 kj7 (t264 != t269) x12_7 x13_7 false t260 t261 t264 false t266 t267 t268 t269 false t271 t272 t273))) else (if x12_7 = true then (impl_FDiv.j1 kj7 (t264 != t269) x12_7 x13_7 x13_7 t260 t261 t264 false t266 t267 t268 t269 false t271 t272 t273) else (impl_FDiv.j1 kj7 (t264 != t269) x12_7 x13_7 false t260 t261 t264 false t266 t267 t268 t269 false t271 t272 t273))) = some r := by rw [if_neg (show ¬ (false = true) by decide)] at H; exact H
       clear H
       have H := H1
       clear H1
       by_cases c56 : t266 = true
       ·
        subst c56
        have H1 : (if t271 = true then (impl_FDiv.j1 kj7 (t264 != t269) x12_7 x13_7 true t260 t261 t264 false true t267 t268 t269 false t271 t272 t273) else (if x12_7 = true then (impl_FDiv.j1 kj7 (t264 != t269) x12_7 x13_7 x13_7 t260 t261 t264 false true t267 t268 t269 false t271 t272 t273) else (impl_FDiv.j1 kj7 (t264 != t269) x12_7 x13_7 false t260 t261 t264 false true t267 t268 t269 false t271 t272 t273))) = some r := by rw [if_pos rfl] at H; exact H
        clear H
        have H := H1
        clear H1
        by_cases c57 : t271 = true
        ·
         subst c57
         have H1 : (impl_FDiv.j1 kj7 (t264 != t269) x12_7 x13_7 true t260 t261 t264 false true t267 t268 t269 false true t272 t273) = some r := by rw [if_pos rfl] at H; exact H
         clear H
         have H := H1
         clear H1
         have H' := Aside0.mk H
         clear H
         have hnb58 := NB274_263.out
         have hnc58 := NB263_274.out
         have hnb59 := NB274_275.out
         have hnc59 := NB275_274.out
         have hcz60_0 : wc.cell? ⟨gb274, 0, none⟩ = some (.bool t264) := (blk_cell BK274.out 0).trans rfl
         have hcz60_1 : wc.cell? ⟨gb274, 1, none⟩ = some (.bool false) := (blk_cell BK274.out 1).trans rfl
         have hcz60_2 : wc.cell? ⟨gb274, 2, none⟩ = some (.bool true) := (blk_cell BK274.out 2).trans rfl
         have hcz60_3 : wc.cell? ⟨gb274, 3, none⟩ = some (.int .u64 t267) := (blk_cell BK274.out 3).trans rfl
         have hcz60_4 : wc.cell? ⟨gb274, 4, none⟩ = some (.int .i64 t268) := (blk_cell BK274.out 4).trans rfl
         have hfz60_0 := blk_frozen BK274.out 0
         have hfz60_1 := blk_frozen BK274.out 1
         have hfz60_2 := blk_frozen BK274.out 2
         have hfz60_3 := blk_frozen BK274.out 3
         have hfz60_4 := blk_frozen BK274.out 4
         have hnb61 := NB275_263.out
         have hnc61 := NB263_275.out
         have hcz62_0 : wc.cell? ⟨gb275, 0, none⟩ = some (.bool t269) := (blk_cell BK275.out 0).trans rfl
         have hcz62_1 : wc.cell? ⟨gb275, 1, none⟩ = some (.bool false) := (blk_cell BK275.out 1).trans rfl
         have hcz62_2 : wc.cell? ⟨gb275, 2, none⟩ = some (.bool true) := (blk_cell BK275.out 2).trans rfl
         have hcz62_3 : wc.cell? ⟨gb275, 3, none⟩ = some (.int .u64 t272) := (blk_cell BK275.out 3).trans rfl
         have hcz62_4 : wc.cell? ⟨gb275, 4, none⟩ = some (.int .i64 t273) := (blk_cell BK275.out 4).trans rfl
         have hfz62_0 := blk_frozen BK275.out 0
         have hfz62_1 := blk_frozen BK275.out 1
         have hfz62_2 := blk_frozen BK275.out 2
         have hfz62_3 := blk_frozen BK275.out 3
         have hfz62_4 := blk_frozen BK275.out 4
         go_wp2
         go_meet
         case rel => exact ⟨_, (true), (by first | rfl | (simp; done) | (simp [*]; done)), H', ⟨by have := HJ7.out; first | omega | exact Nat.le_refl _⟩, ⟨by (with_reducible repeat (first | refine blk_drewN ?_ _ | refine blk_drew ?_ | refine blk_alloc ?_ _)); exact BK263.out⟩, ⟨by (with_reducible repeat (first | refine blk_drewN ?_ _ | refine blk_drew ?_ | refine blk_alloc ?_ _)); exact BK274.out⟩, ⟨by (with_reducible repeat (first | refine blk_drewN ?_ _ | refine blk_drew ?_ | refine blk_alloc ?_ _)); exact BK275.out⟩, ⟨by repeat (first | (with_reducible first | exact HB.out | apply below_alloc | apply pw_below_drewN | apply below_drew1 | refine below_set ?_ GE263.out | refine below_set ?_ GE274.out | refine below_set ?_ GE275.out) | exact HB.out)⟩⟩
        ·
         replace c57 := Bool.eq_false_iff.mpr c57
         subst c57
         have H1 : (if x12_7 = true then (impl_FDiv.j1 kj7 (t264 != t269) x12_7 x13_7 x13_7 t260 t261 t264 false true t267 t268 t269 false false t272 t273) else (impl_FDiv.j1 kj7 (t264 != t269) x12_7 x13_7 false t260 t261 t264 false true t267 t268 t269 false false t272 t273)) = some r := by rw [if_neg (show ¬ (false = true) by decide)] at H; exact H
         clear H
         have H := H1
         clear H1
         by_cases c63 : x12_7 = true
         ·
          subst c63
          have H1 : (impl_FDiv.j1 kj7 (t264 != t269) true x13_7 x13_7 t260 t261 t264 false true t267 t268 t269 false false t272 t273) = some r := by rw [if_pos rfl] at H; exact H
          clear H
          have H := H1
          clear H1
          have H' := Aside0.mk H
          clear H
          have hnb64 := NB274_263.out
          have hnc64 := NB263_274.out
          have hnb65 := NB274_275.out
          have hnc65 := NB275_274.out
          have hcz66_0 : wc.cell? ⟨gb274, 0, none⟩ = some (.bool t264) := (blk_cell BK274.out 0).trans rfl
          have hcz66_1 : wc.cell? ⟨gb274, 1, none⟩ = some (.bool false) := (blk_cell BK274.out 1).trans rfl
          have hcz66_2 : wc.cell? ⟨gb274, 2, none⟩ = some (.bool true) := (blk_cell BK274.out 2).trans rfl
          have hcz66_3 : wc.cell? ⟨gb274, 3, none⟩ = some (.int .u64 t267) := (blk_cell BK274.out 3).trans rfl
          have hcz66_4 : wc.cell? ⟨gb274, 4, none⟩ = some (.int .i64 t268) := (blk_cell BK274.out 4).trans rfl
          have hfz66_0 := blk_frozen BK274.out 0
          have hfz66_1 := blk_frozen BK274.out 1
          have hfz66_2 := blk_frozen BK274.out 2
          have hfz66_3 := blk_frozen BK274.out 3
          have hfz66_4 := blk_frozen BK274.out 4
          have hnb67 := NB275_263.out
          have hnc67 := NB263_275.out
          have hcz68_0 : wc.cell? ⟨gb275, 0, none⟩ = some (.bool t269) := (blk_cell BK275.out 0).trans rfl
          have hcz68_1 : wc.cell? ⟨gb275, 1, none⟩ = some (.bool false) := (blk_cell BK275.out 1).trans rfl
          have hcz68_2 : wc.cell? ⟨gb275, 2, none⟩ = some (.bool false) := (blk_cell BK275.out 2).trans rfl
          have hcz68_3 : wc.cell? ⟨gb275, 3, none⟩ = some (.int .u64 t272) := (blk_cell BK275.out 3).trans rfl
          have hcz68_4 : wc.cell? ⟨gb275, 4, none⟩ = some (.int .i64 t273) := (blk_cell BK275.out 4).trans rfl
          have hfz68_0 := blk_frozen BK275.out 0
          have hfz68_1 := blk_frozen BK275.out 1
          have hfz68_2 := blk_frozen BK275.out 2
          have hfz68_3 := blk_frozen BK275.out 3
          have hfz68_4 := blk_frozen BK275.out 4
          go_wp2
          go_meet
          case rel => exact ⟨_, (x13_7), (by first | rfl | (simp; done) | (simp [*]; done)), H', ⟨by have := HJ7.out; first | omega | exact Nat.le_refl _⟩, ⟨by (with_reducible repeat (first | refine blk_drewN ?_ _ | refine blk_drew ?_ | refine blk_alloc ?_ _)); exact BK263.out⟩, ⟨by (with_reducible repeat (first | refine blk_drewN ?_ _ | refine blk_drew ?_ | refine blk_alloc ?_ _)); exact BK274.out⟩, ⟨by (with_reducible repeat (first | refine blk_drewN ?_ _ | refine blk_drew ?_ | refine blk_alloc ?_ _)); exact BK275.out⟩, ⟨by repeat (first | (with_reducible first | exact HB.out | apply below_alloc | apply pw_below_drewN | apply below_drew1 | refine below_set ?_ GE263.out | refine below_set ?_ GE274.out | refine below_set ?_ GE275.out) | exact HB.out)⟩⟩
         ·
          replace c63 := Bool.eq_false_iff.mpr c63
          subst c63
          have H1 : (impl_FDiv.j1 kj7 (t264 != t269) false x13_7 false t260 t261 t264 false true t267 t268 t269 false false t272 t273) = some r := by rw [if_neg (show ¬ (false = true) by decide)] at H; exact H
          clear H
          have H := H1
          clear H1
          have H' := Aside0.mk H
          clear H
          have hnb69 := NB274_263.out
          have hnc69 := NB263_274.out
          have hnb70 := NB274_275.out
          have hnc70 := NB275_274.out
          have hcz71_0 : wc.cell? ⟨gb274, 0, none⟩ = some (.bool t264) := (blk_cell BK274.out 0).trans rfl
          have hcz71_1 : wc.cell? ⟨gb274, 1, none⟩ = some (.bool false) := (blk_cell BK274.out 1).trans rfl
          have hcz71_2 : wc.cell? ⟨gb274, 2, none⟩ = some (.bool true) := (blk_cell BK274.out 2).trans rfl
          have hcz71_3 : wc.cell? ⟨gb274, 3, none⟩ = some (.int .u64 t267) := (blk_cell BK274.out 3).trans rfl
          have hcz71_4 : wc.cell? ⟨gb274, 4, none⟩ = some (.int .i64 t268) := (blk_cell BK274.out 4).trans rfl
          have hfz71_0 := blk_frozen BK274.out 0
          have hfz71_1 := blk_frozen BK274.out 1
          have hfz71_2 := blk_frozen BK274.out 2
          have hfz71_3 := blk_frozen BK274.out 3
          have hfz71_4 := blk_frozen BK274.out 4
          have hnb72 := NB275_263.out
          have hnc72 := NB263_275.out
          have hcz73_0 : wc.cell? ⟨gb275, 0, none⟩ = some (.bool t269) := (blk_cell BK275.out 0).trans rfl
          have hcz73_1 : wc.cell? ⟨gb275, 1, none⟩ = some (.bool false) := (blk_cell BK275.out 1).trans rfl
          have hcz73_2 : wc.cell? ⟨gb275, 2, none⟩ = some (.bool false) := (blk_cell BK275.out 2).trans rfl
          have hcz73_3 : wc.cell? ⟨gb275, 3, none⟩ = some (.int .u64 t272) := (blk_cell BK275.out 3).trans rfl
          have hcz73_4 : wc.cell? ⟨gb275, 4, none⟩ = some (.int .i64 t273) := (blk_cell BK275.out 4).trans rfl
          have hfz73_0 := blk_frozen BK275.out 0
          have hfz73_1 := blk_frozen BK275.out 1
          have hfz73_2 := blk_frozen BK275.out 2
          have hfz73_3 := blk_frozen BK275.out 3
          have hfz73_4 := blk_frozen BK275.out 4
          go_wp2
          go_meet
          case rel => exact ⟨_, (false), (by first | rfl | (simp; done) | (simp [*]; done)), H', ⟨by have := HJ7.out; first | omega | exact Nat.le_refl _⟩, ⟨by (with_reducible repeat (first | refine blk_drewN ?_ _ | refine blk_drew ?_ | refine blk_alloc ?_ _)); exact BK263.out⟩, ⟨by (with_reducible repeat (first | refine blk_drewN ?_ _ | refine blk_drew ?_ | refine blk_alloc ?_ _)); exact BK274.out⟩, ⟨by (with_reducible repeat (first | refine blk_drewN ?_ _ | refine blk_drew ?_ | refine blk_alloc ?_ _)); exact BK275.out⟩, ⟨by repeat (first | (with_reducible first | exact HB.out | apply below_alloc | apply pw_below_drewN | apply below_drew1 | refine below_set ?_ GE263.out | refine below_set ?_ GE274.out | refine below_set ?_ GE275.out) | exact HB.out)⟩⟩
       ·
        replace c56 := Bool.eq_false_iff.mpr c56
        subst c56
        have H1 : (if x12_7 = true then (impl_FDiv.j1 kj7 (t264 != t269) x12_7 x13_7 x13_7 t260 t261 t264 false false t267 t268 t269 false t271 t272 t273) else (impl_FDiv.j1 kj7 (t264 != t269) x12_7 x13_7 false t260 t261 t264 false false t267 t268 t269 false t271 t272 t273)) = some r := by rw [if_neg (show ¬ (false = true) by decide)] at H; exact H
        clear H
        have H := H1
        clear H1
        by_cases c74 : x12_7 = true
        ·
         subst c74
         have H1 : (impl_FDiv.j1 kj7 (t264 != t269) true x13_7 x13_7 t260 t261 t264 false false t267 t268 t269 false t271 t272 t273) = some r := by rw [if_pos rfl] at H; exact H
         clear H
         have H := H1
         clear H1
         have H' := Aside0.mk H
         clear H
         have hnb75 := NB274_263.out
         have hnc75 := NB263_274.out
         have hnb76 := NB274_275.out
         have hnc76 := NB275_274.out
         have hcz77_0 : wc.cell? ⟨gb274, 0, none⟩ = some (.bool t264) := (blk_cell BK274.out 0).trans rfl
         have hcz77_1 : wc.cell? ⟨gb274, 1, none⟩ = some (.bool false) := (blk_cell BK274.out 1).trans rfl
         have hcz77_2 : wc.cell? ⟨gb274, 2, none⟩ = some (.bool false) := (blk_cell BK274.out 2).trans rfl
         have hcz77_3 : wc.cell? ⟨gb274, 3, none⟩ = some (.int .u64 t267) := (blk_cell BK274.out 3).trans rfl
         have hcz77_4 : wc.cell? ⟨gb274, 4, none⟩ = some (.int .i64 t268) := (blk_cell BK274.out 4).trans rfl
         have hfz77_0 := blk_frozen BK274.out 0
         have hfz77_1 := blk_frozen BK274.out 1
         have hfz77_2 := blk_frozen BK274.out 2
         have hfz77_3 := blk_frozen BK274.out 3
         have hfz77_4 := blk_frozen BK274.out 4
         have hnb78 := NB275_263.out
         have hnc78 := NB263_275.out
         have hcz79_0 : wc.cell? ⟨gb275, 0, none⟩ = some (.bool t269) := (blk_cell BK275.out 0).trans rfl
         have hcz79_1 : wc.cell? ⟨gb275, 1, none⟩ = some (.bool false) := (blk_cell BK275.out 1).trans rfl
         have hcz79_2 : wc.cell? ⟨gb275, 2, none⟩ = some (.bool t271) := (blk_cell BK275.out 2).trans rfl
         have hcz79_3 : wc.cell? ⟨gb275, 3, none⟩ = some (.int .u64 t272) := (blk_cell BK275.out 3).trans rfl
         have hcz79_4 : wc.cell? ⟨gb275, 4, none⟩ = some (.int .i64 t273) := (blk_cell BK275.out 4).trans rfl
         have hfz79_0 := blk_frozen BK275.out 0
         have hfz79_1 := blk_frozen BK275.out 1
         have hfz79_2 := blk_frozen BK275.out 2
         have hfz79_3 := blk_frozen BK275.out 3
         have hfz79_4 := blk_frozen BK275.out 4
         go_wp2
         go_meet
         case rel => exact ⟨_, (x13_7), (by first | rfl | (simp; done) | (simp [*]; done)), H', ⟨by have := HJ7.out; first | omega | exact Nat.le_refl _⟩, ⟨by (with_reducible repeat (first | refine blk_drewN ?_ _ | refine blk_drew ?_ | refine blk_alloc ?_ _)); exact BK263.out⟩, ⟨by (with_reducible repeat (first | refine blk_drewN ?_ _ | refine blk_drew ?_ | refine blk_alloc ?_ _)); exact BK274.out⟩, ⟨by (with_reducible repeat (first | refine blk_drewN ?_ _ | refine blk_drew ?_ | refine blk_alloc ?_ _)); exact BK275.out⟩, ⟨by repeat (first | (with_reducible first | exact HB.out | apply below_alloc | apply pw_below_drewN | apply below_drew1 | refine below_set ?_ GE263.out | refine below_set ?_ GE274.out | refine below_set ?_ GE275.out) | exact HB.out)⟩⟩
        ·
         replace c74 := Bool.eq_false_iff.mpr c74
         subst c74
         have H1 : (impl_FDiv.j1 kj7 (t264 != t269) false x13_7 false t260 t261 t264 false false t267 t268 t269 false t271 t272 t273) = some r := by rw [if_neg (show ¬ (false = true) by decide)] at H; exact H
         clear H
         have H := H1
         clear H1
         have H' := Aside0.mk H
         clear H
         have hnb80 := NB274_263.out
         have hnc80 := NB263_274.out
         have hnb81 := NB274_275.out
         have hnc81 := NB275_274.out
         have hcz82_0 : wc.cell? ⟨gb274, 0, none⟩ = some (.bool t264) := (blk_cell BK274.out 0).trans rfl
         have hcz82_1 : wc.cell? ⟨gb274, 1, none⟩ = some (.bool false) := (blk_cell BK274.out 1).trans rfl
         have hcz82_2 : wc.cell? ⟨gb274, 2, none⟩ = some (.bool false) := (blk_cell BK274.out 2).trans rfl
         have hcz82_3 : wc.cell? ⟨gb274, 3, none⟩ = some (.int .u64 t267) := (blk_cell BK274.out 3).trans rfl
         have hcz82_4 : wc.cell? ⟨gb274, 4, none⟩ = some (.int .i64 t268) := (blk_cell BK274.out 4).trans rfl
         have hfz82_0 := blk_frozen BK274.out 0
         have hfz82_1 := blk_frozen BK274.out 1
         have hfz82_2 := blk_frozen BK274.out 2
         have hfz82_3 := blk_frozen BK274.out 3
         have hfz82_4 := blk_frozen BK274.out 4
         have hnb83 := NB275_263.out
         have hnc83 := NB263_275.out
         have hcz84_0 : wc.cell? ⟨gb275, 0, none⟩ = some (.bool t269) := (blk_cell BK275.out 0).trans rfl
         have hcz84_1 : wc.cell? ⟨gb275, 1, none⟩ = some (.bool false) := (blk_cell BK275.out 1).trans rfl
         have hcz84_2 : wc.cell? ⟨gb275, 2, none⟩ = some (.bool t271) := (blk_cell BK275.out 2).trans rfl
         have hcz84_3 : wc.cell? ⟨gb275, 3, none⟩ = some (.int .u64 t272) := (blk_cell BK275.out 3).trans rfl
         have hcz84_4 : wc.cell? ⟨gb275, 4, none⟩ = some (.int .i64 t273) := (blk_cell BK275.out 4).trans rfl
         have hfz84_0 := blk_frozen BK275.out 0
         have hfz84_1 := blk_frozen BK275.out 1
         have hfz84_2 := blk_frozen BK275.out 2
         have hfz84_3 := blk_frozen BK275.out 3
         have hfz84_4 := blk_frozen BK275.out 4
         go_wp2
         go_meet
         case rel => exact ⟨_, (false), (by first | rfl | (simp; done) | (simp [*]; done)), H', ⟨by have := HJ7.out; first | omega | exact Nat.le_refl _⟩, ⟨by (with_reducible repeat (first | refine blk_drewN ?_ _ | refine blk_drew ?_ | refine blk_alloc ?_ _)); exact BK263.out⟩, ⟨by (with_reducible repeat (first | refine blk_drewN ?_ _ | refine blk_drew ?_ | refine blk_alloc ?_ _)); exact BK274.out⟩, ⟨by (with_reducible repeat (first | refine blk_drewN ?_ _ | refine blk_drew ?_ | refine blk_alloc ?_ _)); exact BK275.out⟩, ⟨by repeat (first | (with_reducible first | exact HB.out | apply below_alloc | apply pw_below_drewN | apply below_drew1 | refine below_set ?_ GE263.out | refine below_set ?_ GE274.out | refine below_set ?_ GE275.out) | exact HB.out)⟩⟩
    case rest =>
     clear HC45
     try clear p2
     try clear c3
     try clear c4
     try clear c5
     try clear c6
     try clear c7
     try clear c8
     try clear c34
     try clear c35
     try clear c40
     try clear c46
     try clear c47
     try clear c48
     try clear c50
     try clear c51
     try clear c52
     try clear c54
     try clear c56
     try clear c57
     try clear c58
     try clear c59
     try clear c61
     try clear c63
     try clear c64
     try clear c65
     try clear c67
     try clear c69
     try clear c70
     try clear c72
     try clear c74
     try clear c75
     try clear c76
     try clear c78
     try clear c80
     try clear c81
     try clear c83
     try clear hcz49_0 hcz49_1 hcz49_2 hcz49_3 hcz49_4
     try clear hcz53_0 hcz53_1 hcz53_2 hcz53_3 hcz53_4
     try clear hcz55_0 hcz55_1 hcz55_2 hcz55_3 hcz55_4
     try clear hcz60_0 hcz60_1 hcz60_2 hcz60_3 hcz60_4
     try clear hcz62_0 hcz62_1 hcz62_2 hcz62_3 hcz62_4
     try clear hcz66_0 hcz66_1 hcz66_2 hcz66_3 hcz66_4
     try clear hcz68_0 hcz68_1 hcz68_2 hcz68_3 hcz68_4
     try clear hcz71_0 hcz71_1 hcz71_2 hcz71_3 hcz71_4
     try clear hcz73_0 hcz73_1 hcz73_2 hcz73_3 hcz73_4
     try clear hcz77_0 hcz77_1 hcz77_2 hcz77_3 hcz77_4
     try clear hcz79_0 hcz79_1 hcz79_2 hcz79_3 hcz79_4
     try clear hcz82_0 hcz82_1 hcz82_2 hcz82_3 hcz82_4
     try clear hcz84_0 hcz84_1 hcz84_2 hcz84_3 hcz84_4
     try clear hfz49_0 hfz49_1 hfz49_2 hfz49_3 hfz49_4
     try clear hfz53_0 hfz53_1 hfz53_2 hfz53_3 hfz53_4
     try clear hfz55_0 hfz55_1 hfz55_2 hfz55_3 hfz55_4
     try clear hfz60_0 hfz60_1 hfz60_2 hfz60_3 hfz60_4
     try clear hfz62_0 hfz62_1 hfz62_2 hfz62_3 hfz62_4
     try clear hfz66_0 hfz66_1 hfz66_2 hfz66_3 hfz66_4
     try clear hfz68_0 hfz68_1 hfz68_2 hfz68_3 hfz68_4
     try clear hfz71_0 hfz71_1 hfz71_2 hfz71_3 hfz71_4
     try clear hfz73_0 hfz73_1 hfz73_2 hfz73_3 hfz73_4
     try clear hfz77_0 hfz77_1 hfz77_2 hfz77_3 hfz77_4
     try clear hfz79_0 hfz79_1 hfz79_2 hfz79_3 hfz79_4
     try clear hfz82_0 hfz82_1 hfz82_2 hfz82_3 hfz82_4
     try clear hfz84_0 hfz84_1 hfz84_2 hfz84_3 hfz84_4
     try clear p2
     obtain ⟨kq, x50_44, rfl, HA, HJ44, BK263, BK274, BK275, HB⟩ := hcut
     cases kq with
     | zero => exact absurd HA.out (by simp [impl_FDiv.j1])
     | succ kj44 =>
      have H := HA.out
      clear HA
      simp only [impl_FDiv.j1] at H
      by_cases c85 : x50_44 = true
      ·
       subst c85
       have H1 : ((impl_format_noNumber.f t260 t261).bind fun t276 => (some t276)) = some r := by rw [if_pos rfl] at H; exact H
       clear H
       have H := H1
       clear H1
       replace H := Option.bind_eq_some_iff.mp H
       obtain ⟨t276, A860, H⟩ := H
       replace H : (some t276) = some r := H
       have A86 := Aside0.mk A860
       clear A860
       obtain rfl := Option.some.inj H
       simp only [Option.some.injEq, Prod.mk.injEq] at H
       obtain ⟨rfl⟩ := H
       have hnb87 := NB263_274.out
       have hnc87 := NB274_263.out
       have hnb88 := NB263_275.out
       have hnc88 := NB275_263.out
       have hcz89_0 : wc.cell? ⟨gb263, 0, none⟩ = some (.int .i64 t260) := (blk_cell BK263.out 0).trans rfl
       have hcz89_1 : wc.cell? ⟨gb263, 1, none⟩ = some (.int .i64 t261) := (blk_cell BK263.out 1).trans rfl
       have hfz89_0 := blk_frozen BK263.out 0
       have hfz89_1 := blk_frozen BK263.out 1
       go_wp2_with (first | ((with_reducible refine gate_callee (f := 53) rfl ?_); refine goesL_ (some 72) rfl rfl Try.func53 (by kernel_rfl) rfl #[.agg #[.int .i64 t260, .int .i64 t261]] rfl (by (try simp only [List.map_toArray, List.map_cons, List.map_nil]); first | done | rfl | (simp only [List.length_drop, List.length_take]; rfl)) ?_; (with_reducible refine (impl_format_noNumber.calls t260 t261 t276 _ A86.out).mono ?_); rintro e w90 ⟨rfl, hb⟩; refine ⟨_, rfl, ?_⟩; have n0_ := Aside0.mk (blk_below (g := gb263) (o := .cells #[.int .i64 t260, .int .i64 t261] 62 (0, 0)) (by (with_reducible repeat (first | refine blk_drewN ?_ _ | refine blk_drew ?_ | refine blk_alloc ?_ _)); exact BK263.out) hb); have n1_ := Aside0.mk (blk_below (g := gb274) (o := .cells #[.bool t264, .bool t265, .bool t266, .int .u64 t267, .int .i64 t268] 66 (0, 0)) (by (with_reducible repeat (first | refine blk_drewN ?_ _ | refine blk_drew ?_ | refine blk_alloc ?_ _)); exact BK274.out) hb); have n2_ := Aside0.mk (blk_below (g := gb275) (o := .cells #[.bool t269, .bool t270, .bool t271, .int .u64 t272, .int .i64 t273] 66 (0, 0)) (by (with_reducible repeat (first | refine blk_drewN ?_ _ | refine blk_drew ?_ | refine blk_alloc ?_ _)); exact BK275.out) hb); have n3_ := Aside0.mk (below_step (by repeat (first | (with_reducible first | exact HB.out | apply below_alloc | apply pw_below_drewN | apply below_drew1 | refine below_set ?_ GE263.out | refine below_set ?_ GE274.out | refine below_set ?_ GE275.out) | exact HB.out)) hb); clear BK263; clear BK274; clear BK275; clear HB; have BK263 := n0_; have BK274 := n1_; have BK275 := n2_; have HB := n3_; clear n0_ n1_ n2_ n3_; (try clear hb); (try clear hb2); (try clear hk); (try clear hi)))
       go_ret
       exact ⟨by first | rfl | (simp [errW_none, errW_some] <;> rfl) | (simp [*, errW_none, errW_some] <;> rfl), by repeat (first | (with_reducible first | exact HB.out | apply below_alloc | apply pw_below_drewN | apply below_drew1 | refine below_set ?_ GE263.out | refine below_set ?_ GE274.out | refine below_set ?_ GE275.out) | exact HB.out)⟩
      ·
       replace c85 := Bool.eq_false_iff.mpr c85
       subst c85
       have H1 : (if t266 = true then (impl_FDiv.j2 kj44 (t264 != t269) x12_7 true t260 t261 t264 t265 t266 t267 t268 t269 t270 t271 t272 t273) else (impl_FDiv.j2 kj44 (t264 != t269) x12_7 x13_7 t260 t261 t264 t265 t266 t267 t268 t269 t270 t271 t272 t273)) = some r := by rw [if_neg (show ¬ (false = true) by decide)] at H; exact H
       clear H
       have H := H1
       clear H1
       have HC91 := Aside0.mk H
       clear H
       go_upto_region 9 with (fail)
       go_cut [73] (fun v73 wc => ∃ (kq : Nat) (x73_90 : Bool), v73 = .bool x73_90 ∧ Aside0 (impl_FDiv.j2 kq (t264 != t269) x12_7 x73_90 t260 t261 t264 t265 t266 t267 t268 t269 t270 t271 t272 t273 = some r) ∧ Aside0 (kq ≤ kj44) ∧ Aside0 (wc.heap[gb263]? = some (.cells #[.int .i64 t260, .int .i64 t261] 62 (0, 0))) ∧ Aside0 (wc.heap[gb274]? = some (.cells #[.bool t264, .bool t265, .bool t266, .int .u64 t267, .int .i64 t268] 66 (0, 0))) ∧ Aside0 (wc.heap[gb275]? = some (.cells #[.bool t269, .bool t270, .bool t271, .int .u64 t272, .int .i64 t273] 66 (0, 0))) ∧ Aside0 (Below w.heap.size w wc))
       case first =>
        have H := HC91.out
        clear HC91
        by_cases c92 : t266 = true
        ·
         subst c92
         have H1 : (impl_FDiv.j2 kj44 (t264 != t269) x12_7 true t260 t261 t264 t265 true t267 t268 t269 t270 t271 t272 t273) = some r := by rw [if_pos rfl] at H; exact H
         clear H
         have H := H1
         clear H1
         have H' := Aside0.mk H
         clear H
         have hnb93 := NB274_263.out
         have hnc93 := NB263_274.out
         have hnb94 := NB274_275.out
         have hnc94 := NB275_274.out
         have hcz95_0 : wc.cell? ⟨gb274, 0, none⟩ = some (.bool t264) := (blk_cell BK274.out 0).trans rfl
         have hcz95_1 : wc.cell? ⟨gb274, 1, none⟩ = some (.bool t265) := (blk_cell BK274.out 1).trans rfl
         have hcz95_2 : wc.cell? ⟨gb274, 2, none⟩ = some (.bool true) := (blk_cell BK274.out 2).trans rfl
         have hcz95_3 : wc.cell? ⟨gb274, 3, none⟩ = some (.int .u64 t267) := (blk_cell BK274.out 3).trans rfl
         have hcz95_4 : wc.cell? ⟨gb274, 4, none⟩ = some (.int .i64 t268) := (blk_cell BK274.out 4).trans rfl
         have hfz95_0 := blk_frozen BK274.out 0
         have hfz95_1 := blk_frozen BK274.out 1
         have hfz95_2 := blk_frozen BK274.out 2
         have hfz95_3 := blk_frozen BK274.out 3
         have hfz95_4 := blk_frozen BK274.out 4
         go_wp2
         go_meet
         case rel => exact ⟨_, (true), (by first | rfl | (simp; done) | (simp [*]; done)), H', ⟨by have := HJ7.out; have := HJ44.out; first | omega | exact Nat.le_refl _⟩, ⟨by (with_reducible repeat (first | refine blk_drewN ?_ _ | refine blk_drew ?_ | refine blk_alloc ?_ _)); exact BK263.out⟩, ⟨by (with_reducible repeat (first | refine blk_drewN ?_ _ | refine blk_drew ?_ | refine blk_alloc ?_ _)); exact BK274.out⟩, ⟨by (with_reducible repeat (first | refine blk_drewN ?_ _ | refine blk_drew ?_ | refine blk_alloc ?_ _)); exact BK275.out⟩, ⟨by repeat (first | (with_reducible first | exact HB.out | apply below_alloc | apply pw_below_drewN | apply below_drew1 | refine below_set ?_ GE263.out | refine below_set ?_ GE274.out | refine below_set ?_ GE275.out) | exact HB.out)⟩⟩
        ·
         replace c92 := Bool.eq_false_iff.mpr c92
         subst c92
         have H1 : (impl_FDiv.j2 kj44 (t264 != t269) x12_7 x13_7 t260 t261 t264 t265 false t267 t268 t269 t270 t271 t272 t273) = some r := by rw [if_neg (show ¬ (false = true) by decide)] at H; exact H
         clear H
         have H := H1
         clear H1
         have H' := Aside0.mk H
         clear H
         have hnb96 := NB274_263.out
         have hnc96 := NB263_274.out
         have hnb97 := NB274_275.out
         have hnc97 := NB275_274.out
         have hcz98_0 : wc.cell? ⟨gb274, 0, none⟩ = some (.bool t264) := (blk_cell BK274.out 0).trans rfl
         have hcz98_1 : wc.cell? ⟨gb274, 1, none⟩ = some (.bool t265) := (blk_cell BK274.out 1).trans rfl
         have hcz98_2 : wc.cell? ⟨gb274, 2, none⟩ = some (.bool false) := (blk_cell BK274.out 2).trans rfl
         have hcz98_3 : wc.cell? ⟨gb274, 3, none⟩ = some (.int .u64 t267) := (blk_cell BK274.out 3).trans rfl
         have hcz98_4 : wc.cell? ⟨gb274, 4, none⟩ = some (.int .i64 t268) := (blk_cell BK274.out 4).trans rfl
         have hfz98_0 := blk_frozen BK274.out 0
         have hfz98_1 := blk_frozen BK274.out 1
         have hfz98_2 := blk_frozen BK274.out 2
         have hfz98_3 := blk_frozen BK274.out 3
         have hfz98_4 := blk_frozen BK274.out 4
         go_wp2
         go_meet
         case rel => exact ⟨_, (x13_7), (by first | rfl | (simp; done) | (simp [*]; done)), H', ⟨by have := HJ7.out; have := HJ44.out; first | omega | exact Nat.le_refl _⟩, ⟨by (with_reducible repeat (first | refine blk_drewN ?_ _ | refine blk_drew ?_ | refine blk_alloc ?_ _)); exact BK263.out⟩, ⟨by (with_reducible repeat (first | refine blk_drewN ?_ _ | refine blk_drew ?_ | refine blk_alloc ?_ _)); exact BK274.out⟩, ⟨by (with_reducible repeat (first | refine blk_drewN ?_ _ | refine blk_drew ?_ | refine blk_alloc ?_ _)); exact BK275.out⟩, ⟨by repeat (first | (with_reducible first | exact HB.out | apply below_alloc | apply pw_below_drewN | apply below_drew1 | refine below_set ?_ GE263.out | refine below_set ?_ GE274.out | refine below_set ?_ GE275.out) | exact HB.out)⟩⟩
       case rest =>
        clear HC91
        try clear p2
        try clear c3
        try clear c4
        try clear c5
        try clear c6
        try clear c7
        try clear c8
        try clear c9
        try clear c34
        try clear c35
        try clear c40
        try clear c46
        try clear c47
        try clear c48
        try clear c50
        try clear c51
        try clear c52
        try clear c53
        try clear c54
        try clear c56
        try clear c57
        try clear c58
        try clear c59
        try clear c61
        try clear c63
        try clear c64
        try clear c65
        try clear c67
        try clear c69
        try clear c70
        try clear c72
        try clear c74
        try clear c75
        try clear c76
        try clear c78
        try clear c80
        try clear c81
        try clear c83
        try clear c85
        try clear c87
        try clear c88
        try clear c92
        try clear c93
        try clear c94
        try clear c96
        try clear c97
        try clear hcz49_0 hcz49_1 hcz49_2 hcz49_3 hcz49_4
        try clear hcz53_0 hcz53_1 hcz53_2 hcz53_3 hcz53_4
        try clear hcz55_0 hcz55_1 hcz55_2 hcz55_3 hcz55_4
        try clear hcz60_0 hcz60_1 hcz60_2 hcz60_3 hcz60_4
        try clear hcz62_0 hcz62_1 hcz62_2 hcz62_3 hcz62_4
        try clear hcz66_0 hcz66_1 hcz66_2 hcz66_3 hcz66_4
        try clear hcz68_0 hcz68_1 hcz68_2 hcz68_3 hcz68_4
        try clear hcz71_0 hcz71_1 hcz71_2 hcz71_3 hcz71_4
        try clear hcz73_0 hcz73_1 hcz73_2 hcz73_3 hcz73_4
        try clear hcz77_0 hcz77_1 hcz77_2 hcz77_3 hcz77_4
        try clear hcz79_0 hcz79_1 hcz79_2 hcz79_3 hcz79_4
        try clear hcz82_0 hcz82_1 hcz82_2 hcz82_3 hcz82_4
        try clear hcz84_0 hcz84_1 hcz84_2 hcz84_3 hcz84_4
        try clear hcz89_0 hcz89_1
        try clear hcz95_0 hcz95_1 hcz95_2 hcz95_3 hcz95_4
        try clear hcz98_0 hcz98_1 hcz98_2 hcz98_3 hcz98_4
        try clear hfz49_0 hfz49_1 hfz49_2 hfz49_3 hfz49_4
        try clear hfz53_0 hfz53_1 hfz53_2 hfz53_3 hfz53_4
        try clear hfz55_0 hfz55_1 hfz55_2 hfz55_3 hfz55_4
        try clear hfz60_0 hfz60_1 hfz60_2 hfz60_3 hfz60_4
        try clear hfz62_0 hfz62_1 hfz62_2 hfz62_3 hfz62_4
        try clear hfz66_0 hfz66_1 hfz66_2 hfz66_3 hfz66_4
        try clear hfz68_0 hfz68_1 hfz68_2 hfz68_3 hfz68_4
        try clear hfz71_0 hfz71_1 hfz71_2 hfz71_3 hfz71_4
        try clear hfz73_0 hfz73_1 hfz73_2 hfz73_3 hfz73_4
        try clear hfz77_0 hfz77_1 hfz77_2 hfz77_3 hfz77_4
        try clear hfz79_0 hfz79_1 hfz79_2 hfz79_3 hfz79_4
        try clear hfz82_0 hfz82_1 hfz82_2 hfz82_3 hfz82_4
        try clear hfz84_0 hfz84_1 hfz84_2 hfz84_3 hfz84_4
        try clear hfz89_0 hfz89_1
        try clear hfz95_0 hfz95_1 hfz95_2 hfz95_3 hfz95_4
        try clear hfz98_0 hfz98_1 hfz98_2 hfz98_3 hfz98_4
        try clear p2
        obtain ⟨kq, x73_90, rfl, HA, HJ90, BK263, BK274, BK275, HB⟩ := hcut
        cases kq with
        | zero => exact absurd HA.out (by simp [impl_FDiv.j2])
        | succ kj90 =>
         have H := HA.out
         clear HA
         simp only [impl_FDiv.j2] at H
         by_cases c99 : x73_90 = true
         ·
          subst c99
          have H1 : ((impl_format_infinite.f t260 t261 (t264 != t269)).bind fun t277 => (some t277)) = some r := by rw [if_pos rfl] at H; exact H
          clear H
          have H := H1
          clear H1
          replace H := Option.bind_eq_some_iff.mp H
          obtain ⟨t277, A1000, H⟩ := H
          replace H : (some t277) = some r := H
          have A100 := Aside0.mk A1000
          clear A1000
          obtain rfl := Option.some.inj H
          simp only [Option.some.injEq, Prod.mk.injEq] at H
          obtain ⟨rfl⟩ := H
          have hnb101 := NB263_274.out
          have hnc101 := NB274_263.out
          have hnb102 := NB263_275.out
          have hnc102 := NB275_263.out
          have hcz103_0 : wc.cell? ⟨gb263, 0, none⟩ = some (.int .i64 t260) := (blk_cell BK263.out 0).trans rfl
          have hcz103_1 : wc.cell? ⟨gb263, 1, none⟩ = some (.int .i64 t261) := (blk_cell BK263.out 1).trans rfl
          have hfz103_0 := blk_frozen BK263.out 0
          have hfz103_1 := blk_frozen BK263.out 1
          go_wp2_with (first | ((with_reducible refine gate_callee (f := 54) rfl ?_); refine goesL_ (some 81) rfl rfl Try.func54 (by kernel_rfl) rfl #[.agg #[.int .i64 t260, .int .i64 t261], .bool (t264 != t269)] rfl (by (try simp only [List.map_toArray, List.map_cons, List.map_nil]); first | done | rfl | (simp only [List.length_drop, List.length_take]; rfl)) ?_; (with_reducible refine (impl_format_infinite.calls t260 t261 (t264 != t269) t277 _ A100.out).mono ?_); rintro e w104 ⟨rfl, hb⟩; refine ⟨_, rfl, ?_⟩; have n0_ := Aside0.mk (blk_below (g := gb263) (o := .cells #[.int .i64 t260, .int .i64 t261] 62 (0, 0)) (by (with_reducible repeat (first | refine blk_drewN ?_ _ | refine blk_drew ?_ | refine blk_alloc ?_ _)); exact BK263.out) hb); have n1_ := Aside0.mk (blk_below (g := gb274) (o := .cells #[.bool t264, .bool t265, .bool t266, .int .u64 t267, .int .i64 t268] 66 (0, 0)) (by (with_reducible repeat (first | refine blk_drewN ?_ _ | refine blk_drew ?_ | refine blk_alloc ?_ _)); exact BK274.out) hb); have n2_ := Aside0.mk (blk_below (g := gb275) (o := .cells #[.bool t269, .bool t270, .bool t271, .int .u64 t272, .int .i64 t273] 66 (0, 0)) (by (with_reducible repeat (first | refine blk_drewN ?_ _ | refine blk_drew ?_ | refine blk_alloc ?_ _)); exact BK275.out) hb); have n3_ := Aside0.mk (below_step (by repeat (first | (with_reducible first | exact HB.out | apply below_alloc | apply pw_below_drewN | apply below_drew1 | refine below_set ?_ GE263.out | refine below_set ?_ GE274.out | refine below_set ?_ GE275.out) | exact HB.out)) hb); clear BK263; clear BK274; clear BK275; clear HB; have BK263 := n0_; have BK274 := n1_; have BK275 := n2_; have HB := n3_; clear n0_ n1_ n2_ n3_; (try clear hb); (try clear hb2); (try clear hk); (try clear hi)))
          go_ret
          exact ⟨by first | rfl | (simp [errW_none, errW_some] <;> rfl) | (simp [*, errW_none, errW_some] <;> rfl), by repeat (first | (with_reducible first | exact HB.out | apply below_alloc | apply pw_below_drewN | apply below_drew1 | refine below_set ?_ GE263.out | refine below_set ?_ GE274.out | refine below_set ?_ GE275.out) | exact HB.out)⟩
         ·
          replace c99 := Bool.eq_false_iff.mpr c99
          subst c99
          have H1 : (if t271 = true then (impl_FDiv.j3 kj90 (t264 != t269) true t260 t261 t264 t265 t266 t267 t268 t269 t270 t271 t272 t273) else (impl_FDiv.j3 kj90 (t264 != t269) x12_7 t260 t261 t264 t265 t266 t267 t268 t269 t270 t271 t272 t273)) = some r := by rw [if_neg (show ¬ (false = true) by decide)] at H; exact H
          clear H
          have H := H1
          clear H1
          have HC105 := Aside0.mk H
          clear H
          go_upto_region 11 with (fail)
          go_cut [82] (fun v82 wc => ∃ (kq : Nat) (x82_104 : Bool), v82 = .bool x82_104 ∧ Aside0 (impl_FDiv.j3 kq (t264 != t269) x82_104 t260 t261 t264 t265 t266 t267 t268 t269 t270 t271 t272 t273 = some r) ∧ Aside0 (kq ≤ kj90) ∧ Aside0 (wc.heap[gb263]? = some (.cells #[.int .i64 t260, .int .i64 t261] 62 (0, 0))) ∧ Aside0 (wc.heap[gb274]? = some (.cells #[.bool t264, .bool t265, .bool t266, .int .u64 t267, .int .i64 t268] 66 (0, 0))) ∧ Aside0 (wc.heap[gb275]? = some (.cells #[.bool t269, .bool t270, .bool t271, .int .u64 t272, .int .i64 t273] 66 (0, 0))) ∧ Aside0 (Below w.heap.size w wc))
          case first =>
           have H := HC105.out
           clear HC105
           by_cases c106 : t271 = true
           ·
            subst c106
            have H1 : (impl_FDiv.j3 kj90 (t264 != t269) true t260 t261 t264 t265 t266 t267 t268 t269 t270 true t272 t273) = some r := by rw [if_pos rfl] at H; exact H
            clear H
            have H := H1
            clear H1
            have H' := Aside0.mk H
            clear H
            have hnb107 := NB275_263.out
            have hnc107 := NB263_275.out
            have hnb108 := NB275_274.out
            have hnc108 := NB274_275.out
            have hcz109_0 : wc.cell? ⟨gb275, 0, none⟩ = some (.bool t269) := (blk_cell BK275.out 0).trans rfl
            have hcz109_1 : wc.cell? ⟨gb275, 1, none⟩ = some (.bool t270) := (blk_cell BK275.out 1).trans rfl
            have hcz109_2 : wc.cell? ⟨gb275, 2, none⟩ = some (.bool true) := (blk_cell BK275.out 2).trans rfl
            have hcz109_3 : wc.cell? ⟨gb275, 3, none⟩ = some (.int .u64 t272) := (blk_cell BK275.out 3).trans rfl
            have hcz109_4 : wc.cell? ⟨gb275, 4, none⟩ = some (.int .i64 t273) := (blk_cell BK275.out 4).trans rfl
            have hfz109_0 := blk_frozen BK275.out 0
            have hfz109_1 := blk_frozen BK275.out 1
            have hfz109_2 := blk_frozen BK275.out 2
            have hfz109_3 := blk_frozen BK275.out 3
            have hfz109_4 := blk_frozen BK275.out 4
            go_wp2
            go_meet
            case rel => exact ⟨_, (true), (by first | rfl | (simp; done) | (simp [*]; done)), H', ⟨by have := HJ7.out; have := HJ44.out; have := HJ90.out; first | omega | exact Nat.le_refl _⟩, ⟨by (with_reducible repeat (first | refine blk_drewN ?_ _ | refine blk_drew ?_ | refine blk_alloc ?_ _)); exact BK263.out⟩, ⟨by (with_reducible repeat (first | refine blk_drewN ?_ _ | refine blk_drew ?_ | refine blk_alloc ?_ _)); exact BK274.out⟩, ⟨by (with_reducible repeat (first | refine blk_drewN ?_ _ | refine blk_drew ?_ | refine blk_alloc ?_ _)); exact BK275.out⟩, ⟨by repeat (first | (with_reducible first | exact HB.out | apply below_alloc | apply pw_below_drewN | apply below_drew1 | refine below_set ?_ GE263.out | refine below_set ?_ GE274.out | refine below_set ?_ GE275.out) | exact HB.out)⟩⟩
           ·
            replace c106 := Bool.eq_false_iff.mpr c106
            subst c106
            have H1 : (impl_FDiv.j3 kj90 (t264 != t269) x12_7 t260 t261 t264 t265 t266 t267 t268 t269 t270 false t272 t273) = some r := by rw [if_neg (show ¬ (false = true) by decide)] at H; exact H
            clear H
            have H := H1
            clear H1
            have H' := Aside0.mk H
            clear H
            have hnb110 := NB275_263.out
            have hnc110 := NB263_275.out
            have hnb111 := NB275_274.out
            have hnc111 := NB274_275.out
            have hcz112_0 : wc.cell? ⟨gb275, 0, none⟩ = some (.bool t269) := (blk_cell BK275.out 0).trans rfl
            have hcz112_1 : wc.cell? ⟨gb275, 1, none⟩ = some (.bool t270) := (blk_cell BK275.out 1).trans rfl
            have hcz112_2 : wc.cell? ⟨gb275, 2, none⟩ = some (.bool false) := (blk_cell BK275.out 2).trans rfl
            have hcz112_3 : wc.cell? ⟨gb275, 3, none⟩ = some (.int .u64 t272) := (blk_cell BK275.out 3).trans rfl
            have hcz112_4 : wc.cell? ⟨gb275, 4, none⟩ = some (.int .i64 t273) := (blk_cell BK275.out 4).trans rfl
            have hfz112_0 := blk_frozen BK275.out 0
            have hfz112_1 := blk_frozen BK275.out 1
            have hfz112_2 := blk_frozen BK275.out 2
            have hfz112_3 := blk_frozen BK275.out 3
            have hfz112_4 := blk_frozen BK275.out 4
            go_wp2
            go_meet
            case rel => exact ⟨_, (x12_7), (by first | rfl | (simp; done) | (simp [*]; done)), H', ⟨by have := HJ7.out; have := HJ44.out; have := HJ90.out; first | omega | exact Nat.le_refl _⟩, ⟨by (with_reducible repeat (first | refine blk_drewN ?_ _ | refine blk_drew ?_ | refine blk_alloc ?_ _)); exact BK263.out⟩, ⟨by (with_reducible repeat (first | refine blk_drewN ?_ _ | refine blk_drew ?_ | refine blk_alloc ?_ _)); exact BK274.out⟩, ⟨by (with_reducible repeat (first | refine blk_drewN ?_ _ | refine blk_drew ?_ | refine blk_alloc ?_ _)); exact BK275.out⟩, ⟨by repeat (first | (with_reducible first | exact HB.out | apply below_alloc | apply pw_below_drewN | apply below_drew1 | refine below_set ?_ GE263.out | refine below_set ?_ GE274.out | refine below_set ?_ GE275.out) | exact HB.out)⟩⟩
          case rest =>
           clear HC105
           try clear c1
           try clear p2
           try clear c3
           try clear c4
           try clear c5
           try clear c6
           try clear c7
           try clear c8
           try clear c9
           try clear c10
           try clear c11
           try clear c34
           try clear c35
           try clear c40
           try clear c46
           try clear c47
           try clear c48
           try clear c50
           try clear c51
           try clear c52
           try clear c53
           try clear c54
           try clear c56
           try clear c57
           try clear c58
           try clear c59
           try clear c61
           try clear c63
           try clear c64
           try clear c65
           try clear c67
           try clear c69
           try clear c70
           try clear c72
           try clear c74
           try clear c75
           try clear c76
           try clear c78
           try clear c80
           try clear c81
           try clear c83
           try clear c85
           try clear c87
           try clear c88
           try clear c92
           try clear c93
           try clear c94
           try clear c96
           try clear c97
           try clear c99
           try clear c101
           try clear c102
           try clear c106
           try clear c107
           try clear c108
           try clear c110
           try clear c111
           try clear hcz103_0 hcz103_1
           try clear hcz109_0 hcz109_1 hcz109_2 hcz109_3 hcz109_4
           try clear hcz112_0 hcz112_1 hcz112_2 hcz112_3 hcz112_4
           try clear hcz49_0 hcz49_1 hcz49_2 hcz49_3 hcz49_4
           try clear hcz53_0 hcz53_1 hcz53_2 hcz53_3 hcz53_4
           try clear hcz55_0 hcz55_1 hcz55_2 hcz55_3 hcz55_4
           try clear hcz60_0 hcz60_1 hcz60_2 hcz60_3 hcz60_4
           try clear hcz62_0 hcz62_1 hcz62_2 hcz62_3 hcz62_4
           try clear hcz66_0 hcz66_1 hcz66_2 hcz66_3 hcz66_4
           try clear hcz68_0 hcz68_1 hcz68_2 hcz68_3 hcz68_4
           try clear hcz71_0 hcz71_1 hcz71_2 hcz71_3 hcz71_4
           try clear hcz73_0 hcz73_1 hcz73_2 hcz73_3 hcz73_4
           try clear hcz77_0 hcz77_1 hcz77_2 hcz77_3 hcz77_4
           try clear hcz79_0 hcz79_1 hcz79_2 hcz79_3 hcz79_4
           try clear hcz82_0 hcz82_1 hcz82_2 hcz82_3 hcz82_4
           try clear hcz84_0 hcz84_1 hcz84_2 hcz84_3 hcz84_4
           try clear hcz89_0 hcz89_1
           try clear hcz95_0 hcz95_1 hcz95_2 hcz95_3 hcz95_4
           try clear hcz98_0 hcz98_1 hcz98_2 hcz98_3 hcz98_4
           try clear hfz103_0 hfz103_1
           try clear hfz109_0 hfz109_1 hfz109_2 hfz109_3 hfz109_4
           try clear hfz112_0 hfz112_1 hfz112_2 hfz112_3 hfz112_4
           try clear hfz49_0 hfz49_1 hfz49_2 hfz49_3 hfz49_4
           try clear hfz53_0 hfz53_1 hfz53_2 hfz53_3 hfz53_4
           try clear hfz55_0 hfz55_1 hfz55_2 hfz55_3 hfz55_4
           try clear hfz60_0 hfz60_1 hfz60_2 hfz60_3 hfz60_4
           try clear hfz62_0 hfz62_1 hfz62_2 hfz62_3 hfz62_4
           try clear hfz66_0 hfz66_1 hfz66_2 hfz66_3 hfz66_4
           try clear hfz68_0 hfz68_1 hfz68_2 hfz68_3 hfz68_4
           try clear hfz71_0 hfz71_1 hfz71_2 hfz71_3 hfz71_4
           try clear hfz73_0 hfz73_1 hfz73_2 hfz73_3 hfz73_4
           try clear hfz77_0 hfz77_1 hfz77_2 hfz77_3 hfz77_4
           try clear hfz79_0 hfz79_1 hfz79_2 hfz79_3 hfz79_4
           try clear hfz82_0 hfz82_1 hfz82_2 hfz82_3 hfz82_4
           try clear hfz84_0 hfz84_1 hfz84_2 hfz84_3 hfz84_4
           try clear hfz89_0 hfz89_1
           try clear hfz95_0 hfz95_1 hfz95_2 hfz95_3 hfz95_4
           try clear hfz98_0 hfz98_1 hfz98_2 hfz98_3 hfz98_4
           try clear p2
           obtain ⟨kq, x82_104, rfl, HA, HJ104, BK263, BK274, BK275, HB⟩ := hcut
           cases kq with
           | zero => exact absurd HA.out (by simp [impl_FDiv.j3])
           | succ kj104 =>
            have H := HA.out
            clear HA
            simp only [impl_FDiv.j3] at H
            by_cases c113 : x82_104 = true
            ·
             subst c113
             have H1 : ((impl_format_signed.f t260 t261 (t264 != t269) 0).bind fun t278 => (some t278)) = some r := by rw [if_pos rfl] at H; exact H
             clear H
             have H := H1
             clear H1
             replace H := Option.bind_eq_some_iff.mp H
             obtain ⟨t278, A1140, H⟩ := H
             replace H : (some t278) = some r := H
             have A114 := Aside0.mk A1140
             clear A1140
             obtain rfl := Option.some.inj H
             simp only [Option.some.injEq, Prod.mk.injEq] at H
             obtain ⟨rfl⟩ := H
             have hnb115 := NB263_274.out
             have hnc115 := NB274_263.out
             have hnb116 := NB263_275.out
             have hnc116 := NB275_263.out
             have hcz117_0 : wc.cell? ⟨gb263, 0, none⟩ = some (.int .i64 t260) := (blk_cell BK263.out 0).trans rfl
             have hcz117_1 : wc.cell? ⟨gb263, 1, none⟩ = some (.int .i64 t261) := (blk_cell BK263.out 1).trans rfl
             have hfz117_0 := blk_frozen BK263.out 0
             have hfz117_1 := blk_frozen BK263.out 1
             go_wp2_with (first | ((with_reducible refine gate_callee (f := 58) rfl ?_); refine goesL_ (some 90) rfl rfl Try.func58 (by kernel_rfl) rfl #[.agg #[.int .i64 t260, .int .i64 t261], .bool (t264 != t269), .int .u32 0] rfl (by (try simp only [List.map_toArray, List.map_cons, List.map_nil]); first | done | rfl | (simp only [List.length_drop, List.length_take]; rfl)) ?_; (with_reducible refine (impl_format_signed.calls t260 t261 (t264 != t269) 0 t278 _ A114.out).mono ?_); rintro e w118 ⟨rfl, hb⟩; refine ⟨_, rfl, ?_⟩; have n0_ := Aside0.mk (blk_below (g := gb263) (o := .cells #[.int .i64 t260, .int .i64 t261] 62 (0, 0)) (by (with_reducible repeat (first | refine blk_drewN ?_ _ | refine blk_drew ?_ | refine blk_alloc ?_ _)); exact BK263.out) hb); have n1_ := Aside0.mk (blk_below (g := gb274) (o := .cells #[.bool t264, .bool t265, .bool t266, .int .u64 t267, .int .i64 t268] 66 (0, 0)) (by (with_reducible repeat (first | refine blk_drewN ?_ _ | refine blk_drew ?_ | refine blk_alloc ?_ _)); exact BK274.out) hb); have n2_ := Aside0.mk (blk_below (g := gb275) (o := .cells #[.bool t269, .bool t270, .bool t271, .int .u64 t272, .int .i64 t273] 66 (0, 0)) (by (with_reducible repeat (first | refine blk_drewN ?_ _ | refine blk_drew ?_ | refine blk_alloc ?_ _)); exact BK275.out) hb); have n3_ := Aside0.mk (below_step (by repeat (first | (with_reducible first | exact HB.out | apply below_alloc | apply pw_below_drewN | apply below_drew1 | refine below_set ?_ GE263.out | refine below_set ?_ GE274.out | refine below_set ?_ GE275.out) | exact HB.out)) hb); clear BK263; clear BK274; clear BK275; clear HB; have BK263 := n0_; have BK274 := n1_; have BK275 := n2_; have HB := n3_; clear n0_ n1_ n2_ n3_; (try clear hb); (try clear hb2); (try clear hk); (try clear hi)))
             go_ret
             exact ⟨by first | rfl | (simp [errW_none, errW_some] <;> rfl) | (simp [*, errW_none, errW_some] <;> rfl), by repeat (first | (with_reducible first | exact HB.out | apply below_alloc | apply pw_below_drewN | apply below_drew1 | refine below_set ?_ GE263.out | refine below_set ?_ GE274.out | refine below_set ?_ GE275.out) | exact HB.out)⟩
            ·
             replace c113 := Bool.eq_false_iff.mpr c113
             subst c113
             have H1 : ((bits_Len64.f t267).bind fun t279 => (if 0 ≤ (wrap64 (60 - t279)) then (if t272 = 0 then (none) else ((impl_format_round.f kj104 t260 t261 (t264 != t269) (IntKind.u64.wrap (Int.tdiv (shl .u64 t267 (wrap64 (60 - t279))) t272)) (wrap64 ((wrap64 (t268 - (wrap64 (60 - t279)))) - t273)) ((Int.tmod (shl .u64 t267 (wrap64 (60 - t279))) t272) != 0)).bind fun t280 => (some t280))) else (none))) = some r := by rw [if_neg (show ¬ (false = true) by decide)] at H; exact H
             clear H
             have H := H1
             clear H1
             replace H := Option.bind_eq_some_iff.mp H
             obtain ⟨t279, A1190, H⟩ := H
             replace H : (if 0 ≤ (wrap64 (60 - t279)) then (if t272 = 0 then (none) else ((impl_format_round.f kj104 t260 t261 (t264 != t269) (IntKind.u64.wrap (Int.tdiv (shl .u64 t267 (wrap64 (60 - t279))) t272)) (wrap64 ((wrap64 (t268 - (wrap64 (60 - t279)))) - t273)) ((Int.tmod (shl .u64 t267 (wrap64 (60 - t279))) t272) != 0)).bind fun t280 => (some t280))) else (none)) = some r := H
             have A119 := Aside0.mk A1190
             clear A1190
             obtain ⟨ji120, hji120⟩ : ∃ j_ : Int, (wrap64 (60 - t279)) = j_ := ⟨_, rfl⟩
             replace H : (if 0 ≤ (ji120) then (if t272 = 0 then (none) else ((impl_format_round.f kj104 t260 t261 (t264 != t269) (IntKind.u64.wrap (Int.tdiv (shl .u64 t267 (ji120)) t272)) (wrap64 ((wrap64 (t268 - (ji120))) - t273)) ((Int.tmod (shl .u64 t267 (ji120)) t272) != 0)).bind fun t280 => (some t280))) else (none)) = some r := by first | (rw [hji120] at H; exact H) | (simp only [hji120] at H ⊢; exact H)
             (try rw [hji120] at A119)
             have hji120w : (IntKind.i64.wrap (60 - t279)) = ji120 := (i64_w _).trans hji120
             by_cases c121 : 0 ≤ (ji120)
             ·
              rw [if_pos c121] at H
              have c121b0 := eq_true c121
              have c121b1 : decide (0 ≤ (ji120)) = true := decide_eq_true c121
              clear c121
              obtain ⟨ji122, hji122⟩ : ∃ j_ : Int, (shl .u64 t267 (ji120)) = j_ := ⟨_, rfl⟩
              replace H : (if t272 = 0 then (none) else ((impl_format_round.f kj104 t260 t261 (t264 != t269) (IntKind.u64.wrap (Int.tdiv (ji122) t272)) (wrap64 ((wrap64 (t268 - (ji120))) - t273)) ((Int.tmod (ji122) t272) != 0)).bind fun t280 => (some t280))) = some r := by first | (rw [hji122] at H; exact H) | (simp only [hji122] at H ⊢; exact H)
              (try rw [hji122] at A119)
              have hji122_ : (IntKind.u64.wrap (t267 * 2 ^ min (ji120).toNat 64)) = ji122 := hji122
              have hji122z : (ji120) ≤ 64 → (IntKind.u64.wrap (t267 * 2 ^ (ji120).toNat)) = ji122 := shl_small hji122
              by_cases c123 : t272 = 0
              ·
               rw [if_pos c123] at H
               exact absurd H (by simp)
              ·
               rw [if_neg c123] at H
               have c123b0 : (t272 == 0) = false := beq_eq_false_iff_ne.mpr c123
               have c123b1 : (t272 != 0) = true := bne_iff_ne.mpr c123
               replace H := Option.bind_eq_some_iff.mp H
               obtain ⟨t280, A1240, H⟩ := H
               replace H : (some t280) = some r := H
               have A124 := Aside0.mk A1240
               clear A1240
               obtain rfl := Option.some.inj H
               simp only [Option.some.injEq, Prod.mk.injEq] at H
               obtain ⟨rfl⟩ := H
               have hnb125 := NB274_263.out
               have hnc125 := NB263_274.out
               have hnb126 := NB274_275.out
               have hnc126 := NB275_274.out
               have hcz127_0 : wc.cell? ⟨gb274, 0, none⟩ = some (.bool t264) := (blk_cell BK274.out 0).trans rfl
               have hcz127_1 : wc.cell? ⟨gb274, 1, none⟩ = some (.bool t265) := (blk_cell BK274.out 1).trans rfl
               have hcz127_2 : wc.cell? ⟨gb274, 2, none⟩ = some (.bool t266) := (blk_cell BK274.out 2).trans rfl
               have hcz127_3 : wc.cell? ⟨gb274, 3, none⟩ = some (.int .u64 t267) := (blk_cell BK274.out 3).trans rfl
               have hcz127_4 : wc.cell? ⟨gb274, 4, none⟩ = some (.int .i64 t268) := (blk_cell BK274.out 4).trans rfl
               have hfz127_0 := blk_frozen BK274.out 0
               have hfz127_1 := blk_frozen BK274.out 1
               have hfz127_2 := blk_frozen BK274.out 2
               have hfz127_3 := blk_frozen BK274.out 3
               have hfz127_4 := blk_frozen BK274.out 4
               try go_wp2_with (first | ((with_reducible refine gate_callee (f := 59) rfl ?_); refine goesL_ (some 93) rfl rfl Try.func59 (by kernel_rfl) rfl #[.int .u64 t267] rfl (by (try simp only [List.map_toArray, List.map_cons, List.map_nil]); first | done | rfl | (simp only [List.length_drop, List.length_take]; rfl)) ?_; (with_reducible refine (bits_Len64.calls t267 t279 _ A119.out).mono ?_); rintro e w' ⟨rfl, ⟨nd, rfl⟩⟩; refine ⟨_, rfl, ?_⟩))
               (try (rw [drewN_self wc]; generalize hq_ : World.drewN wc _ = wc; have n0_ : Aside0 (wc.heap[gb263]? = some (.cells #[.int .i64 t260, .int .i64 t261] 62 (0, 0))) := ⟨by rw [← hq_]; exact (by (with_reducible repeat (first | refine blk_drewN ?_ _ | refine blk_drew ?_ | refine blk_alloc ?_ _)); exact BK263.out)⟩; have n1_ : Aside0 (wc.heap[gb274]? = some (.cells #[.bool t264, .bool t265, .bool t266, .int .u64 t267, .int .i64 t268] 66 (0, 0))) := ⟨by rw [← hq_]; exact (by (with_reducible repeat (first | refine blk_drewN ?_ _ | refine blk_drew ?_ | refine blk_alloc ?_ _)); exact BK274.out)⟩; have n2_ : Aside0 (wc.heap[gb275]? = some (.cells #[.bool t269, .bool t270, .bool t271, .int .u64 t272, .int .i64 t273] 66 (0, 0))) := ⟨by rw [← hq_]; exact (by (with_reducible repeat (first | refine blk_drewN ?_ _ | refine blk_drew ?_ | refine blk_alloc ?_ _)); exact BK275.out)⟩; have n3_ : Aside0 (Below w.heap.size w wc) := ⟨by rw [← hq_]; exact (by repeat (first | (with_reducible first | exact HB.out | apply below_alloc | apply pw_below_drewN | apply below_drew1 | refine below_set ?_ GE263.out | refine below_set ?_ GE274.out | refine below_set ?_ GE275.out) | exact HB.out))⟩; clear BK263 BK274 BK275 HB hq_; have BK263 := n0_; have BK274 := n1_; have BK275 := n2_; have HB := n3_; clear n0_ n1_ n2_ n3_))
               have n0_ := Aside0.mk (blk_drew BK263.out)
               have n1_ := Aside0.mk (blk_drew BK274.out)
               have n2_ := Aside0.mk (blk_drew BK275.out)
               have n3_ := Aside0.mk (below_drew1 HB.out)
               clear BK263
               clear BK274
               clear BK275
               clear HB
               have BK263 := n0_
               have BK274 := n1_
               have BK275 := n2_
               have HB := n3_
               clear n0_ n1_ n2_ n3_
               refine start_ (n := 20) (S := fun w' => w'.cell? ⟨gb263, 0, none⟩ = some (.int .i64 t260) ∧ w'.cell? ⟨gb263, 1, none⟩ = some (.int .i64 t261) ∧ w'.cell? ⟨gb275, 0, none⟩ = some (.bool t269) ∧ w'.cell? ⟨gb275, 1, none⟩ = some (.bool t270) ∧ w'.cell? ⟨gb275, 2, none⟩ = some (.bool t271) ∧ w'.cell? ⟨gb275, 3, none⟩ = some (.int .u64 t272) ∧ w'.cell? ⟨gb275, 4, none⟩ = some (.int .i64 t273) ∧ w'.cell? ⟨gb274, 0, none⟩ = some (.bool t264) ∧ w'.cell? ⟨gb274, 1, none⟩ = some (.bool t265) ∧ w'.cell? ⟨gb274, 2, none⟩ = some (.bool t266) ∧ w'.cell? ⟨gb274, 3, none⟩ = some (.int .u64 t267) ∧ w'.cell? ⟨gb274, 4, none⟩ = some (.int .i64 t268)) (ds := []) #[false, false, false, false, false, false, false, false, false, false, false, false, false, false, false, false, false, false, false, false] (by kernel_rfl) rfl rfl ⟨(blk_cell BK263.out 0).trans rfl, (blk_cell BK263.out 1).trans rfl, (blk_cell BK275.out 0).trans rfl, (blk_cell BK275.out 1).trans rfl, (blk_cell BK275.out 2).trans rfl, (blk_cell BK275.out 3).trans rfl, (blk_cell BK275.out 4).trans rfl, (blk_cell BK274.out 0).trans rfl, (blk_cell BK274.out 1).trans rfl, (blk_cell BK274.out 2).trans rfl, (blk_cell BK274.out 3).trans rfl, (blk_cell BK274.out 4).trans rfl⟩ (fun hHeld => ?_); refine with_tabW impl_FDiv.tab15 impl_FDiv.bits15 (fun HT_ HW_ => ?_)
               generalize wc.drew = w128 at BK263 BK274 BK275 HB hHeld ⊢
               refine pure_ (i := 1) (N := some 100) (v := ?_) (a' := ?_) #[false, true, false, false, false, false, false, false, false, false, false, false, false, false, false, false, false, false, false, false] rfl rfl (any_of HT_.out (by kernel_rfl)) (fun _ _ _ h => h) (Or.inl ⟨by rfl, ?_⟩) ?_ ?_
               rotate_left
               ·
                intro w'
                go_simp
                with_reducible rfl
               rotate_left
               ·
                simp only [Act.put, List.setIfInBounds_toArray, List.set_cons_zero, List.set_cons_succ, i64_w, i32_w]
                rfl
               refine pure_ (i := 2) (N := some 101) (v := ?_) (a' := ?_) #[false, true, true, false, false, false, false, false, false, false, false, false, false, false, false, false, false, false, false, false] rfl rfl (any_of HT_.out (by kernel_rfl)) (fun _ _ _ h => h) (Or.inl ⟨by rfl, ?_⟩) ?_ ?_
               rotate_left
               ·
                intro w'
                go_simp
                with_reducible rfl
               rotate_left
               ·
                simp only [Act.put, List.setIfInBounds_toArray, List.set_cons_zero, List.set_cons_succ, i64_w, i32_w]
                rfl
               refine pure_ (i := 3) (N := some 102) (v := ?_) (a' := ?_) #[false, true, true, true, false, false, false, false, false, false, false, false, false, false, false, false, false, false, false, false] rfl rfl (any_of HT_.out (by kernel_rfl)) (fun _ _ _ h => h) (Or.inl ⟨by rfl, ?_⟩) ?_ ?_
               rotate_left
               ·
                intro w'
                go_simp
                with_reducible rfl
               rotate_left
               ·
                simp only [Act.put, List.setIfInBounds_toArray, List.set_cons_zero, List.set_cons_succ, i64_w, i32_w]
                rfl
               refine pure_ (i := 6) (N := some 105) (v := ?_) (a' := ?_) #[false, true, true, true, false, false, true, false, false, false, false, false, false, false, false, false, false, false, false, false] rfl rfl (any_of HT_.out (by kernel_rfl)) (fun _ _ _ h => h) (Or.inl ⟨by rfl, ?_⟩) ?_ ?_
               rotate_left
               ·
                intro w'
                go_simp
                with_reducible rfl
               rotate_left
               ·
                simp only [Act.put, List.setIfInBounds_toArray, List.set_cons_zero, List.set_cons_succ, i64_w, i32_w]
                rfl
               refine pure_ (i := 8) (N := some 107) (v := ?_) (a' := ?_) #[false, true, true, true, false, false, true, false, true, false, false, false, false, false, false, false, false, false, false, false] rfl rfl (any_of HT_.out (by kernel_rfl)) (fun _ _ _ h => h) (Or.inl ⟨by rfl, ?_⟩) ?_ ?_
               rotate_left
               ·
                intro w'
                go_simp
                with_reducible rfl
               rotate_left
               ·
                simp only [Act.put, List.setIfInBounds_toArray, List.set_cons_zero, List.set_cons_succ, i64_w, i32_w]
                rfl
               refine pure_ (i := 10) (N := some 109) (v := ?_) (a' := ?_) #[false, true, true, true, false, false, true, false, true, false, true, false, false, false, false, false, false, false, false, false] rfl rfl (any_of HT_.out (by kernel_rfl)) (fun _ _ _ h => h) (Or.inl ⟨by rfl, ?_⟩) ?_ ?_
               rotate_left
               ·
                intro w'
                go_simp
                with_reducible rfl
               rotate_left
               ·
                simp only [Act.put, List.setIfInBounds_toArray, List.set_cons_zero, List.set_cons_succ, i64_w, i32_w]
                rfl
               refine pure_ (i := 13) (N := some 112) (v := ?_) (a' := ?_) #[false, true, true, true, false, false, true, false, true, false, true, false, false, true, false, false, false, false, false, false] rfl rfl (any_of HT_.out (by kernel_rfl)) (fun _ _ _ h => h) (Or.inl ⟨by rfl, ?_⟩) ?_ ?_
               rotate_left
               ·
                intro w'
                go_simp
                with_reducible rfl
               rotate_left
               ·
                simp only [Act.put, List.setIfInBounds_toArray, List.set_cons_zero, List.set_cons_succ, i64_w, i32_w]
                rfl
               refine pure_ (i := 14) (N := some 113) (v := ?_) (a' := ?_) #[false, true, true, true, false, false, true, false, true, false, true, false, false, true, true, false, false, false, false, false] rfl rfl (any_of HT_.out (by kernel_rfl)) (fun _ _ _ h => h) (Or.inl ⟨by rfl, ?_⟩) ?_ ?_
               rotate_left
               ·
                intro w'
                go_simp
                with_reducible rfl
               rotate_left
               ·
                simp only [Act.put, List.setIfInBounds_toArray, List.set_cons_zero, List.set_cons_succ, i64_w, i32_w]
                rfl
               refine take_ (i := 0) (N := some 99) (v := ?_) (a' := ?_) #[true, true, true, true, false, false, true, false, true, false, true, false, false, true, true, false, false, false, false, false] rfl rfl (take_ofW HT_.out HW_.out (by kernel_rfl)) (fun _ _ _ h => h) (Or.inl ⟨by rfl, ?_⟩) hHeld ?_ ?_
               rotate_left
               ·
                rintro w' ⟨s0, s1, s2, s3, s4, s5, s6, s7, s8, s9, s10, s11⟩
                go_simp
                with_reducible rfl
               rotate_left
               ·
                simp only [Act.put, List.setIfInBounds_toArray, List.set_cons_zero, List.set_cons_succ, i64_w, i32_w]
                rfl
               refine take_ (i := 4) (N := some 103) (v := ?_) (a' := ?_) #[true, true, true, true, true, false, true, false, true, false, true, false, false, true, true, false, false, false, false, false] rfl rfl (take_ofW HT_.out HW_.out (by kernel_rfl)) (fun _ _ _ h => h) (Or.inl ⟨by rfl, ?_⟩) hHeld ?_ ?_
               rotate_left
               ·
                rintro w' ⟨s0, s1, s2, s3, s4, s5, s6, s7, s8, s9, s10, s11⟩
                go_simp
                with_reducible rfl
               rotate_left
               ·
                simp only [Act.put, List.setIfInBounds_toArray, List.set_cons_zero, List.set_cons_succ, i64_w, i32_w]
                rfl
               refine pure_ (i := 5) (N := some 104) (v := ?_) (a' := ?_) #[true, true, true, true, true, true, true, false, true, false, true, false, false, true, true, false, false, false, false, false] rfl rfl (any_of HT_.out (by kernel_rfl)) (fun _ _ _ h => h) (Or.inl ⟨by rfl, ?_⟩) ?_ ?_
               rotate_left
               ·
                intro w'
                go_simp
                with_reducible rfl
               rotate_left
               ·
                simp only [Act.put, List.setIfInBounds_toArray, List.set_cons_zero, List.set_cons_succ, i64_w, i32_w]
                rfl
               refine take_ (i := 7) (N := some 106) (v := ?_) (a' := ?_) #[true, true, true, true, true, true, true, true, true, false, true, false, false, true, true, false, false, false, false, false] rfl rfl (take_ofW HT_.out HW_.out (by kernel_rfl)) (fun _ _ _ h => h) (Or.inl ⟨by rfl, ?_⟩) hHeld ?_ ?_
               rotate_left
               ·
                rintro w' ⟨s0, s1, s2, s3, s4, s5, s6, s7, s8, s9, s10, s11⟩
                go_simp
                with_reducible rfl
               rotate_left
               ·
                simp only [Act.put, List.setIfInBounds_toArray, List.set_cons_zero, List.set_cons_succ, i64_w, i32_w]
                rfl
               refine pure_ (i := 9) (N := some 108) (v := ?_) (a' := ?_) #[true, true, true, true, true, true, true, true, true, true, true, false, false, true, true, false, false, false, false, false] rfl rfl (any_of HT_.out (by kernel_rfl)) (fun _ _ _ h => h) (Or.inl ⟨by rfl, ?_⟩) ?_ ?_
               rotate_left
               ·
                intro w'
                go_simp
                with_reducible rfl
               rotate_left
               ·
                simp only [Act.put, List.setIfInBounds_toArray, List.set_cons_zero, List.set_cons_succ, i64_w, i32_w]
                rfl
               refine take_ (i := 11) (N := some 110) (v := ?_) (a' := ?_) #[true, true, true, true, true, true, true, true, true, true, true, true, false, true, true, false, false, false, false, false] rfl rfl (take_ofW HT_.out HW_.out (by kernel_rfl)) (fun _ _ _ h => h) (Or.inl ⟨by rfl, ?_⟩) hHeld ?_ ?_
               rotate_left
               ·
                rintro w' ⟨s0, s1, s2, s3, s4, s5, s6, s7, s8, s9, s10, s11⟩
                go_simp
                with_reducible rfl
               rotate_left
               ·
                simp only [Act.put, List.setIfInBounds_toArray, List.set_cons_zero, List.set_cons_succ, i64_w, i32_w]
                rfl
               refine pure_ (i := 12) (N := some 111) (v := ?_) (a' := ?_) #[true, true, true, true, true, true, true, true, true, true, true, true, true, true, true, false, false, false, false, false] rfl rfl (any_of HT_.out (by kernel_rfl)) (fun _ _ _ h => h) (Or.inl ⟨by rfl, ?_⟩) ?_ ?_
               rotate_left
               ·
                intro w'
                go_simp
                with_reducible rfl
               rotate_left
               ·
                simp only [Act.put, List.setIfInBounds_toArray, List.set_cons_zero, List.set_cons_succ, i64_w, i32_w]
                rfl
               refine take_ (i := 15) (N := some 114) (v := ?_) (a' := ?_) #[true, true, true, true, true, true, true, true, true, true, true, true, true, true, true, true, false, false, false, false] rfl rfl (take_ofW HT_.out HW_.out (by kernel_rfl)) (fun _ _ _ h => h) (Or.inl ⟨by rfl, ?_⟩) hHeld ?_ ?_
               rotate_left
               ·
                rintro w' ⟨s0, s1, s2, s3, s4, s5, s6, s7, s8, s9, s10, s11⟩
                go_simp
                with_reducible rfl
               rotate_left
               ·
                simp only [Act.put, List.setIfInBounds_toArray, List.set_cons_zero, List.set_cons_succ, i64_w, i32_w]
                rfl
               refine pure_ (i := 16) (N := some 115) (v := ?_) (a' := ?_) #[true, true, true, true, true, true, true, true, true, true, true, true, true, true, true, true, true, false, false, false] rfl rfl (any_of HT_.out (by kernel_rfl)) (fun _ _ _ h => h) (Or.inl ⟨by rfl, ?_⟩) ?_ ?_
               rotate_left
               ·
                intro w'
                go_simp
                with_reducible rfl
               rotate_left
               ·
                simp only [Act.put, List.setIfInBounds_toArray, List.set_cons_zero, List.set_cons_succ, i64_w, i32_w]
                rfl
               refine pure_ (i := 17) (N := some 116) (v := ?_) (a' := ?_) #[true, true, true, true, true, true, true, true, true, true, true, true, true, true, true, true, true, true, false, false] rfl rfl (any_of HT_.out (by kernel_rfl)) (fun _ _ _ h => h) (Or.inl ⟨by rfl, ?_⟩) ?_ ?_
               rotate_left
               ·
                intro w'
                go_simp
                with_reducible rfl
               rotate_left
               ·
                simp only [Act.put, List.setIfInBounds_toArray, List.set_cons_zero, List.set_cons_succ, i64_w, i32_w]
                rfl
               refine one_ (i := 18) (N := some 117) #[true, true, true, true, true, true, true, true, true, true, true, true, true, true, true, true, true, true, true, false] rfl rfl (one_of HT_.out (by kernel_rfl)) (by decide) (fun K hK => ?_)
               refine goes_ Try.func55 (by kernel_rfl) rfl #[.agg #[.int .i64 t260, .int .i64 t261], .bool (t264 != t269), .int .u64 (IntKind.u64.wrap (Int.tdiv (ji122) t272)), .int .i64 (wrap64 ((wrap64 (t268 - (ji120))) - t273)), .bool ((Int.tmod (ji122) t272) != 0)] (by rfl) rfl rfl (by (try simp only [List.map_toArray, List.map_cons, List.map_nil]); first | done | (simp only [hji120, hji122]; rfl) | rfl | (simp only [List.length_drop, List.length_take]; rfl)) ?_
               with_reducible refine (impl_format_round.calls kj104 t260 t261 (t264 != t269) (IntKind.u64.wrap (Int.tdiv (ji122) t272)) (wrap64 ((wrap64 (t268 - (ji120))) - t273)) ((Int.tmod (ji122) t272) != 0) t280 _ A124.out).mono ?_
               rintro e w129 ⟨rfl, hb⟩
               refine ⟨_, rfl, ?_⟩
               have n0_ := Aside0.mk (blk_below (g := gb263) (o := .cells #[.int .i64 t260, .int .i64 t261] 62 (0, 0)) (by (with_reducible repeat (first | refine blk_drewN ?_ _ | refine blk_drew ?_ | refine blk_alloc ?_ _)); exact BK263.out) hb)
               have n1_ := Aside0.mk (blk_below (g := gb274) (o := .cells #[.bool t264, .bool t265, .bool t266, .int .u64 t267, .int .i64 t268] 66 (0, 0)) (by (with_reducible repeat (first | refine blk_drewN ?_ _ | refine blk_drew ?_ | refine blk_alloc ?_ _)); exact BK274.out) hb)
               have n2_ := Aside0.mk (blk_below (g := gb275) (o := .cells #[.bool t269, .bool t270, .bool t271, .int .u64 t272, .int .i64 t273] 66 (0, 0)) (by (with_reducible repeat (first | refine blk_drewN ?_ _ | refine blk_drew ?_ | refine blk_alloc ?_ _)); exact BK275.out) hb)
               have n3_ := Aside0.mk (below_step (by repeat (first | (with_reducible first | exact HB.out | apply below_alloc | apply pw_below_drewN | apply below_drew1 | refine below_set ?_ GE263.out | refine below_set ?_ GE274.out | refine below_set ?_ GE275.out) | exact HB.out)) hb)
               clear BK263
               clear BK274
               clear BK275
               clear HB
               have BK263 := n0_
               have BK274 := n1_
               have BK275 := n2_
               have HB := n3_
               clear n0_ n1_ n2_ n3_
               (try clear hb)
               (try clear hb2)
               (try clear hk)
               (try clear hi)
               refine hK.out _ _ ⟨(blk_cell BK263.out 0).trans rfl, (blk_cell BK263.out 1).trans rfl, (blk_cell BK275.out 0).trans rfl, (blk_cell BK275.out 1).trans rfl, (blk_cell BK275.out 2).trans rfl, (blk_cell BK275.out 3).trans rfl, (blk_cell BK275.out 4).trans rfl, (blk_cell BK274.out 0).trans rfl, (blk_cell BK274.out 1).trans rfl, (blk_cell BK274.out 2).trans rfl, (blk_cell BK274.out 3).trans rfl, (blk_cell BK274.out 4).trans rfl⟩ (fun hHeld => ?_)
               clear hK K
               refine norm_ (a' := ?_) ?_ ?_
               rotate_left
               ·
                show Act.put _ (some 117) _ = _
                simp only [Act.put, List.setIfInBounds_toArray, List.set_cons_zero, List.set_cons_succ, i64_w, i32_w]
                rfl
               refine pure_ (i := 19) (N := some 6) (v := ?_) (a' := ?_) #[true, true, true, true, true, true, true, true, true, true, true, true, true, true, true, true, true, true, true, true] rfl rfl (any_of HT_.out (by kernel_rfl)) (fun _ _ _ h => h) (Or.inl ⟨by rfl, ?_⟩) ?_ ?_
               rotate_left
               ·
                intro w'
                go_simp
                with_reducible rfl
               rotate_left
               ·
                simp only [Act.put, List.setIfInBounds_toArray, List.set_cons_zero, List.set_cons_succ, i64_w, i32_w]
                rfl
               refine done_ (done_of HT_.out (by kernel_rfl)) ?_
               try go_wp2
               go_ret
               exact ⟨by first | rfl | (simp [errW_none, errW_some] <;> rfl) | (simp only [← hji120, ← hji122]; first | rfl | (simp [errW_none, errW_some] <;> rfl)) | (simp [*, errW_none, errW_some] <;> rfl), by repeat (first | (with_reducible first | exact HB.out | apply below_alloc | apply pw_below_drewN | apply below_drew1 | refine below_set ?_ GE263.out | refine below_set ?_ GE274.out | refine below_set ?_ GE275.out) | exact HB.out)⟩
             ·
              rw [if_neg c121] at H
              exact absurd H (by simp)
 ·
  replace c5 := Bool.eq_false_iff.mpr c5
  subst c5
  have H1 : (some 0) = some r := by rw [if_neg (show ¬ (false = true) by decide)] at H; exact H
  clear H
  have H := H1
  clear H1
  obtain rfl := Option.some.inj H
  simp only [Option.some.injEq, Prod.mk.injEq] at H
  obtain ⟨rfl⟩ := H
  go_enter Try.func21, Try.ntmps21
  go_wp2_with (first | ((with_reducible refine gate_callee (f := 51) rfl ?_); refine goesL_ (some 18) rfl rfl Try.func51 (by kernel_rfl) rfl #[.int .i64 a0] rfl (by (try simp only [List.map_toArray, List.map_cons, List.map_nil]); first | done | rfl | (simp only [List.length_drop, List.length_take]; rfl)) ?_; (with_reducible refine (impl_formatOf.calls a0 t260 t261 false _ A4.out).mono ?_); rintro e w130 ⟨rfl, hb⟩; refine ⟨_, rfl, ?_⟩; have n0_ := Aside0.mk (below_step (by repeat (first | (with_reducible first | exact HB.out | apply below_alloc | apply pw_below_drewN | apply below_drew1) | exact HB.out)) hb); clear HB; have HB := n0_; clear n0_; (try clear hb); (try clear hb2); (try clear hk); (try clear hi)) | ((with_reducible refine gate_dst (N := 7) rfl ?_); refine box_event ?hg (N := 7) ?hd (cs := #[.int .i64 0, .int .i64 0]) (t := 62) ?hr ?_; (case hd => rfl); (case hg => rfl); (case hr => first | (go_simp; done) | (go_simp; rfl)); intro gb263 hg w131 hbox hb; have n0_ := Aside0.mk (below_step (by repeat (first | (with_reducible first | exact HB.out | apply below_alloc | apply pw_below_drewN | apply below_drew1) | exact HB.out)) hb); have n1_ := Aside0.mk (hbox); have n2_ := Aside0.mk ((by rw [hg]; exact (below_size (by repeat (first | (with_reducible first | exact HB.out | apply below_alloc | apply pw_below_drewN | apply below_drew1) | exact HB.out))) : w.heap.size ≤ gb263)); have n3_ := Aside0.mk ((by rw [hg]; exact (below_size (by repeat (first | (with_reducible first | exact HB.out | apply below_alloc | apply pw_below_drewN | apply below_drew1) | exact HB.out))) : w.heap.size ≤ gb263)); clear HB; have HB := n0_; have BK263 := n1_; have GW263 := n2_; have GE263 := n3_; clear n0_ n1_ n2_ n3_; clear hb hbox hg; have hcz132_0 : w131.cell? ⟨gb263, 0, none⟩ = some (.int .i64 0) := (blk_cell BK263.out 0).trans rfl; have hcz132_1 : w131.cell? ⟨gb263, 1, none⟩ = some (.int .i64 0) := (blk_cell BK263.out 1).trans rfl; have hfz132_0 := blk_frozen BK263.out 0; have hfz132_1 := blk_frozen BK263.out 1))
  go_ret
  exact ⟨by first | rfl | (simp [errW_none, errW_some] <;> rfl) | (simp [*, errW_none, errW_some] <;> rfl), by repeat (first | (with_reducible first | exact HB.out | apply below_alloc | apply pw_below_drewN | apply below_drew1 | refine below_set ?_ GE263.out) | exact HB.out)⟩

end Go.Proofs.Ytdeogandkgiggaa.Q
