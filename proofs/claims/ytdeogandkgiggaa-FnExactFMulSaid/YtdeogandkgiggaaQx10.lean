-- Written by a program of this session; it walks the functions that the law reaches.
import Derived.Test.YtdeogandkgiggaaQx0
import Derived.Test.YtdeogandkgiggaaQx3
import Derived.Test.YtdeogandkgiggaaQx4
import Derived.Test.YtdeogandkgiggaaQx5
import Derived.Test.YtdeogandkgiggaaQx6
namespace Go.Proofs.Ytdeogandkgiggaa.Q
open Go.RowKit Go.Proofs.YtdeogandkgiggaaW.PrintWords Go.Proofs.YtdeogandkgiggaaW.PrintLast Go.Proofs.YtdeogandkgiggaaW.PrintMore
attribute [local go_sem] max2_int min2_int max_two min_two max_three min_three max_four min_four   -- for this text's walks alone
set_option linter.unusedVariables false
set_option linter.unusedSimpArgs false

/-! ### impl_FMul: function 19 -/
mutual
def impl_FMul.j0 : Nat → Bool → Bool → Int → Int → Bool → Bool → Bool → Int → Int → Bool → Bool → Bool → Int → Int → Option (Int)
  | 0, _, _, _, _, _, _, _, _, _, _, _, _, _, _ => none
  | k + 1, x11, x12, x208000, x208001, x219000, x219001, x219002, x219003, x219004, x220000, x220001, x220002, x220003, x220004 => if x219001 = true then (impl_FMul.j1 k x11 true x208000 x208001 x219000 x219001 x219002 x219003 x219004 x220000 x220001 x220002 x220003 x220004) else (if x220001 = true then (impl_FMul.j1 k x11 true x208000 x208001 x219000 x219001 x219002 x219003 x219004 x220000 x220001 x220002 x220003 x220004) else (if x219002 = true then (impl_FMul.j1 k x11 x12 x208000 x208001 x219000 x219001 x219002 x219003 x219004 x220000 x220001 x220002 x220003 x220004) else (if x220002 = true then (impl_FMul.j1 k x11 x12 x208000 x208001 x219000 x219001 x219002 x219003 x219004 x220000 x220001 x220002 x220003 x220004) else (impl_FMul.j1 k x11 false x208000 x208001 x219000 x219001 x219002 x219003 x219004 x220000 x220001 x220002 x220003 x220004))))
def impl_FMul.j1 : Nat → Bool → Bool → Int → Int → Bool → Bool → Bool → Int → Int → Bool → Bool → Bool → Int → Int → Option (Int)
  | 0, _, _, _, _, _, _, _, _, _, _, _, _, _, _ => none
  | k + 1, x11, x49, x208000, x208001, x219000, x219001, x219002, x219003, x219004, x220000, x220001, x220002, x220003, x220004 => if x49 = true then ((impl_format_noNumber.f x208000 x208001).bind fun t220 => (some t220)) else (if x219002 = true then (impl_FMul.j2 k x11 true x208000 x208001 x219000 x219001 x219002 x219003 x219004 x220000 x220001 x220002 x220003 x220004) else (impl_FMul.j2 k x11 x220002 x208000 x208001 x219000 x219001 x219002 x219003 x219004 x220000 x220001 x220002 x220003 x220004))
def impl_FMul.j2 : Nat → Bool → Bool → Int → Int → Bool → Bool → Bool → Int → Int → Bool → Bool → Bool → Int → Int → Option (Int)
  | 0, _, _, _, _, _, _, _, _, _, _, _, _, _, _ => none
  | k + 1, x11, x69, x208000, x208001, x219000, x219001, x219002, x219003, x219004, x220000, x220001, x220002, x220003, x220004 => if x69 = true then ((impl_format_infinite.f x208000 x208001 x11).bind fun t221 => (some t221)) else ((impl_format_round.f k x208000 x208001 x11 (IntKind.u64.wrap (x219003 * x220003)) (wrap64 (x219004 + x220004)) false).bind fun t222 => (some t222))
end
def impl_FMul.f (k : Nat) (a0 : Int) (a1 : Int) (a2 : Int) : Option (Int) := (impl_formatOf.f a0).bind fun bt204 => (if bt204.2.2 = true then ((impl_format_open.f bt204.1 bt204.2.1 a1).bind fun bt208 => ((impl_format_open.f bt204.1 bt204.2.1 a2).bind fun bt213 => (if bt208.2.2.1 = true then (if bt213.2.2.1 = true then (impl_FMul.j0 k (bt208.1 != bt213.1) false bt204.1 bt204.2.1 bt208.1 bt208.2.1 bt208.2.2.1 bt208.2.2.2.1 bt208.2.2.2.2 bt213.1 bt213.2.1 bt213.2.2.1 bt213.2.2.2.1 bt213.2.2.2.2) else (impl_FMul.j0 k (bt208.1 != bt213.1) (bt213.2.2.2.1 == 0) bt204.1 bt204.2.1 bt208.1 bt208.2.1 bt208.2.2.1 bt208.2.2.2.1 bt208.2.2.2.2 bt213.1 bt213.2.1 bt213.2.2.1 bt213.2.2.2.1 bt213.2.2.2.2)) else (if bt208.2.2.2.1 = 0 then (impl_FMul.j0 k (bt208.1 != bt213.1) true bt204.1 bt204.2.1 bt208.1 bt208.2.1 bt208.2.2.1 bt208.2.2.2.1 bt208.2.2.2.2 bt213.1 bt213.2.1 bt213.2.2.1 bt213.2.2.2.1 bt213.2.2.2.2) else (if bt213.2.2.1 = true then (impl_FMul.j0 k (bt208.1 != bt213.1) false bt204.1 bt204.2.1 bt208.1 bt208.2.1 bt208.2.2.1 bt208.2.2.2.1 bt208.2.2.2.2 bt213.1 bt213.2.1 bt213.2.2.1 bt213.2.2.2.1 bt213.2.2.2.2) else (impl_FMul.j0 k (bt208.1 != bt213.1) (bt213.2.2.2.1 == 0) bt204.1 bt204.2.1 bt208.1 bt208.2.1 bt208.2.2.1 bt208.2.2.2.1 bt208.2.2.2.2 bt213.1 bt213.2.1 bt213.2.2.1 bt213.2.2.2.1 bt213.2.2.2.2)))))) else (some 0))
theorem impl_FMul.mono_l : ∀ k, (∀ y0 y1 y2 y3 y4 y5 y6 y7 y8 y9 y10 y11 y12 y13, LeO (impl_FMul.j0 k y0 y1 y2 y3 y4 y5 y6 y7 y8 y9 y10 y11 y12 y13) (impl_FMul.j0 (k + 1) y0 y1 y2 y3 y4 y5 y6 y7 y8 y9 y10 y11 y12 y13)) ∧ (∀ y0 y1 y2 y3 y4 y5 y6 y7 y8 y9 y10 y11 y12 y13, LeO (impl_FMul.j1 k y0 y1 y2 y3 y4 y5 y6 y7 y8 y9 y10 y11 y12 y13) (impl_FMul.j1 (k + 1) y0 y1 y2 y3 y4 y5 y6 y7 y8 y9 y10 y11 y12 y13)) ∧ (∀ y0 y1 y2 y3 y4 y5 y6 y7 y8 y9 y10 y11 y12 y13, LeO (impl_FMul.j2 k y0 y1 y2 y3 y4 y5 y6 y7 y8 y9 y10 y11 y12 y13) (impl_FMul.j2 (k + 1) y0 y1 y2 y3 y4 y5 y6 y7 y8 y9 y10 y11 y12 y13))
  | 0 => ⟨fun _ _ _ _ _ _ _ _ _ _ _ _ _ _ r h => by simp [impl_FMul.j0] at h, fun _ _ _ _ _ _ _ _ _ _ _ _ _ _ r h => by simp [impl_FMul.j1] at h, fun _ _ _ _ _ _ _ _ _ _ _ _ _ _ r h => by simp [impl_FMul.j2] at h⟩
  | k + 1 => by
    obtain ⟨ih0, ih1, ih2⟩ := impl_FMul.mono_l k
    refine ⟨?_, ?_, ?_⟩
    · intro y0 y1 y2 y3 y4 y5 y6 y7 y8 y9 y10 y11 y12 y13
      unfold impl_FMul.j0
      repeat' first
      | (with_reducible exact ih0 _ _ _ _ _ _ _ _ _ _ _ _ _ _)
      | (with_reducible exact ih1 _ _ _ _ _ _ _ _ _ _ _ _ _ _)
      | (with_reducible exact ih2 _ _ _ _ _ _ _ _ _ _ _ _ _ _)
      | (with_reducible exact impl_format_round.mono _ _ _ _ _ _ _)
      | (with_reducible exact LeO.refl _)
      | (with_reducible exact LeO.none _)
      | (with_reducible refine LeO.ite ?_ ?_)
      | (with_reducible refine LeO.bind ?_ (fun _ => ?_))
      | exact ih0 _ _ _ _ _ _ _ _ _ _ _ _ _ _
      | exact ih1 _ _ _ _ _ _ _ _ _ _ _ _ _ _
      | exact ih2 _ _ _ _ _ _ _ _ _ _ _ _ _ _
      | exact impl_format_round.mono _ _ _ _ _ _ _
      | exact LeO.none _
      | refine LeO.ite ?_ ?_
      | refine LeO.bind ?_ (fun _ => ?_)
    · intro y0 y1 y2 y3 y4 y5 y6 y7 y8 y9 y10 y11 y12 y13
      unfold impl_FMul.j1
      repeat' first
      | (with_reducible exact ih0 _ _ _ _ _ _ _ _ _ _ _ _ _ _)
      | (with_reducible exact ih1 _ _ _ _ _ _ _ _ _ _ _ _ _ _)
      | (with_reducible exact ih2 _ _ _ _ _ _ _ _ _ _ _ _ _ _)
      | (with_reducible exact impl_format_round.mono _ _ _ _ _ _ _)
      | (with_reducible exact LeO.refl _)
      | (with_reducible exact LeO.none _)
      | (with_reducible refine LeO.ite ?_ ?_)
      | (with_reducible refine LeO.bind ?_ (fun _ => ?_))
      | exact ih0 _ _ _ _ _ _ _ _ _ _ _ _ _ _
      | exact ih1 _ _ _ _ _ _ _ _ _ _ _ _ _ _
      | exact ih2 _ _ _ _ _ _ _ _ _ _ _ _ _ _
      | exact impl_format_round.mono _ _ _ _ _ _ _
      | exact LeO.none _
      | refine LeO.ite ?_ ?_
      | refine LeO.bind ?_ (fun _ => ?_)
    · intro y0 y1 y2 y3 y4 y5 y6 y7 y8 y9 y10 y11 y12 y13
      unfold impl_FMul.j2
      repeat' first
      | (with_reducible exact ih0 _ _ _ _ _ _ _ _ _ _ _ _ _ _)
      | (with_reducible exact ih1 _ _ _ _ _ _ _ _ _ _ _ _ _ _)
      | (with_reducible exact ih2 _ _ _ _ _ _ _ _ _ _ _ _ _ _)
      | (with_reducible exact impl_format_round.mono _ _ _ _ _ _ _)
      | (with_reducible exact LeO.refl _)
      | (with_reducible exact LeO.none _)
      | (with_reducible refine LeO.ite ?_ ?_)
      | (with_reducible refine LeO.bind ?_ (fun _ => ?_))
      | exact ih0 _ _ _ _ _ _ _ _ _ _ _ _ _ _
      | exact ih1 _ _ _ _ _ _ _ _ _ _ _ _ _ _
      | exact ih2 _ _ _ _ _ _ _ _ _ _ _ _ _ _
      | exact impl_format_round.mono _ _ _ _ _ _ _
      | exact LeO.none _
      | refine LeO.ite ?_ ?_
      | refine LeO.bind ?_ (fun _ => ?_)
theorem impl_FMul.mono : ∀ a0 a1 a2 k, LeO (impl_FMul.f k a0 a1 a2) (impl_FMul.f (k + 1) a0 a1 a2) := by
  intro a0 a1 a2 k
  obtain ⟨ih0, ih1, ih2⟩ := impl_FMul.mono_l k
  unfold impl_FMul.f
  repeat' first
      | (with_reducible exact ih0 _ _ _ _ _ _ _ _ _ _ _ _ _ _)
      | (with_reducible exact ih1 _ _ _ _ _ _ _ _ _ _ _ _ _ _)
      | (with_reducible exact ih2 _ _ _ _ _ _ _ _ _ _ _ _ _ _)
      | (with_reducible exact impl_format_round.mono _ _ _ _ _ _ _)
      | (with_reducible exact LeO.refl _)
      | (with_reducible exact LeO.none _)
      | (with_reducible refine LeO.ite ?_ ?_)
      | (with_reducible refine LeO.bind ?_ (fun _ => ?_))
      | exact ih0 _ _ _ _ _ _ _ _ _ _ _ _ _ _
      | exact ih1 _ _ _ _ _ _ _ _ _ _ _ _ _ _
      | exact ih2 _ _ _ _ _ _ _ _ _ _ _ _ _ _
      | exact impl_format_round.mono _ _ _ _ _ _ _
      | exact LeO.none _
      | refine LeO.ite ?_ ?_
      | refine LeO.bind ?_ (fun _ => ?_)
def impl_FMul.T4 : Bool × List (List Nat × List Nat) := (true, [([], []), ([], []), ([0, 1], [0, 1]), ([], []), ([], []), ([3, 4, 2], [3, 4]), ([], []), ([], []), ([6, 2, 5, 0, 1, 2, 6, 7], [2, 6]), ([7, 5, 8, 0, 1, 2, 3, 4, 5, 6, 7, 8], [5, 7])])
def impl_FMul.B4 : List Nat := [0, 0, 3, 0, 0, 31, 0, 0, 255, 511]
theorem impl_FMul.tab4 : rtab .any (opsOf Try.f19 4) = impl_FMul.T4 := by kernel_rfl
theorem impl_FMul.bits4 : waitsOk impl_FMul.T4.2 impl_FMul.B4 = true := by kernel_rfl
set_option maxHeartbeats 8000000 in
set_option maxRecDepth 100000 in
theorem impl_FMul.calls (k : Nat) (a0 : Int) (a1 : Int) (a2 : Int) (r : Int) (w : World) (h : impl_FMul.f k a0 a1 a2 = some r) :
    Calls Try.prog 19 #[.int .i64 a0, .int .u32 a1, .int .u32 a2] w fun e w' => e = .returned (.int .u32 r) ∧ Below w.heap.size w w' := by
  have hu62 := Try.underlying62
  have hu66 := Try.underlying66
  have HB := Aside0.mk (Below.refl w.heap.size w)
  have H : ((impl_formatOf.f a0).bind fun bt204 => (if bt204.2.2 = true then ((impl_format_open.f bt204.1 bt204.2.1 a1).bind fun bt208 => ((impl_format_open.f bt204.1 bt204.2.1 a2).bind fun bt213 => (if bt208.2.2.1 = true then (if bt213.2.2.1 = true then (impl_FMul.j0 k (bt208.1 != bt213.1) false bt204.1 bt204.2.1 bt208.1 bt208.2.1 bt208.2.2.1 bt208.2.2.2.1 bt208.2.2.2.2 bt213.1 bt213.2.1 bt213.2.2.1 bt213.2.2.2.1 bt213.2.2.2.2) else (impl_FMul.j0 k (bt208.1 != bt213.1) (bt213.2.2.2.1 == 0) bt204.1 bt204.2.1 bt208.1 bt208.2.1 bt208.2.2.1 bt208.2.2.2.1 bt208.2.2.2.2 bt213.1 bt213.2.1 bt213.2.2.1 bt213.2.2.2.1 bt213.2.2.2.2)) else (if bt208.2.2.2.1 = 0 then (impl_FMul.j0 k (bt208.1 != bt213.1) true bt204.1 bt204.2.1 bt208.1 bt208.2.1 bt208.2.2.1 bt208.2.2.2.1 bt208.2.2.2.2 bt213.1 bt213.2.1 bt213.2.2.1 bt213.2.2.2.1 bt213.2.2.2.2) else (if bt213.2.2.1 = true then (impl_FMul.j0 k (bt208.1 != bt213.1) false bt204.1 bt204.2.1 bt208.1 bt208.2.1 bt208.2.2.1 bt208.2.2.2.1 bt208.2.2.2.2 bt213.1 bt213.2.1 bt213.2.2.1 bt213.2.2.2.1 bt213.2.2.2.2) else (impl_FMul.j0 k (bt208.1 != bt213.1) (bt213.2.2.2.1 == 0) bt204.1 bt204.2.1 bt208.1 bt208.2.1 bt208.2.2.1 bt208.2.2.2.1 bt208.2.2.2.2 bt213.1 bt213.2.1 bt213.2.2.1 bt213.2.2.2.1 bt213.2.2.2.2)))))) else (some 0))) = some r := h
  clear h
  replace H := Option.bind_eq_some_iff.mp H
  obtain ⟨⟨t204, t205, t206⟩, A40, H⟩ := H
  replace H : (if t206 = true then ((impl_format_open.f t204 t205 a1).bind fun bt208 => ((impl_format_open.f t204 t205 a2).bind fun bt213 => (if bt208.2.2.1 = true then (if bt213.2.2.1 = true then (impl_FMul.j0 k (bt208.1 != bt213.1) false t204 t205 bt208.1 bt208.2.1 bt208.2.2.1 bt208.2.2.2.1 bt208.2.2.2.2 bt213.1 bt213.2.1 bt213.2.2.1 bt213.2.2.2.1 bt213.2.2.2.2) else (impl_FMul.j0 k (bt208.1 != bt213.1) (bt213.2.2.2.1 == 0) t204 t205 bt208.1 bt208.2.1 bt208.2.2.1 bt208.2.2.2.1 bt208.2.2.2.2 bt213.1 bt213.2.1 bt213.2.2.1 bt213.2.2.2.1 bt213.2.2.2.2)) else (if bt208.2.2.2.1 = 0 then (impl_FMul.j0 k (bt208.1 != bt213.1) true t204 t205 bt208.1 bt208.2.1 bt208.2.2.1 bt208.2.2.2.1 bt208.2.2.2.2 bt213.1 bt213.2.1 bt213.2.2.1 bt213.2.2.2.1 bt213.2.2.2.2) else (if bt213.2.2.1 = true then (impl_FMul.j0 k (bt208.1 != bt213.1) false t204 t205 bt208.1 bt208.2.1 bt208.2.2.1 bt208.2.2.2.1 bt208.2.2.2.2 bt213.1 bt213.2.1 bt213.2.2.1 bt213.2.2.2.1 bt213.2.2.2.2) else (impl_FMul.j0 k (bt208.1 != bt213.1) (bt213.2.2.2.1 == 0) t204 t205 bt208.1 bt208.2.1 bt208.2.2.1 bt208.2.2.2.1 bt208.2.2.2.2 bt213.1 bt213.2.1 bt213.2.2.1 bt213.2.2.2.1 bt213.2.2.2.2)))))) else (some 0)) = some r := H
  have A4 := Aside0.mk A40
  clear A40
  by_cases c5 : t206 = true
  · subst c5
    have H1 : ((impl_format_open.f t204 t205 a1).bind fun bt208 => ((impl_format_open.f t204 t205 a2).bind fun bt213 => (if bt208.2.2.1 = true then (if bt213.2.2.1 = true then (impl_FMul.j0 k (bt208.1 != bt213.1) false t204 t205 bt208.1 bt208.2.1 bt208.2.2.1 bt208.2.2.2.1 bt208.2.2.2.2 bt213.1 bt213.2.1 bt213.2.2.1 bt213.2.2.2.1 bt213.2.2.2.2) else (impl_FMul.j0 k (bt208.1 != bt213.1) (bt213.2.2.2.1 == 0) t204 t205 bt208.1 bt208.2.1 bt208.2.2.1 bt208.2.2.2.1 bt208.2.2.2.2 bt213.1 bt213.2.1 bt213.2.2.1 bt213.2.2.2.1 bt213.2.2.2.2)) else (if bt208.2.2.2.1 = 0 then (impl_FMul.j0 k (bt208.1 != bt213.1) true t204 t205 bt208.1 bt208.2.1 bt208.2.2.1 bt208.2.2.2.1 bt208.2.2.2.2 bt213.1 bt213.2.1 bt213.2.2.1 bt213.2.2.2.1 bt213.2.2.2.2) else (if bt213.2.2.1 = true then (impl_FMul.j0 k (bt208.1 != bt213.1) false t204 t205 bt208.1 bt208.2.1 bt208.2.2.1 bt208.2.2.2.1 bt208.2.2.2.2 bt213.1 bt213.2.1 bt213.2.2.1 bt213.2.2.2.1 bt213.2.2.2.2) else (impl_FMul.j0 k (bt208.1 != bt213.1) (bt213.2.2.2.1 == 0) t204 t205 bt208.1 bt208.2.1 bt208.2.2.1 bt208.2.2.2.1 bt208.2.2.2.2 bt213.1 bt213.2.1 bt213.2.2.1 bt213.2.2.2.1 bt213.2.2.2.2)))))) = some r := by rw [if_pos rfl] at H; exact H
    clear H
    have H := H1
    clear H1
    replace H := Option.bind_eq_some_iff.mp H
    obtain ⟨⟨t208, t209, t210, t211, t212⟩, A60, H⟩ := H
    replace H : ((impl_format_open.f t204 t205 a2).bind fun bt213 => (if t210 = true then (if bt213.2.2.1 = true then (impl_FMul.j0 k (t208 != bt213.1) false t204 t205 t208 t209 t210 t211 t212 bt213.1 bt213.2.1 bt213.2.2.1 bt213.2.2.2.1 bt213.2.2.2.2) else (impl_FMul.j0 k (t208 != bt213.1) (bt213.2.2.2.1 == 0) t204 t205 t208 t209 t210 t211 t212 bt213.1 bt213.2.1 bt213.2.2.1 bt213.2.2.2.1 bt213.2.2.2.2)) else (if t211 = 0 then (impl_FMul.j0 k (t208 != bt213.1) true t204 t205 t208 t209 t210 t211 t212 bt213.1 bt213.2.1 bt213.2.2.1 bt213.2.2.2.1 bt213.2.2.2.2) else (if bt213.2.2.1 = true then (impl_FMul.j0 k (t208 != bt213.1) false t204 t205 t208 t209 t210 t211 t212 bt213.1 bt213.2.1 bt213.2.2.1 bt213.2.2.2.1 bt213.2.2.2.2) else (impl_FMul.j0 k (t208 != bt213.1) (bt213.2.2.2.1 == 0) t204 t205 t208 t209 t210 t211 t212 bt213.1 bt213.2.1 bt213.2.2.1 bt213.2.2.2.1 bt213.2.2.2.2))))) = some r := H
    have A6 := Aside0.mk A60
    clear A60
    replace H := Option.bind_eq_some_iff.mp H
    obtain ⟨⟨t213, t214, t215, t216, t217⟩, A70, H⟩ := H
    replace H : (if t210 = true then (if t215 = true then (impl_FMul.j0 k (t208 != t213) false t204 t205 t208 t209 t210 t211 t212 t213 t214 t215 t216 t217) else (impl_FMul.j0 k (t208 != t213) (t216 == 0) t204 t205 t208 t209 t210 t211 t212 t213 t214 t215 t216 t217)) else (if t211 = 0 then (impl_FMul.j0 k (t208 != t213) true t204 t205 t208 t209 t210 t211 t212 t213 t214 t215 t216 t217) else (if t215 = true then (impl_FMul.j0 k (t208 != t213) false t204 t205 t208 t209 t210 t211 t212 t213 t214 t215 t216 t217) else (impl_FMul.j0 k (t208 != t213) (t216 == 0) t204 t205 t208 t209 t210 t211 t212 t213 t214 t215 t216 t217)))) = some r := H
    have A7 := Aside0.mk A70
    clear A70
    have HC8 := Aside0.mk H
    clear H
    go_enter Try.func19, Try.ntmps19
    try go_wp2_with (first | ((with_reducible refine gate_callee (f := 51) rfl ?_); refine goesL_ (some 15) rfl rfl Try.func51 (by kernel_rfl) rfl #[.int .i64 a0] rfl (by (try simp only [List.map_toArray, List.map_cons, List.map_nil]); first | done | rfl | (simp only [List.length_drop, List.length_take]; rfl)) ?_; (with_reducible refine (impl_formatOf.calls a0 t204 t205 true _ A4.out).mono ?_); rintro e w9 ⟨rfl, hb⟩; refine ⟨_, rfl, ?_⟩; have n0_ := Aside0.mk (below_step (by repeat (first | (with_reducible first | exact HB.out | apply below_alloc | apply pw_below_drewN | apply below_drew1) | exact HB.out)) hb); clear HB; have HB := n0_; clear n0_; (try clear hb); (try clear hb2); (try clear hk); (try clear hi)) | ((with_reducible refine gate_dst (N := 7) rfl ?_); refine box_event ?hg (N := 7) ?hd (cs := #[.int .i64 0, .int .i64 0]) (t := 62) ?hr ?_; (case hd => rfl); (case hg => rfl); (case hr => first | (go_simp; done) | (go_simp; rfl)); intro gb207 hg w10 hbox hb; have n0_ := Aside0.mk (below_step (by repeat (first | (with_reducible first | exact HB.out | apply below_alloc | apply pw_below_drewN | apply below_drew1) | exact HB.out)) hb); have n1_ := Aside0.mk (hbox); have n2_ := Aside0.mk ((by rw [hg]; exact (below_size (by repeat (first | (with_reducible first | exact HB.out | apply below_alloc | apply pw_below_drewN | apply below_drew1) | exact HB.out))) : w.heap.size ≤ gb207)); have n3_ := Aside0.mk ((by rw [hg]; exact (below_size (by repeat (first | (with_reducible first | exact HB.out | apply below_alloc | apply pw_below_drewN | apply below_drew1) | exact HB.out))) : w.heap.size ≤ gb207)); clear HB; have HB := n0_; have BK207 := n1_; have GW207 := n2_; have GE207 := n3_; clear n0_ n1_ n2_ n3_; clear hb hbox hg; have hcz11_0 : w10.cell? ⟨gb207, 0, none⟩ = some (.int .i64 0) := (blk_cell BK207.out 0).trans rfl; have hcz11_1 : w10.cell? ⟨gb207, 1, none⟩ = some (.int .i64 0) := (blk_cell BK207.out 1).trans rfl; have hfz11_0 := blk_frozen BK207.out 0; have hfz11_1 := blk_frozen BK207.out 1))
    have n0_ : Aside0 (((w10.setCell ⟨gb207, 0, none⟩ (.int .i64 t204)).setCell ⟨gb207, 1, none⟩ (.int .i64 t205)).heap[gb207]? = some (.cells #[.int .i64 t204, .int .i64 t205] 62 (0, 0))) := ⟨by (with_reducible repeat (first | refine blk_drewN ?_ _ | refine blk_drew ?_ | refine blk_alloc ?_ _)); refine blk_put (cs := #[.int .i64 t204, .int .i64 0]) ?_ 1 _ rfl; (with_reducible repeat (first | refine blk_drewN ?_ _ | refine blk_drew ?_ | refine blk_alloc ?_ _)); refine blk_put (cs := #[.int .i64 0, .int .i64 0]) ?_ 0 _ rfl; (with_reducible repeat (first | refine blk_drewN ?_ _ | refine blk_drew ?_ | refine blk_alloc ?_ _)); exact BK207.out⟩
    have n1_ : Aside0 (Below w.heap.size w ((w10.setCell ⟨gb207, 0, none⟩ (.int .i64 t204)).setCell ⟨gb207, 1, none⟩ (.int .i64 t205))) := ⟨by repeat (first | (with_reducible first | exact HB.out | apply below_alloc | apply pw_below_drewN | apply below_drew1 | refine below_set ?_ GE207.out) | exact HB.out)⟩
    (try clear BK207)
    (try clear HB)
    generalize ((w10.setCell ⟨gb207, 0, none⟩ (.int .i64 t204)).setCell ⟨gb207, 1, none⟩ (.int .i64 t205)) = w12 at n0_ n1_ ⊢
    have BK207 := n0_
    have HB := n1_
    clear n0_ n1_
    have n0_ := Aside0.mk (blk_drew BK207.out)
    have n1_ := Aside0.mk (below_drew1 HB.out)
    clear BK207
    clear HB
    have BK207 := n0_
    have HB := n1_
    clear n0_ n1_
    refine start_ (n := 10) (S := fun w' => w'.cell? ⟨gb207, 0, none⟩ = some (.int .i64 t204) ∧ w'.cell? ⟨gb207, 1, none⟩ = some (.int .i64 t205)) (ds := []) #[false, false, false, false, false, false, false, false, false, false] (by kernel_rfl) rfl rfl ⟨(blk_cell BK207.out 0).trans rfl, (blk_cell BK207.out 1).trans rfl⟩ (fun hHeld => ?_); refine with_tabW impl_FMul.tab4 impl_FMul.bits4 (fun HT_ HW_ => ?_)
    generalize w12.drew = w13 at BK207 HB hHeld ⊢
    refine pure_ (i := 1) (N := some 21) (v := ?_) (a' := ?_) #[false, true, false, false, false, false, false, false, false, false] rfl rfl (any_of HT_.out (by kernel_rfl)) (fun _ _ _ h => h) (Or.inl ⟨by rfl, ?_⟩) ?_ ?_
    rotate_left
    · intro w'
      go_simp
      with_reducible rfl
    rotate_left
    · simp only [Act.put, List.setIfInBounds_toArray, List.set_cons_zero, List.set_cons_succ, i64_w, i32_w]
      rfl
    refine pure_ (i := 4) (N := some 24) (v := ?_) (a' := ?_) #[false, true, false, false, true, false, false, false, false, false] rfl rfl (any_of HT_.out (by kernel_rfl)) (fun _ _ _ h => h) (Or.inl ⟨by rfl, ?_⟩) ?_ ?_
    rotate_left
    · intro w'
      go_simp
      with_reducible rfl
    rotate_left
    · simp only [Act.put, List.setIfInBounds_toArray, List.set_cons_zero, List.set_cons_succ, i64_w, i32_w]
      rfl
    refine take_ (i := 0) (N := some 20) (v := ?_) (a' := ?_) #[true, true, false, false, true, false, false, false, false, false] rfl rfl (take_ofW HT_.out HW_.out (by kernel_rfl)) (fun _ _ _ h => h) (Or.inl ⟨by rfl, ?_⟩) hHeld ?_ ?_
    rotate_left
    · rintro w' ⟨s0, s1⟩
      go_simp
      with_reducible rfl
    rotate_left
    · simp only [Act.put, List.setIfInBounds_toArray, List.set_cons_zero, List.set_cons_succ, i64_w, i32_w]
      rfl
    refine take_ (i := 3) (N := some 23) (v := ?_) (a' := ?_) #[true, true, false, true, true, false, false, false, false, false] rfl rfl (take_ofW HT_.out HW_.out (by kernel_rfl)) (fun _ _ _ h => h) (Or.inl ⟨by rfl, ?_⟩) hHeld ?_ ?_
    rotate_left
    · rintro w' ⟨s0, s1⟩
      go_simp
      with_reducible rfl
    rotate_left
    · simp only [Act.put, List.setIfInBounds_toArray, List.set_cons_zero, List.set_cons_succ, i64_w, i32_w]
      rfl
    refine join_ (σ := Nat × Nat) 2 #[true, true, true, true, true, true, true, true, false, false] (fun s_ => [(22, .agg #[.bool t208, .bool t209, .bool t210, .int .u64 t211, .int .i64 t212]), (25, .agg #[.bool t213, .bool t214, .bool t215, .int .u64 t216, .int .i64 t217]), (9, .pointer (some ⟨s_.1, 0, none⟩)), (10, .pointer (some ⟨s_.2, 0, none⟩))]) (fun s_ w' => (w'.cell? ⟨gb207, 0, none⟩ = some (.int .i64 t204) ∧ w'.cell? ⟨gb207, 1, none⟩ = some (.int .i64 t205)) ∧ (w'.heap[gb207]? = some (.cells #[.int .i64 t204, .int .i64 t205] 62 (0, 0))) ∧ (w'.heap[s_.1]? = some (.cells #[.bool false, .bool false, .bool false, .int .u64 0, .int .i64 0] 66 (0, 0))) ∧ (w'.heap[s_.2]? = some (.cells #[.bool false, .bool false, .bool false, .int .u64 0, .int .i64 0] 66 (0, 0))) ∧ (w.heap.size ≤ s_.1) ∧ (w.heap.size ≤ s_.1) ∧ (gb207 ≠ s_.1) ∧ (s_.1 ≠ gb207) ∧ (s_.2 ≠ s_.1) ∧ (s_.1 ≠ s_.2) ∧ (w.heap.size ≤ s_.2) ∧ (w.heap.size ≤ s_.2) ∧ (gb207 ≠ s_.2) ∧ (s_.2 ≠ gb207) ∧ (Below w.heap.size w w')) ?_ ?_
    rotate_left
    · intro hJ2_5_6_7
      refine join_ (σ := Nat) 3 #[true, true, true, true, true, true, true, false, false, false] (fun s_ => [(22, .agg #[.bool t208, .bool t209, .bool t210, .int .u64 t211, .int .i64 t212]), (25, .agg #[.bool t213, .bool t214, .bool t215, .int .u64 t216, .int .i64 t217]), (9, .pointer (some ⟨s_, 0, none⟩))]) (fun s_ w' => (w'.cell? ⟨gb207, 0, none⟩ = some (.int .i64 t204) ∧ w'.cell? ⟨gb207, 1, none⟩ = some (.int .i64 t205)) ∧ (w'.heap[gb207]? = some (.cells #[.int .i64 t204, .int .i64 t205] 62 (0, 0))) ∧ (w'.heap[s_]? = some (.cells #[.bool false, .bool false, .bool false, .int .u64 0, .int .i64 0] 66 (0, 0))) ∧ (w.heap.size ≤ s_) ∧ (w.heap.size ≤ s_) ∧ (gb207 ≠ s_) ∧ (s_ ≠ gb207) ∧ (Below w.heap.size w w')) ?_ ?_
      rotate_left
      · intro hJ2_5_6
        refine join_ (σ := Nat) 3 #[true, true, true, true, true, true, false, true, false, false] (fun s_ => [(22, .agg #[.bool t208, .bool t209, .bool t210, .int .u64 t211, .int .i64 t212]), (25, .agg #[.bool t213, .bool t214, .bool t215, .int .u64 t216, .int .i64 t217]), (10, .pointer (some ⟨s_, 0, none⟩))]) (fun s_ w' => (w'.cell? ⟨gb207, 0, none⟩ = some (.int .i64 t204) ∧ w'.cell? ⟨gb207, 1, none⟩ = some (.int .i64 t205)) ∧ (w'.heap[gb207]? = some (.cells #[.int .i64 t204, .int .i64 t205] 62 (0, 0))) ∧ (w'.heap[s_]? = some (.cells #[.bool false, .bool false, .bool false, .int .u64 0, .int .i64 0] 66 (0, 0))) ∧ (w.heap.size ≤ s_) ∧ (w.heap.size ≤ s_) ∧ (gb207 ≠ s_) ∧ (s_ ≠ gb207) ∧ (Below w.heap.size w w')) ?_ ?_
        rotate_left
        · intro hJ2_5_7
          refine join_ (σ := Nat × Nat) 3 #[true, true, true, true, true, false, true, true, false, false] (fun s_ => [(22, .agg #[.bool t208, .bool t209, .bool t210, .int .u64 t211, .int .i64 t212]), (9, .pointer (some ⟨s_.1, 0, none⟩)), (10, .pointer (some ⟨s_.2, 0, none⟩))]) (fun s_ w' => (w'.cell? ⟨gb207, 0, none⟩ = some (.int .i64 t204) ∧ w'.cell? ⟨gb207, 1, none⟩ = some (.int .i64 t205)) ∧ (w'.heap[gb207]? = some (.cells #[.int .i64 t204, .int .i64 t205] 62 (0, 0))) ∧ (w'.heap[s_.1]? = some (.cells #[.bool false, .bool false, .bool false, .int .u64 0, .int .i64 0] 66 (0, 0))) ∧ (w'.heap[s_.2]? = some (.cells #[.bool false, .bool false, .bool false, .int .u64 0, .int .i64 0] 66 (0, 0))) ∧ (w.heap.size ≤ s_.1) ∧ (w.heap.size ≤ s_.1) ∧ (gb207 ≠ s_.1) ∧ (s_.1 ≠ gb207) ∧ (s_.2 ≠ s_.1) ∧ (s_.1 ≠ s_.2) ∧ (w.heap.size ≤ s_.2) ∧ (w.heap.size ≤ s_.2) ∧ (gb207 ≠ s_.2) ∧ (s_.2 ≠ gb207) ∧ (Below w.heap.size w w')) ?_ ?_
          rotate_left
          · intro hJ2_6_7
            refine join_ (σ := Unit) 4 #[true, true, true, true, true, true, false, false, false, false] (fun s_ => [(22, .agg #[.bool t208, .bool t209, .bool t210, .int .u64 t211, .int .i64 t212]), (25, .agg #[.bool t213, .bool t214, .bool t215, .int .u64 t216, .int .i64 t217])]) (fun s_ w' => (w'.cell? ⟨gb207, 0, none⟩ = some (.int .i64 t204) ∧ w'.cell? ⟨gb207, 1, none⟩ = some (.int .i64 t205)) ∧ (w'.heap[gb207]? = some (.cells #[.int .i64 t204, .int .i64 t205] 62 (0, 0))) ∧ (Below w.heap.size w w')) ?_ ?_
            rotate_left
            · intro hJ2_5
              refine join_ (σ := Nat) 4 #[true, true, true, true, true, false, true, false, false, false] (fun s_ => [(22, .agg #[.bool t208, .bool t209, .bool t210, .int .u64 t211, .int .i64 t212]), (9, .pointer (some ⟨s_, 0, none⟩))]) (fun s_ w' => (w'.cell? ⟨gb207, 0, none⟩ = some (.int .i64 t204) ∧ w'.cell? ⟨gb207, 1, none⟩ = some (.int .i64 t205)) ∧ (w'.heap[gb207]? = some (.cells #[.int .i64 t204, .int .i64 t205] 62 (0, 0))) ∧ (w'.heap[s_]? = some (.cells #[.bool false, .bool false, .bool false, .int .u64 0, .int .i64 0] 66 (0, 0))) ∧ (w.heap.size ≤ s_) ∧ (w.heap.size ≤ s_) ∧ (gb207 ≠ s_) ∧ (s_ ≠ gb207) ∧ (Below w.heap.size w w')) ?_ ?_
              rotate_left
              · intro hJ2_6
                refine join_ (σ := Nat) 4 #[true, true, true, true, true, false, false, true, false, false] (fun s_ => [(22, .agg #[.bool t208, .bool t209, .bool t210, .int .u64 t211, .int .i64 t212]), (10, .pointer (some ⟨s_, 0, none⟩))]) (fun s_ w' => (w'.cell? ⟨gb207, 0, none⟩ = some (.int .i64 t204) ∧ w'.cell? ⟨gb207, 1, none⟩ = some (.int .i64 t205)) ∧ (w'.heap[gb207]? = some (.cells #[.int .i64 t204, .int .i64 t205] 62 (0, 0))) ∧ (w'.heap[s_]? = some (.cells #[.bool false, .bool false, .bool false, .int .u64 0, .int .i64 0] 66 (0, 0))) ∧ (w.heap.size ≤ s_) ∧ (w.heap.size ≤ s_) ∧ (gb207 ≠ s_) ∧ (s_ ≠ gb207) ∧ (Below w.heap.size w w')) ?_ ?_
                rotate_left
                · intro hJ2_7
                  refine join_ (σ := Nat × Nat) 4 #[true, true, false, true, true, false, true, true, false, false] (fun s_ => [(9, .pointer (some ⟨s_.1, 0, none⟩)), (10, .pointer (some ⟨s_.2, 0, none⟩))]) (fun s_ w' => (w'.cell? ⟨gb207, 0, none⟩ = some (.int .i64 t204) ∧ w'.cell? ⟨gb207, 1, none⟩ = some (.int .i64 t205)) ∧ (w'.heap[gb207]? = some (.cells #[.int .i64 t204, .int .i64 t205] 62 (0, 0))) ∧ (w'.heap[s_.1]? = some (.cells #[.bool false, .bool false, .bool false, .int .u64 0, .int .i64 0] 66 (0, 0))) ∧ (w'.heap[s_.2]? = some (.cells #[.bool false, .bool false, .bool false, .int .u64 0, .int .i64 0] 66 (0, 0))) ∧ (w.heap.size ≤ s_.1) ∧ (w.heap.size ≤ s_.1) ∧ (gb207 ≠ s_.1) ∧ (s_.1 ≠ gb207) ∧ (s_.2 ≠ s_.1) ∧ (s_.1 ≠ s_.2) ∧ (w.heap.size ≤ s_.2) ∧ (w.heap.size ≤ s_.2) ∧ (gb207 ≠ s_.2) ∧ (s_.2 ≠ gb207) ∧ (Below w.heap.size w w')) ?_ ?_
                  rotate_left
                  · intro hJ6_7
                    refine join_ (σ := Unit) 5 #[true, true, true, true, true, false, false, false, false, false] (fun s_ => [(22, .agg #[.bool t208, .bool t209, .bool t210, .int .u64 t211, .int .i64 t212])]) (fun s_ w' => (w'.cell? ⟨gb207, 0, none⟩ = some (.int .i64 t204) ∧ w'.cell? ⟨gb207, 1, none⟩ = some (.int .i64 t205)) ∧ (w'.heap[gb207]? = some (.cells #[.int .i64 t204, .int .i64 t205] 62 (0, 0))) ∧ (Below w.heap.size w w')) ?_ ?_
                    rotate_left
                    · intro hJ2
                      refine join_ (σ := Nat) 5 #[true, true, false, true, true, false, true, false, false, false] (fun s_ => [(9, .pointer (some ⟨s_, 0, none⟩))]) (fun s_ w' => (w'.cell? ⟨gb207, 0, none⟩ = some (.int .i64 t204) ∧ w'.cell? ⟨gb207, 1, none⟩ = some (.int .i64 t205)) ∧ (w'.heap[gb207]? = some (.cells #[.int .i64 t204, .int .i64 t205] 62 (0, 0))) ∧ (w'.heap[s_]? = some (.cells #[.bool false, .bool false, .bool false, .int .u64 0, .int .i64 0] 66 (0, 0))) ∧ (w.heap.size ≤ s_) ∧ (w.heap.size ≤ s_) ∧ (gb207 ≠ s_) ∧ (s_ ≠ gb207) ∧ (Below w.heap.size w w')) ?_ ?_
                      rotate_left
                      · intro hJ6
                        refine join_ (σ := Nat) 5 #[true, true, false, true, true, false, false, true, false, false] (fun s_ => [(10, .pointer (some ⟨s_, 0, none⟩))]) (fun s_ w' => (w'.cell? ⟨gb207, 0, none⟩ = some (.int .i64 t204) ∧ w'.cell? ⟨gb207, 1, none⟩ = some (.int .i64 t205)) ∧ (w'.heap[gb207]? = some (.cells #[.int .i64 t204, .int .i64 t205] 62 (0, 0))) ∧ (w'.heap[s_]? = some (.cells #[.bool false, .bool false, .bool false, .int .u64 0, .int .i64 0] 66 (0, 0))) ∧ (w.heap.size ≤ s_) ∧ (w.heap.size ≤ s_) ∧ (gb207 ≠ s_) ∧ (s_ ≠ gb207) ∧ (Below w.heap.size w w')) ?_ ?_
                        rotate_left
                        · intro hJ7
                          refine three_ (i := 2) (j := 6) (k := 7) (Ni := some 22) (Nj := some 9) (Nk := some 10) #[true, true, true, true, true, false, false, false, false, false] #[true, true, false, true, true, false, true, false, false, false] #[true, true, false, true, true, false, false, true, false, false] rfl rfl rfl rfl rfl rfl (three_of HT_.out (by kernel_rfl)) (by decide) (by decide) (by decide) (fun K hK => ?_) (fun K hK => ?_) (fun K hK => ?_)
                          · skip
                            refine goes_ Try.func52 (by kernel_rfl) rfl #[.agg #[.int .i64 t204, .int .i64 t205], .int .u32 a1] (by rfl) rfl rfl (by (try simp only [List.map_toArray, List.map_cons, List.map_nil]); first | done | rfl | (simp only [List.length_drop, List.length_take]; rfl)) ?_
                            with_reducible refine (impl_format_open.calls t204 t205 a1 t208 t209 t210 t211 t212 _ A6.out).mono ?_
                            rintro e w14 ⟨rfl, hb⟩
                            refine ⟨_, rfl, ?_⟩
                            have n0_ := Aside0.mk (blk_below (g := gb207) (o := .cells #[.int .i64 t204, .int .i64 t205] 62 (0, 0)) (by (with_reducible repeat (first | refine blk_drewN ?_ _ | refine blk_drew ?_ | refine blk_alloc ?_ _)); exact BK207.out) hb)
                            have n1_ := Aside0.mk (below_step (by repeat (first | (with_reducible first | exact HB.out | apply below_alloc | apply pw_below_drewN | apply below_drew1 | refine below_set ?_ GE207.out) | exact HB.out)) hb)
                            clear BK207
                            clear HB
                            have BK207 := n0_
                            have HB := n1_
                            clear n0_ n1_
                            (try clear hb)
                            (try clear hb2)
                            (try clear hk)
                            (try clear hi)
                            refine hK.out _ _ ⟨(blk_cell BK207.out 0).trans rfl, (blk_cell BK207.out 1).trans rfl⟩ (fun hHeld => ?_)
                            clear hK K
                            refine norm_ (a' := ?_) ?_ ?_
                            rotate_left
                            · show Act.put _ (some 22) _ = _
                              simp only [Act.put, List.setIfInBounds_toArray, List.set_cons_zero, List.set_cons_succ, i64_w, i32_w]
                              rfl
                            exact norm_ (by first | (simp only [putAll, Act.put, List.setIfInBounds_toArray, List.set_cons_zero, List.set_cons_succ]; done) | (simp only [putAll, Act.put, List.setIfInBounds_toArray, List.set_cons_zero, List.set_cons_succ]; rfl)) (hJ2 () _ ⟨hHeld, (by (with_reducible repeat (first | refine blk_drewN ?_ _ | refine blk_drew ?_ | refine blk_alloc ?_ _)); exact BK207.out), (by repeat (first | (with_reducible first | exact HB.out | apply below_alloc | apply pw_below_drewN | apply below_drew1 | refine below_set ?_ GE207.out) | exact HB.out))⟩)
                          · skip
                            refine box_step ?hg (N := 9) ?hd (cs := #[.bool false, .bool false, .bool false, .int .u64 0, .int .i64 0]) (t := 66) ?hr ?_; (case hd => rfl); (case hg => rfl); (case hr => first | (go_simp; done) | (go_simp; rfl))
                            intro gb218 hg w14 hbox hb
                            have n0_ := Aside0.mk (blk_below (g := gb207) (o := .cells #[.int .i64 t204, .int .i64 t205] 62 (0, 0)) (by (with_reducible repeat (first | refine blk_drewN ?_ _ | refine blk_drew ?_ | refine blk_alloc ?_ _)); exact BK207.out) hb)
                            have n1_ := Aside0.mk (below_step (by repeat (first | (with_reducible first | exact HB.out | apply below_alloc | apply pw_below_drewN | apply below_drew1 | refine below_set ?_ GE207.out) | exact HB.out)) hb)
                            have n2_ := Aside0.mk (hbox)
                            have n3_ := Aside0.mk ((by rw [hg]; exact (below_size (by repeat (first | (with_reducible first | exact HB.out | apply below_alloc | apply pw_below_drewN | apply below_drew1 | refine below_set ?_ GE207.out) | exact HB.out))) : w.heap.size ≤ gb218))
                            have n4_ := Aside0.mk ((by rw [hg]; exact (below_size (by repeat (first | (with_reducible first | exact HB.out | apply below_alloc | apply pw_below_drewN | apply below_drew1 | refine below_set ?_ GE207.out) | exact HB.out))) : w.heap.size ≤ gb218))
                            have n5_ := Aside0.mk ((by rw [hg]; exact Nat.ne_of_lt (blk_lt (g := gb207) (o := .cells #[.int .i64 t204, .int .i64 t205] 62 (0, 0)) (by (with_reducible repeat (first | refine blk_drewN ?_ _ | refine blk_drew ?_ | refine blk_alloc ?_ _)); exact BK207.out)) : gb207 ≠ gb218))
                            have n6_ := Aside0.mk ((by rw [hg]; exact Nat.ne_of_gt (blk_lt (g := gb207) (o := .cells #[.int .i64 t204, .int .i64 t205] 62 (0, 0)) (by (with_reducible repeat (first | refine blk_drewN ?_ _ | refine blk_drew ?_ | refine blk_alloc ?_ _)); exact BK207.out)) : gb218 ≠ gb207))
                            clear BK207
                            clear HB
                            have BK207 := n0_
                            have HB := n1_
                            have BK218 := n2_
                            have GW218 := n3_
                            have GE218 := n4_
                            have NB207_218 := n5_
                            have NB218_207 := n6_
                            clear n0_ n1_ n2_ n3_ n4_ n5_ n6_
                            clear hb hbox hg
                            refine hK.out _ _ ⟨(blk_cell BK207.out 0).trans rfl, (blk_cell BK207.out 1).trans rfl⟩ (fun hHeld => ?_)
                            clear hK K
                            refine norm_ (a' := ?_) ?_ ?_
                            rotate_left
                            · show Act.put _ (some 9) _ = _
                              simp only [Act.put, List.setIfInBounds_toArray, List.set_cons_zero, List.set_cons_succ, i64_w, i32_w]
                              rfl
                            exact norm_ (by first | (simp only [putAll, Act.put, List.setIfInBounds_toArray, List.set_cons_zero, List.set_cons_succ]; done) | (simp only [putAll, Act.put, List.setIfInBounds_toArray, List.set_cons_zero, List.set_cons_succ]; rfl)) (hJ6 (gb218) _ ⟨hHeld, (by (with_reducible repeat (first | refine blk_drewN ?_ _ | refine blk_drew ?_ | refine blk_alloc ?_ _)); exact BK207.out), (by (with_reducible repeat (first | refine blk_drewN ?_ _ | refine blk_drew ?_ | refine blk_alloc ?_ _)); exact BK218.out), GW218.out, GE218.out, NB207_218.out, NB218_207.out, (by repeat (first | (with_reducible first | exact HB.out | apply below_alloc | apply pw_below_drewN | apply below_drew1 | refine below_set ?_ GE207.out | refine below_set ?_ GE218.out) | exact HB.out))⟩)
                          · skip
                            refine box_step ?hg (N := 10) ?hd (cs := #[.bool false, .bool false, .bool false, .int .u64 0, .int .i64 0]) (t := 66) ?hr ?_; (case hd => rfl); (case hg => rfl); (case hr => first | (go_simp; done) | (go_simp; rfl))
                            intro gb219 hg w14 hbox hb
                            have n0_ := Aside0.mk (blk_below (g := gb207) (o := .cells #[.int .i64 t204, .int .i64 t205] 62 (0, 0)) (by (with_reducible repeat (first | refine blk_drewN ?_ _ | refine blk_drew ?_ | refine blk_alloc ?_ _)); exact BK207.out) hb)
                            have n1_ := Aside0.mk (below_step (by repeat (first | (with_reducible first | exact HB.out | apply below_alloc | apply pw_below_drewN | apply below_drew1 | refine below_set ?_ GE207.out) | exact HB.out)) hb)
                            have n2_ := Aside0.mk (hbox)
                            have n3_ := Aside0.mk ((by rw [hg]; exact (below_size (by repeat (first | (with_reducible first | exact HB.out | apply below_alloc | apply pw_below_drewN | apply below_drew1 | refine below_set ?_ GE207.out) | exact HB.out))) : w.heap.size ≤ gb219))
                            have n4_ := Aside0.mk ((by rw [hg]; exact (below_size (by repeat (first | (with_reducible first | exact HB.out | apply below_alloc | apply pw_below_drewN | apply below_drew1 | refine below_set ?_ GE207.out) | exact HB.out))) : w.heap.size ≤ gb219))
                            have n5_ := Aside0.mk ((by rw [hg]; exact Nat.ne_of_lt (blk_lt (g := gb207) (o := .cells #[.int .i64 t204, .int .i64 t205] 62 (0, 0)) (by (with_reducible repeat (first | refine blk_drewN ?_ _ | refine blk_drew ?_ | refine blk_alloc ?_ _)); exact BK207.out)) : gb207 ≠ gb219))
                            have n6_ := Aside0.mk ((by rw [hg]; exact Nat.ne_of_gt (blk_lt (g := gb207) (o := .cells #[.int .i64 t204, .int .i64 t205] 62 (0, 0)) (by (with_reducible repeat (first | refine blk_drewN ?_ _ | refine blk_drew ?_ | refine blk_alloc ?_ _)); exact BK207.out)) : gb219 ≠ gb207))
                            clear BK207
                            clear HB
                            have BK207 := n0_
                            have HB := n1_
                            have BK219 := n2_
                            have GW219 := n3_
                            have GE219 := n4_
                            have NB207_219 := n5_
                            have NB219_207 := n6_
                            clear n0_ n1_ n2_ n3_ n4_ n5_ n6_
                            clear hb hbox hg
                            refine hK.out _ _ ⟨(blk_cell BK207.out 0).trans rfl, (blk_cell BK207.out 1).trans rfl⟩ (fun hHeld => ?_)
                            clear hK K
                            refine norm_ (a' := ?_) ?_ ?_
                            rotate_left
                            · show Act.put _ (some 10) _ = _
                              simp only [Act.put, List.setIfInBounds_toArray, List.set_cons_zero, List.set_cons_succ, i64_w, i32_w]
                              rfl
                            exact norm_ (by first | (simp only [putAll, Act.put, List.setIfInBounds_toArray, List.set_cons_zero, List.set_cons_succ]; done) | (simp only [putAll, Act.put, List.setIfInBounds_toArray, List.set_cons_zero, List.set_cons_succ]; rfl)) (hJ7 (gb219) _ ⟨hHeld, (by (with_reducible repeat (first | refine blk_drewN ?_ _ | refine blk_drew ?_ | refine blk_alloc ?_ _)); exact BK207.out), (by (with_reducible repeat (first | refine blk_drewN ?_ _ | refine blk_drew ?_ | refine blk_alloc ?_ _)); exact BK219.out), GW219.out, GE219.out, NB207_219.out, NB219_207.out, (by repeat (first | (with_reducible first | exact HB.out | apply below_alloc | apply pw_below_drewN | apply below_drew1 | refine below_set ?_ GE207.out | refine below_set ?_ GE219.out) | exact HB.out))⟩)
                        · skip
                          rintro gb219 w15 ⟨hS_, h0_, h1_, h2_, h3_, h4_, h5_, h6_⟩
                          have n0_ : Aside0 (w15.heap[gb207]? = some (.cells #[.int .i64 t204, .int .i64 t205] 62 (0, 0))) := ⟨h0_⟩
                          have n1_ : Aside0 (w15.heap[gb219]? = some (.cells #[.bool false, .bool false, .bool false, .int .u64 0, .int .i64 0] 66 (0, 0))) := ⟨h1_⟩
                          have n2_ : Aside0 (w.heap.size ≤ gb219) := ⟨h2_⟩
                          have n3_ : Aside0 (w.heap.size ≤ gb219) := ⟨h3_⟩
                          have n4_ : Aside0 (gb207 ≠ gb219) := ⟨h4_⟩
                          have n5_ : Aside0 (gb219 ≠ gb207) := ⟨h5_⟩
                          have n6_ : Aside0 (Below w.heap.size w w15) := ⟨h6_⟩
                          clear BK207
                          clear HB
                          clear h0_ h1_ h2_ h3_ h4_ h5_ h6_
                          have BK207 := n0_
                          have BK219 := n1_
                          have GW219 := n2_
                          have GE219 := n3_
                          have NB207_219 := n4_
                          have NB219_207 := n5_
                          have HB := n6_
                          clear n0_ n1_ n2_ n3_ n4_ n5_ n6_
                          have hHeld : w15.cell? ⟨gb207, 0, none⟩ = some (.int .i64 t204) ∧ w15.cell? ⟨gb207, 1, none⟩ = some (.int .i64 t205) := hS_
                          refine norm_ (a' := ?_) ?_ ?_
                          rotate_left
                          · simp only [putAll, Act.put, List.setIfInBounds_toArray, List.set_cons_zero, List.set_cons_succ]
                            rfl
                          refine two_ (i := 2) (j := 6) (Ni := some 22) (Nj := some 9) #[true, true, true, true, true, false, false, true, false, false] #[true, true, false, true, true, false, true, true, false, false] rfl rfl rfl rfl (two_of HT_.out (by kernel_rfl)) (by decide) (by decide) (fun K hK => ?_) (fun K hK => ?_)
                          · skip
                            refine goes_ Try.func52 (by kernel_rfl) rfl #[.agg #[.int .i64 t204, .int .i64 t205], .int .u32 a1] (by rfl) rfl rfl (by (try simp only [List.map_toArray, List.map_cons, List.map_nil]); first | done | rfl | (simp only [List.length_drop, List.length_take]; rfl)) ?_
                            with_reducible refine (impl_format_open.calls t204 t205 a1 t208 t209 t210 t211 t212 _ A6.out).mono ?_
                            rintro e w16 ⟨rfl, hb⟩
                            refine ⟨_, rfl, ?_⟩
                            have n0_ := Aside0.mk (blk_below (g := gb207) (o := .cells #[.int .i64 t204, .int .i64 t205] 62 (0, 0)) (by (with_reducible repeat (first | refine blk_drewN ?_ _ | refine blk_drew ?_ | refine blk_alloc ?_ _)); exact BK207.out) hb)
                            have n1_ := Aside0.mk (blk_below (g := gb219) (o := .cells #[.bool false, .bool false, .bool false, .int .u64 0, .int .i64 0] 66 (0, 0)) (by (with_reducible repeat (first | refine blk_drewN ?_ _ | refine blk_drew ?_ | refine blk_alloc ?_ _)); exact BK219.out) hb)
                            have n2_ := Aside0.mk (below_step (by repeat (first | (with_reducible first | exact HB.out | apply below_alloc | apply pw_below_drewN | apply below_drew1 | refine below_set ?_ GE207.out | refine below_set ?_ GE219.out) | exact HB.out)) hb)
                            clear BK207
                            clear BK219
                            clear HB
                            have BK207 := n0_
                            have BK219 := n1_
                            have HB := n2_
                            clear n0_ n1_ n2_
                            (try clear hb)
                            (try clear hb2)
                            (try clear hk)
                            (try clear hi)
                            refine hK.out _ _ ⟨(blk_cell BK207.out 0).trans rfl, (blk_cell BK207.out 1).trans rfl⟩ (fun hHeld => ?_)
                            clear hK K
                            refine norm_ (a' := ?_) ?_ ?_
                            rotate_left
                            · show Act.put _ (some 22) _ = _
                              simp only [Act.put, List.setIfInBounds_toArray, List.set_cons_zero, List.set_cons_succ, i64_w, i32_w]
                              rfl
                            exact norm_ (by first | (simp only [putAll, Act.put, List.setIfInBounds_toArray, List.set_cons_zero, List.set_cons_succ]; done) | (simp only [putAll, Act.put, List.setIfInBounds_toArray, List.set_cons_zero, List.set_cons_succ]; rfl)) (hJ2_7 (gb219) _ ⟨hHeld, (by (with_reducible repeat (first | refine blk_drewN ?_ _ | refine blk_drew ?_ | refine blk_alloc ?_ _)); exact BK207.out), (by (with_reducible repeat (first | refine blk_drewN ?_ _ | refine blk_drew ?_ | refine blk_alloc ?_ _)); exact BK219.out), GW219.out, GE219.out, NB207_219.out, NB219_207.out, (by repeat (first | (with_reducible first | exact HB.out | apply below_alloc | apply pw_below_drewN | apply below_drew1 | refine below_set ?_ GE207.out | refine below_set ?_ GE219.out) | exact HB.out))⟩)
                          · skip
                            refine box_step ?hg (N := 9) ?hd (cs := #[.bool false, .bool false, .bool false, .int .u64 0, .int .i64 0]) (t := 66) ?hr ?_; (case hd => rfl); (case hg => rfl); (case hr => first | (go_simp; done) | (go_simp; rfl))
                            intro gb218 hg w16 hbox hb
                            have n0_ := Aside0.mk (blk_below (g := gb207) (o := .cells #[.int .i64 t204, .int .i64 t205] 62 (0, 0)) (by (with_reducible repeat (first | refine blk_drewN ?_ _ | refine blk_drew ?_ | refine blk_alloc ?_ _)); exact BK207.out) hb)
                            have n1_ := Aside0.mk (blk_below (g := gb219) (o := .cells #[.bool false, .bool false, .bool false, .int .u64 0, .int .i64 0] 66 (0, 0)) (by (with_reducible repeat (first | refine blk_drewN ?_ _ | refine blk_drew ?_ | refine blk_alloc ?_ _)); exact BK219.out) hb)
                            have n2_ := Aside0.mk (below_step (by repeat (first | (with_reducible first | exact HB.out | apply below_alloc | apply pw_below_drewN | apply below_drew1 | refine below_set ?_ GE207.out | refine below_set ?_ GE219.out) | exact HB.out)) hb)
                            have n3_ := Aside0.mk (hbox)
                            have n4_ := Aside0.mk ((by rw [hg]; exact (below_size (by repeat (first | (with_reducible first | exact HB.out | apply below_alloc | apply pw_below_drewN | apply below_drew1 | refine below_set ?_ GE207.out | refine below_set ?_ GE219.out) | exact HB.out))) : w.heap.size ≤ gb218))
                            have n5_ := Aside0.mk ((by rw [hg]; exact (below_size (by repeat (first | (with_reducible first | exact HB.out | apply below_alloc | apply pw_below_drewN | apply below_drew1 | refine below_set ?_ GE207.out | refine below_set ?_ GE219.out) | exact HB.out))) : w.heap.size ≤ gb218))
                            have n6_ := Aside0.mk ((by rw [hg]; exact Nat.ne_of_lt (blk_lt (g := gb207) (o := .cells #[.int .i64 t204, .int .i64 t205] 62 (0, 0)) (by (with_reducible repeat (first | refine blk_drewN ?_ _ | refine blk_drew ?_ | refine blk_alloc ?_ _)); exact BK207.out)) : gb207 ≠ gb218))
                            have n7_ := Aside0.mk ((by rw [hg]; exact Nat.ne_of_gt (blk_lt (g := gb207) (o := .cells #[.int .i64 t204, .int .i64 t205] 62 (0, 0)) (by (with_reducible repeat (first | refine blk_drewN ?_ _ | refine blk_drew ?_ | refine blk_alloc ?_ _)); exact BK207.out)) : gb218 ≠ gb207))
                            have n8_ := Aside0.mk ((by rw [hg]; exact Nat.ne_of_lt (blk_lt (g := gb219) (o := .cells #[.bool false, .bool false, .bool false, .int .u64 0, .int .i64 0] 66 (0, 0)) (by (with_reducible repeat (first | refine blk_drewN ?_ _ | refine blk_drew ?_ | refine blk_alloc ?_ _)); exact BK219.out)) : gb219 ≠ gb218))
                            have n9_ := Aside0.mk ((by rw [hg]; exact Nat.ne_of_gt (blk_lt (g := gb219) (o := .cells #[.bool false, .bool false, .bool false, .int .u64 0, .int .i64 0] 66 (0, 0)) (by (with_reducible repeat (first | refine blk_drewN ?_ _ | refine blk_drew ?_ | refine blk_alloc ?_ _)); exact BK219.out)) : gb218 ≠ gb219))
                            clear BK207
                            clear BK219
                            clear HB
                            have BK207 := n0_
                            have BK219 := n1_
                            have HB := n2_
                            have BK218 := n3_
                            have GW218 := n4_
                            have GE218 := n5_
                            have NB207_218 := n6_
                            have NB218_207 := n7_
                            have NB219_218 := n8_
                            have NB218_219 := n9_
                            clear n0_ n1_ n2_ n3_ n4_ n5_ n6_ n7_ n8_ n9_
                            clear hb hbox hg
                            refine hK.out _ _ ⟨(blk_cell BK207.out 0).trans rfl, (blk_cell BK207.out 1).trans rfl⟩ (fun hHeld => ?_)
                            clear hK K
                            refine norm_ (a' := ?_) ?_ ?_
                            rotate_left
                            · show Act.put _ (some 9) _ = _
                              simp only [Act.put, List.setIfInBounds_toArray, List.set_cons_zero, List.set_cons_succ, i64_w, i32_w]
                              rfl
                            exact norm_ (by first | (simp only [putAll, Act.put, List.setIfInBounds_toArray, List.set_cons_zero, List.set_cons_succ]; done) | (simp only [putAll, Act.put, List.setIfInBounds_toArray, List.set_cons_zero, List.set_cons_succ]; rfl)) (hJ6_7 (gb218, gb219) _ ⟨hHeld, (by (with_reducible repeat (first | refine blk_drewN ?_ _ | refine blk_drew ?_ | refine blk_alloc ?_ _)); exact BK207.out), (by (with_reducible repeat (first | refine blk_drewN ?_ _ | refine blk_drew ?_ | refine blk_alloc ?_ _)); exact BK218.out), (by (with_reducible repeat (first | refine blk_drewN ?_ _ | refine blk_drew ?_ | refine blk_alloc ?_ _)); exact BK219.out), GW218.out, GE218.out, NB207_218.out, NB218_207.out, NB219_218.out, NB218_219.out, GW219.out, GE219.out, NB207_219.out, NB219_207.out, (by repeat (first | (with_reducible first | exact HB.out | apply below_alloc | apply pw_below_drewN | apply below_drew1 | refine below_set ?_ GE207.out | refine below_set ?_ GE219.out | refine below_set ?_ GE218.out) | exact HB.out))⟩)
                      · skip
                        rintro gb218 w15 ⟨hS_, h0_, h1_, h2_, h3_, h4_, h5_, h6_⟩
                        have n0_ : Aside0 (w15.heap[gb207]? = some (.cells #[.int .i64 t204, .int .i64 t205] 62 (0, 0))) := ⟨h0_⟩
                        have n1_ : Aside0 (w15.heap[gb218]? = some (.cells #[.bool false, .bool false, .bool false, .int .u64 0, .int .i64 0] 66 (0, 0))) := ⟨h1_⟩
                        have n2_ : Aside0 (w.heap.size ≤ gb218) := ⟨h2_⟩
                        have n3_ : Aside0 (w.heap.size ≤ gb218) := ⟨h3_⟩
                        have n4_ : Aside0 (gb207 ≠ gb218) := ⟨h4_⟩
                        have n5_ : Aside0 (gb218 ≠ gb207) := ⟨h5_⟩
                        have n6_ : Aside0 (Below w.heap.size w w15) := ⟨h6_⟩
                        clear BK207
                        clear HB
                        clear h0_ h1_ h2_ h3_ h4_ h5_ h6_
                        have BK207 := n0_
                        have BK218 := n1_
                        have GW218 := n2_
                        have GE218 := n3_
                        have NB207_218 := n4_
                        have NB218_207 := n5_
                        have HB := n6_
                        clear n0_ n1_ n2_ n3_ n4_ n5_ n6_
                        have hHeld : w15.cell? ⟨gb207, 0, none⟩ = some (.int .i64 t204) ∧ w15.cell? ⟨gb207, 1, none⟩ = some (.int .i64 t205) := hS_
                        refine norm_ (a' := ?_) ?_ ?_
                        rotate_left
                        · simp only [putAll, Act.put, List.setIfInBounds_toArray, List.set_cons_zero, List.set_cons_succ]
                          rfl
                        refine two_ (i := 2) (j := 7) (Ni := some 22) (Nj := some 10) #[true, true, true, true, true, false, true, false, false, false] #[true, true, false, true, true, false, true, true, false, false] rfl rfl rfl rfl (two_of HT_.out (by kernel_rfl)) (by decide) (by decide) (fun K hK => ?_) (fun K hK => ?_)
                        · skip
                          refine goes_ Try.func52 (by kernel_rfl) rfl #[.agg #[.int .i64 t204, .int .i64 t205], .int .u32 a1] (by rfl) rfl rfl (by (try simp only [List.map_toArray, List.map_cons, List.map_nil]); first | done | rfl | (simp only [List.length_drop, List.length_take]; rfl)) ?_
                          with_reducible refine (impl_format_open.calls t204 t205 a1 t208 t209 t210 t211 t212 _ A6.out).mono ?_
                          rintro e w16 ⟨rfl, hb⟩
                          refine ⟨_, rfl, ?_⟩
                          have n0_ := Aside0.mk (blk_below (g := gb207) (o := .cells #[.int .i64 t204, .int .i64 t205] 62 (0, 0)) (by (with_reducible repeat (first | refine blk_drewN ?_ _ | refine blk_drew ?_ | refine blk_alloc ?_ _)); exact BK207.out) hb)
                          have n1_ := Aside0.mk (blk_below (g := gb218) (o := .cells #[.bool false, .bool false, .bool false, .int .u64 0, .int .i64 0] 66 (0, 0)) (by (with_reducible repeat (first | refine blk_drewN ?_ _ | refine blk_drew ?_ | refine blk_alloc ?_ _)); exact BK218.out) hb)
                          have n2_ := Aside0.mk (below_step (by repeat (first | (with_reducible first | exact HB.out | apply below_alloc | apply pw_below_drewN | apply below_drew1 | refine below_set ?_ GE207.out | refine below_set ?_ GE218.out) | exact HB.out)) hb)
                          clear BK207
                          clear BK218
                          clear HB
                          have BK207 := n0_
                          have BK218 := n1_
                          have HB := n2_
                          clear n0_ n1_ n2_
                          (try clear hb)
                          (try clear hb2)
                          (try clear hk)
                          (try clear hi)
                          refine hK.out _ _ ⟨(blk_cell BK207.out 0).trans rfl, (blk_cell BK207.out 1).trans rfl⟩ (fun hHeld => ?_)
                          clear hK K
                          refine norm_ (a' := ?_) ?_ ?_
                          rotate_left
                          · show Act.put _ (some 22) _ = _
                            simp only [Act.put, List.setIfInBounds_toArray, List.set_cons_zero, List.set_cons_succ, i64_w, i32_w]
                            rfl
                          exact norm_ (by first | (simp only [putAll, Act.put, List.setIfInBounds_toArray, List.set_cons_zero, List.set_cons_succ]; done) | (simp only [putAll, Act.put, List.setIfInBounds_toArray, List.set_cons_zero, List.set_cons_succ]; rfl)) (hJ2_6 (gb218) _ ⟨hHeld, (by (with_reducible repeat (first | refine blk_drewN ?_ _ | refine blk_drew ?_ | refine blk_alloc ?_ _)); exact BK207.out), (by (with_reducible repeat (first | refine blk_drewN ?_ _ | refine blk_drew ?_ | refine blk_alloc ?_ _)); exact BK218.out), GW218.out, GE218.out, NB207_218.out, NB218_207.out, (by repeat (first | (with_reducible first | exact HB.out | apply below_alloc | apply pw_below_drewN | apply below_drew1 | refine below_set ?_ GE207.out | refine below_set ?_ GE218.out) | exact HB.out))⟩)
                        · skip
                          refine box_step ?hg (N := 10) ?hd (cs := #[.bool false, .bool false, .bool false, .int .u64 0, .int .i64 0]) (t := 66) ?hr ?_; (case hd => rfl); (case hg => rfl); (case hr => first | (go_simp; done) | (go_simp; rfl))
                          intro gb219 hg w16 hbox hb
                          have n0_ := Aside0.mk (blk_below (g := gb207) (o := .cells #[.int .i64 t204, .int .i64 t205] 62 (0, 0)) (by (with_reducible repeat (first | refine blk_drewN ?_ _ | refine blk_drew ?_ | refine blk_alloc ?_ _)); exact BK207.out) hb)
                          have n1_ := Aside0.mk (blk_below (g := gb218) (o := .cells #[.bool false, .bool false, .bool false, .int .u64 0, .int .i64 0] 66 (0, 0)) (by (with_reducible repeat (first | refine blk_drewN ?_ _ | refine blk_drew ?_ | refine blk_alloc ?_ _)); exact BK218.out) hb)
                          have n2_ := Aside0.mk (below_step (by repeat (first | (with_reducible first | exact HB.out | apply below_alloc | apply pw_below_drewN | apply below_drew1 | refine below_set ?_ GE207.out | refine below_set ?_ GE218.out) | exact HB.out)) hb)
                          have n3_ := Aside0.mk (hbox)
                          have n4_ := Aside0.mk ((by rw [hg]; exact (below_size (by repeat (first | (with_reducible first | exact HB.out | apply below_alloc | apply pw_below_drewN | apply below_drew1 | refine below_set ?_ GE207.out | refine below_set ?_ GE218.out) | exact HB.out))) : w.heap.size ≤ gb219))
                          have n5_ := Aside0.mk ((by rw [hg]; exact (below_size (by repeat (first | (with_reducible first | exact HB.out | apply below_alloc | apply pw_below_drewN | apply below_drew1 | refine below_set ?_ GE207.out | refine below_set ?_ GE218.out) | exact HB.out))) : w.heap.size ≤ gb219))
                          have n6_ := Aside0.mk ((by rw [hg]; exact Nat.ne_of_lt (blk_lt (g := gb207) (o := .cells #[.int .i64 t204, .int .i64 t205] 62 (0, 0)) (by (with_reducible repeat (first | refine blk_drewN ?_ _ | refine blk_drew ?_ | refine blk_alloc ?_ _)); exact BK207.out)) : gb207 ≠ gb219))
                          have n7_ := Aside0.mk ((by rw [hg]; exact Nat.ne_of_gt (blk_lt (g := gb207) (o := .cells #[.int .i64 t204, .int .i64 t205] 62 (0, 0)) (by (with_reducible repeat (first | refine blk_drewN ?_ _ | refine blk_drew ?_ | refine blk_alloc ?_ _)); exact BK207.out)) : gb219 ≠ gb207))
                          have n8_ := Aside0.mk ((by rw [hg]; exact Nat.ne_of_lt (blk_lt (g := gb218) (o := .cells #[.bool false, .bool false, .bool false, .int .u64 0, .int .i64 0] 66 (0, 0)) (by (with_reducible repeat (first | refine blk_drewN ?_ _ | refine blk_drew ?_ | refine blk_alloc ?_ _)); exact BK218.out)) : gb218 ≠ gb219))
                          have n9_ := Aside0.mk ((by rw [hg]; exact Nat.ne_of_gt (blk_lt (g := gb218) (o := .cells #[.bool false, .bool false, .bool false, .int .u64 0, .int .i64 0] 66 (0, 0)) (by (with_reducible repeat (first | refine blk_drewN ?_ _ | refine blk_drew ?_ | refine blk_alloc ?_ _)); exact BK218.out)) : gb219 ≠ gb218))
                          clear BK207
                          clear BK218
                          clear HB
                          have BK207 := n0_
                          have BK218 := n1_
                          have HB := n2_
                          have BK219 := n3_
                          have GW219 := n4_
                          have GE219 := n5_
                          have NB207_219 := n6_
                          have NB219_207 := n7_
                          have NB218_219 := n8_
                          have NB219_218 := n9_
                          clear n0_ n1_ n2_ n3_ n4_ n5_ n6_ n7_ n8_ n9_
                          clear hb hbox hg
                          refine hK.out _ _ ⟨(blk_cell BK207.out 0).trans rfl, (blk_cell BK207.out 1).trans rfl⟩ (fun hHeld => ?_)
                          clear hK K
                          refine norm_ (a' := ?_) ?_ ?_
                          rotate_left
                          · show Act.put _ (some 10) _ = _
                            simp only [Act.put, List.setIfInBounds_toArray, List.set_cons_zero, List.set_cons_succ, i64_w, i32_w]
                            rfl
                          exact norm_ (by first | (simp only [putAll, Act.put, List.setIfInBounds_toArray, List.set_cons_zero, List.set_cons_succ]; done) | (simp only [putAll, Act.put, List.setIfInBounds_toArray, List.set_cons_zero, List.set_cons_succ]; rfl)) (hJ6_7 (gb218, gb219) _ ⟨hHeld, (by (with_reducible repeat (first | refine blk_drewN ?_ _ | refine blk_drew ?_ | refine blk_alloc ?_ _)); exact BK207.out), (by (with_reducible repeat (first | refine blk_drewN ?_ _ | refine blk_drew ?_ | refine blk_alloc ?_ _)); exact BK218.out), (by (with_reducible repeat (first | refine blk_drewN ?_ _ | refine blk_drew ?_ | refine blk_alloc ?_ _)); exact BK219.out), GW218.out, GE218.out, NB207_218.out, NB218_207.out, NB219_218.out, NB218_219.out, GW219.out, GE219.out, NB207_219.out, NB219_207.out, (by repeat (first | (with_reducible first | exact HB.out | apply below_alloc | apply pw_below_drewN | apply below_drew1 | refine below_set ?_ GE207.out | refine below_set ?_ GE218.out | refine below_set ?_ GE219.out) | exact HB.out))⟩)
                    · skip
                      rintro _ w15 ⟨hS_, h0_, h1_⟩
                      have n0_ : Aside0 (w15.heap[gb207]? = some (.cells #[.int .i64 t204, .int .i64 t205] 62 (0, 0))) := ⟨h0_⟩
                      have n1_ : Aside0 (Below w.heap.size w w15) := ⟨h1_⟩
                      clear BK207
                      clear HB
                      clear h0_ h1_
                      have BK207 := n0_
                      have HB := n1_
                      clear n0_ n1_
                      have hHeld : w15.cell? ⟨gb207, 0, none⟩ = some (.int .i64 t204) ∧ w15.cell? ⟨gb207, 1, none⟩ = some (.int .i64 t205) := hS_
                      refine norm_ (a' := ?_) ?_ ?_
                      rotate_left
                      · simp only [putAll, Act.put, List.setIfInBounds_toArray, List.set_cons_zero, List.set_cons_succ]
                        rfl
                      refine three_ (i := 5) (j := 6) (k := 7) (Ni := some 25) (Nj := some 9) (Nk := some 10) #[true, true, true, true, true, true, false, false, false, false] #[true, true, true, true, true, false, true, false, false, false] #[true, true, true, true, true, false, false, true, false, false] rfl rfl rfl rfl rfl rfl (three_of HT_.out (by kernel_rfl)) (by decide) (by decide) (by decide) (fun K hK => ?_) (fun K hK => ?_) (fun K hK => ?_)
                      · skip
                        refine goes_ Try.func52 (by kernel_rfl) rfl #[.agg #[.int .i64 t204, .int .i64 t205], .int .u32 a2] (by rfl) rfl rfl (by (try simp only [List.map_toArray, List.map_cons, List.map_nil]); first | done | rfl | (simp only [List.length_drop, List.length_take]; rfl)) ?_
                        with_reducible refine (impl_format_open.calls t204 t205 a2 t213 t214 t215 t216 t217 _ A7.out).mono ?_
                        rintro e w16 ⟨rfl, hb⟩
                        refine ⟨_, rfl, ?_⟩
                        have n0_ := Aside0.mk (blk_below (g := gb207) (o := .cells #[.int .i64 t204, .int .i64 t205] 62 (0, 0)) (by (with_reducible repeat (first | refine blk_drewN ?_ _ | refine blk_drew ?_ | refine blk_alloc ?_ _)); exact BK207.out) hb)
                        have n1_ := Aside0.mk (below_step (by repeat (first | (with_reducible first | exact HB.out | apply below_alloc | apply pw_below_drewN | apply below_drew1 | refine below_set ?_ GE207.out) | exact HB.out)) hb)
                        clear BK207
                        clear HB
                        have BK207 := n0_
                        have HB := n1_
                        clear n0_ n1_
                        (try clear hb)
                        (try clear hb2)
                        (try clear hk)
                        (try clear hi)
                        refine hK.out _ _ ⟨(blk_cell BK207.out 0).trans rfl, (blk_cell BK207.out 1).trans rfl⟩ (fun hHeld => ?_)
                        clear hK K
                        refine norm_ (a' := ?_) ?_ ?_
                        rotate_left
                        · show Act.put _ (some 25) _ = _
                          simp only [Act.put, List.setIfInBounds_toArray, List.set_cons_zero, List.set_cons_succ, i64_w, i32_w]
                          rfl
                        exact norm_ (by first | (simp only [putAll, Act.put, List.setIfInBounds_toArray, List.set_cons_zero, List.set_cons_succ]; done) | (simp only [putAll, Act.put, List.setIfInBounds_toArray, List.set_cons_zero, List.set_cons_succ]; rfl)) (hJ2_5 () _ ⟨hHeld, (by (with_reducible repeat (first | refine blk_drewN ?_ _ | refine blk_drew ?_ | refine blk_alloc ?_ _)); exact BK207.out), (by repeat (first | (with_reducible first | exact HB.out | apply below_alloc | apply pw_below_drewN | apply below_drew1 | refine below_set ?_ GE207.out) | exact HB.out))⟩)
                      · skip
                        refine box_step ?hg (N := 9) ?hd (cs := #[.bool false, .bool false, .bool false, .int .u64 0, .int .i64 0]) (t := 66) ?hr ?_; (case hd => rfl); (case hg => rfl); (case hr => first | (go_simp; done) | (go_simp; rfl))
                        intro gb218 hg w16 hbox hb
                        have n0_ := Aside0.mk (blk_below (g := gb207) (o := .cells #[.int .i64 t204, .int .i64 t205] 62 (0, 0)) (by (with_reducible repeat (first | refine blk_drewN ?_ _ | refine blk_drew ?_ | refine blk_alloc ?_ _)); exact BK207.out) hb)
                        have n1_ := Aside0.mk (below_step (by repeat (first | (with_reducible first | exact HB.out | apply below_alloc | apply pw_below_drewN | apply below_drew1 | refine below_set ?_ GE207.out) | exact HB.out)) hb)
                        have n2_ := Aside0.mk (hbox)
                        have n3_ := Aside0.mk ((by rw [hg]; exact (below_size (by repeat (first | (with_reducible first | exact HB.out | apply below_alloc | apply pw_below_drewN | apply below_drew1 | refine below_set ?_ GE207.out) | exact HB.out))) : w.heap.size ≤ gb218))
                        have n4_ := Aside0.mk ((by rw [hg]; exact (below_size (by repeat (first | (with_reducible first | exact HB.out | apply below_alloc | apply pw_below_drewN | apply below_drew1 | refine below_set ?_ GE207.out) | exact HB.out))) : w.heap.size ≤ gb218))
                        have n5_ := Aside0.mk ((by rw [hg]; exact Nat.ne_of_lt (blk_lt (g := gb207) (o := .cells #[.int .i64 t204, .int .i64 t205] 62 (0, 0)) (by (with_reducible repeat (first | refine blk_drewN ?_ _ | refine blk_drew ?_ | refine blk_alloc ?_ _)); exact BK207.out)) : gb207 ≠ gb218))
                        have n6_ := Aside0.mk ((by rw [hg]; exact Nat.ne_of_gt (blk_lt (g := gb207) (o := .cells #[.int .i64 t204, .int .i64 t205] 62 (0, 0)) (by (with_reducible repeat (first | refine blk_drewN ?_ _ | refine blk_drew ?_ | refine blk_alloc ?_ _)); exact BK207.out)) : gb218 ≠ gb207))
                        clear BK207
                        clear HB
                        have BK207 := n0_
                        have HB := n1_
                        have BK218 := n2_
                        have GW218 := n3_
                        have GE218 := n4_
                        have NB207_218 := n5_
                        have NB218_207 := n6_
                        clear n0_ n1_ n2_ n3_ n4_ n5_ n6_
                        clear hb hbox hg
                        refine hK.out _ _ ⟨(blk_cell BK207.out 0).trans rfl, (blk_cell BK207.out 1).trans rfl⟩ (fun hHeld => ?_)
                        clear hK K
                        refine norm_ (a' := ?_) ?_ ?_
                        rotate_left
                        · show Act.put _ (some 9) _ = _
                          simp only [Act.put, List.setIfInBounds_toArray, List.set_cons_zero, List.set_cons_succ, i64_w, i32_w]
                          rfl
                        exact norm_ (by first | (simp only [putAll, Act.put, List.setIfInBounds_toArray, List.set_cons_zero, List.set_cons_succ]; done) | (simp only [putAll, Act.put, List.setIfInBounds_toArray, List.set_cons_zero, List.set_cons_succ]; rfl)) (hJ2_6 (gb218) _ ⟨hHeld, (by (with_reducible repeat (first | refine blk_drewN ?_ _ | refine blk_drew ?_ | refine blk_alloc ?_ _)); exact BK207.out), (by (with_reducible repeat (first | refine blk_drewN ?_ _ | refine blk_drew ?_ | refine blk_alloc ?_ _)); exact BK218.out), GW218.out, GE218.out, NB207_218.out, NB218_207.out, (by repeat (first | (with_reducible first | exact HB.out | apply below_alloc | apply pw_below_drewN | apply below_drew1 | refine below_set ?_ GE207.out | refine below_set ?_ GE218.out) | exact HB.out))⟩)
                      · skip
                        refine box_step ?hg (N := 10) ?hd (cs := #[.bool false, .bool false, .bool false, .int .u64 0, .int .i64 0]) (t := 66) ?hr ?_; (case hd => rfl); (case hg => rfl); (case hr => first | (go_simp; done) | (go_simp; rfl))
                        intro gb219 hg w16 hbox hb
                        have n0_ := Aside0.mk (blk_below (g := gb207) (o := .cells #[.int .i64 t204, .int .i64 t205] 62 (0, 0)) (by (with_reducible repeat (first | refine blk_drewN ?_ _ | refine blk_drew ?_ | refine blk_alloc ?_ _)); exact BK207.out) hb)
                        have n1_ := Aside0.mk (below_step (by repeat (first | (with_reducible first | exact HB.out | apply below_alloc | apply pw_below_drewN | apply below_drew1 | refine below_set ?_ GE207.out) | exact HB.out)) hb)
                        have n2_ := Aside0.mk (hbox)
                        have n3_ := Aside0.mk ((by rw [hg]; exact (below_size (by repeat (first | (with_reducible first | exact HB.out | apply below_alloc | apply pw_below_drewN | apply below_drew1 | refine below_set ?_ GE207.out) | exact HB.out))) : w.heap.size ≤ gb219))
                        have n4_ := Aside0.mk ((by rw [hg]; exact (below_size (by repeat (first | (with_reducible first | exact HB.out | apply below_alloc | apply pw_below_drewN | apply below_drew1 | refine below_set ?_ GE207.out) | exact HB.out))) : w.heap.size ≤ gb219))
                        have n5_ := Aside0.mk ((by rw [hg]; exact Nat.ne_of_lt (blk_lt (g := gb207) (o := .cells #[.int .i64 t204, .int .i64 t205] 62 (0, 0)) (by (with_reducible repeat (first | refine blk_drewN ?_ _ | refine blk_drew ?_ | refine blk_alloc ?_ _)); exact BK207.out)) : gb207 ≠ gb219))
                        have n6_ := Aside0.mk ((by rw [hg]; exact Nat.ne_of_gt (blk_lt (g := gb207) (o := .cells #[.int .i64 t204, .int .i64 t205] 62 (0, 0)) (by (with_reducible repeat (first | refine blk_drewN ?_ _ | refine blk_drew ?_ | refine blk_alloc ?_ _)); exact BK207.out)) : gb219 ≠ gb207))
                        clear BK207
                        clear HB
                        have BK207 := n0_
                        have HB := n1_
                        have BK219 := n2_
                        have GW219 := n3_
                        have GE219 := n4_
                        have NB207_219 := n5_
                        have NB219_207 := n6_
                        clear n0_ n1_ n2_ n3_ n4_ n5_ n6_
                        clear hb hbox hg
                        refine hK.out _ _ ⟨(blk_cell BK207.out 0).trans rfl, (blk_cell BK207.out 1).trans rfl⟩ (fun hHeld => ?_)
                        clear hK K
                        refine norm_ (a' := ?_) ?_ ?_
                        rotate_left
                        · show Act.put _ (some 10) _ = _
                          simp only [Act.put, List.setIfInBounds_toArray, List.set_cons_zero, List.set_cons_succ, i64_w, i32_w]
                          rfl
                        exact norm_ (by first | (simp only [putAll, Act.put, List.setIfInBounds_toArray, List.set_cons_zero, List.set_cons_succ]; done) | (simp only [putAll, Act.put, List.setIfInBounds_toArray, List.set_cons_zero, List.set_cons_succ]; rfl)) (hJ2_7 (gb219) _ ⟨hHeld, (by (with_reducible repeat (first | refine blk_drewN ?_ _ | refine blk_drew ?_ | refine blk_alloc ?_ _)); exact BK207.out), (by (with_reducible repeat (first | refine blk_drewN ?_ _ | refine blk_drew ?_ | refine blk_alloc ?_ _)); exact BK219.out), GW219.out, GE219.out, NB207_219.out, NB219_207.out, (by repeat (first | (with_reducible first | exact HB.out | apply below_alloc | apply pw_below_drewN | apply below_drew1 | refine below_set ?_ GE207.out | refine below_set ?_ GE219.out) | exact HB.out))⟩)
                  · skip
                    rintro ⟨gb218, gb219⟩ w16 ⟨hS_, h0_, h1_, h2_, h3_, h4_, h5_, h6_, h7_, h8_, h9_, h10_, h11_, h12_, h13_⟩
                    have n0_ : Aside0 (w16.heap[gb207]? = some (.cells #[.int .i64 t204, .int .i64 t205] 62 (0, 0))) := ⟨h0_⟩
                    have n1_ : Aside0 (w16.heap[gb218]? = some (.cells #[.bool false, .bool false, .bool false, .int .u64 0, .int .i64 0] 66 (0, 0))) := ⟨h1_⟩
                    have n2_ : Aside0 (w16.heap[gb219]? = some (.cells #[.bool false, .bool false, .bool false, .int .u64 0, .int .i64 0] 66 (0, 0))) := ⟨h2_⟩
                    have n3_ : Aside0 (w.heap.size ≤ gb218) := ⟨h3_⟩
                    have n4_ : Aside0 (w.heap.size ≤ gb218) := ⟨h4_⟩
                    have n5_ : Aside0 (gb207 ≠ gb218) := ⟨h5_⟩
                    have n6_ : Aside0 (gb218 ≠ gb207) := ⟨h6_⟩
                    have n7_ : Aside0 (gb219 ≠ gb218) := ⟨h7_⟩
                    have n8_ : Aside0 (gb218 ≠ gb219) := ⟨h8_⟩
                    have n9_ : Aside0 (w.heap.size ≤ gb219) := ⟨h9_⟩
                    have n10_ : Aside0 (w.heap.size ≤ gb219) := ⟨h10_⟩
                    have n11_ : Aside0 (gb207 ≠ gb219) := ⟨h11_⟩
                    have n12_ : Aside0 (gb219 ≠ gb207) := ⟨h12_⟩
                    have n13_ : Aside0 (Below w.heap.size w w16) := ⟨h13_⟩
                    clear BK207
                    clear HB
                    clear h0_ h1_ h2_ h3_ h4_ h5_ h6_ h7_ h8_ h9_ h10_ h11_ h12_ h13_
                    have BK207 := n0_
                    have BK218 := n1_
                    have BK219 := n2_
                    have GW218 := n3_
                    have GE218 := n4_
                    have NB207_218 := n5_
                    have NB218_207 := n6_
                    have NB219_218 := n7_
                    have NB218_219 := n8_
                    have GW219 := n9_
                    have GE219 := n10_
                    have NB207_219 := n11_
                    have NB219_207 := n12_
                    have HB := n13_
                    clear n0_ n1_ n2_ n3_ n4_ n5_ n6_ n7_ n8_ n9_ n10_ n11_ n12_ n13_
                    have hHeld : w16.cell? ⟨gb207, 0, none⟩ = some (.int .i64 t204) ∧ w16.cell? ⟨gb207, 1, none⟩ = some (.int .i64 t205) := hS_
                    refine norm_ (a' := ?_) ?_ ?_
                    rotate_left
                    · simp only [putAll, Act.put, List.setIfInBounds_toArray, List.set_cons_zero, List.set_cons_succ]
                      rfl
                    refine one_ (i := 2) (N := some 22) #[true, true, true, true, true, false, true, true, false, false] rfl rfl (one_of HT_.out (by kernel_rfl)) (by decide) (fun K hK => ?_)
                    refine goes_ Try.func52 (by kernel_rfl) rfl #[.agg #[.int .i64 t204, .int .i64 t205], .int .u32 a1] (by rfl) rfl rfl (by (try simp only [List.map_toArray, List.map_cons, List.map_nil]); first | done | rfl | (simp only [List.length_drop, List.length_take]; rfl)) ?_
                    with_reducible refine (impl_format_open.calls t204 t205 a1 t208 t209 t210 t211 t212 _ A6.out).mono ?_
                    rintro e w17 ⟨rfl, hb⟩
                    refine ⟨_, rfl, ?_⟩
                    have n0_ := Aside0.mk (blk_below (g := gb207) (o := .cells #[.int .i64 t204, .int .i64 t205] 62 (0, 0)) (by (with_reducible repeat (first | refine blk_drewN ?_ _ | refine blk_drew ?_ | refine blk_alloc ?_ _)); exact BK207.out) hb)
                    have n1_ := Aside0.mk (blk_below (g := gb218) (o := .cells #[.bool false, .bool false, .bool false, .int .u64 0, .int .i64 0] 66 (0, 0)) (by (with_reducible repeat (first | refine blk_drewN ?_ _ | refine blk_drew ?_ | refine blk_alloc ?_ _)); exact BK218.out) hb)
                    have n2_ := Aside0.mk (blk_below (g := gb219) (o := .cells #[.bool false, .bool false, .bool false, .int .u64 0, .int .i64 0] 66 (0, 0)) (by (with_reducible repeat (first | refine blk_drewN ?_ _ | refine blk_drew ?_ | refine blk_alloc ?_ _)); exact BK219.out) hb)
                    have n3_ := Aside0.mk (below_step (by repeat (first | (with_reducible first | exact HB.out | apply below_alloc | apply pw_below_drewN | apply below_drew1 | refine below_set ?_ GE207.out | refine below_set ?_ GE218.out | refine below_set ?_ GE219.out) | exact HB.out)) hb)
                    clear BK207
                    clear BK218
                    clear BK219
                    clear HB
                    have BK207 := n0_
                    have BK218 := n1_
                    have BK219 := n2_
                    have HB := n3_
                    clear n0_ n1_ n2_ n3_
                    (try clear hb)
                    (try clear hb2)
                    (try clear hk)
                    (try clear hi)
                    refine hK.out _ _ ⟨(blk_cell BK207.out 0).trans rfl, (blk_cell BK207.out 1).trans rfl⟩ (fun hHeld => ?_)
                    clear hK K
                    refine norm_ (a' := ?_) ?_ ?_
                    rotate_left
                    · show Act.put _ (some 22) _ = _
                      simp only [Act.put, List.setIfInBounds_toArray, List.set_cons_zero, List.set_cons_succ, i64_w, i32_w]
                      rfl
                    exact norm_ (by first | (simp only [putAll, Act.put, List.setIfInBounds_toArray, List.set_cons_zero, List.set_cons_succ]; done) | (simp only [putAll, Act.put, List.setIfInBounds_toArray, List.set_cons_zero, List.set_cons_succ]; rfl)) (hJ2_6_7 (gb218, gb219) _ ⟨hHeld, (by (with_reducible repeat (first | refine blk_drewN ?_ _ | refine blk_drew ?_ | refine blk_alloc ?_ _)); exact BK207.out), (by (with_reducible repeat (first | refine blk_drewN ?_ _ | refine blk_drew ?_ | refine blk_alloc ?_ _)); exact BK218.out), (by (with_reducible repeat (first | refine blk_drewN ?_ _ | refine blk_drew ?_ | refine blk_alloc ?_ _)); exact BK219.out), GW218.out, GE218.out, NB207_218.out, NB218_207.out, NB219_218.out, NB218_219.out, GW219.out, GE219.out, NB207_219.out, NB219_207.out, (by repeat (first | (with_reducible first | exact HB.out | apply below_alloc | apply pw_below_drewN | apply below_drew1 | refine below_set ?_ GE207.out | refine below_set ?_ GE218.out | refine below_set ?_ GE219.out) | exact HB.out))⟩)
                · skip
                  rintro gb219 w16 ⟨hS_, h0_, h1_, h2_, h3_, h4_, h5_, h6_⟩
                  have n0_ : Aside0 (w16.heap[gb207]? = some (.cells #[.int .i64 t204, .int .i64 t205] 62 (0, 0))) := ⟨h0_⟩
                  have n1_ : Aside0 (w16.heap[gb219]? = some (.cells #[.bool false, .bool false, .bool false, .int .u64 0, .int .i64 0] 66 (0, 0))) := ⟨h1_⟩
                  have n2_ : Aside0 (w.heap.size ≤ gb219) := ⟨h2_⟩
                  have n3_ : Aside0 (w.heap.size ≤ gb219) := ⟨h3_⟩
                  have n4_ : Aside0 (gb207 ≠ gb219) := ⟨h4_⟩
                  have n5_ : Aside0 (gb219 ≠ gb207) := ⟨h5_⟩
                  have n6_ : Aside0 (Below w.heap.size w w16) := ⟨h6_⟩
                  clear BK207
                  clear HB
                  clear h0_ h1_ h2_ h3_ h4_ h5_ h6_
                  have BK207 := n0_
                  have BK219 := n1_
                  have GW219 := n2_
                  have GE219 := n3_
                  have NB207_219 := n4_
                  have NB219_207 := n5_
                  have HB := n6_
                  clear n0_ n1_ n2_ n3_ n4_ n5_ n6_
                  have hHeld : w16.cell? ⟨gb207, 0, none⟩ = some (.int .i64 t204) ∧ w16.cell? ⟨gb207, 1, none⟩ = some (.int .i64 t205) := hS_
                  refine norm_ (a' := ?_) ?_ ?_
                  rotate_left
                  · simp only [putAll, Act.put, List.setIfInBounds_toArray, List.set_cons_zero, List.set_cons_succ]
                    rfl
                  refine two_ (i := 5) (j := 6) (Ni := some 25) (Nj := some 9) #[true, true, true, true, true, true, false, true, false, false] #[true, true, true, true, true, false, true, true, false, false] rfl rfl rfl rfl (two_of HT_.out (by kernel_rfl)) (by decide) (by decide) (fun K hK => ?_) (fun K hK => ?_)
                  · skip
                    refine goes_ Try.func52 (by kernel_rfl) rfl #[.agg #[.int .i64 t204, .int .i64 t205], .int .u32 a2] (by rfl) rfl rfl (by (try simp only [List.map_toArray, List.map_cons, List.map_nil]); first | done | rfl | (simp only [List.length_drop, List.length_take]; rfl)) ?_
                    with_reducible refine (impl_format_open.calls t204 t205 a2 t213 t214 t215 t216 t217 _ A7.out).mono ?_
                    rintro e w17 ⟨rfl, hb⟩
                    refine ⟨_, rfl, ?_⟩
                    have n0_ := Aside0.mk (blk_below (g := gb207) (o := .cells #[.int .i64 t204, .int .i64 t205] 62 (0, 0)) (by (with_reducible repeat (first | refine blk_drewN ?_ _ | refine blk_drew ?_ | refine blk_alloc ?_ _)); exact BK207.out) hb)
                    have n1_ := Aside0.mk (blk_below (g := gb219) (o := .cells #[.bool false, .bool false, .bool false, .int .u64 0, .int .i64 0] 66 (0, 0)) (by (with_reducible repeat (first | refine blk_drewN ?_ _ | refine blk_drew ?_ | refine blk_alloc ?_ _)); exact BK219.out) hb)
                    have n2_ := Aside0.mk (below_step (by repeat (first | (with_reducible first | exact HB.out | apply below_alloc | apply pw_below_drewN | apply below_drew1 | refine below_set ?_ GE207.out | refine below_set ?_ GE219.out) | exact HB.out)) hb)
                    clear BK207
                    clear BK219
                    clear HB
                    have BK207 := n0_
                    have BK219 := n1_
                    have HB := n2_
                    clear n0_ n1_ n2_
                    (try clear hb)
                    (try clear hb2)
                    (try clear hk)
                    (try clear hi)
                    refine hK.out _ _ ⟨(blk_cell BK207.out 0).trans rfl, (blk_cell BK207.out 1).trans rfl⟩ (fun hHeld => ?_)
                    clear hK K
                    refine norm_ (a' := ?_) ?_ ?_
                    rotate_left
                    · show Act.put _ (some 25) _ = _
                      simp only [Act.put, List.setIfInBounds_toArray, List.set_cons_zero, List.set_cons_succ, i64_w, i32_w]
                      rfl
                    exact norm_ (by first | (simp only [putAll, Act.put, List.setIfInBounds_toArray, List.set_cons_zero, List.set_cons_succ]; done) | (simp only [putAll, Act.put, List.setIfInBounds_toArray, List.set_cons_zero, List.set_cons_succ]; rfl)) (hJ2_5_7 (gb219) _ ⟨hHeld, (by (with_reducible repeat (first | refine blk_drewN ?_ _ | refine blk_drew ?_ | refine blk_alloc ?_ _)); exact BK207.out), (by (with_reducible repeat (first | refine blk_drewN ?_ _ | refine blk_drew ?_ | refine blk_alloc ?_ _)); exact BK219.out), GW219.out, GE219.out, NB207_219.out, NB219_207.out, (by repeat (first | (with_reducible first | exact HB.out | apply below_alloc | apply pw_below_drewN | apply below_drew1 | refine below_set ?_ GE207.out | refine below_set ?_ GE219.out) | exact HB.out))⟩)
                  · skip
                    refine box_step ?hg (N := 9) ?hd (cs := #[.bool false, .bool false, .bool false, .int .u64 0, .int .i64 0]) (t := 66) ?hr ?_; (case hd => rfl); (case hg => rfl); (case hr => first | (go_simp; done) | (go_simp; rfl))
                    intro gb218 hg w17 hbox hb
                    have n0_ := Aside0.mk (blk_below (g := gb207) (o := .cells #[.int .i64 t204, .int .i64 t205] 62 (0, 0)) (by (with_reducible repeat (first | refine blk_drewN ?_ _ | refine blk_drew ?_ | refine blk_alloc ?_ _)); exact BK207.out) hb)
                    have n1_ := Aside0.mk (blk_below (g := gb219) (o := .cells #[.bool false, .bool false, .bool false, .int .u64 0, .int .i64 0] 66 (0, 0)) (by (with_reducible repeat (first | refine blk_drewN ?_ _ | refine blk_drew ?_ | refine blk_alloc ?_ _)); exact BK219.out) hb)
                    have n2_ := Aside0.mk (below_step (by repeat (first | (with_reducible first | exact HB.out | apply below_alloc | apply pw_below_drewN | apply below_drew1 | refine below_set ?_ GE207.out | refine below_set ?_ GE219.out) | exact HB.out)) hb)
                    have n3_ := Aside0.mk (hbox)
                    have n4_ := Aside0.mk ((by rw [hg]; exact (below_size (by repeat (first | (with_reducible first | exact HB.out | apply below_alloc | apply pw_below_drewN | apply below_drew1 | refine below_set ?_ GE207.out | refine below_set ?_ GE219.out) | exact HB.out))) : w.heap.size ≤ gb218))
                    have n5_ := Aside0.mk ((by rw [hg]; exact (below_size (by repeat (first | (with_reducible first | exact HB.out | apply below_alloc | apply pw_below_drewN | apply below_drew1 | refine below_set ?_ GE207.out | refine below_set ?_ GE219.out) | exact HB.out))) : w.heap.size ≤ gb218))
                    have n6_ := Aside0.mk ((by rw [hg]; exact Nat.ne_of_lt (blk_lt (g := gb207) (o := .cells #[.int .i64 t204, .int .i64 t205] 62 (0, 0)) (by (with_reducible repeat (first | refine blk_drewN ?_ _ | refine blk_drew ?_ | refine blk_alloc ?_ _)); exact BK207.out)) : gb207 ≠ gb218))
                    have n7_ := Aside0.mk ((by rw [hg]; exact Nat.ne_of_gt (blk_lt (g := gb207) (o := .cells #[.int .i64 t204, .int .i64 t205] 62 (0, 0)) (by (with_reducible repeat (first | refine blk_drewN ?_ _ | refine blk_drew ?_ | refine blk_alloc ?_ _)); exact BK207.out)) : gb218 ≠ gb207))
                    have n8_ := Aside0.mk ((by rw [hg]; exact Nat.ne_of_lt (blk_lt (g := gb219) (o := .cells #[.bool false, .bool false, .bool false, .int .u64 0, .int .i64 0] 66 (0, 0)) (by (with_reducible repeat (first | refine blk_drewN ?_ _ | refine blk_drew ?_ | refine blk_alloc ?_ _)); exact BK219.out)) : gb219 ≠ gb218))
                    have n9_ := Aside0.mk ((by rw [hg]; exact Nat.ne_of_gt (blk_lt (g := gb219) (o := .cells #[.bool false, .bool false, .bool false, .int .u64 0, .int .i64 0] 66 (0, 0)) (by (with_reducible repeat (first | refine blk_drewN ?_ _ | refine blk_drew ?_ | refine blk_alloc ?_ _)); exact BK219.out)) : gb218 ≠ gb219))
                    clear BK207
                    clear BK219
                    clear HB
                    have BK207 := n0_
                    have BK219 := n1_
                    have HB := n2_
                    have BK218 := n3_
                    have GW218 := n4_
                    have GE218 := n5_
                    have NB207_218 := n6_
                    have NB218_207 := n7_
                    have NB219_218 := n8_
                    have NB218_219 := n9_
                    clear n0_ n1_ n2_ n3_ n4_ n5_ n6_ n7_ n8_ n9_
                    clear hb hbox hg
                    refine hK.out _ _ ⟨(blk_cell BK207.out 0).trans rfl, (blk_cell BK207.out 1).trans rfl⟩ (fun hHeld => ?_)
                    clear hK K
                    refine norm_ (a' := ?_) ?_ ?_
                    rotate_left
                    · show Act.put _ (some 9) _ = _
                      simp only [Act.put, List.setIfInBounds_toArray, List.set_cons_zero, List.set_cons_succ, i64_w, i32_w]
                      rfl
                    exact norm_ (by first | (simp only [putAll, Act.put, List.setIfInBounds_toArray, List.set_cons_zero, List.set_cons_succ]; done) | (simp only [putAll, Act.put, List.setIfInBounds_toArray, List.set_cons_zero, List.set_cons_succ]; rfl)) (hJ2_6_7 (gb218, gb219) _ ⟨hHeld, (by (with_reducible repeat (first | refine blk_drewN ?_ _ | refine blk_drew ?_ | refine blk_alloc ?_ _)); exact BK207.out), (by (with_reducible repeat (first | refine blk_drewN ?_ _ | refine blk_drew ?_ | refine blk_alloc ?_ _)); exact BK218.out), (by (with_reducible repeat (first | refine blk_drewN ?_ _ | refine blk_drew ?_ | refine blk_alloc ?_ _)); exact BK219.out), GW218.out, GE218.out, NB207_218.out, NB218_207.out, NB219_218.out, NB218_219.out, GW219.out, GE219.out, NB207_219.out, NB219_207.out, (by repeat (first | (with_reducible first | exact HB.out | apply below_alloc | apply pw_below_drewN | apply below_drew1 | refine below_set ?_ GE207.out | refine below_set ?_ GE219.out | refine below_set ?_ GE218.out) | exact HB.out))⟩)
              · skip
                rintro gb218 w16 ⟨hS_, h0_, h1_, h2_, h3_, h4_, h5_, h6_⟩
                have n0_ : Aside0 (w16.heap[gb207]? = some (.cells #[.int .i64 t204, .int .i64 t205] 62 (0, 0))) := ⟨h0_⟩
                have n1_ : Aside0 (w16.heap[gb218]? = some (.cells #[.bool false, .bool false, .bool false, .int .u64 0, .int .i64 0] 66 (0, 0))) := ⟨h1_⟩
                have n2_ : Aside0 (w.heap.size ≤ gb218) := ⟨h2_⟩
                have n3_ : Aside0 (w.heap.size ≤ gb218) := ⟨h3_⟩
                have n4_ : Aside0 (gb207 ≠ gb218) := ⟨h4_⟩
                have n5_ : Aside0 (gb218 ≠ gb207) := ⟨h5_⟩
                have n6_ : Aside0 (Below w.heap.size w w16) := ⟨h6_⟩
                clear BK207
                clear HB
                clear h0_ h1_ h2_ h3_ h4_ h5_ h6_
                have BK207 := n0_
                have BK218 := n1_
                have GW218 := n2_
                have GE218 := n3_
                have NB207_218 := n4_
                have NB218_207 := n5_
                have HB := n6_
                clear n0_ n1_ n2_ n3_ n4_ n5_ n6_
                have hHeld : w16.cell? ⟨gb207, 0, none⟩ = some (.int .i64 t204) ∧ w16.cell? ⟨gb207, 1, none⟩ = some (.int .i64 t205) := hS_
                refine norm_ (a' := ?_) ?_ ?_
                rotate_left
                · simp only [putAll, Act.put, List.setIfInBounds_toArray, List.set_cons_zero, List.set_cons_succ]
                  rfl
                refine two_ (i := 5) (j := 7) (Ni := some 25) (Nj := some 10) #[true, true, true, true, true, true, true, false, false, false] #[true, true, true, true, true, false, true, true, false, false] rfl rfl rfl rfl (two_of HT_.out (by kernel_rfl)) (by decide) (by decide) (fun K hK => ?_) (fun K hK => ?_)
                · skip
                  refine goes_ Try.func52 (by kernel_rfl) rfl #[.agg #[.int .i64 t204, .int .i64 t205], .int .u32 a2] (by rfl) rfl rfl (by (try simp only [List.map_toArray, List.map_cons, List.map_nil]); first | done | rfl | (simp only [List.length_drop, List.length_take]; rfl)) ?_
                  with_reducible refine (impl_format_open.calls t204 t205 a2 t213 t214 t215 t216 t217 _ A7.out).mono ?_
                  rintro e w17 ⟨rfl, hb⟩
                  refine ⟨_, rfl, ?_⟩
                  have n0_ := Aside0.mk (blk_below (g := gb207) (o := .cells #[.int .i64 t204, .int .i64 t205] 62 (0, 0)) (by (with_reducible repeat (first | refine blk_drewN ?_ _ | refine blk_drew ?_ | refine blk_alloc ?_ _)); exact BK207.out) hb)
                  have n1_ := Aside0.mk (blk_below (g := gb218) (o := .cells #[.bool false, .bool false, .bool false, .int .u64 0, .int .i64 0] 66 (0, 0)) (by (with_reducible repeat (first | refine blk_drewN ?_ _ | refine blk_drew ?_ | refine blk_alloc ?_ _)); exact BK218.out) hb)
                  have n2_ := Aside0.mk (below_step (by repeat (first | (with_reducible first | exact HB.out | apply below_alloc | apply pw_below_drewN | apply below_drew1 | refine below_set ?_ GE207.out | refine below_set ?_ GE218.out) | exact HB.out)) hb)
                  clear BK207
                  clear BK218
                  clear HB
                  have BK207 := n0_
                  have BK218 := n1_
                  have HB := n2_
                  clear n0_ n1_ n2_
                  (try clear hb)
                  (try clear hb2)
                  (try clear hk)
                  (try clear hi)
                  refine hK.out _ _ ⟨(blk_cell BK207.out 0).trans rfl, (blk_cell BK207.out 1).trans rfl⟩ (fun hHeld => ?_)
                  clear hK K
                  refine norm_ (a' := ?_) ?_ ?_
                  rotate_left
                  · show Act.put _ (some 25) _ = _
                    simp only [Act.put, List.setIfInBounds_toArray, List.set_cons_zero, List.set_cons_succ, i64_w, i32_w]
                    rfl
                  exact norm_ (by first | (simp only [putAll, Act.put, List.setIfInBounds_toArray, List.set_cons_zero, List.set_cons_succ]; done) | (simp only [putAll, Act.put, List.setIfInBounds_toArray, List.set_cons_zero, List.set_cons_succ]; rfl)) (hJ2_5_6 (gb218) _ ⟨hHeld, (by (with_reducible repeat (first | refine blk_drewN ?_ _ | refine blk_drew ?_ | refine blk_alloc ?_ _)); exact BK207.out), (by (with_reducible repeat (first | refine blk_drewN ?_ _ | refine blk_drew ?_ | refine blk_alloc ?_ _)); exact BK218.out), GW218.out, GE218.out, NB207_218.out, NB218_207.out, (by repeat (first | (with_reducible first | exact HB.out | apply below_alloc | apply pw_below_drewN | apply below_drew1 | refine below_set ?_ GE207.out | refine below_set ?_ GE218.out) | exact HB.out))⟩)
                · skip
                  refine box_step ?hg (N := 10) ?hd (cs := #[.bool false, .bool false, .bool false, .int .u64 0, .int .i64 0]) (t := 66) ?hr ?_; (case hd => rfl); (case hg => rfl); (case hr => first | (go_simp; done) | (go_simp; rfl))
                  intro gb219 hg w17 hbox hb
                  have n0_ := Aside0.mk (blk_below (g := gb207) (o := .cells #[.int .i64 t204, .int .i64 t205] 62 (0, 0)) (by (with_reducible repeat (first | refine blk_drewN ?_ _ | refine blk_drew ?_ | refine blk_alloc ?_ _)); exact BK207.out) hb)
                  have n1_ := Aside0.mk (blk_below (g := gb218) (o := .cells #[.bool false, .bool false, .bool false, .int .u64 0, .int .i64 0] 66 (0, 0)) (by (with_reducible repeat (first | refine blk_drewN ?_ _ | refine blk_drew ?_ | refine blk_alloc ?_ _)); exact BK218.out) hb)
                  have n2_ := Aside0.mk (below_step (by repeat (first | (with_reducible first | exact HB.out | apply below_alloc | apply pw_below_drewN | apply below_drew1 | refine below_set ?_ GE207.out | refine below_set ?_ GE218.out) | exact HB.out)) hb)
                  have n3_ := Aside0.mk (hbox)
                  have n4_ := Aside0.mk ((by rw [hg]; exact (below_size (by repeat (first | (with_reducible first | exact HB.out | apply below_alloc | apply pw_below_drewN | apply below_drew1 | refine below_set ?_ GE207.out | refine below_set ?_ GE218.out) | exact HB.out))) : w.heap.size ≤ gb219))
                  have n5_ := Aside0.mk ((by rw [hg]; exact (below_size (by repeat (first | (with_reducible first | exact HB.out | apply below_alloc | apply pw_below_drewN | apply below_drew1 | refine below_set ?_ GE207.out | refine below_set ?_ GE218.out) | exact HB.out))) : w.heap.size ≤ gb219))
                  have n6_ := Aside0.mk ((by rw [hg]; exact Nat.ne_of_lt (blk_lt (g := gb207) (o := .cells #[.int .i64 t204, .int .i64 t205] 62 (0, 0)) (by (with_reducible repeat (first | refine blk_drewN ?_ _ | refine blk_drew ?_ | refine blk_alloc ?_ _)); exact BK207.out)) : gb207 ≠ gb219))
                  have n7_ := Aside0.mk ((by rw [hg]; exact Nat.ne_of_gt (blk_lt (g := gb207) (o := .cells #[.int .i64 t204, .int .i64 t205] 62 (0, 0)) (by (with_reducible repeat (first | refine blk_drewN ?_ _ | refine blk_drew ?_ | refine blk_alloc ?_ _)); exact BK207.out)) : gb219 ≠ gb207))
                  have n8_ := Aside0.mk ((by rw [hg]; exact Nat.ne_of_lt (blk_lt (g := gb218) (o := .cells #[.bool false, .bool false, .bool false, .int .u64 0, .int .i64 0] 66 (0, 0)) (by (with_reducible repeat (first | refine blk_drewN ?_ _ | refine blk_drew ?_ | refine blk_alloc ?_ _)); exact BK218.out)) : gb218 ≠ gb219))
                  have n9_ := Aside0.mk ((by rw [hg]; exact Nat.ne_of_gt (blk_lt (g := gb218) (o := .cells #[.bool false, .bool false, .bool false, .int .u64 0, .int .i64 0] 66 (0, 0)) (by (with_reducible repeat (first | refine blk_drewN ?_ _ | refine blk_drew ?_ | refine blk_alloc ?_ _)); exact BK218.out)) : gb219 ≠ gb218))
                  clear BK207
                  clear BK218
                  clear HB
                  have BK207 := n0_
                  have BK218 := n1_
                  have HB := n2_
                  have BK219 := n3_
                  have GW219 := n4_
                  have GE219 := n5_
                  have NB207_219 := n6_
                  have NB219_207 := n7_
                  have NB218_219 := n8_
                  have NB219_218 := n9_
                  clear n0_ n1_ n2_ n3_ n4_ n5_ n6_ n7_ n8_ n9_
                  clear hb hbox hg
                  refine hK.out _ _ ⟨(blk_cell BK207.out 0).trans rfl, (blk_cell BK207.out 1).trans rfl⟩ (fun hHeld => ?_)
                  clear hK K
                  refine norm_ (a' := ?_) ?_ ?_
                  rotate_left
                  · show Act.put _ (some 10) _ = _
                    simp only [Act.put, List.setIfInBounds_toArray, List.set_cons_zero, List.set_cons_succ, i64_w, i32_w]
                    rfl
                  exact norm_ (by first | (simp only [putAll, Act.put, List.setIfInBounds_toArray, List.set_cons_zero, List.set_cons_succ]; done) | (simp only [putAll, Act.put, List.setIfInBounds_toArray, List.set_cons_zero, List.set_cons_succ]; rfl)) (hJ2_6_7 (gb218, gb219) _ ⟨hHeld, (by (with_reducible repeat (first | refine blk_drewN ?_ _ | refine blk_drew ?_ | refine blk_alloc ?_ _)); exact BK207.out), (by (with_reducible repeat (first | refine blk_drewN ?_ _ | refine blk_drew ?_ | refine blk_alloc ?_ _)); exact BK218.out), (by (with_reducible repeat (first | refine blk_drewN ?_ _ | refine blk_drew ?_ | refine blk_alloc ?_ _)); exact BK219.out), GW218.out, GE218.out, NB207_218.out, NB218_207.out, NB219_218.out, NB218_219.out, GW219.out, GE219.out, NB207_219.out, NB219_207.out, (by repeat (first | (with_reducible first | exact HB.out | apply below_alloc | apply pw_below_drewN | apply below_drew1 | refine below_set ?_ GE207.out | refine below_set ?_ GE218.out | refine below_set ?_ GE219.out) | exact HB.out))⟩)
            · skip
              rintro _ w16 ⟨hS_, h0_, h1_⟩
              have n0_ : Aside0 (w16.heap[gb207]? = some (.cells #[.int .i64 t204, .int .i64 t205] 62 (0, 0))) := ⟨h0_⟩
              have n1_ : Aside0 (Below w.heap.size w w16) := ⟨h1_⟩
              clear BK207
              clear HB
              clear h0_ h1_
              have BK207 := n0_
              have HB := n1_
              clear n0_ n1_
              have hHeld : w16.cell? ⟨gb207, 0, none⟩ = some (.int .i64 t204) ∧ w16.cell? ⟨gb207, 1, none⟩ = some (.int .i64 t205) := hS_
              refine norm_ (a' := ?_) ?_ ?_
              rotate_left
              · simp only [putAll, Act.put, List.setIfInBounds_toArray, List.set_cons_zero, List.set_cons_succ]
                rfl
              refine two_ (i := 6) (j := 7) (Ni := some 9) (Nj := some 10) #[true, true, true, true, true, true, true, false, false, false] #[true, true, true, true, true, true, false, true, false, false] rfl rfl rfl rfl (two_of HT_.out (by kernel_rfl)) (by decide) (by decide) (fun K hK => ?_) (fun K hK => ?_)
              · skip
                refine box_step ?hg (N := 9) ?hd (cs := #[.bool false, .bool false, .bool false, .int .u64 0, .int .i64 0]) (t := 66) ?hr ?_; (case hd => rfl); (case hg => rfl); (case hr => first | (go_simp; done) | (go_simp; rfl))
                intro gb218 hg w17 hbox hb
                have n0_ := Aside0.mk (blk_below (g := gb207) (o := .cells #[.int .i64 t204, .int .i64 t205] 62 (0, 0)) (by (with_reducible repeat (first | refine blk_drewN ?_ _ | refine blk_drew ?_ | refine blk_alloc ?_ _)); exact BK207.out) hb)
                have n1_ := Aside0.mk (below_step (by repeat (first | (with_reducible first | exact HB.out | apply below_alloc | apply pw_below_drewN | apply below_drew1 | refine below_set ?_ GE207.out) | exact HB.out)) hb)
                have n2_ := Aside0.mk (hbox)
                have n3_ := Aside0.mk ((by rw [hg]; exact (below_size (by repeat (first | (with_reducible first | exact HB.out | apply below_alloc | apply pw_below_drewN | apply below_drew1 | refine below_set ?_ GE207.out) | exact HB.out))) : w.heap.size ≤ gb218))
                have n4_ := Aside0.mk ((by rw [hg]; exact (below_size (by repeat (first | (with_reducible first | exact HB.out | apply below_alloc | apply pw_below_drewN | apply below_drew1 | refine below_set ?_ GE207.out) | exact HB.out))) : w.heap.size ≤ gb218))
                have n5_ := Aside0.mk ((by rw [hg]; exact Nat.ne_of_lt (blk_lt (g := gb207) (o := .cells #[.int .i64 t204, .int .i64 t205] 62 (0, 0)) (by (with_reducible repeat (first | refine blk_drewN ?_ _ | refine blk_drew ?_ | refine blk_alloc ?_ _)); exact BK207.out)) : gb207 ≠ gb218))
                have n6_ := Aside0.mk ((by rw [hg]; exact Nat.ne_of_gt (blk_lt (g := gb207) (o := .cells #[.int .i64 t204, .int .i64 t205] 62 (0, 0)) (by (with_reducible repeat (first | refine blk_drewN ?_ _ | refine blk_drew ?_ | refine blk_alloc ?_ _)); exact BK207.out)) : gb218 ≠ gb207))
                clear BK207
                clear HB
                have BK207 := n0_
                have HB := n1_
                have BK218 := n2_
                have GW218 := n3_
                have GE218 := n4_
                have NB207_218 := n5_
                have NB218_207 := n6_
                clear n0_ n1_ n2_ n3_ n4_ n5_ n6_
                clear hb hbox hg
                refine hK.out _ _ ⟨(blk_cell BK207.out 0).trans rfl, (blk_cell BK207.out 1).trans rfl⟩ (fun hHeld => ?_)
                clear hK K
                refine norm_ (a' := ?_) ?_ ?_
                rotate_left
                · show Act.put _ (some 9) _ = _
                  simp only [Act.put, List.setIfInBounds_toArray, List.set_cons_zero, List.set_cons_succ, i64_w, i32_w]
                  rfl
                exact norm_ (by first | (simp only [putAll, Act.put, List.setIfInBounds_toArray, List.set_cons_zero, List.set_cons_succ]; done) | (simp only [putAll, Act.put, List.setIfInBounds_toArray, List.set_cons_zero, List.set_cons_succ]; rfl)) (hJ2_5_6 (gb218) _ ⟨hHeld, (by (with_reducible repeat (first | refine blk_drewN ?_ _ | refine blk_drew ?_ | refine blk_alloc ?_ _)); exact BK207.out), (by (with_reducible repeat (first | refine blk_drewN ?_ _ | refine blk_drew ?_ | refine blk_alloc ?_ _)); exact BK218.out), GW218.out, GE218.out, NB207_218.out, NB218_207.out, (by repeat (first | (with_reducible first | exact HB.out | apply below_alloc | apply pw_below_drewN | apply below_drew1 | refine below_set ?_ GE207.out | refine below_set ?_ GE218.out) | exact HB.out))⟩)
              · skip
                refine box_step ?hg (N := 10) ?hd (cs := #[.bool false, .bool false, .bool false, .int .u64 0, .int .i64 0]) (t := 66) ?hr ?_; (case hd => rfl); (case hg => rfl); (case hr => first | (go_simp; done) | (go_simp; rfl))
                intro gb219 hg w17 hbox hb
                have n0_ := Aside0.mk (blk_below (g := gb207) (o := .cells #[.int .i64 t204, .int .i64 t205] 62 (0, 0)) (by (with_reducible repeat (first | refine blk_drewN ?_ _ | refine blk_drew ?_ | refine blk_alloc ?_ _)); exact BK207.out) hb)
                have n1_ := Aside0.mk (below_step (by repeat (first | (with_reducible first | exact HB.out | apply below_alloc | apply pw_below_drewN | apply below_drew1 | refine below_set ?_ GE207.out) | exact HB.out)) hb)
                have n2_ := Aside0.mk (hbox)
                have n3_ := Aside0.mk ((by rw [hg]; exact (below_size (by repeat (first | (with_reducible first | exact HB.out | apply below_alloc | apply pw_below_drewN | apply below_drew1 | refine below_set ?_ GE207.out) | exact HB.out))) : w.heap.size ≤ gb219))
                have n4_ := Aside0.mk ((by rw [hg]; exact (below_size (by repeat (first | (with_reducible first | exact HB.out | apply below_alloc | apply pw_below_drewN | apply below_drew1 | refine below_set ?_ GE207.out) | exact HB.out))) : w.heap.size ≤ gb219))
                have n5_ := Aside0.mk ((by rw [hg]; exact Nat.ne_of_lt (blk_lt (g := gb207) (o := .cells #[.int .i64 t204, .int .i64 t205] 62 (0, 0)) (by (with_reducible repeat (first | refine blk_drewN ?_ _ | refine blk_drew ?_ | refine blk_alloc ?_ _)); exact BK207.out)) : gb207 ≠ gb219))
                have n6_ := Aside0.mk ((by rw [hg]; exact Nat.ne_of_gt (blk_lt (g := gb207) (o := .cells #[.int .i64 t204, .int .i64 t205] 62 (0, 0)) (by (with_reducible repeat (first | refine blk_drewN ?_ _ | refine blk_drew ?_ | refine blk_alloc ?_ _)); exact BK207.out)) : gb219 ≠ gb207))
                clear BK207
                clear HB
                have BK207 := n0_
                have HB := n1_
                have BK219 := n2_
                have GW219 := n3_
                have GE219 := n4_
                have NB207_219 := n5_
                have NB219_207 := n6_
                clear n0_ n1_ n2_ n3_ n4_ n5_ n6_
                clear hb hbox hg
                refine hK.out _ _ ⟨(blk_cell BK207.out 0).trans rfl, (blk_cell BK207.out 1).trans rfl⟩ (fun hHeld => ?_)
                clear hK K
                refine norm_ (a' := ?_) ?_ ?_
                rotate_left
                · show Act.put _ (some 10) _ = _
                  simp only [Act.put, List.setIfInBounds_toArray, List.set_cons_zero, List.set_cons_succ, i64_w, i32_w]
                  rfl
                exact norm_ (by first | (simp only [putAll, Act.put, List.setIfInBounds_toArray, List.set_cons_zero, List.set_cons_succ]; done) | (simp only [putAll, Act.put, List.setIfInBounds_toArray, List.set_cons_zero, List.set_cons_succ]; rfl)) (hJ2_5_7 (gb219) _ ⟨hHeld, (by (with_reducible repeat (first | refine blk_drewN ?_ _ | refine blk_drew ?_ | refine blk_alloc ?_ _)); exact BK207.out), (by (with_reducible repeat (first | refine blk_drewN ?_ _ | refine blk_drew ?_ | refine blk_alloc ?_ _)); exact BK219.out), GW219.out, GE219.out, NB207_219.out, NB219_207.out, (by repeat (first | (with_reducible first | exact HB.out | apply below_alloc | apply pw_below_drewN | apply below_drew1 | refine below_set ?_ GE207.out | refine below_set ?_ GE219.out) | exact HB.out))⟩)
          · skip
            rintro ⟨gb218, gb219⟩ w17 ⟨hS_, h0_, h1_, h2_, h3_, h4_, h5_, h6_, h7_, h8_, h9_, h10_, h11_, h12_, h13_⟩
            have n0_ : Aside0 (w17.heap[gb207]? = some (.cells #[.int .i64 t204, .int .i64 t205] 62 (0, 0))) := ⟨h0_⟩
            have n1_ : Aside0 (w17.heap[gb218]? = some (.cells #[.bool false, .bool false, .bool false, .int .u64 0, .int .i64 0] 66 (0, 0))) := ⟨h1_⟩
            have n2_ : Aside0 (w17.heap[gb219]? = some (.cells #[.bool false, .bool false, .bool false, .int .u64 0, .int .i64 0] 66 (0, 0))) := ⟨h2_⟩
            have n3_ : Aside0 (w.heap.size ≤ gb218) := ⟨h3_⟩
            have n4_ : Aside0 (w.heap.size ≤ gb218) := ⟨h4_⟩
            have n5_ : Aside0 (gb207 ≠ gb218) := ⟨h5_⟩
            have n6_ : Aside0 (gb218 ≠ gb207) := ⟨h6_⟩
            have n7_ : Aside0 (gb219 ≠ gb218) := ⟨h7_⟩
            have n8_ : Aside0 (gb218 ≠ gb219) := ⟨h8_⟩
            have n9_ : Aside0 (w.heap.size ≤ gb219) := ⟨h9_⟩
            have n10_ : Aside0 (w.heap.size ≤ gb219) := ⟨h10_⟩
            have n11_ : Aside0 (gb207 ≠ gb219) := ⟨h11_⟩
            have n12_ : Aside0 (gb219 ≠ gb207) := ⟨h12_⟩
            have n13_ : Aside0 (Below w.heap.size w w17) := ⟨h13_⟩
            clear BK207
            clear HB
            clear h0_ h1_ h2_ h3_ h4_ h5_ h6_ h7_ h8_ h9_ h10_ h11_ h12_ h13_
            have BK207 := n0_
            have BK218 := n1_
            have BK219 := n2_
            have GW218 := n3_
            have GE218 := n4_
            have NB207_218 := n5_
            have NB218_207 := n6_
            have NB219_218 := n7_
            have NB218_219 := n8_
            have GW219 := n9_
            have GE219 := n10_
            have NB207_219 := n11_
            have NB219_207 := n12_
            have HB := n13_
            clear n0_ n1_ n2_ n3_ n4_ n5_ n6_ n7_ n8_ n9_ n10_ n11_ n12_ n13_
            have hHeld : w17.cell? ⟨gb207, 0, none⟩ = some (.int .i64 t204) ∧ w17.cell? ⟨gb207, 1, none⟩ = some (.int .i64 t205) := hS_
            refine norm_ (a' := ?_) ?_ ?_
            rotate_left
            · simp only [putAll, Act.put, List.setIfInBounds_toArray, List.set_cons_zero, List.set_cons_succ]
              rfl
            refine one_ (i := 5) (N := some 25) #[true, true, true, true, true, true, true, true, false, false] rfl rfl (one_of HT_.out (by kernel_rfl)) (by decide) (fun K hK => ?_)
            refine goes_ Try.func52 (by kernel_rfl) rfl #[.agg #[.int .i64 t204, .int .i64 t205], .int .u32 a2] (by rfl) rfl rfl (by (try simp only [List.map_toArray, List.map_cons, List.map_nil]); first | done | rfl | (simp only [List.length_drop, List.length_take]; rfl)) ?_
            with_reducible refine (impl_format_open.calls t204 t205 a2 t213 t214 t215 t216 t217 _ A7.out).mono ?_
            rintro e w18 ⟨rfl, hb⟩
            refine ⟨_, rfl, ?_⟩
            have n0_ := Aside0.mk (blk_below (g := gb207) (o := .cells #[.int .i64 t204, .int .i64 t205] 62 (0, 0)) (by (with_reducible repeat (first | refine blk_drewN ?_ _ | refine blk_drew ?_ | refine blk_alloc ?_ _)); exact BK207.out) hb)
            have n1_ := Aside0.mk (blk_below (g := gb218) (o := .cells #[.bool false, .bool false, .bool false, .int .u64 0, .int .i64 0] 66 (0, 0)) (by (with_reducible repeat (first | refine blk_drewN ?_ _ | refine blk_drew ?_ | refine blk_alloc ?_ _)); exact BK218.out) hb)
            have n2_ := Aside0.mk (blk_below (g := gb219) (o := .cells #[.bool false, .bool false, .bool false, .int .u64 0, .int .i64 0] 66 (0, 0)) (by (with_reducible repeat (first | refine blk_drewN ?_ _ | refine blk_drew ?_ | refine blk_alloc ?_ _)); exact BK219.out) hb)
            have n3_ := Aside0.mk (below_step (by repeat (first | (with_reducible first | exact HB.out | apply below_alloc | apply pw_below_drewN | apply below_drew1 | refine below_set ?_ GE207.out | refine below_set ?_ GE218.out | refine below_set ?_ GE219.out) | exact HB.out)) hb)
            clear BK207
            clear BK218
            clear BK219
            clear HB
            have BK207 := n0_
            have BK218 := n1_
            have BK219 := n2_
            have HB := n3_
            clear n0_ n1_ n2_ n3_
            (try clear hb)
            (try clear hb2)
            (try clear hk)
            (try clear hi)
            refine hK.out _ _ ⟨(blk_cell BK207.out 0).trans rfl, (blk_cell BK207.out 1).trans rfl⟩ (fun hHeld => ?_)
            clear hK K
            refine norm_ (a' := ?_) ?_ ?_
            rotate_left
            · show Act.put _ (some 25) _ = _
              simp only [Act.put, List.setIfInBounds_toArray, List.set_cons_zero, List.set_cons_succ, i64_w, i32_w]
              rfl
            exact norm_ (by first | (simp only [putAll, Act.put, List.setIfInBounds_toArray, List.set_cons_zero, List.set_cons_succ]; done) | (simp only [putAll, Act.put, List.setIfInBounds_toArray, List.set_cons_zero, List.set_cons_succ]; rfl)) (hJ2_5_6_7 (gb218, gb219) _ ⟨hHeld, (by (with_reducible repeat (first | refine blk_drewN ?_ _ | refine blk_drew ?_ | refine blk_alloc ?_ _)); exact BK207.out), (by (with_reducible repeat (first | refine blk_drewN ?_ _ | refine blk_drew ?_ | refine blk_alloc ?_ _)); exact BK218.out), (by (with_reducible repeat (first | refine blk_drewN ?_ _ | refine blk_drew ?_ | refine blk_alloc ?_ _)); exact BK219.out), GW218.out, GE218.out, NB207_218.out, NB218_207.out, NB219_218.out, NB218_219.out, GW219.out, GE219.out, NB207_219.out, NB219_207.out, (by repeat (first | (with_reducible first | exact HB.out | apply below_alloc | apply pw_below_drewN | apply below_drew1 | refine below_set ?_ GE207.out | refine below_set ?_ GE218.out | refine below_set ?_ GE219.out) | exact HB.out))⟩)
        · skip
          rintro gb219 w17 ⟨hS_, h0_, h1_, h2_, h3_, h4_, h5_, h6_⟩
          have n0_ : Aside0 (w17.heap[gb207]? = some (.cells #[.int .i64 t204, .int .i64 t205] 62 (0, 0))) := ⟨h0_⟩
          have n1_ : Aside0 (w17.heap[gb219]? = some (.cells #[.bool false, .bool false, .bool false, .int .u64 0, .int .i64 0] 66 (0, 0))) := ⟨h1_⟩
          have n2_ : Aside0 (w.heap.size ≤ gb219) := ⟨h2_⟩
          have n3_ : Aside0 (w.heap.size ≤ gb219) := ⟨h3_⟩
          have n4_ : Aside0 (gb207 ≠ gb219) := ⟨h4_⟩
          have n5_ : Aside0 (gb219 ≠ gb207) := ⟨h5_⟩
          have n6_ : Aside0 (Below w.heap.size w w17) := ⟨h6_⟩
          clear BK207
          clear HB
          clear h0_ h1_ h2_ h3_ h4_ h5_ h6_
          have BK207 := n0_
          have BK219 := n1_
          have GW219 := n2_
          have GE219 := n3_
          have NB207_219 := n4_
          have NB219_207 := n5_
          have HB := n6_
          clear n0_ n1_ n2_ n3_ n4_ n5_ n6_
          have hHeld : w17.cell? ⟨gb207, 0, none⟩ = some (.int .i64 t204) ∧ w17.cell? ⟨gb207, 1, none⟩ = some (.int .i64 t205) := hS_
          refine norm_ (a' := ?_) ?_ ?_
          rotate_left
          · simp only [putAll, Act.put, List.setIfInBounds_toArray, List.set_cons_zero, List.set_cons_succ]
            rfl
          refine one_ (i := 6) (N := some 9) #[true, true, true, true, true, true, true, true, false, false] rfl rfl (one_of HT_.out (by kernel_rfl)) (by decide) (fun K hK => ?_)
          refine box_step ?hg (N := 9) ?hd (cs := #[.bool false, .bool false, .bool false, .int .u64 0, .int .i64 0]) (t := 66) ?hr ?_; (case hd => rfl); (case hg => rfl); (case hr => first | (go_simp; done) | (go_simp; rfl))
          intro gb218 hg w18 hbox hb
          have n0_ := Aside0.mk (blk_below (g := gb207) (o := .cells #[.int .i64 t204, .int .i64 t205] 62 (0, 0)) (by (with_reducible repeat (first | refine blk_drewN ?_ _ | refine blk_drew ?_ | refine blk_alloc ?_ _)); exact BK207.out) hb)
          have n1_ := Aside0.mk (blk_below (g := gb219) (o := .cells #[.bool false, .bool false, .bool false, .int .u64 0, .int .i64 0] 66 (0, 0)) (by (with_reducible repeat (first | refine blk_drewN ?_ _ | refine blk_drew ?_ | refine blk_alloc ?_ _)); exact BK219.out) hb)
          have n2_ := Aside0.mk (below_step (by repeat (first | (with_reducible first | exact HB.out | apply below_alloc | apply pw_below_drewN | apply below_drew1 | refine below_set ?_ GE207.out | refine below_set ?_ GE219.out) | exact HB.out)) hb)
          have n3_ := Aside0.mk (hbox)
          have n4_ := Aside0.mk ((by rw [hg]; exact (below_size (by repeat (first | (with_reducible first | exact HB.out | apply below_alloc | apply pw_below_drewN | apply below_drew1 | refine below_set ?_ GE207.out | refine below_set ?_ GE219.out) | exact HB.out))) : w.heap.size ≤ gb218))
          have n5_ := Aside0.mk ((by rw [hg]; exact (below_size (by repeat (first | (with_reducible first | exact HB.out | apply below_alloc | apply pw_below_drewN | apply below_drew1 | refine below_set ?_ GE207.out | refine below_set ?_ GE219.out) | exact HB.out))) : w.heap.size ≤ gb218))
          have n6_ := Aside0.mk ((by rw [hg]; exact Nat.ne_of_lt (blk_lt (g := gb207) (o := .cells #[.int .i64 t204, .int .i64 t205] 62 (0, 0)) (by (with_reducible repeat (first | refine blk_drewN ?_ _ | refine blk_drew ?_ | refine blk_alloc ?_ _)); exact BK207.out)) : gb207 ≠ gb218))
          have n7_ := Aside0.mk ((by rw [hg]; exact Nat.ne_of_gt (blk_lt (g := gb207) (o := .cells #[.int .i64 t204, .int .i64 t205] 62 (0, 0)) (by (with_reducible repeat (first | refine blk_drewN ?_ _ | refine blk_drew ?_ | refine blk_alloc ?_ _)); exact BK207.out)) : gb218 ≠ gb207))
          have n8_ := Aside0.mk ((by rw [hg]; exact Nat.ne_of_lt (blk_lt (g := gb219) (o := .cells #[.bool false, .bool false, .bool false, .int .u64 0, .int .i64 0] 66 (0, 0)) (by (with_reducible repeat (first | refine blk_drewN ?_ _ | refine blk_drew ?_ | refine blk_alloc ?_ _)); exact BK219.out)) : gb219 ≠ gb218))
          have n9_ := Aside0.mk ((by rw [hg]; exact Nat.ne_of_gt (blk_lt (g := gb219) (o := .cells #[.bool false, .bool false, .bool false, .int .u64 0, .int .i64 0] 66 (0, 0)) (by (with_reducible repeat (first | refine blk_drewN ?_ _ | refine blk_drew ?_ | refine blk_alloc ?_ _)); exact BK219.out)) : gb218 ≠ gb219))
          clear BK207
          clear BK219
          clear HB
          have BK207 := n0_
          have BK219 := n1_
          have HB := n2_
          have BK218 := n3_
          have GW218 := n4_
          have GE218 := n5_
          have NB207_218 := n6_
          have NB218_207 := n7_
          have NB219_218 := n8_
          have NB218_219 := n9_
          clear n0_ n1_ n2_ n3_ n4_ n5_ n6_ n7_ n8_ n9_
          clear hb hbox hg
          refine hK.out _ _ ⟨(blk_cell BK207.out 0).trans rfl, (blk_cell BK207.out 1).trans rfl⟩ (fun hHeld => ?_)
          clear hK K
          refine norm_ (a' := ?_) ?_ ?_
          rotate_left
          · show Act.put _ (some 9) _ = _
            simp only [Act.put, List.setIfInBounds_toArray, List.set_cons_zero, List.set_cons_succ, i64_w, i32_w]
            rfl
          exact norm_ (by first | (simp only [putAll, Act.put, List.setIfInBounds_toArray, List.set_cons_zero, List.set_cons_succ]; done) | (simp only [putAll, Act.put, List.setIfInBounds_toArray, List.set_cons_zero, List.set_cons_succ]; rfl)) (hJ2_5_6_7 (gb218, gb219) _ ⟨hHeld, (by (with_reducible repeat (first | refine blk_drewN ?_ _ | refine blk_drew ?_ | refine blk_alloc ?_ _)); exact BK207.out), (by (with_reducible repeat (first | refine blk_drewN ?_ _ | refine blk_drew ?_ | refine blk_alloc ?_ _)); exact BK218.out), (by (with_reducible repeat (first | refine blk_drewN ?_ _ | refine blk_drew ?_ | refine blk_alloc ?_ _)); exact BK219.out), GW218.out, GE218.out, NB207_218.out, NB218_207.out, NB219_218.out, NB218_219.out, GW219.out, GE219.out, NB207_219.out, NB219_207.out, (by repeat (first | (with_reducible first | exact HB.out | apply below_alloc | apply pw_below_drewN | apply below_drew1 | refine below_set ?_ GE207.out | refine below_set ?_ GE219.out | refine below_set ?_ GE218.out) | exact HB.out))⟩)
      · skip
        rintro gb218 w17 ⟨hS_, h0_, h1_, h2_, h3_, h4_, h5_, h6_⟩
        have n0_ : Aside0 (w17.heap[gb207]? = some (.cells #[.int .i64 t204, .int .i64 t205] 62 (0, 0))) := ⟨h0_⟩
        have n1_ : Aside0 (w17.heap[gb218]? = some (.cells #[.bool false, .bool false, .bool false, .int .u64 0, .int .i64 0] 66 (0, 0))) := ⟨h1_⟩
        have n2_ : Aside0 (w.heap.size ≤ gb218) := ⟨h2_⟩
        have n3_ : Aside0 (w.heap.size ≤ gb218) := ⟨h3_⟩
        have n4_ : Aside0 (gb207 ≠ gb218) := ⟨h4_⟩
        have n5_ : Aside0 (gb218 ≠ gb207) := ⟨h5_⟩
        have n6_ : Aside0 (Below w.heap.size w w17) := ⟨h6_⟩
        clear BK207
        clear HB
        clear h0_ h1_ h2_ h3_ h4_ h5_ h6_
        have BK207 := n0_
        have BK218 := n1_
        have GW218 := n2_
        have GE218 := n3_
        have NB207_218 := n4_
        have NB218_207 := n5_
        have HB := n6_
        clear n0_ n1_ n2_ n3_ n4_ n5_ n6_
        have hHeld : w17.cell? ⟨gb207, 0, none⟩ = some (.int .i64 t204) ∧ w17.cell? ⟨gb207, 1, none⟩ = some (.int .i64 t205) := hS_
        refine norm_ (a' := ?_) ?_ ?_
        rotate_left
        · simp only [putAll, Act.put, List.setIfInBounds_toArray, List.set_cons_zero, List.set_cons_succ]
          rfl
        refine one_ (i := 7) (N := some 10) #[true, true, true, true, true, true, true, true, false, false] rfl rfl (one_of HT_.out (by kernel_rfl)) (by decide) (fun K hK => ?_)
        refine box_step ?hg (N := 10) ?hd (cs := #[.bool false, .bool false, .bool false, .int .u64 0, .int .i64 0]) (t := 66) ?hr ?_; (case hd => rfl); (case hg => rfl); (case hr => first | (go_simp; done) | (go_simp; rfl))
        intro gb219 hg w18 hbox hb
        have n0_ := Aside0.mk (blk_below (g := gb207) (o := .cells #[.int .i64 t204, .int .i64 t205] 62 (0, 0)) (by (with_reducible repeat (first | refine blk_drewN ?_ _ | refine blk_drew ?_ | refine blk_alloc ?_ _)); exact BK207.out) hb)
        have n1_ := Aside0.mk (blk_below (g := gb218) (o := .cells #[.bool false, .bool false, .bool false, .int .u64 0, .int .i64 0] 66 (0, 0)) (by (with_reducible repeat (first | refine blk_drewN ?_ _ | refine blk_drew ?_ | refine blk_alloc ?_ _)); exact BK218.out) hb)
        have n2_ := Aside0.mk (below_step (by repeat (first | (with_reducible first | exact HB.out | apply below_alloc | apply pw_below_drewN | apply below_drew1 | refine below_set ?_ GE207.out | refine below_set ?_ GE218.out) | exact HB.out)) hb)
        have n3_ := Aside0.mk (hbox)
        have n4_ := Aside0.mk ((by rw [hg]; exact (below_size (by repeat (first | (with_reducible first | exact HB.out | apply below_alloc | apply pw_below_drewN | apply below_drew1 | refine below_set ?_ GE207.out | refine below_set ?_ GE218.out) | exact HB.out))) : w.heap.size ≤ gb219))
        have n5_ := Aside0.mk ((by rw [hg]; exact (below_size (by repeat (first | (with_reducible first | exact HB.out | apply below_alloc | apply pw_below_drewN | apply below_drew1 | refine below_set ?_ GE207.out | refine below_set ?_ GE218.out) | exact HB.out))) : w.heap.size ≤ gb219))
        have n6_ := Aside0.mk ((by rw [hg]; exact Nat.ne_of_lt (blk_lt (g := gb207) (o := .cells #[.int .i64 t204, .int .i64 t205] 62 (0, 0)) (by (with_reducible repeat (first | refine blk_drewN ?_ _ | refine blk_drew ?_ | refine blk_alloc ?_ _)); exact BK207.out)) : gb207 ≠ gb219))
        have n7_ := Aside0.mk ((by rw [hg]; exact Nat.ne_of_gt (blk_lt (g := gb207) (o := .cells #[.int .i64 t204, .int .i64 t205] 62 (0, 0)) (by (with_reducible repeat (first | refine blk_drewN ?_ _ | refine blk_drew ?_ | refine blk_alloc ?_ _)); exact BK207.out)) : gb219 ≠ gb207))
        have n8_ := Aside0.mk ((by rw [hg]; exact Nat.ne_of_lt (blk_lt (g := gb218) (o := .cells #[.bool false, .bool false, .bool false, .int .u64 0, .int .i64 0] 66 (0, 0)) (by (with_reducible repeat (first | refine blk_drewN ?_ _ | refine blk_drew ?_ | refine blk_alloc ?_ _)); exact BK218.out)) : gb218 ≠ gb219))
        have n9_ := Aside0.mk ((by rw [hg]; exact Nat.ne_of_gt (blk_lt (g := gb218) (o := .cells #[.bool false, .bool false, .bool false, .int .u64 0, .int .i64 0] 66 (0, 0)) (by (with_reducible repeat (first | refine blk_drewN ?_ _ | refine blk_drew ?_ | refine blk_alloc ?_ _)); exact BK218.out)) : gb219 ≠ gb218))
        clear BK207
        clear BK218
        clear HB
        have BK207 := n0_
        have BK218 := n1_
        have HB := n2_
        have BK219 := n3_
        have GW219 := n4_
        have GE219 := n5_
        have NB207_219 := n6_
        have NB219_207 := n7_
        have NB218_219 := n8_
        have NB219_218 := n9_
        clear n0_ n1_ n2_ n3_ n4_ n5_ n6_ n7_ n8_ n9_
        clear hb hbox hg
        refine hK.out _ _ ⟨(blk_cell BK207.out 0).trans rfl, (blk_cell BK207.out 1).trans rfl⟩ (fun hHeld => ?_)
        clear hK K
        refine norm_ (a' := ?_) ?_ ?_
        rotate_left
        · show Act.put _ (some 10) _ = _
          simp only [Act.put, List.setIfInBounds_toArray, List.set_cons_zero, List.set_cons_succ, i64_w, i32_w]
          rfl
        exact norm_ (by first | (simp only [putAll, Act.put, List.setIfInBounds_toArray, List.set_cons_zero, List.set_cons_succ]; done) | (simp only [putAll, Act.put, List.setIfInBounds_toArray, List.set_cons_zero, List.set_cons_succ]; rfl)) (hJ2_5_6_7 (gb218, gb219) _ ⟨hHeld, (by (with_reducible repeat (first | refine blk_drewN ?_ _ | refine blk_drew ?_ | refine blk_alloc ?_ _)); exact BK207.out), (by (with_reducible repeat (first | refine blk_drewN ?_ _ | refine blk_drew ?_ | refine blk_alloc ?_ _)); exact BK218.out), (by (with_reducible repeat (first | refine blk_drewN ?_ _ | refine blk_drew ?_ | refine blk_alloc ?_ _)); exact BK219.out), GW218.out, GE218.out, NB207_218.out, NB218_207.out, NB219_218.out, NB218_219.out, GW219.out, GE219.out, NB207_219.out, NB219_207.out, (by repeat (first | (with_reducible first | exact HB.out | apply below_alloc | apply pw_below_drewN | apply below_drew1 | refine below_set ?_ GE207.out | refine below_set ?_ GE218.out | refine below_set ?_ GE219.out) | exact HB.out))⟩)
    rintro ⟨gb218, gb219⟩ w18 ⟨hS_, h0_, h1_, h2_, h3_, h4_, h5_, h6_, h7_, h8_, h9_, h10_, h11_, h12_, h13_⟩
    have n0_ : Aside0 (w18.heap[gb207]? = some (.cells #[.int .i64 t204, .int .i64 t205] 62 (0, 0))) := ⟨h0_⟩
    have n1_ : Aside0 (w18.heap[gb218]? = some (.cells #[.bool false, .bool false, .bool false, .int .u64 0, .int .i64 0] 66 (0, 0))) := ⟨h1_⟩
    have n2_ : Aside0 (w18.heap[gb219]? = some (.cells #[.bool false, .bool false, .bool false, .int .u64 0, .int .i64 0] 66 (0, 0))) := ⟨h2_⟩
    have n3_ : Aside0 (w.heap.size ≤ gb218) := ⟨h3_⟩
    have n4_ : Aside0 (w.heap.size ≤ gb218) := ⟨h4_⟩
    have n5_ : Aside0 (gb207 ≠ gb218) := ⟨h5_⟩
    have n6_ : Aside0 (gb218 ≠ gb207) := ⟨h6_⟩
    have n7_ : Aside0 (gb219 ≠ gb218) := ⟨h7_⟩
    have n8_ : Aside0 (gb218 ≠ gb219) := ⟨h8_⟩
    have n9_ : Aside0 (w.heap.size ≤ gb219) := ⟨h9_⟩
    have n10_ : Aside0 (w.heap.size ≤ gb219) := ⟨h10_⟩
    have n11_ : Aside0 (gb207 ≠ gb219) := ⟨h11_⟩
    have n12_ : Aside0 (gb219 ≠ gb207) := ⟨h12_⟩
    have n13_ : Aside0 (Below w.heap.size w w18) := ⟨h13_⟩
    clear BK207
    clear HB
    clear h0_ h1_ h2_ h3_ h4_ h5_ h6_ h7_ h8_ h9_ h10_ h11_ h12_ h13_
    have BK207 := n0_
    have BK218 := n1_
    have BK219 := n2_
    have GW218 := n3_
    have GE218 := n4_
    have NB207_218 := n5_
    have NB218_207 := n6_
    have NB219_218 := n7_
    have NB218_219 := n8_
    have GW219 := n9_
    have GE219 := n10_
    have NB207_219 := n11_
    have NB219_207 := n12_
    have HB := n13_
    clear n0_ n1_ n2_ n3_ n4_ n5_ n6_ n7_ n8_ n9_ n10_ n11_ n12_ n13_
    have hHeld : w18.cell? ⟨gb207, 0, none⟩ = some (.int .i64 t204) ∧ w18.cell? ⟨gb207, 1, none⟩ = some (.int .i64 t205) := hS_
    refine norm_ (a' := ?_) ?_ ?_
    rotate_left
    · simp only [putAll, Act.put, List.setIfInBounds_toArray, List.set_cons_zero, List.set_cons_succ]
      rfl
    refine one_ (i := 8) (N := none) #[true, true, true, true, true, true, true, true, true, false] rfl rfl (one_of HT_.out (by kernel_rfl)) (by decide) (fun K hK => ?_)
    have hs19 : w18.cell? ⟨gb218, 0, none⟩ = some (.bool false) := (blk_cell BK218.out 0).trans rfl
    have hfs19 := blk_frozen BK218.out 0
    have hns19_0 := NB207_218.out
    have hns19_2 := NB219_218.out
    have hms19_0 := NB218_207.out
    have hms19_2 := NB218_219.out
    have hs20 : w18.cell? ⟨gb218, 1, none⟩ = some (.bool false) := (blk_cell BK218.out 1).trans rfl
    have hfs20 := blk_frozen BK218.out 1
    have hns20_0 := NB207_218.out
    have hns20_2 := NB219_218.out
    have hms20_0 := NB218_207.out
    have hms20_2 := NB218_219.out
    have hs21 : w18.cell? ⟨gb218, 2, none⟩ = some (.bool false) := (blk_cell BK218.out 2).trans rfl
    have hfs21 := blk_frozen BK218.out 2
    have hns21_0 := NB207_218.out
    have hns21_2 := NB219_218.out
    have hms21_0 := NB218_207.out
    have hms21_2 := NB218_219.out
    have hs22 : w18.cell? ⟨gb218, 3, none⟩ = some (.int .u64 0) := (blk_cell BK218.out 3).trans rfl
    have hfs22 := blk_frozen BK218.out 3
    have hns22_0 := NB207_218.out
    have hns22_2 := NB219_218.out
    have hms22_0 := NB218_207.out
    have hms22_2 := NB218_219.out
    have hs23 : w18.cell? ⟨gb218, 4, none⟩ = some (.int .i64 0) := (blk_cell BK218.out 4).trans rfl
    have hfs23 := blk_frozen BK218.out 4
    have hns23_0 := NB207_218.out
    have hns23_2 := NB219_218.out
    have hms23_0 := NB218_207.out
    have hms23_2 := NB218_219.out
    refine skip_ (w1 := ?_) (by rfl) rfl ?_ ?_
    rotate_left
    · go_simp
      rfl
    refine hK.out _ _ ⟨((cell_far (p := ⟨gb218, _, none⟩) NB207_218.out _).trans (((cell_far (p := ⟨gb218, _, none⟩) NB207_218.out _).trans (((cell_far (p := ⟨gb218, _, none⟩) NB207_218.out _).trans (((cell_far (p := ⟨gb218, _, none⟩) NB207_218.out _).trans (((cell_far (p := ⟨gb218, _, none⟩) NB207_218.out _).trans (hHeld.1)))))))))), ((cell_far (p := ⟨gb218, _, none⟩) NB207_218.out _).trans (((cell_far (p := ⟨gb218, _, none⟩) NB207_218.out _).trans (((cell_far (p := ⟨gb218, _, none⟩) NB207_218.out _).trans (((cell_far (p := ⟨gb218, _, none⟩) NB207_218.out _).trans (((cell_far (p := ⟨gb218, _, none⟩) NB207_218.out _).trans (hHeld.2))))))))))⟩ (fun hHeld => ?_)
    clear hK K
    refine one_ (i := 9) (N := none) #[true, true, true, true, true, true, true, true, true, true] rfl rfl (one_of HT_.out (by kernel_rfl)) (by decide) (fun K hK => ?_)
    have hs24 : w18.cell? ⟨gb219, 0, none⟩ = some (.bool false) := (blk_cell BK219.out 0).trans rfl
    have hfs24 := blk_frozen BK219.out 0
    have hns24_0 := NB207_219.out
    have hns24_1 := NB218_219.out
    have hms24_0 := NB219_207.out
    have hms24_1 := NB219_218.out
    have hs25 : w18.cell? ⟨gb219, 1, none⟩ = some (.bool false) := (blk_cell BK219.out 1).trans rfl
    have hfs25 := blk_frozen BK219.out 1
    have hns25_0 := NB207_219.out
    have hns25_1 := NB218_219.out
    have hms25_0 := NB219_207.out
    have hms25_1 := NB219_218.out
    have hs26 : w18.cell? ⟨gb219, 2, none⟩ = some (.bool false) := (blk_cell BK219.out 2).trans rfl
    have hfs26 := blk_frozen BK219.out 2
    have hns26_0 := NB207_219.out
    have hns26_1 := NB218_219.out
    have hms26_0 := NB219_207.out
    have hms26_1 := NB219_218.out
    have hs27 : w18.cell? ⟨gb219, 3, none⟩ = some (.int .u64 0) := (blk_cell BK219.out 3).trans rfl
    have hfs27 := blk_frozen BK219.out 3
    have hns27_0 := NB207_219.out
    have hns27_1 := NB218_219.out
    have hms27_0 := NB219_207.out
    have hms27_1 := NB219_218.out
    have hs28 : w18.cell? ⟨gb219, 4, none⟩ = some (.int .i64 0) := (blk_cell BK219.out 4).trans rfl
    have hfs28 := blk_frozen BK219.out 4
    have hns28_0 := NB207_219.out
    have hns28_1 := NB218_219.out
    have hms28_0 := NB219_207.out
    have hms28_1 := NB219_218.out
    refine skip_ (w1 := ?_) (by rfl) rfl ?_ ?_
    rotate_left
    · go_simp
      rfl
    refine hK.out _ _ ⟨((cell_far (p := ⟨gb219, _, none⟩) NB207_219.out _).trans (((cell_far (p := ⟨gb219, _, none⟩) NB207_219.out _).trans (((cell_far (p := ⟨gb219, _, none⟩) NB207_219.out _).trans (((cell_far (p := ⟨gb219, _, none⟩) NB207_219.out _).trans (((cell_far (p := ⟨gb219, _, none⟩) NB207_219.out _).trans (hHeld.1)))))))))), ((cell_far (p := ⟨gb219, _, none⟩) NB207_219.out _).trans (((cell_far (p := ⟨gb219, _, none⟩) NB207_219.out _).trans (((cell_far (p := ⟨gb219, _, none⟩) NB207_219.out _).trans (((cell_far (p := ⟨gb219, _, none⟩) NB207_219.out _).trans (((cell_far (p := ⟨gb219, _, none⟩) NB207_219.out _).trans (hHeld.2))))))))))⟩ (fun hHeld => ?_)
    clear hK K
    refine done_ (done_of HT_.out (by kernel_rfl)) ?_
    have hnb29 := NB218_207.out
    have hnc29 := NB207_218.out
    have hnb30 := NB218_219.out
    have hnc30 := NB219_218.out
    have hcz31_0 : w18.cell? ⟨gb218, 0, none⟩ = some (.bool false) := (blk_cell BK218.out 0).trans rfl
    have hcz31_1 : w18.cell? ⟨gb218, 1, none⟩ = some (.bool false) := (blk_cell BK218.out 1).trans rfl
    have hcz31_2 : w18.cell? ⟨gb218, 2, none⟩ = some (.bool false) := (blk_cell BK218.out 2).trans rfl
    have hcz31_3 : w18.cell? ⟨gb218, 3, none⟩ = some (.int .u64 0) := (blk_cell BK218.out 3).trans rfl
    have hcz31_4 : w18.cell? ⟨gb218, 4, none⟩ = some (.int .i64 0) := (blk_cell BK218.out 4).trans rfl
    have hfz31_0 := blk_frozen BK218.out 0
    have hfz31_1 := blk_frozen BK218.out 1
    have hfz31_2 := blk_frozen BK218.out 2
    have hfz31_3 := blk_frozen BK218.out 3
    have hfz31_4 := blk_frozen BK218.out 4
    have hnb32 := NB219_207.out
    have hnc32 := NB207_219.out
    have hcz33_0 : w18.cell? ⟨gb219, 0, none⟩ = some (.bool false) := (blk_cell BK219.out 0).trans rfl
    have hcz33_1 : w18.cell? ⟨gb219, 1, none⟩ = some (.bool false) := (blk_cell BK219.out 1).trans rfl
    have hcz33_2 : w18.cell? ⟨gb219, 2, none⟩ = some (.bool false) := (blk_cell BK219.out 2).trans rfl
    have hcz33_3 : w18.cell? ⟨gb219, 3, none⟩ = some (.int .u64 0) := (blk_cell BK219.out 3).trans rfl
    have hcz33_4 : w18.cell? ⟨gb219, 4, none⟩ = some (.int .i64 0) := (blk_cell BK219.out 4).trans rfl
    have hfz33_0 := blk_frozen BK219.out 0
    have hfz33_1 := blk_frozen BK219.out 1
    have hfz33_2 := blk_frozen BK219.out 2
    have hfz33_3 := blk_frozen BK219.out 3
    have hfz33_4 := blk_frozen BK219.out 4
    go_upto_region 6 with (fail)
    go_cut [12] (fun v12 wc => ∃ (kq : Nat) (x12_7 : Bool), v12 = .bool x12_7 ∧ Aside0 (impl_FMul.j0 kq (t208 != t213) x12_7 t204 t205 t208 t209 t210 t211 t212 t213 t214 t215 t216 t217 = some r) ∧ Aside0 (kq ≤ k) ∧ Aside0 (wc.heap[gb207]? = some (.cells #[.int .i64 t204, .int .i64 t205] 62 (0, 0))) ∧ Aside0 (wc.heap[gb218]? = some (.cells #[.bool t208, .bool t209, .bool t210, .int .u64 t211, .int .i64 t212] 66 (0, 0))) ∧ Aside0 (wc.heap[gb219]? = some (.cells #[.bool t213, .bool t214, .bool t215, .int .u64 t216, .int .i64 t217] 66 (0, 0))) ∧ Aside0 (Below w.heap.size w wc))
    case first =>
      have H := HC8.out
      clear HC8
      by_cases c34 : t210 = true
      · subst c34
        have H1 : (if t215 = true then (impl_FMul.j0 k (t208 != t213) false t204 t205 t208 t209 true t211 t212 t213 t214 t215 t216 t217) else (impl_FMul.j0 k (t208 != t213) (t216 == 0) t204 t205 t208 t209 true t211 t212 t213 t214 t215 t216 t217)) = some r := by rw [if_pos rfl] at H; exact H
        clear H
        have H := H1
        clear H1
        by_cases c35 : t215 = true
        · subst c35
          have H1 : (impl_FMul.j0 k (t208 != t213) false t204 t205 t208 t209 true t211 t212 t213 t214 true t216 t217) = some r := by rw [if_pos rfl] at H; exact H
          clear H
          have H := H1
          clear H1
          have H' := Aside0.mk H
          clear H
          have hnb36 := NB218_207.out
          have hnc36 := NB207_218.out
          have hnb37 := NB218_219.out
          have hnc37 := NB219_218.out
          have hcz38_0 : w18.cell? ⟨gb218, 0, none⟩ = some (.bool false) := (blk_cell BK218.out 0).trans rfl
          have hcz38_1 : w18.cell? ⟨gb218, 1, none⟩ = some (.bool false) := (blk_cell BK218.out 1).trans rfl
          have hcz38_2 : w18.cell? ⟨gb218, 2, none⟩ = some (.bool false) := (blk_cell BK218.out 2).trans rfl
          have hcz38_3 : w18.cell? ⟨gb218, 3, none⟩ = some (.int .u64 0) := (blk_cell BK218.out 3).trans rfl
          have hcz38_4 : w18.cell? ⟨gb218, 4, none⟩ = some (.int .i64 0) := (blk_cell BK218.out 4).trans rfl
          have hfz38_0 := blk_frozen BK218.out 0
          have hfz38_1 := blk_frozen BK218.out 1
          have hfz38_2 := blk_frozen BK218.out 2
          have hfz38_3 := blk_frozen BK218.out 3
          have hfz38_4 := blk_frozen BK218.out 4
          have hnb39 := NB219_207.out
          have hnc39 := NB207_219.out
          have hcz40_0 : w18.cell? ⟨gb219, 0, none⟩ = some (.bool false) := (blk_cell BK219.out 0).trans rfl
          have hcz40_1 : w18.cell? ⟨gb219, 1, none⟩ = some (.bool false) := (blk_cell BK219.out 1).trans rfl
          have hcz40_2 : w18.cell? ⟨gb219, 2, none⟩ = some (.bool false) := (blk_cell BK219.out 2).trans rfl
          have hcz40_3 : w18.cell? ⟨gb219, 3, none⟩ = some (.int .u64 0) := (blk_cell BK219.out 3).trans rfl
          have hcz40_4 : w18.cell? ⟨gb219, 4, none⟩ = some (.int .i64 0) := (blk_cell BK219.out 4).trans rfl
          have hfz40_0 := blk_frozen BK219.out 0
          have hfz40_1 := blk_frozen BK219.out 1
          have hfz40_2 := blk_frozen BK219.out 2
          have hfz40_3 := blk_frozen BK219.out 3
          have hfz40_4 := blk_frozen BK219.out 4
          go_wp2
          go_meet
          case rel => exact ⟨_, (false), (by first | rfl | (simp; done) | (simp [*]; done)), H', ⟨by first | omega | exact Nat.le_refl _⟩, ⟨by (with_reducible repeat (first | refine blk_drewN ?_ _ | refine blk_drew ?_ | refine blk_alloc ?_ _)); refine blk_far ?_ NB207_219.out _; (with_reducible repeat (first | refine blk_drewN ?_ _ | refine blk_drew ?_ | refine blk_alloc ?_ _)); refine blk_far ?_ NB207_219.out _; (with_reducible repeat (first | refine blk_drewN ?_ _ | refine blk_drew ?_ | refine blk_alloc ?_ _)); refine blk_far ?_ NB207_219.out _; (with_reducible repeat (first | refine blk_drewN ?_ _ | refine blk_drew ?_ | refine blk_alloc ?_ _)); refine blk_far ?_ NB207_219.out _; (with_reducible repeat (first | refine blk_drewN ?_ _ | refine blk_drew ?_ | refine blk_alloc ?_ _)); refine blk_far ?_ NB207_219.out _; (with_reducible repeat (first | refine blk_drewN ?_ _ | refine blk_drew ?_ | refine blk_alloc ?_ _)); refine blk_far ?_ NB207_218.out _; (with_reducible repeat (first | refine blk_drewN ?_ _ | refine blk_drew ?_ | refine blk_alloc ?_ _)); refine blk_far ?_ NB207_218.out _; (with_reducible repeat (first | refine blk_drewN ?_ _ | refine blk_drew ?_ | refine blk_alloc ?_ _)); refine blk_far ?_ NB207_218.out _; (with_reducible repeat (first | refine blk_drewN ?_ _ | refine blk_drew ?_ | refine blk_alloc ?_ _)); refine blk_far ?_ NB207_218.out _; (with_reducible repeat (first | refine blk_drewN ?_ _ | refine blk_drew ?_ | refine blk_alloc ?_ _)); refine blk_far ?_ NB207_218.out _; (with_reducible repeat (first | refine blk_drewN ?_ _ | refine blk_drew ?_ | refine blk_alloc ?_ _)); exact BK207.out⟩, ⟨by (with_reducible repeat (first | refine blk_drewN ?_ _ | refine blk_drew ?_ | refine blk_alloc ?_ _)); refine blk_far ?_ NB218_219.out _; (with_reducible repeat (first | refine blk_drewN ?_ _ | refine blk_drew ?_ | refine blk_alloc ?_ _)); refine blk_far ?_ NB218_219.out _; (with_reducible repeat (first | refine blk_drewN ?_ _ | refine blk_drew ?_ | refine blk_alloc ?_ _)); refine blk_far ?_ NB218_219.out _; (with_reducible repeat (first | refine blk_drewN ?_ _ | refine blk_drew ?_ | refine blk_alloc ?_ _)); refine blk_far ?_ NB218_219.out _; (with_reducible repeat (first | refine blk_drewN ?_ _ | refine blk_drew ?_ | refine blk_alloc ?_ _)); refine blk_far ?_ NB218_219.out _; (with_reducible repeat (first | refine blk_drewN ?_ _ | refine blk_drew ?_ | refine blk_alloc ?_ _)); refine blk_put (cs := #[.bool t208, .bool t209, .bool true, .int .u64 t211, .int .i64 0]) ?_ 4 _ rfl; (with_reducible repeat (first | refine blk_drewN ?_ _ | refine blk_drew ?_ | refine blk_alloc ?_ _)); refine blk_put (cs := #[.bool t208, .bool t209, .bool true, .int .u64 0, .int .i64 0]) ?_ 3 _ rfl; (with_reducible repeat (first | refine blk_drewN ?_ _ | refine blk_drew ?_ | refine blk_alloc ?_ _)); refine blk_put (cs := #[.bool t208, .bool t209, .bool false, .int .u64 0, .int .i64 0]) ?_ 2 _ rfl; (with_reducible repeat (first | refine blk_drewN ?_ _ | refine blk_drew ?_ | refine blk_alloc ?_ _)); refine blk_put (cs := #[.bool t208, .bool false, .bool false, .int .u64 0, .int .i64 0]) ?_ 1 _ rfl; (with_reducible repeat (first | refine blk_drewN ?_ _ | refine blk_drew ?_ | refine blk_alloc ?_ _)); refine blk_put (cs := #[.bool false, .bool false, .bool false, .int .u64 0, .int .i64 0]) ?_ 0 _ rfl; (with_reducible repeat (first | refine blk_drewN ?_ _ | refine blk_drew ?_ | refine blk_alloc ?_ _)); exact BK218.out⟩, ⟨by (with_reducible repeat (first | refine blk_drewN ?_ _ | refine blk_drew ?_ | refine blk_alloc ?_ _)); refine blk_put (cs := #[.bool t213, .bool t214, .bool true, .int .u64 t216, .int .i64 0]) ?_ 4 _ rfl; (with_reducible repeat (first | refine blk_drewN ?_ _ | refine blk_drew ?_ | refine blk_alloc ?_ _)); refine blk_put (cs := #[.bool t213, .bool t214, .bool true, .int .u64 0, .int .i64 0]) ?_ 3 _ rfl; (with_reducible repeat (first | refine blk_drewN ?_ _ | refine blk_drew ?_ | refine blk_alloc ?_ _)); refine blk_put (cs := #[.bool t213, .bool t214, .bool false, .int .u64 0, .int .i64 0]) ?_ 2 _ rfl; (with_reducible repeat (first | refine blk_drewN ?_ _ | refine blk_drew ?_ | refine blk_alloc ?_ _)); refine blk_put (cs := #[.bool t213, .bool false, .bool false, .int .u64 0, .int .i64 0]) ?_ 1 _ rfl; (with_reducible repeat (first | refine blk_drewN ?_ _ | refine blk_drew ?_ | refine blk_alloc ?_ _)); refine blk_put (cs := #[.bool false, .bool false, .bool false, .int .u64 0, .int .i64 0]) ?_ 0 _ rfl; (with_reducible repeat (first | refine blk_drewN ?_ _ | refine blk_drew ?_ | refine blk_alloc ?_ _)); refine blk_far ?_ NB219_218.out _; (with_reducible repeat (first | refine blk_drewN ?_ _ | refine blk_drew ?_ | refine blk_alloc ?_ _)); refine blk_far ?_ NB219_218.out _; (with_reducible repeat (first | refine blk_drewN ?_ _ | refine blk_drew ?_ | refine blk_alloc ?_ _)); refine blk_far ?_ NB219_218.out _; (with_reducible repeat (first | refine blk_drewN ?_ _ | refine blk_drew ?_ | refine blk_alloc ?_ _)); refine blk_far ?_ NB219_218.out _; (with_reducible repeat (first | refine blk_drewN ?_ _ | refine blk_drew ?_ | refine blk_alloc ?_ _)); refine blk_far ?_ NB219_218.out _; (with_reducible repeat (first | refine blk_drewN ?_ _ | refine blk_drew ?_ | refine blk_alloc ?_ _)); exact BK219.out⟩, ⟨by repeat (first | (with_reducible first | exact HB.out | apply below_alloc | apply pw_below_drewN | apply below_drew1 | refine below_set ?_ GE207.out | refine below_set ?_ GE218.out | refine below_set ?_ GE219.out) | exact HB.out)⟩⟩
        · replace c35 := Bool.eq_false_iff.mpr c35
          subst c35
          have H1 : (impl_FMul.j0 k (t208 != t213) (t216 == 0) t204 t205 t208 t209 true t211 t212 t213 t214 false t216 t217) = some r := by rw [if_neg (show ¬ (false = true) by decide)] at H; exact H
          clear H
          have H := H1
          clear H1
          have H' := Aside0.mk H
          clear H
          have hnb41 := NB218_207.out
          have hnc41 := NB207_218.out
          have hnb42 := NB218_219.out
          have hnc42 := NB219_218.out
          have hcz43_0 : w18.cell? ⟨gb218, 0, none⟩ = some (.bool false) := (blk_cell BK218.out 0).trans rfl
          have hcz43_1 : w18.cell? ⟨gb218, 1, none⟩ = some (.bool false) := (blk_cell BK218.out 1).trans rfl
          have hcz43_2 : w18.cell? ⟨gb218, 2, none⟩ = some (.bool false) := (blk_cell BK218.out 2).trans rfl
          have hcz43_3 : w18.cell? ⟨gb218, 3, none⟩ = some (.int .u64 0) := (blk_cell BK218.out 3).trans rfl
          have hcz43_4 : w18.cell? ⟨gb218, 4, none⟩ = some (.int .i64 0) := (blk_cell BK218.out 4).trans rfl
          have hfz43_0 := blk_frozen BK218.out 0
          have hfz43_1 := blk_frozen BK218.out 1
          have hfz43_2 := blk_frozen BK218.out 2
          have hfz43_3 := blk_frozen BK218.out 3
          have hfz43_4 := blk_frozen BK218.out 4
          have hnb44 := NB219_207.out
          have hnc44 := NB207_219.out
          have hcz45_0 : w18.cell? ⟨gb219, 0, none⟩ = some (.bool false) := (blk_cell BK219.out 0).trans rfl
          have hcz45_1 : w18.cell? ⟨gb219, 1, none⟩ = some (.bool false) := (blk_cell BK219.out 1).trans rfl
          have hcz45_2 : w18.cell? ⟨gb219, 2, none⟩ = some (.bool false) := (blk_cell BK219.out 2).trans rfl
          have hcz45_3 : w18.cell? ⟨gb219, 3, none⟩ = some (.int .u64 0) := (blk_cell BK219.out 3).trans rfl
          have hcz45_4 : w18.cell? ⟨gb219, 4, none⟩ = some (.int .i64 0) := (blk_cell BK219.out 4).trans rfl
          have hfz45_0 := blk_frozen BK219.out 0
          have hfz45_1 := blk_frozen BK219.out 1
          have hfz45_2 := blk_frozen BK219.out 2
          have hfz45_3 := blk_frozen BK219.out 3
          have hfz45_4 := blk_frozen BK219.out 4
          go_wp2
          go_meet
          case rel => exact ⟨_, ((t216 == 0)), (by first | rfl | (simp; done) | (simp [*]; done)), H', ⟨by first | omega | exact Nat.le_refl _⟩, ⟨by (with_reducible repeat (first | refine blk_drewN ?_ _ | refine blk_drew ?_ | refine blk_alloc ?_ _)); refine blk_far ?_ NB207_219.out _; (with_reducible repeat (first | refine blk_drewN ?_ _ | refine blk_drew ?_ | refine blk_alloc ?_ _)); refine blk_far ?_ NB207_219.out _; (with_reducible repeat (first | refine blk_drewN ?_ _ | refine blk_drew ?_ | refine blk_alloc ?_ _)); refine blk_far ?_ NB207_219.out _; (with_reducible repeat (first | refine blk_drewN ?_ _ | refine blk_drew ?_ | refine blk_alloc ?_ _)); refine blk_far ?_ NB207_219.out _; (with_reducible repeat (first | refine blk_drewN ?_ _ | refine blk_drew ?_ | refine blk_alloc ?_ _)); refine blk_far ?_ NB207_219.out _; (with_reducible repeat (first | refine blk_drewN ?_ _ | refine blk_drew ?_ | refine blk_alloc ?_ _)); refine blk_far ?_ NB207_218.out _; (with_reducible repeat (first | refine blk_drewN ?_ _ | refine blk_drew ?_ | refine blk_alloc ?_ _)); refine blk_far ?_ NB207_218.out _; (with_reducible repeat (first | refine blk_drewN ?_ _ | refine blk_drew ?_ | refine blk_alloc ?_ _)); refine blk_far ?_ NB207_218.out _; (with_reducible repeat (first | refine blk_drewN ?_ _ | refine blk_drew ?_ | refine blk_alloc ?_ _)); refine blk_far ?_ NB207_218.out _; (with_reducible repeat (first | refine blk_drewN ?_ _ | refine blk_drew ?_ | refine blk_alloc ?_ _)); refine blk_far ?_ NB207_218.out _; (with_reducible repeat (first | refine blk_drewN ?_ _ | refine blk_drew ?_ | refine blk_alloc ?_ _)); exact BK207.out⟩, ⟨by (with_reducible repeat (first | refine blk_drewN ?_ _ | refine blk_drew ?_ | refine blk_alloc ?_ _)); refine blk_far ?_ NB218_219.out _; (with_reducible repeat (first | refine blk_drewN ?_ _ | refine blk_drew ?_ | refine blk_alloc ?_ _)); refine blk_far ?_ NB218_219.out _; (with_reducible repeat (first | refine blk_drewN ?_ _ | refine blk_drew ?_ | refine blk_alloc ?_ _)); refine blk_far ?_ NB218_219.out _; (with_reducible repeat (first | refine blk_drewN ?_ _ | refine blk_drew ?_ | refine blk_alloc ?_ _)); refine blk_far ?_ NB218_219.out _; (with_reducible repeat (first | refine blk_drewN ?_ _ | refine blk_drew ?_ | refine blk_alloc ?_ _)); refine blk_far ?_ NB218_219.out _; (with_reducible repeat (first | refine blk_drewN ?_ _ | refine blk_drew ?_ | refine blk_alloc ?_ _)); refine blk_put (cs := #[.bool t208, .bool t209, .bool true, .int .u64 t211, .int .i64 0]) ?_ 4 _ rfl; (with_reducible repeat (first | refine blk_drewN ?_ _ | refine blk_drew ?_ | refine blk_alloc ?_ _)); refine blk_put (cs := #[.bool t208, .bool t209, .bool true, .int .u64 0, .int .i64 0]) ?_ 3 _ rfl; (with_reducible repeat (first | refine blk_drewN ?_ _ | refine blk_drew ?_ | refine blk_alloc ?_ _)); refine blk_put (cs := #[.bool t208, .bool t209, .bool false, .int .u64 0, .int .i64 0]) ?_ 2 _ rfl; (with_reducible repeat (first | refine blk_drewN ?_ _ | refine blk_drew ?_ | refine blk_alloc ?_ _)); refine blk_put (cs := #[.bool t208, .bool false, .bool false, .int .u64 0, .int .i64 0]) ?_ 1 _ rfl; (with_reducible repeat (first | refine blk_drewN ?_ _ | refine blk_drew ?_ | refine blk_alloc ?_ _)); refine blk_put (cs := #[.bool false, .bool false, .bool false, .int .u64 0, .int .i64 0]) ?_ 0 _ rfl; (with_reducible repeat (first | refine blk_drewN ?_ _ | refine blk_drew ?_ | refine blk_alloc ?_ _)); exact BK218.out⟩, ⟨by (with_reducible repeat (first | refine blk_drewN ?_ _ | refine blk_drew ?_ | refine blk_alloc ?_ _)); refine blk_put (cs := #[.bool t213, .bool t214, .bool false, .int .u64 t216, .int .i64 0]) ?_ 4 _ rfl; (with_reducible repeat (first | refine blk_drewN ?_ _ | refine blk_drew ?_ | refine blk_alloc ?_ _)); refine blk_put (cs := #[.bool t213, .bool t214, .bool false, .int .u64 0, .int .i64 0]) ?_ 3 _ rfl; (with_reducible repeat (first | refine blk_drewN ?_ _ | refine blk_drew ?_ | refine blk_alloc ?_ _)); refine blk_put (cs := #[.bool t213, .bool t214, .bool false, .int .u64 0, .int .i64 0]) ?_ 2 _ rfl; (with_reducible repeat (first | refine blk_drewN ?_ _ | refine blk_drew ?_ | refine blk_alloc ?_ _)); refine blk_put (cs := #[.bool t213, .bool false, .bool false, .int .u64 0, .int .i64 0]) ?_ 1 _ rfl; (with_reducible repeat (first | refine blk_drewN ?_ _ | refine blk_drew ?_ | refine blk_alloc ?_ _)); refine blk_put (cs := #[.bool false, .bool false, .bool false, .int .u64 0, .int .i64 0]) ?_ 0 _ rfl; (with_reducible repeat (first | refine blk_drewN ?_ _ | refine blk_drew ?_ | refine blk_alloc ?_ _)); refine blk_far ?_ NB219_218.out _; (with_reducible repeat (first | refine blk_drewN ?_ _ | refine blk_drew ?_ | refine blk_alloc ?_ _)); refine blk_far ?_ NB219_218.out _; (with_reducible repeat (first | refine blk_drewN ?_ _ | refine blk_drew ?_ | refine blk_alloc ?_ _)); refine blk_far ?_ NB219_218.out _; (with_reducible repeat (first | refine blk_drewN ?_ _ | refine blk_drew ?_ | refine blk_alloc ?_ _)); refine blk_far ?_ NB219_218.out _; (with_reducible repeat (first | refine blk_drewN ?_ _ | refine blk_drew ?_ | refine blk_alloc ?_ _)); refine blk_far ?_ NB219_218.out _; (with_reducible repeat (first | refine blk_drewN ?_ _ | refine blk_drew ?_ | refine blk_alloc ?_ _)); exact BK219.out⟩, ⟨by repeat (first | (with_reducible first | exact HB.out | apply below_alloc | apply pw_below_drewN | apply below_drew1 | refine below_set ?_ GE207.out | refine below_set ?_ GE218.out | refine below_set ?_ GE219.out) | exact HB.out)⟩⟩
      · replace c34 := Bool.eq_false_iff.mpr c34
        subst c34
        have H1 : (if t211 = 0 then (impl_FMul.j0 k (t208 != t213) true t204 t205 t208 t209 false t211 t212 t213 t214 t215 t216 t217) else (if t215 = true then (impl_FMul.j0 k (t208 != t213) false t204 t205 t208 t209 false t211 t212 t213 t214 t215 t216 t217) else (impl_FMul.j0 k (t208 != t213) (t216 == 0) t204 t205 t208 t209 false t211 t212 t213 t214 t215 t216 t217))) = some r := by rw [if_neg (show ¬ (false = true) by decide)] at H; exact H
        clear H
        have H := H1
        clear H1
        by_cases c46 : t211 = 0
        · rw [if_pos c46] at H
          have c46b0 : (t211 == 0) = true := beq_iff_eq.mpr c46
          have c46b1 : (t211 != 0) = false := bne_eq_false_iff_eq.mpr c46
          clear c46
          (first | rw [c46b0] | (simp only [i64_w, i32_w]; rw [c46b0]) | skip)
          have H' := Aside0.mk H
          clear H
          have hnb47 := NB218_207.out
          have hnc47 := NB207_218.out
          have hnb48 := NB218_219.out
          have hnc48 := NB219_218.out
          have hcz49_0 : w18.cell? ⟨gb218, 0, none⟩ = some (.bool false) := (blk_cell BK218.out 0).trans rfl
          have hcz49_1 : w18.cell? ⟨gb218, 1, none⟩ = some (.bool false) := (blk_cell BK218.out 1).trans rfl
          have hcz49_2 : w18.cell? ⟨gb218, 2, none⟩ = some (.bool false) := (blk_cell BK218.out 2).trans rfl
          have hcz49_3 : w18.cell? ⟨gb218, 3, none⟩ = some (.int .u64 0) := (blk_cell BK218.out 3).trans rfl
          have hcz49_4 : w18.cell? ⟨gb218, 4, none⟩ = some (.int .i64 0) := (blk_cell BK218.out 4).trans rfl
          have hfz49_0 := blk_frozen BK218.out 0
          have hfz49_1 := blk_frozen BK218.out 1
          have hfz49_2 := blk_frozen BK218.out 2
          have hfz49_3 := blk_frozen BK218.out 3
          have hfz49_4 := blk_frozen BK218.out 4
          go_wp2
          go_meet
          case rel => exact ⟨_, (true), (by first | rfl | (simp; done) | (simp [*]; done)), H', ⟨by first | omega | exact Nat.le_refl _⟩, ⟨by (with_reducible repeat (first | refine blk_drewN ?_ _ | refine blk_drew ?_ | refine blk_alloc ?_ _)); refine blk_far ?_ NB207_219.out _; (with_reducible repeat (first | refine blk_drewN ?_ _ | refine blk_drew ?_ | refine blk_alloc ?_ _)); refine blk_far ?_ NB207_219.out _; (with_reducible repeat (first | refine blk_drewN ?_ _ | refine blk_drew ?_ | refine blk_alloc ?_ _)); refine blk_far ?_ NB207_219.out _; (with_reducible repeat (first | refine blk_drewN ?_ _ | refine blk_drew ?_ | refine blk_alloc ?_ _)); refine blk_far ?_ NB207_219.out _; (with_reducible repeat (first | refine blk_drewN ?_ _ | refine blk_drew ?_ | refine blk_alloc ?_ _)); refine blk_far ?_ NB207_219.out _; (with_reducible repeat (first | refine blk_drewN ?_ _ | refine blk_drew ?_ | refine blk_alloc ?_ _)); refine blk_far ?_ NB207_218.out _; (with_reducible repeat (first | refine blk_drewN ?_ _ | refine blk_drew ?_ | refine blk_alloc ?_ _)); refine blk_far ?_ NB207_218.out _; (with_reducible repeat (first | refine blk_drewN ?_ _ | refine blk_drew ?_ | refine blk_alloc ?_ _)); refine blk_far ?_ NB207_218.out _; (with_reducible repeat (first | refine blk_drewN ?_ _ | refine blk_drew ?_ | refine blk_alloc ?_ _)); refine blk_far ?_ NB207_218.out _; (with_reducible repeat (first | refine blk_drewN ?_ _ | refine blk_drew ?_ | refine blk_alloc ?_ _)); refine blk_far ?_ NB207_218.out _; (with_reducible repeat (first | refine blk_drewN ?_ _ | refine blk_drew ?_ | refine blk_alloc ?_ _)); exact BK207.out⟩, ⟨by (with_reducible repeat (first | refine blk_drewN ?_ _ | refine blk_drew ?_ | refine blk_alloc ?_ _)); refine blk_far ?_ NB218_219.out _; (with_reducible repeat (first | refine blk_drewN ?_ _ | refine blk_drew ?_ | refine blk_alloc ?_ _)); refine blk_far ?_ NB218_219.out _; (with_reducible repeat (first | refine blk_drewN ?_ _ | refine blk_drew ?_ | refine blk_alloc ?_ _)); refine blk_far ?_ NB218_219.out _; (with_reducible repeat (first | refine blk_drewN ?_ _ | refine blk_drew ?_ | refine blk_alloc ?_ _)); refine blk_far ?_ NB218_219.out _; (with_reducible repeat (first | refine blk_drewN ?_ _ | refine blk_drew ?_ | refine blk_alloc ?_ _)); refine blk_far ?_ NB218_219.out _; (with_reducible repeat (first | refine blk_drewN ?_ _ | refine blk_drew ?_ | refine blk_alloc ?_ _)); refine blk_put (cs := #[.bool t208, .bool t209, .bool false, .int .u64 t211, .int .i64 0]) ?_ 4 _ rfl; (with_reducible repeat (first | refine blk_drewN ?_ _ | refine blk_drew ?_ | refine blk_alloc ?_ _)); refine blk_put (cs := #[.bool t208, .bool t209, .bool false, .int .u64 0, .int .i64 0]) ?_ 3 _ rfl; (with_reducible repeat (first | refine blk_drewN ?_ _ | refine blk_drew ?_ | refine blk_alloc ?_ _)); refine blk_put (cs := #[.bool t208, .bool t209, .bool false, .int .u64 0, .int .i64 0]) ?_ 2 _ rfl; (with_reducible repeat (first | refine blk_drewN ?_ _ | refine blk_drew ?_ | refine blk_alloc ?_ _)); refine blk_put (cs := #[.bool t208, .bool false, .bool false, .int .u64 0, .int .i64 0]) ?_ 1 _ rfl; (with_reducible repeat (first | refine blk_drewN ?_ _ | refine blk_drew ?_ | refine blk_alloc ?_ _)); refine blk_put (cs := #[.bool false, .bool false, .bool false, .int .u64 0, .int .i64 0]) ?_ 0 _ rfl; (with_reducible repeat (first | refine blk_drewN ?_ _ | refine blk_drew ?_ | refine blk_alloc ?_ _)); exact BK218.out⟩, ⟨by (with_reducible repeat (first | refine blk_drewN ?_ _ | refine blk_drew ?_ | refine blk_alloc ?_ _)); refine blk_put (cs := #[.bool t213, .bool t214, .bool t215, .int .u64 t216, .int .i64 0]) ?_ 4 _ rfl; (with_reducible repeat (first | refine blk_drewN ?_ _ | refine blk_drew ?_ | refine blk_alloc ?_ _)); refine blk_put (cs := #[.bool t213, .bool t214, .bool t215, .int .u64 0, .int .i64 0]) ?_ 3 _ rfl; (with_reducible repeat (first | refine blk_drewN ?_ _ | refine blk_drew ?_ | refine blk_alloc ?_ _)); refine blk_put (cs := #[.bool t213, .bool t214, .bool false, .int .u64 0, .int .i64 0]) ?_ 2 _ rfl; (with_reducible repeat (first | refine blk_drewN ?_ _ | refine blk_drew ?_ | refine blk_alloc ?_ _)); refine blk_put (cs := #[.bool t213, .bool false, .bool false, .int .u64 0, .int .i64 0]) ?_ 1 _ rfl; (with_reducible repeat (first | refine blk_drewN ?_ _ | refine blk_drew ?_ | refine blk_alloc ?_ _)); refine blk_put (cs := #[.bool false, .bool false, .bool false, .int .u64 0, .int .i64 0]) ?_ 0 _ rfl; (with_reducible repeat (first | refine blk_drewN ?_ _ | refine blk_drew ?_ | refine blk_alloc ?_ _)); refine blk_far ?_ NB219_218.out _; (with_reducible repeat (first | refine blk_drewN ?_ _ | refine blk_drew ?_ | refine blk_alloc ?_ _)); refine blk_far ?_ NB219_218.out _; (with_reducible repeat (first | refine blk_drewN ?_ _ | refine blk_drew ?_ | refine blk_alloc ?_ _)); refine blk_far ?_ NB219_218.out _; (with_reducible repeat (first | refine blk_drewN ?_ _ | refine blk_drew ?_ | refine blk_alloc ?_ _)); refine blk_far ?_ NB219_218.out _; (with_reducible repeat (first | refine blk_drewN ?_ _ | refine blk_drew ?_ | refine blk_alloc ?_ _)); refine blk_far ?_ NB219_218.out _; (with_reducible repeat (first | refine blk_drewN ?_ _ | refine blk_drew ?_ | refine blk_alloc ?_ _)); exact BK219.out⟩, ⟨by repeat (first | (with_reducible first | exact HB.out | apply below_alloc | apply pw_below_drewN | apply below_drew1 | refine below_set ?_ GE207.out | refine below_set ?_ GE218.out | refine below_set ?_ GE219.out) | exact HB.out)⟩⟩
        · rw [if_neg c46] at H
          have c46b0 : (t211 == 0) = false := beq_eq_false_iff_ne.mpr c46
          have c46b1 : (t211 != 0) = true := bne_iff_ne.mpr c46
          (first | rw [c46b0] | (simp only [i64_w, i32_w]; rw [c46b0]) | skip)
          by_cases c50 : t215 = true
          · subst c50
            have H1 : (impl_FMul.j0 k (t208 != t213) false t204 t205 t208 t209 false t211 t212 t213 t214 true t216 t217) = some r := by rw [if_pos rfl] at H; exact H
            clear H
            have H := H1
            clear H1
            have H' := Aside0.mk H
            clear H
            have hnb51 := NB218_207.out
            have hnc51 := NB207_218.out
            have hnb52 := NB218_219.out
            have hnc52 := NB219_218.out
            have hcz53_0 : w18.cell? ⟨gb218, 0, none⟩ = some (.bool false) := (blk_cell BK218.out 0).trans rfl
            have hcz53_1 : w18.cell? ⟨gb218, 1, none⟩ = some (.bool false) := (blk_cell BK218.out 1).trans rfl
            have hcz53_2 : w18.cell? ⟨gb218, 2, none⟩ = some (.bool false) := (blk_cell BK218.out 2).trans rfl
            have hcz53_3 : w18.cell? ⟨gb218, 3, none⟩ = some (.int .u64 0) := (blk_cell BK218.out 3).trans rfl
            have hcz53_4 : w18.cell? ⟨gb218, 4, none⟩ = some (.int .i64 0) := (blk_cell BK218.out 4).trans rfl
            have hfz53_0 := blk_frozen BK218.out 0
            have hfz53_1 := blk_frozen BK218.out 1
            have hfz53_2 := blk_frozen BK218.out 2
            have hfz53_3 := blk_frozen BK218.out 3
            have hfz53_4 := blk_frozen BK218.out 4
            have hnb54 := NB219_207.out
            have hnc54 := NB207_219.out
            have hcz55_0 : w18.cell? ⟨gb219, 0, none⟩ = some (.bool false) := (blk_cell BK219.out 0).trans rfl
            have hcz55_1 : w18.cell? ⟨gb219, 1, none⟩ = some (.bool false) := (blk_cell BK219.out 1).trans rfl
            have hcz55_2 : w18.cell? ⟨gb219, 2, none⟩ = some (.bool false) := (blk_cell BK219.out 2).trans rfl
            have hcz55_3 : w18.cell? ⟨gb219, 3, none⟩ = some (.int .u64 0) := (blk_cell BK219.out 3).trans rfl
            have hcz55_4 : w18.cell? ⟨gb219, 4, none⟩ = some (.int .i64 0) := (blk_cell BK219.out 4).trans rfl
            have hfz55_0 := blk_frozen BK219.out 0
            have hfz55_1 := blk_frozen BK219.out 1
            have hfz55_2 := blk_frozen BK219.out 2
            have hfz55_3 := blk_frozen BK219.out 3
            have hfz55_4 := blk_frozen BK219.out 4
            go_wp2
            go_meet
            case rel => exact ⟨_, (false), (by first | rfl | (simp; done) | (simp [*]; done)), H', ⟨by first | omega | exact Nat.le_refl _⟩, ⟨by (with_reducible repeat (first | refine blk_drewN ?_ _ | refine blk_drew ?_ | refine blk_alloc ?_ _)); refine blk_far ?_ NB207_219.out _; (with_reducible repeat (first | refine blk_drewN ?_ _ | refine blk_drew ?_ | refine blk_alloc ?_ _)); refine blk_far ?_ NB207_219.out _; (with_reducible repeat (first | refine blk_drewN ?_ _ | refine blk_drew ?_ | refine blk_alloc ?_ _)); refine blk_far ?_ NB207_219.out _; (with_reducible repeat (first | refine blk_drewN ?_ _ | refine blk_drew ?_ | refine blk_alloc ?_ _)); refine blk_far ?_ NB207_219.out _; (with_reducible repeat (first | refine blk_drewN ?_ _ | refine blk_drew ?_ | refine blk_alloc ?_ _)); refine blk_far ?_ NB207_219.out _; (with_reducible repeat (first | refine blk_drewN ?_ _ | refine blk_drew ?_ | refine blk_alloc ?_ _)); refine blk_far ?_ NB207_218.out _; (with_reducible repeat (first | refine blk_drewN ?_ _ | refine blk_drew ?_ | refine blk_alloc ?_ _)); refine blk_far ?_ NB207_218.out _; (with_reducible repeat (first | refine blk_drewN ?_ _ | refine blk_drew ?_ | refine blk_alloc ?_ _)); refine blk_far ?_ NB207_218.out _; (with_reducible repeat (first | refine blk_drewN ?_ _ | refine blk_drew ?_ | refine blk_alloc ?_ _)); refine blk_far ?_ NB207_218.out _; (with_reducible repeat (first | refine blk_drewN ?_ _ | refine blk_drew ?_ | refine blk_alloc ?_ _)); refine blk_far ?_ NB207_218.out _; (with_reducible repeat (first | refine blk_drewN ?_ _ | refine blk_drew ?_ | refine blk_alloc ?_ _)); exact BK207.out⟩, ⟨by (with_reducible repeat (first | refine blk_drewN ?_ _ | refine blk_drew ?_ | refine blk_alloc ?_ _)); refine blk_far ?_ NB218_219.out _; (with_reducible repeat (first | refine blk_drewN ?_ _ | refine blk_drew ?_ | refine blk_alloc ?_ _)); refine blk_far ?_ NB218_219.out _; (with_reducible repeat (first | refine blk_drewN ?_ _ | refine blk_drew ?_ | refine blk_alloc ?_ _)); refine blk_far ?_ NB218_219.out _; (with_reducible repeat (first | refine blk_drewN ?_ _ | refine blk_drew ?_ | refine blk_alloc ?_ _)); refine blk_far ?_ NB218_219.out _; (with_reducible repeat (first | refine blk_drewN ?_ _ | refine blk_drew ?_ | refine blk_alloc ?_ _)); refine blk_far ?_ NB218_219.out _; (with_reducible repeat (first | refine blk_drewN ?_ _ | refine blk_drew ?_ | refine blk_alloc ?_ _)); refine blk_put (cs := #[.bool t208, .bool t209, .bool false, .int .u64 t211, .int .i64 0]) ?_ 4 _ rfl; (with_reducible repeat (first | refine blk_drewN ?_ _ | refine blk_drew ?_ | refine blk_alloc ?_ _)); refine blk_put (cs := #[.bool t208, .bool t209, .bool false, .int .u64 0, .int .i64 0]) ?_ 3 _ rfl; (with_reducible repeat (first | refine blk_drewN ?_ _ | refine blk_drew ?_ | refine blk_alloc ?_ _)); refine blk_put (cs := #[.bool t208, .bool t209, .bool false, .int .u64 0, .int .i64 0]) ?_ 2 _ rfl; (with_reducible repeat (first | refine blk_drewN ?_ _ | refine blk_drew ?_ | refine blk_alloc ?_ _)); refine blk_put (cs := #[.bool t208, .bool false, .bool false, .int .u64 0, .int .i64 0]) ?_ 1 _ rfl; (with_reducible repeat (first | refine blk_drewN ?_ _ | refine blk_drew ?_ | refine blk_alloc ?_ _)); refine blk_put (cs := #[.bool false, .bool false, .bool false, .int .u64 0, .int .i64 0]) ?_ 0 _ rfl; (with_reducible repeat (first | refine blk_drewN ?_ _ | refine blk_drew ?_ | refine blk_alloc ?_ _)); exact BK218.out⟩, ⟨by (with_reducible repeat (first | refine blk_drewN ?_ _ | refine blk_drew ?_ | refine blk_alloc ?_ _)); refine blk_put (cs := #[.bool t213, .bool t214, .bool true, .int .u64 t216, .int .i64 0]) ?_ 4 _ rfl; (with_reducible repeat (first | refine blk_drewN ?_ _ | refine blk_drew ?_ | refine blk_alloc ?_ _)); refine blk_put (cs := #[.bool t213, .bool t214, .bool true, .int .u64 0, .int .i64 0]) ?_ 3 _ rfl; (with_reducible repeat (first | refine blk_drewN ?_ _ | refine blk_drew ?_ | refine blk_alloc ?_ _)); refine blk_put (cs := #[.bool t213, .bool t214, .bool false, .int .u64 0, .int .i64 0]) ?_ 2 _ rfl; (with_reducible repeat (first | refine blk_drewN ?_ _ | refine blk_drew ?_ | refine blk_alloc ?_ _)); refine blk_put (cs := #[.bool t213, .bool false, .bool false, .int .u64 0, .int .i64 0]) ?_ 1 _ rfl; (with_reducible repeat (first | refine blk_drewN ?_ _ | refine blk_drew ?_ | refine blk_alloc ?_ _)); refine blk_put (cs := #[.bool false, .bool false, .bool false, .int .u64 0, .int .i64 0]) ?_ 0 _ rfl; (with_reducible repeat (first | refine blk_drewN ?_ _ | refine blk_drew ?_ | refine blk_alloc ?_ _)); refine blk_far ?_ NB219_218.out _; (with_reducible repeat (first | refine blk_drewN ?_ _ | refine blk_drew ?_ | refine blk_alloc ?_ _)); refine blk_far ?_ NB219_218.out _; (with_reducible repeat (first | refine blk_drewN ?_ _ | refine blk_drew ?_ | refine blk_alloc ?_ _)); refine blk_far ?_ NB219_218.out _; (with_reducible repeat (first | refine blk_drewN ?_ _ | refine blk_drew ?_ | refine blk_alloc ?_ _)); refine blk_far ?_ NB219_218.out _; (with_reducible repeat (first | refine blk_drewN ?_ _ | refine blk_drew ?_ | refine blk_alloc ?_ _)); refine blk_far ?_ NB219_218.out _; (with_reducible repeat (first | refine blk_drewN ?_ _ | refine blk_drew ?_ | refine blk_alloc ?_ _)); exact BK219.out⟩, ⟨by repeat (first | (with_reducible first | exact HB.out | apply below_alloc | apply pw_below_drewN | apply below_drew1 | refine below_set ?_ GE207.out | refine below_set ?_ GE218.out | refine below_set ?_ GE219.out) | exact HB.out)⟩⟩
          · replace c50 := Bool.eq_false_iff.mpr c50
            subst c50
            have H1 : (impl_FMul.j0 k (t208 != t213) (t216 == 0) t204 t205 t208 t209 false t211 t212 t213 t214 false t216 t217) = some r := by rw [if_neg (show ¬ (false = true) by decide)] at H; exact H
            clear H
            have H := H1
            clear H1
            have H' := Aside0.mk H
            clear H
            have hnb56 := NB218_207.out
            have hnc56 := NB207_218.out
            have hnb57 := NB218_219.out
            have hnc57 := NB219_218.out
            have hcz58_0 : w18.cell? ⟨gb218, 0, none⟩ = some (.bool false) := (blk_cell BK218.out 0).trans rfl
            have hcz58_1 : w18.cell? ⟨gb218, 1, none⟩ = some (.bool false) := (blk_cell BK218.out 1).trans rfl
            have hcz58_2 : w18.cell? ⟨gb218, 2, none⟩ = some (.bool false) := (blk_cell BK218.out 2).trans rfl
            have hcz58_3 : w18.cell? ⟨gb218, 3, none⟩ = some (.int .u64 0) := (blk_cell BK218.out 3).trans rfl
            have hcz58_4 : w18.cell? ⟨gb218, 4, none⟩ = some (.int .i64 0) := (blk_cell BK218.out 4).trans rfl
            have hfz58_0 := blk_frozen BK218.out 0
            have hfz58_1 := blk_frozen BK218.out 1
            have hfz58_2 := blk_frozen BK218.out 2
            have hfz58_3 := blk_frozen BK218.out 3
            have hfz58_4 := blk_frozen BK218.out 4
            have hnb59 := NB219_207.out
            have hnc59 := NB207_219.out
            have hcz60_0 : w18.cell? ⟨gb219, 0, none⟩ = some (.bool false) := (blk_cell BK219.out 0).trans rfl
            have hcz60_1 : w18.cell? ⟨gb219, 1, none⟩ = some (.bool false) := (blk_cell BK219.out 1).trans rfl
            have hcz60_2 : w18.cell? ⟨gb219, 2, none⟩ = some (.bool false) := (blk_cell BK219.out 2).trans rfl
            have hcz60_3 : w18.cell? ⟨gb219, 3, none⟩ = some (.int .u64 0) := (blk_cell BK219.out 3).trans rfl
            have hcz60_4 : w18.cell? ⟨gb219, 4, none⟩ = some (.int .i64 0) := (blk_cell BK219.out 4).trans rfl
            have hfz60_0 := blk_frozen BK219.out 0
            have hfz60_1 := blk_frozen BK219.out 1
            have hfz60_2 := blk_frozen BK219.out 2
            have hfz60_3 := blk_frozen BK219.out 3
            have hfz60_4 := blk_frozen BK219.out 4
            go_wp2
            go_meet
            case rel => exact ⟨_, ((t216 == 0)), (by first | rfl | (simp; done) | (simp [*]; done)), H', ⟨by first | omega | exact Nat.le_refl _⟩, ⟨by (with_reducible repeat (first | refine blk_drewN ?_ _ | refine blk_drew ?_ | refine blk_alloc ?_ _)); refine blk_far ?_ NB207_219.out _; (with_reducible repeat (first | refine blk_drewN ?_ _ | refine blk_drew ?_ | refine blk_alloc ?_ _)); refine blk_far ?_ NB207_219.out _; (with_reducible repeat (first | refine blk_drewN ?_ _ | refine blk_drew ?_ | refine blk_alloc ?_ _)); refine blk_far ?_ NB207_219.out _; (with_reducible repeat (first | refine blk_drewN ?_ _ | refine blk_drew ?_ | refine blk_alloc ?_ _)); refine blk_far ?_ NB207_219.out _; (with_reducible repeat (first | refine blk_drewN ?_ _ | refine blk_drew ?_ | refine blk_alloc ?_ _)); refine blk_far ?_ NB207_219.out _; (with_reducible repeat (first | refine blk_drewN ?_ _ | refine blk_drew ?_ | refine blk_alloc ?_ _)); refine blk_far ?_ NB207_218.out _; (with_reducible repeat (first | refine blk_drewN ?_ _ | refine blk_drew ?_ | refine blk_alloc ?_ _)); refine blk_far ?_ NB207_218.out _; (with_reducible repeat (first | refine blk_drewN ?_ _ | refine blk_drew ?_ | refine blk_alloc ?_ _)); refine blk_far ?_ NB207_218.out _; (with_reducible repeat (first | refine blk_drewN ?_ _ | refine blk_drew ?_ | refine blk_alloc ?_ _)); refine blk_far ?_ NB207_218.out _; (with_reducible repeat (first | refine blk_drewN ?_ _ | refine blk_drew ?_ | refine blk_alloc ?_ _)); refine blk_far ?_ NB207_218.out _; (with_reducible repeat (first | refine blk_drewN ?_ _ | refine blk_drew ?_ | refine blk_alloc ?_ _)); exact BK207.out⟩, ⟨by (with_reducible repeat (first | refine blk_drewN ?_ _ | refine blk_drew ?_ | refine blk_alloc ?_ _)); refine blk_far ?_ NB218_219.out _; (with_reducible repeat (first | refine blk_drewN ?_ _ | refine blk_drew ?_ | refine blk_alloc ?_ _)); refine blk_far ?_ NB218_219.out _; (with_reducible repeat (first | refine blk_drewN ?_ _ | refine blk_drew ?_ | refine blk_alloc ?_ _)); refine blk_far ?_ NB218_219.out _; (with_reducible repeat (first | refine blk_drewN ?_ _ | refine blk_drew ?_ | refine blk_alloc ?_ _)); refine blk_far ?_ NB218_219.out _; (with_reducible repeat (first | refine blk_drewN ?_ _ | refine blk_drew ?_ | refine blk_alloc ?_ _)); refine blk_far ?_ NB218_219.out _; (with_reducible repeat (first | refine blk_drewN ?_ _ | refine blk_drew ?_ | refine blk_alloc ?_ _)); refine blk_put (cs := #[.bool t208, .bool t209, .bool false, .int .u64 t211, .int .i64 0]) ?_ 4 _ rfl; (with_reducible repeat (first | refine blk_drewN ?_ _ | refine blk_drew ?_ | refine blk_alloc ?_ _)); refine blk_put (cs := #[.bool t208, .bool t209, .bool false, .int .u64 0, .int .i64 0]) ?_ 3 _ rfl; (with_reducible repeat (first | refine blk_drewN ?_ _ | refine blk_drew ?_ | refine blk_alloc ?_ _)); refine blk_put (cs := #[.bool t208, .bool t209, .bool false, .int .u64 0, .int .i64 0]) ?_ 2 _ rfl; (with_reducible repeat (first | refine blk_drewN ?_ _ | refine blk_drew ?_ | refine blk_alloc ?_ _)); refine blk_put (cs := #[.bool t208, .bool false, .bool false, .int .u64 0, .int .i64 0]) ?_ 1 _ rfl; (with_reducible repeat (first | refine blk_drewN ?_ _ | refine blk_drew ?_ | refine blk_alloc ?_ _)); refine blk_put (cs := #[.bool false, .bool false, .bool false, .int .u64 0, .int .i64 0]) ?_ 0 _ rfl; (with_reducible repeat (first | refine blk_drewN ?_ _ | refine blk_drew ?_ | refine blk_alloc ?_ _)); exact BK218.out⟩, ⟨by (with_reducible repeat (first | refine blk_drewN ?_ _ | refine blk_drew ?_ | refine blk_alloc ?_ _)); refine blk_put (cs := #[.bool t213, .bool t214, .bool false, .int .u64 t216, .int .i64 0]) ?_ 4 _ rfl; (with_reducible repeat (first | refine blk_drewN ?_ _ | refine blk_drew ?_ | refine blk_alloc ?_ _)); refine blk_put (cs := #[.bool t213, .bool t214, .bool false, .int .u64 0, .int .i64 0]) ?_ 3 _ rfl; (with_reducible repeat (first | refine blk_drewN ?_ _ | refine blk_drew ?_ | refine blk_alloc ?_ _)); refine blk_put (cs := #[.bool t213, .bool t214, .bool false, .int .u64 0, .int .i64 0]) ?_ 2 _ rfl; (with_reducible repeat (first | refine blk_drewN ?_ _ | refine blk_drew ?_ | refine blk_alloc ?_ _)); refine blk_put (cs := #[.bool t213, .bool false, .bool false, .int .u64 0, .int .i64 0]) ?_ 1 _ rfl; (with_reducible repeat (first | refine blk_drewN ?_ _ | refine blk_drew ?_ | refine blk_alloc ?_ _)); refine blk_put (cs := #[.bool false, .bool false, .bool false, .int .u64 0, .int .i64 0]) ?_ 0 _ rfl; (with_reducible repeat (first | refine blk_drewN ?_ _ | refine blk_drew ?_ | refine blk_alloc ?_ _)); refine blk_far ?_ NB219_218.out _; (with_reducible repeat (first | refine blk_drewN ?_ _ | refine blk_drew ?_ | refine blk_alloc ?_ _)); refine blk_far ?_ NB219_218.out _; (with_reducible repeat (first | refine blk_drewN ?_ _ | refine blk_drew ?_ | refine blk_alloc ?_ _)); refine blk_far ?_ NB219_218.out _; (with_reducible repeat (first | refine blk_drewN ?_ _ | refine blk_drew ?_ | refine blk_alloc ?_ _)); refine blk_far ?_ NB219_218.out _; (with_reducible repeat (first | refine blk_drewN ?_ _ | refine blk_drew ?_ | refine blk_alloc ?_ _)); refine blk_far ?_ NB219_218.out _; (with_reducible repeat (first | refine blk_drewN ?_ _ | refine blk_drew ?_ | refine blk_alloc ?_ _)); exact BK219.out⟩, ⟨by repeat (first | (with_reducible first | exact HB.out | apply below_alloc | apply pw_below_drewN | apply below_drew1 | refine below_set ?_ GE207.out | refine below_set ?_ GE218.out | refine below_set ?_ GE219.out) | exact HB.out)⟩⟩
    case rest =>
      clear HC8
      try clear c2
      try clear p2
      try clear c3
      try clear c4
      try clear c5
      try clear c29
      try clear c30
      try clear c32
      try clear c34
      try clear c35
      try clear c36
      try clear c37
      try clear c39
      try clear c41
      try clear c42
      try clear c44
      try clear c46
      try clear c46b0
      try clear c46b1
      try clear c47
      try clear c48
      try clear c50
      try clear c51
      try clear c52
      try clear c54
      try clear c56
      try clear c57
      try clear c59
      try clear hcz31_0
      try clear hcz31_1
      try clear hcz31_2
      try clear hcz31_3
      try clear hcz31_4
      try clear hcz33_0
      try clear hcz33_1
      try clear hcz33_2
      try clear hcz33_3
      try clear hcz33_4
      try clear hcz38_0
      try clear hcz38_1
      try clear hcz38_2
      try clear hcz38_3
      try clear hcz38_4
      try clear hcz40_0
      try clear hcz40_1
      try clear hcz40_2
      try clear hcz40_3
      try clear hcz40_4
      try clear hcz43_0
      try clear hcz43_1
      try clear hcz43_2
      try clear hcz43_3
      try clear hcz43_4
      try clear hcz45_0
      try clear hcz45_1
      try clear hcz45_2
      try clear hcz45_3
      try clear hcz45_4
      try clear hcz49_0
      try clear hcz49_1
      try clear hcz49_2
      try clear hcz49_3
      try clear hcz49_4
      try clear hcz53_0
      try clear hcz53_1
      try clear hcz53_2
      try clear hcz53_3
      try clear hcz53_4
      try clear hcz55_0
      try clear hcz55_1
      try clear hcz55_2
      try clear hcz55_3
      try clear hcz55_4
      try clear hcz58_0
      try clear hcz58_1
      try clear hcz58_2
      try clear hcz58_3
      try clear hcz58_4
      try clear hcz60_0
      try clear hcz60_1
      try clear hcz60_2
      try clear hcz60_3
      try clear hcz60_4
      try clear hfz31_0
      try clear hfz31_1
      try clear hfz31_2
      try clear hfz31_3
      try clear hfz31_4
      try clear hfz33_0
      try clear hfz33_1
      try clear hfz33_2
      try clear hfz33_3
      try clear hfz33_4
      try clear hfz38_0
      try clear hfz38_1
      try clear hfz38_2
      try clear hfz38_3
      try clear hfz38_4
      try clear hfz40_0
      try clear hfz40_1
      try clear hfz40_2
      try clear hfz40_3
      try clear hfz40_4
      try clear hfz43_0
      try clear hfz43_1
      try clear hfz43_2
      try clear hfz43_3
      try clear hfz43_4
      try clear hfz45_0
      try clear hfz45_1
      try clear hfz45_2
      try clear hfz45_3
      try clear hfz45_4
      try clear hfz49_0
      try clear hfz49_1
      try clear hfz49_2
      try clear hfz49_3
      try clear hfz49_4
      try clear hfz53_0
      try clear hfz53_1
      try clear hfz53_2
      try clear hfz53_3
      try clear hfz53_4
      try clear hfz55_0
      try clear hfz55_1
      try clear hfz55_2
      try clear hfz55_3
      try clear hfz55_4
      try clear hfz58_0
      try clear hfz58_1
      try clear hfz58_2
      try clear hfz58_3
      try clear hfz58_4
      try clear hfz60_0
      try clear hfz60_1
      try clear hfz60_2
      try clear hfz60_3
      try clear hfz60_4
      obtain ⟨kq, x12_7, rfl, HA, HJ7, BK207, BK218, BK219, HB⟩ := hcut
      cases kq with
      | zero => exact absurd HA.out (by simp [impl_FMul.j0])
      | succ kj7 =>
        have H := HA.out
        clear HA
        simp only [impl_FMul.j0] at H
        have HC61 := Aside0.mk H
        clear H
        go_upto_region 7 with (fail)
        go_cut [49] (fun v49 wc => ∃ (kq : Nat) (x49_60 : Bool), v49 = .bool x49_60 ∧ Aside0 (impl_FMul.j1 kq (t208 != t213) x49_60 t204 t205 t208 t209 t210 t211 t212 t213 t214 t215 t216 t217 = some r) ∧ Aside0 (kq ≤ kj7) ∧ Aside0 (wc.heap[gb207]? = some (.cells #[.int .i64 t204, .int .i64 t205] 62 (0, 0))) ∧ Aside0 (wc.heap[gb218]? = some (.cells #[.bool t208, .bool t209, .bool t210, .int .u64 t211, .int .i64 t212] 66 (0, 0))) ∧ Aside0 (wc.heap[gb219]? = some (.cells #[.bool t213, .bool t214, .bool t215, .int .u64 t216, .int .i64 t217] 66 (0, 0))) ∧ Aside0 (Below w.heap.size w wc))
        case first =>
          have H := HC61.out
          clear HC61
          by_cases c62 : t209 = true
          · subst c62
            have H1 : (impl_FMul.j1 kj7 (t208 != t213) true t204 t205 t208 true t210 t211 t212 t213 t214 t215 t216 t217) = some r := by rw [if_pos rfl] at H; exact H
            clear H
            have H := H1
            clear H1
            have H' := Aside0.mk H
            clear H
            have hnb63 := NB218_207.out
            have hnc63 := NB207_218.out
            have hnb64 := NB218_219.out
            have hnc64 := NB219_218.out
            have hcz65_0 : wc.cell? ⟨gb218, 0, none⟩ = some (.bool t208) := (blk_cell BK218.out 0).trans rfl
            have hcz65_1 : wc.cell? ⟨gb218, 1, none⟩ = some (.bool true) := (blk_cell BK218.out 1).trans rfl
            have hcz65_2 : wc.cell? ⟨gb218, 2, none⟩ = some (.bool t210) := (blk_cell BK218.out 2).trans rfl
            have hcz65_3 : wc.cell? ⟨gb218, 3, none⟩ = some (.int .u64 t211) := (blk_cell BK218.out 3).trans rfl
            have hcz65_4 : wc.cell? ⟨gb218, 4, none⟩ = some (.int .i64 t212) := (blk_cell BK218.out 4).trans rfl
            have hfz65_0 := blk_frozen BK218.out 0
            have hfz65_1 := blk_frozen BK218.out 1
            have hfz65_2 := blk_frozen BK218.out 2
            have hfz65_3 := blk_frozen BK218.out 3
            have hfz65_4 := blk_frozen BK218.out 4
            go_wp2
            go_meet
            case rel => exact ⟨_, (true), (by first | rfl | (simp; done) | (simp [*]; done)), H', ⟨by have := HJ7.out; first | omega | exact Nat.le_refl _⟩, ⟨by (with_reducible repeat (first | refine blk_drewN ?_ _ | refine blk_drew ?_ | refine blk_alloc ?_ _)); exact BK207.out⟩, ⟨by (with_reducible repeat (first | refine blk_drewN ?_ _ | refine blk_drew ?_ | refine blk_alloc ?_ _)); exact BK218.out⟩, ⟨by (with_reducible repeat (first | refine blk_drewN ?_ _ | refine blk_drew ?_ | refine blk_alloc ?_ _)); exact BK219.out⟩, ⟨by repeat (first | (with_reducible first | exact HB.out | apply below_alloc | apply pw_below_drewN | apply below_drew1 | refine below_set ?_ GE207.out | refine below_set ?_ GE218.out | refine below_set ?_ GE219.out) | exact HB.out)⟩⟩
          · replace c62 := Bool.eq_false_iff.mpr c62
            subst c62
            have H1 : (if t214 = true then (impl_FMul.j1 kj7 (t208 != t213) true t204 t205 t208 false t210 t211 t212 t213 t214 t215 t216 t217) else (if t210 = true then (impl_FMul.j1 kj7 (t208 != t213) x12_7 t204 t205 t208 false t210 t211 t212 t213 t214 t215 t216 t217) else (if t215 = true then (impl_FMul.j1 kj7 (t208 != t213) x12_7 t204 t205 t208 false t210 t211 t212 t213 t214 t215 t216 t217) else (impl_FMul.j1 kj7 (t208 != t213) false t204 t205 t208 false t210 t211 t212 t213 t214 t215 t216 t217)))) = some r := by rw [if_neg (show ¬ (false = true) by decide)] at H; exact H
            clear H
            have H := H1
            clear H1
            by_cases c66 : t214 = true
            · subst c66
              have H1 : (impl_FMul.j1 kj7 (t208 != t213) true t204 t205 t208 false t210 t211 t212 t213 true t215 t216 t217) = some r := by rw [if_pos rfl] at H; exact H
              clear H
              have H := H1
              clear H1
              have H' := Aside0.mk H
              clear H
              have hnb67 := NB218_207.out
              have hnc67 := NB207_218.out
              have hnb68 := NB218_219.out
              have hnc68 := NB219_218.out
              have hcz69_0 : wc.cell? ⟨gb218, 0, none⟩ = some (.bool t208) := (blk_cell BK218.out 0).trans rfl
              have hcz69_1 : wc.cell? ⟨gb218, 1, none⟩ = some (.bool false) := (blk_cell BK218.out 1).trans rfl
              have hcz69_2 : wc.cell? ⟨gb218, 2, none⟩ = some (.bool t210) := (blk_cell BK218.out 2).trans rfl
              have hcz69_3 : wc.cell? ⟨gb218, 3, none⟩ = some (.int .u64 t211) := (blk_cell BK218.out 3).trans rfl
              have hcz69_4 : wc.cell? ⟨gb218, 4, none⟩ = some (.int .i64 t212) := (blk_cell BK218.out 4).trans rfl
              have hfz69_0 := blk_frozen BK218.out 0
              have hfz69_1 := blk_frozen BK218.out 1
              have hfz69_2 := blk_frozen BK218.out 2
              have hfz69_3 := blk_frozen BK218.out 3
              have hfz69_4 := blk_frozen BK218.out 4
              have hnb70 := NB219_207.out
              have hnc70 := NB207_219.out
              have hcz71_0 : wc.cell? ⟨gb219, 0, none⟩ = some (.bool t213) := (blk_cell BK219.out 0).trans rfl
              have hcz71_1 : wc.cell? ⟨gb219, 1, none⟩ = some (.bool true) := (blk_cell BK219.out 1).trans rfl
              have hcz71_2 : wc.cell? ⟨gb219, 2, none⟩ = some (.bool t215) := (blk_cell BK219.out 2).trans rfl
              have hcz71_3 : wc.cell? ⟨gb219, 3, none⟩ = some (.int .u64 t216) := (blk_cell BK219.out 3).trans rfl
              have hcz71_4 : wc.cell? ⟨gb219, 4, none⟩ = some (.int .i64 t217) := (blk_cell BK219.out 4).trans rfl
              have hfz71_0 := blk_frozen BK219.out 0
              have hfz71_1 := blk_frozen BK219.out 1
              have hfz71_2 := blk_frozen BK219.out 2
              have hfz71_3 := blk_frozen BK219.out 3
              have hfz71_4 := blk_frozen BK219.out 4
              go_wp2
              go_meet
              case rel => exact ⟨_, (true), (by first | rfl | (simp; done) | (simp [*]; done)), H', ⟨by have := HJ7.out; first | omega | exact Nat.le_refl _⟩, ⟨by (with_reducible repeat (first | refine blk_drewN ?_ _ | refine blk_drew ?_ | refine blk_alloc ?_ _)); exact BK207.out⟩, ⟨by (with_reducible repeat (first | refine blk_drewN ?_ _ | refine blk_drew ?_ | refine blk_alloc ?_ _)); exact BK218.out⟩, ⟨by (with_reducible repeat (first | refine blk_drewN ?_ _ | refine blk_drew ?_ | refine blk_alloc ?_ _)); exact BK219.out⟩, ⟨by repeat (first | (with_reducible first | exact HB.out | apply below_alloc | apply pw_below_drewN | apply below_drew1 | refine below_set ?_ GE207.out | refine below_set ?_ GE218.out | refine below_set ?_ GE219.out) | exact HB.out)⟩⟩
            · replace c66 := Bool.eq_false_iff.mpr c66
              subst c66
              have H1 : (if t210 = true then (impl_FMul.j1 kj7 (t208 != t213) x12_7 t204 t205 t208 false t210 t211 t212 t213 false t215 t216 t217) else (if t215 = true then (impl_FMul.j1 kj7 (t208 != t213) x12_7 t204 t205 t208 false t210 t211 t212 t213 false t215 t216 t217) else (impl_FMul.j1 kj7 (t208 != t213) false t204 t205 t208 false t210 t211 t212 t213 false t215 t216 t217))) = some r := by rw [if_neg (show ¬ (false = true) by decide)] at H; exact H
              clear H
              have H := H1
              clear H1
              by_cases c72 : t210 = true
              · subst c72
                have H1 : (impl_FMul.j1 kj7 (t208 != t213) x12_7 t204 t205 t208 false true t211 t212 t213 false t215 t216 t217) = some r := by rw [if_pos rfl] at H; exact H
                clear H
                have H := H1
                clear H1
                have H' := Aside0.mk H
                clear H
                have hnb73 := NB218_207.out
                have hnc73 := NB207_218.out
                have hnb74 := NB218_219.out
                have hnc74 := NB219_218.out
                have hcz75_0 : wc.cell? ⟨gb218, 0, none⟩ = some (.bool t208) := (blk_cell BK218.out 0).trans rfl
                have hcz75_1 : wc.cell? ⟨gb218, 1, none⟩ = some (.bool false) := (blk_cell BK218.out 1).trans rfl
                have hcz75_2 : wc.cell? ⟨gb218, 2, none⟩ = some (.bool true) := (blk_cell BK218.out 2).trans rfl
                have hcz75_3 : wc.cell? ⟨gb218, 3, none⟩ = some (.int .u64 t211) := (blk_cell BK218.out 3).trans rfl
                have hcz75_4 : wc.cell? ⟨gb218, 4, none⟩ = some (.int .i64 t212) := (blk_cell BK218.out 4).trans rfl
                have hfz75_0 := blk_frozen BK218.out 0
                have hfz75_1 := blk_frozen BK218.out 1
                have hfz75_2 := blk_frozen BK218.out 2
                have hfz75_3 := blk_frozen BK218.out 3
                have hfz75_4 := blk_frozen BK218.out 4
                have hnb76 := NB219_207.out
                have hnc76 := NB207_219.out
                have hcz77_0 : wc.cell? ⟨gb219, 0, none⟩ = some (.bool t213) := (blk_cell BK219.out 0).trans rfl
                have hcz77_1 : wc.cell? ⟨gb219, 1, none⟩ = some (.bool false) := (blk_cell BK219.out 1).trans rfl
                have hcz77_2 : wc.cell? ⟨gb219, 2, none⟩ = some (.bool t215) := (blk_cell BK219.out 2).trans rfl
                have hcz77_3 : wc.cell? ⟨gb219, 3, none⟩ = some (.int .u64 t216) := (blk_cell BK219.out 3).trans rfl
                have hcz77_4 : wc.cell? ⟨gb219, 4, none⟩ = some (.int .i64 t217) := (blk_cell BK219.out 4).trans rfl
                have hfz77_0 := blk_frozen BK219.out 0
                have hfz77_1 := blk_frozen BK219.out 1
                have hfz77_2 := blk_frozen BK219.out 2
                have hfz77_3 := blk_frozen BK219.out 3
                have hfz77_4 := blk_frozen BK219.out 4
                go_wp2
                go_meet
                case rel => exact ⟨_, (x12_7), (by first | rfl | (simp; done) | (simp [*]; done)), H', ⟨by have := HJ7.out; first | omega | exact Nat.le_refl _⟩, ⟨by (with_reducible repeat (first | refine blk_drewN ?_ _ | refine blk_drew ?_ | refine blk_alloc ?_ _)); exact BK207.out⟩, ⟨by (with_reducible repeat (first | refine blk_drewN ?_ _ | refine blk_drew ?_ | refine blk_alloc ?_ _)); exact BK218.out⟩, ⟨by (with_reducible repeat (first | refine blk_drewN ?_ _ | refine blk_drew ?_ | refine blk_alloc ?_ _)); exact BK219.out⟩, ⟨by repeat (first | (with_reducible first | exact HB.out | apply below_alloc | apply pw_below_drewN | apply below_drew1 | refine below_set ?_ GE207.out | refine below_set ?_ GE218.out | refine below_set ?_ GE219.out) | exact HB.out)⟩⟩
              · replace c72 := Bool.eq_false_iff.mpr c72
                subst c72
                have H1 : (if t215 = true then (impl_FMul.j1 kj7 (t208 != t213) x12_7 t204 t205 t208 false false t211 t212 t213 false t215 t216 t217) else (impl_FMul.j1 kj7 (t208 != t213) false t204 t205 t208 false false t211 t212 t213 false t215 t216 t217)) = some r := by rw [if_neg (show ¬ (false = true) by decide)] at H; exact H
                clear H
                have H := H1
                clear H1
                by_cases c78 : t215 = true
                · subst c78
                  have H1 : (impl_FMul.j1 kj7 (t208 != t213) x12_7 t204 t205 t208 false false t211 t212 t213 false true t216 t217) = some r := by rw [if_pos rfl] at H; exact H
                  clear H
                  have H := H1
                  clear H1
                  have H' := Aside0.mk H
                  clear H
                  have hnb79 := NB218_207.out
                  have hnc79 := NB207_218.out
                  have hnb80 := NB218_219.out
                  have hnc80 := NB219_218.out
                  have hcz81_0 : wc.cell? ⟨gb218, 0, none⟩ = some (.bool t208) := (blk_cell BK218.out 0).trans rfl
                  have hcz81_1 : wc.cell? ⟨gb218, 1, none⟩ = some (.bool false) := (blk_cell BK218.out 1).trans rfl
                  have hcz81_2 : wc.cell? ⟨gb218, 2, none⟩ = some (.bool false) := (blk_cell BK218.out 2).trans rfl
                  have hcz81_3 : wc.cell? ⟨gb218, 3, none⟩ = some (.int .u64 t211) := (blk_cell BK218.out 3).trans rfl
                  have hcz81_4 : wc.cell? ⟨gb218, 4, none⟩ = some (.int .i64 t212) := (blk_cell BK218.out 4).trans rfl
                  have hfz81_0 := blk_frozen BK218.out 0
                  have hfz81_1 := blk_frozen BK218.out 1
                  have hfz81_2 := blk_frozen BK218.out 2
                  have hfz81_3 := blk_frozen BK218.out 3
                  have hfz81_4 := blk_frozen BK218.out 4
                  have hnb82 := NB219_207.out
                  have hnc82 := NB207_219.out
                  have hcz83_0 : wc.cell? ⟨gb219, 0, none⟩ = some (.bool t213) := (blk_cell BK219.out 0).trans rfl
                  have hcz83_1 : wc.cell? ⟨gb219, 1, none⟩ = some (.bool false) := (blk_cell BK219.out 1).trans rfl
                  have hcz83_2 : wc.cell? ⟨gb219, 2, none⟩ = some (.bool true) := (blk_cell BK219.out 2).trans rfl
                  have hcz83_3 : wc.cell? ⟨gb219, 3, none⟩ = some (.int .u64 t216) := (blk_cell BK219.out 3).trans rfl
                  have hcz83_4 : wc.cell? ⟨gb219, 4, none⟩ = some (.int .i64 t217) := (blk_cell BK219.out 4).trans rfl
                  have hfz83_0 := blk_frozen BK219.out 0
                  have hfz83_1 := blk_frozen BK219.out 1
                  have hfz83_2 := blk_frozen BK219.out 2
                  have hfz83_3 := blk_frozen BK219.out 3
                  have hfz83_4 := blk_frozen BK219.out 4
                  go_wp2
                  go_meet
                  case rel => exact ⟨_, (x12_7), (by first | rfl | (simp; done) | (simp [*]; done)), H', ⟨by have := HJ7.out; first | omega | exact Nat.le_refl _⟩, ⟨by (with_reducible repeat (first | refine blk_drewN ?_ _ | refine blk_drew ?_ | refine blk_alloc ?_ _)); exact BK207.out⟩, ⟨by (with_reducible repeat (first | refine blk_drewN ?_ _ | refine blk_drew ?_ | refine blk_alloc ?_ _)); exact BK218.out⟩, ⟨by (with_reducible repeat (first | refine blk_drewN ?_ _ | refine blk_drew ?_ | refine blk_alloc ?_ _)); exact BK219.out⟩, ⟨by repeat (first | (with_reducible first | exact HB.out | apply below_alloc | apply pw_below_drewN | apply below_drew1 | refine below_set ?_ GE207.out | refine below_set ?_ GE218.out | refine below_set ?_ GE219.out) | exact HB.out)⟩⟩
                · replace c78 := Bool.eq_false_iff.mpr c78
                  subst c78
                  have H1 : (impl_FMul.j1 kj7 (t208 != t213) false t204 t205 t208 false false t211 t212 t213 false false t216 t217) = some r := by rw [if_neg (show ¬ (false = true) by decide)] at H; exact H
                  clear H
                  have H := H1
                  clear H1
                  have H' := Aside0.mk H
                  clear H
                  have hnb84 := NB218_207.out
                  have hnc84 := NB207_218.out
                  have hnb85 := NB218_219.out
                  have hnc85 := NB219_218.out
                  have hcz86_0 : wc.cell? ⟨gb218, 0, none⟩ = some (.bool t208) := (blk_cell BK218.out 0).trans rfl
                  have hcz86_1 : wc.cell? ⟨gb218, 1, none⟩ = some (.bool false) := (blk_cell BK218.out 1).trans rfl
                  have hcz86_2 : wc.cell? ⟨gb218, 2, none⟩ = some (.bool false) := (blk_cell BK218.out 2).trans rfl
                  have hcz86_3 : wc.cell? ⟨gb218, 3, none⟩ = some (.int .u64 t211) := (blk_cell BK218.out 3).trans rfl
                  have hcz86_4 : wc.cell? ⟨gb218, 4, none⟩ = some (.int .i64 t212) := (blk_cell BK218.out 4).trans rfl
                  have hfz86_0 := blk_frozen BK218.out 0
                  have hfz86_1 := blk_frozen BK218.out 1
                  have hfz86_2 := blk_frozen BK218.out 2
                  have hfz86_3 := blk_frozen BK218.out 3
                  have hfz86_4 := blk_frozen BK218.out 4
                  have hnb87 := NB219_207.out
                  have hnc87 := NB207_219.out
                  have hcz88_0 : wc.cell? ⟨gb219, 0, none⟩ = some (.bool t213) := (blk_cell BK219.out 0).trans rfl
                  have hcz88_1 : wc.cell? ⟨gb219, 1, none⟩ = some (.bool false) := (blk_cell BK219.out 1).trans rfl
                  have hcz88_2 : wc.cell? ⟨gb219, 2, none⟩ = some (.bool false) := (blk_cell BK219.out 2).trans rfl
                  have hcz88_3 : wc.cell? ⟨gb219, 3, none⟩ = some (.int .u64 t216) := (blk_cell BK219.out 3).trans rfl
                  have hcz88_4 : wc.cell? ⟨gb219, 4, none⟩ = some (.int .i64 t217) := (blk_cell BK219.out 4).trans rfl
                  have hfz88_0 := blk_frozen BK219.out 0
                  have hfz88_1 := blk_frozen BK219.out 1
                  have hfz88_2 := blk_frozen BK219.out 2
                  have hfz88_3 := blk_frozen BK219.out 3
                  have hfz88_4 := blk_frozen BK219.out 4
                  go_wp2
                  go_meet
                  case rel => exact ⟨_, (false), (by first | rfl | (simp; done) | (simp [*]; done)), H', ⟨by have := HJ7.out; first | omega | exact Nat.le_refl _⟩, ⟨by (with_reducible repeat (first | refine blk_drewN ?_ _ | refine blk_drew ?_ | refine blk_alloc ?_ _)); exact BK207.out⟩, ⟨by (with_reducible repeat (first | refine blk_drewN ?_ _ | refine blk_drew ?_ | refine blk_alloc ?_ _)); exact BK218.out⟩, ⟨by (with_reducible repeat (first | refine blk_drewN ?_ _ | refine blk_drew ?_ | refine blk_alloc ?_ _)); exact BK219.out⟩, ⟨by repeat (first | (with_reducible first | exact HB.out | apply below_alloc | apply pw_below_drewN | apply below_drew1 | refine below_set ?_ GE207.out | refine below_set ?_ GE218.out | refine below_set ?_ GE219.out) | exact HB.out)⟩⟩
        case rest =>
          clear HC61
          try clear c2
          try clear p2
          try clear c3
          try clear c4
          try clear c5
          try clear c6
          try clear c7
          try clear c8
          try clear c29
          try clear c30
          try clear c32
          try clear c34
          try clear c35
          try clear c36
          try clear c37
          try clear c39
          try clear c41
          try clear c42
          try clear c44
          try clear c46
          try clear c46b0
          try clear c46b1
          try clear c47
          try clear c48
          try clear c50
          try clear c51
          try clear c52
          try clear c54
          try clear c56
          try clear c57
          try clear c59
          try clear c62
          try clear c63
          try clear c64
          try clear c66
          try clear c67
          try clear c68
          try clear c70
          try clear c72
          try clear c73
          try clear c74
          try clear c76
          try clear c78
          try clear c79
          try clear c80
          try clear c82
          try clear c84
          try clear c85
          try clear c87
          try clear hcz31_0
          try clear hcz31_1
          try clear hcz31_2
          try clear hcz31_3
          try clear hcz31_4
          try clear hcz33_0
          try clear hcz33_1
          try clear hcz33_2
          try clear hcz33_3
          try clear hcz33_4
          try clear hcz38_0
          try clear hcz38_1
          try clear hcz38_2
          try clear hcz38_3
          try clear hcz38_4
          try clear hcz40_0
          try clear hcz40_1
          try clear hcz40_2
          try clear hcz40_3
          try clear hcz40_4
          try clear hcz43_0
          try clear hcz43_1
          try clear hcz43_2
          try clear hcz43_3
          try clear hcz43_4
          try clear hcz45_0
          try clear hcz45_1
          try clear hcz45_2
          try clear hcz45_3
          try clear hcz45_4
          try clear hcz49_0
          try clear hcz49_1
          try clear hcz49_2
          try clear hcz49_3
          try clear hcz49_4
          try clear hcz53_0
          try clear hcz53_1
          try clear hcz53_2
          try clear hcz53_3
          try clear hcz53_4
          try clear hcz55_0
          try clear hcz55_1
          try clear hcz55_2
          try clear hcz55_3
          try clear hcz55_4
          try clear hcz58_0
          try clear hcz58_1
          try clear hcz58_2
          try clear hcz58_3
          try clear hcz58_4
          try clear hcz60_0
          try clear hcz60_1
          try clear hcz60_2
          try clear hcz60_3
          try clear hcz60_4
          try clear hcz65_0
          try clear hcz65_1
          try clear hcz65_2
          try clear hcz65_3
          try clear hcz65_4
          try clear hcz69_0
          try clear hcz69_1
          try clear hcz69_2
          try clear hcz69_3
          try clear hcz69_4
          try clear hcz71_0
          try clear hcz71_1
          try clear hcz71_2
          try clear hcz71_3
          try clear hcz71_4
          try clear hcz75_0
          try clear hcz75_1
          try clear hcz75_2
          try clear hcz75_3
          try clear hcz75_4
          try clear hcz77_0
          try clear hcz77_1
          try clear hcz77_2
          try clear hcz77_3
          try clear hcz77_4
          try clear hcz81_0
          try clear hcz81_1
          try clear hcz81_2
          try clear hcz81_3
          try clear hcz81_4
          try clear hcz83_0
          try clear hcz83_1
          try clear hcz83_2
          try clear hcz83_3
          try clear hcz83_4
          try clear hcz86_0
          try clear hcz86_1
          try clear hcz86_2
          try clear hcz86_3
          try clear hcz86_4
          try clear hcz88_0
          try clear hcz88_1
          try clear hcz88_2
          try clear hcz88_3
          try clear hcz88_4
          try clear hfz31_0
          try clear hfz31_1
          try clear hfz31_2
          try clear hfz31_3
          try clear hfz31_4
          try clear hfz33_0
          try clear hfz33_1
          try clear hfz33_2
          try clear hfz33_3
          try clear hfz33_4
          try clear hfz38_0
          try clear hfz38_1
          try clear hfz38_2
          try clear hfz38_3
          try clear hfz38_4
          try clear hfz40_0
          try clear hfz40_1
          try clear hfz40_2
          try clear hfz40_3
          try clear hfz40_4
          try clear hfz43_0
          try clear hfz43_1
          try clear hfz43_2
          try clear hfz43_3
          try clear hfz43_4
          try clear hfz45_0
          try clear hfz45_1
          try clear hfz45_2
          try clear hfz45_3
          try clear hfz45_4
          try clear hfz49_0
          try clear hfz49_1
          try clear hfz49_2
          try clear hfz49_3
          try clear hfz49_4
          try clear hfz53_0
          try clear hfz53_1
          try clear hfz53_2
          try clear hfz53_3
          try clear hfz53_4
          try clear hfz55_0
          try clear hfz55_1
          try clear hfz55_2
          try clear hfz55_3
          try clear hfz55_4
          try clear hfz58_0
          try clear hfz58_1
          try clear hfz58_2
          try clear hfz58_3
          try clear hfz58_4
          try clear hfz60_0
          try clear hfz60_1
          try clear hfz60_2
          try clear hfz60_3
          try clear hfz60_4
          try clear hfz65_0
          try clear hfz65_1
          try clear hfz65_2
          try clear hfz65_3
          try clear hfz65_4
          try clear hfz69_0
          try clear hfz69_1
          try clear hfz69_2
          try clear hfz69_3
          try clear hfz69_4
          try clear hfz71_0
          try clear hfz71_1
          try clear hfz71_2
          try clear hfz71_3
          try clear hfz71_4
          try clear hfz75_0
          try clear hfz75_1
          try clear hfz75_2
          try clear hfz75_3
          try clear hfz75_4
          try clear hfz77_0
          try clear hfz77_1
          try clear hfz77_2
          try clear hfz77_3
          try clear hfz77_4
          try clear hfz81_0
          try clear hfz81_1
          try clear hfz81_2
          try clear hfz81_3
          try clear hfz81_4
          try clear hfz83_0
          try clear hfz83_1
          try clear hfz83_2
          try clear hfz83_3
          try clear hfz83_4
          try clear hfz86_0
          try clear hfz86_1
          try clear hfz86_2
          try clear hfz86_3
          try clear hfz86_4
          try clear hfz88_0
          try clear hfz88_1
          try clear hfz88_2
          try clear hfz88_3
          try clear hfz88_4
          try clear p2
          obtain ⟨kq, x49_60, rfl, HA, HJ60, BK207, BK218, BK219, HB⟩ := hcut
          cases kq with
          | zero => exact absurd HA.out (by simp [impl_FMul.j1])
          | succ kj60 =>
            have H := HA.out
            clear HA
            simp only [impl_FMul.j1] at H
            by_cases c89 : x49_60 = true
            · subst c89
              have H1 : ((impl_format_noNumber.f t204 t205).bind fun t220 => (some t220)) = some r := by rw [if_pos rfl] at H; exact H
              clear H
              have H := H1
              clear H1
              replace H := Option.bind_eq_some_iff.mp H
              obtain ⟨t220, A900, H⟩ := H
              replace H : (some t220) = some r := H
              have A90 := Aside0.mk A900
              clear A900
              obtain rfl := Option.some.inj H
              simp only [Option.some.injEq, Prod.mk.injEq] at H
              obtain ⟨rfl⟩ := H
              have hnb91 := NB207_218.out
              have hnc91 := NB218_207.out
              have hnb92 := NB207_219.out
              have hnc92 := NB219_207.out
              have hcz93_0 : wc.cell? ⟨gb207, 0, none⟩ = some (.int .i64 t204) := (blk_cell BK207.out 0).trans rfl
              have hcz93_1 : wc.cell? ⟨gb207, 1, none⟩ = some (.int .i64 t205) := (blk_cell BK207.out 1).trans rfl
              have hfz93_0 := blk_frozen BK207.out 0
              have hfz93_1 := blk_frozen BK207.out 1
              go_wp2_with (first | ((with_reducible refine gate_callee (f := 53) rfl ?_); refine goesL_ (some 68) rfl rfl Try.func53 (by kernel_rfl) rfl #[.agg #[.int .i64 t204, .int .i64 t205]] rfl (by (try simp only [List.map_toArray, List.map_cons, List.map_nil]); first | done | rfl | (simp only [List.length_drop, List.length_take]; rfl)) ?_; (with_reducible refine (impl_format_noNumber.calls t204 t205 t220 _ A90.out).mono ?_); rintro e w94 ⟨rfl, hb⟩; refine ⟨_, rfl, ?_⟩; have n0_ := Aside0.mk (blk_below (g := gb207) (o := .cells #[.int .i64 t204, .int .i64 t205] 62 (0, 0)) (by (with_reducible repeat (first | refine blk_drewN ?_ _ | refine blk_drew ?_ | refine blk_alloc ?_ _)); exact BK207.out) hb); have n1_ := Aside0.mk (blk_below (g := gb218) (o := .cells #[.bool t208, .bool t209, .bool t210, .int .u64 t211, .int .i64 t212] 66 (0, 0)) (by (with_reducible repeat (first | refine blk_drewN ?_ _ | refine blk_drew ?_ | refine blk_alloc ?_ _)); exact BK218.out) hb); have n2_ := Aside0.mk (blk_below (g := gb219) (o := .cells #[.bool t213, .bool t214, .bool t215, .int .u64 t216, .int .i64 t217] 66 (0, 0)) (by (with_reducible repeat (first | refine blk_drewN ?_ _ | refine blk_drew ?_ | refine blk_alloc ?_ _)); exact BK219.out) hb); have n3_ := Aside0.mk (below_step (by repeat (first | (with_reducible first | exact HB.out | apply below_alloc | apply pw_below_drewN | apply below_drew1 | refine below_set ?_ GE207.out | refine below_set ?_ GE218.out | refine below_set ?_ GE219.out) | exact HB.out)) hb); clear BK207; clear BK218; clear BK219; clear HB; have BK207 := n0_; have BK218 := n1_; have BK219 := n2_; have HB := n3_; clear n0_ n1_ n2_ n3_; (try clear hb); (try clear hb2); (try clear hk); (try clear hi)))
              go_ret
              exact ⟨by first | rfl | (simp [errW_none, errW_some] <;> rfl) | (simp [*, errW_none, errW_some] <;> rfl), by repeat (first | (with_reducible first | exact HB.out | apply below_alloc | apply pw_below_drewN | apply below_drew1 | refine below_set ?_ GE207.out | refine below_set ?_ GE218.out | refine below_set ?_ GE219.out) | exact HB.out)⟩
            · replace c89 := Bool.eq_false_iff.mpr c89
              subst c89
              have H1 : (if t210 = true then (impl_FMul.j2 kj60 (t208 != t213) true t204 t205 t208 t209 t210 t211 t212 t213 t214 t215 t216 t217) else (impl_FMul.j2 kj60 (t208 != t213) t215 t204 t205 t208 t209 t210 t211 t212 t213 t214 t215 t216 t217)) = some r := by rw [if_neg (show ¬ (false = true) by decide)] at H; exact H
              clear H
              have H := H1
              clear H1
              have HC95 := Aside0.mk H
              clear H
              go_upto_region 9 with (fail)
              go_cut [69] (fun v69 wc => ∃ (kq : Nat) (x69_94 : Bool), v69 = .bool x69_94 ∧ Aside0 (impl_FMul.j2 kq (t208 != t213) x69_94 t204 t205 t208 t209 t210 t211 t212 t213 t214 t215 t216 t217 = some r) ∧ Aside0 (kq ≤ kj60) ∧ Aside0 (wc.heap[gb207]? = some (.cells #[.int .i64 t204, .int .i64 t205] 62 (0, 0))) ∧ Aside0 (wc.heap[gb218]? = some (.cells #[.bool t208, .bool t209, .bool t210, .int .u64 t211, .int .i64 t212] 66 (0, 0))) ∧ Aside0 (wc.heap[gb219]? = some (.cells #[.bool t213, .bool t214, .bool t215, .int .u64 t216, .int .i64 t217] 66 (0, 0))) ∧ Aside0 (Below w.heap.size w wc))
              case first =>
                have H := HC95.out
                clear HC95
                by_cases c96 : t210 = true
                · subst c96
                  have H1 : (impl_FMul.j2 kj60 (t208 != t213) true t204 t205 t208 t209 true t211 t212 t213 t214 t215 t216 t217) = some r := by rw [if_pos rfl] at H; exact H
                  clear H
                  have H := H1
                  clear H1
                  have H' := Aside0.mk H
                  clear H
                  have hnb97 := NB218_207.out
                  have hnc97 := NB207_218.out
                  have hnb98 := NB218_219.out
                  have hnc98 := NB219_218.out
                  have hcz99_0 : wc.cell? ⟨gb218, 0, none⟩ = some (.bool t208) := (blk_cell BK218.out 0).trans rfl
                  have hcz99_1 : wc.cell? ⟨gb218, 1, none⟩ = some (.bool t209) := (blk_cell BK218.out 1).trans rfl
                  have hcz99_2 : wc.cell? ⟨gb218, 2, none⟩ = some (.bool true) := (blk_cell BK218.out 2).trans rfl
                  have hcz99_3 : wc.cell? ⟨gb218, 3, none⟩ = some (.int .u64 t211) := (blk_cell BK218.out 3).trans rfl
                  have hcz99_4 : wc.cell? ⟨gb218, 4, none⟩ = some (.int .i64 t212) := (blk_cell BK218.out 4).trans rfl
                  have hfz99_0 := blk_frozen BK218.out 0
                  have hfz99_1 := blk_frozen BK218.out 1
                  have hfz99_2 := blk_frozen BK218.out 2
                  have hfz99_3 := blk_frozen BK218.out 3
                  have hfz99_4 := blk_frozen BK218.out 4
                  go_wp2
                  go_meet
                  case rel => exact ⟨_, (true), (by first | rfl | (simp; done) | (simp [*]; done)), H', ⟨by have := HJ7.out; have := HJ60.out; first | omega | exact Nat.le_refl _⟩, ⟨by (with_reducible repeat (first | refine blk_drewN ?_ _ | refine blk_drew ?_ | refine blk_alloc ?_ _)); exact BK207.out⟩, ⟨by (with_reducible repeat (first | refine blk_drewN ?_ _ | refine blk_drew ?_ | refine blk_alloc ?_ _)); exact BK218.out⟩, ⟨by (with_reducible repeat (first | refine blk_drewN ?_ _ | refine blk_drew ?_ | refine blk_alloc ?_ _)); exact BK219.out⟩, ⟨by repeat (first | (with_reducible first | exact HB.out | apply below_alloc | apply pw_below_drewN | apply below_drew1 | refine below_set ?_ GE207.out | refine below_set ?_ GE218.out | refine below_set ?_ GE219.out) | exact HB.out)⟩⟩
                · replace c96 := Bool.eq_false_iff.mpr c96
                  subst c96
                  have H1 : (impl_FMul.j2 kj60 (t208 != t213) t215 t204 t205 t208 t209 false t211 t212 t213 t214 t215 t216 t217) = some r := by rw [if_neg (show ¬ (false = true) by decide)] at H; exact H
                  clear H
                  have H := H1
                  clear H1
                  have H' := Aside0.mk H
                  clear H
                  have hnb100 := NB218_207.out
                  have hnc100 := NB207_218.out
                  have hnb101 := NB218_219.out
                  have hnc101 := NB219_218.out
                  have hcz102_0 : wc.cell? ⟨gb218, 0, none⟩ = some (.bool t208) := (blk_cell BK218.out 0).trans rfl
                  have hcz102_1 : wc.cell? ⟨gb218, 1, none⟩ = some (.bool t209) := (blk_cell BK218.out 1).trans rfl
                  have hcz102_2 : wc.cell? ⟨gb218, 2, none⟩ = some (.bool false) := (blk_cell BK218.out 2).trans rfl
                  have hcz102_3 : wc.cell? ⟨gb218, 3, none⟩ = some (.int .u64 t211) := (blk_cell BK218.out 3).trans rfl
                  have hcz102_4 : wc.cell? ⟨gb218, 4, none⟩ = some (.int .i64 t212) := (blk_cell BK218.out 4).trans rfl
                  have hfz102_0 := blk_frozen BK218.out 0
                  have hfz102_1 := blk_frozen BK218.out 1
                  have hfz102_2 := blk_frozen BK218.out 2
                  have hfz102_3 := blk_frozen BK218.out 3
                  have hfz102_4 := blk_frozen BK218.out 4
                  have hnb103 := NB219_207.out
                  have hnc103 := NB207_219.out
                  have hcz104_0 : wc.cell? ⟨gb219, 0, none⟩ = some (.bool t213) := (blk_cell BK219.out 0).trans rfl
                  have hcz104_1 : wc.cell? ⟨gb219, 1, none⟩ = some (.bool t214) := (blk_cell BK219.out 1).trans rfl
                  have hcz104_2 : wc.cell? ⟨gb219, 2, none⟩ = some (.bool t215) := (blk_cell BK219.out 2).trans rfl
                  have hcz104_3 : wc.cell? ⟨gb219, 3, none⟩ = some (.int .u64 t216) := (blk_cell BK219.out 3).trans rfl
                  have hcz104_4 : wc.cell? ⟨gb219, 4, none⟩ = some (.int .i64 t217) := (blk_cell BK219.out 4).trans rfl
                  have hfz104_0 := blk_frozen BK219.out 0
                  have hfz104_1 := blk_frozen BK219.out 1
                  have hfz104_2 := blk_frozen BK219.out 2
                  have hfz104_3 := blk_frozen BK219.out 3
                  have hfz104_4 := blk_frozen BK219.out 4
                  go_wp2
                  go_meet
                  case rel => exact ⟨_, (t215), (by first | rfl | (simp; done) | (simp [*]; done)), H', ⟨by have := HJ7.out; have := HJ60.out; first | omega | exact Nat.le_refl _⟩, ⟨by (with_reducible repeat (first | refine blk_drewN ?_ _ | refine blk_drew ?_ | refine blk_alloc ?_ _)); exact BK207.out⟩, ⟨by (with_reducible repeat (first | refine blk_drewN ?_ _ | refine blk_drew ?_ | refine blk_alloc ?_ _)); exact BK218.out⟩, ⟨by (with_reducible repeat (first | refine blk_drewN ?_ _ | refine blk_drew ?_ | refine blk_alloc ?_ _)); exact BK219.out⟩, ⟨by repeat (first | (with_reducible first | exact HB.out | apply below_alloc | apply pw_below_drewN | apply below_drew1 | refine below_set ?_ GE207.out | refine below_set ?_ GE218.out | refine below_set ?_ GE219.out) | exact HB.out)⟩⟩
              case rest =>
                clear HC95
                try clear c1
                try clear c2
                try clear p2
                try clear c3
                try clear c4
                try clear c5
                try clear c6
                try clear c7
                try clear c8
                try clear c9
                try clear c10
                try clear c29
                try clear c30
                try clear c32
                try clear c34
                try clear c35
                try clear c36
                try clear c37
                try clear c39
                try clear c41
                try clear c42
                try clear c44
                try clear c46
                try clear c46b0
                try clear c46b1
                try clear c47
                try clear c48
                try clear c50
                try clear c51
                try clear c52
                try clear c53
                try clear c54
                try clear c56
                try clear c57
                try clear c59
                try clear c62
                try clear c63
                try clear c64
                try clear c66
                try clear c67
                try clear c68
                try clear c70
                try clear c72
                try clear c73
                try clear c74
                try clear c76
                try clear c78
                try clear c79
                try clear c80
                try clear c82
                try clear c84
                try clear c85
                try clear c87
                try clear c89
                try clear c91
                try clear c92
                try clear c96
                try clear c97
                try clear c98
                try clear c100
                try clear c101
                try clear c103
                try clear hcz102_0
                try clear hcz102_1
                try clear hcz102_2
                try clear hcz102_3
                try clear hcz102_4
                try clear hcz104_0
                try clear hcz104_1
                try clear hcz104_2
                try clear hcz104_3
                try clear hcz104_4
                try clear hcz31_0
                try clear hcz31_1
                try clear hcz31_2
                try clear hcz31_3
                try clear hcz31_4
                try clear hcz33_0
                try clear hcz33_1
                try clear hcz33_2
                try clear hcz33_3
                try clear hcz33_4
                try clear hcz38_0
                try clear hcz38_1
                try clear hcz38_2
                try clear hcz38_3
                try clear hcz38_4
                try clear hcz40_0
                try clear hcz40_1
                try clear hcz40_2
                try clear hcz40_3
                try clear hcz40_4
                try clear hcz43_0
                try clear hcz43_1
                try clear hcz43_2
                try clear hcz43_3
                try clear hcz43_4
                try clear hcz45_0
                try clear hcz45_1
                try clear hcz45_2
                try clear hcz45_3
                try clear hcz45_4
                try clear hcz49_0
                try clear hcz49_1
                try clear hcz49_2
                try clear hcz49_3
                try clear hcz49_4
                try clear hcz53_0
                try clear hcz53_1
                try clear hcz53_2
                try clear hcz53_3
                try clear hcz53_4
                try clear hcz55_0
                try clear hcz55_1
                try clear hcz55_2
                try clear hcz55_3
                try clear hcz55_4
                try clear hcz58_0
                try clear hcz58_1
                try clear hcz58_2
                try clear hcz58_3
                try clear hcz58_4
                try clear hcz60_0
                try clear hcz60_1
                try clear hcz60_2
                try clear hcz60_3
                try clear hcz60_4
                try clear hcz65_0
                try clear hcz65_1
                try clear hcz65_2
                try clear hcz65_3
                try clear hcz65_4
                try clear hcz69_0
                try clear hcz69_1
                try clear hcz69_2
                try clear hcz69_3
                try clear hcz69_4
                try clear hcz71_0
                try clear hcz71_1
                try clear hcz71_2
                try clear hcz71_3
                try clear hcz71_4
                try clear hcz75_0
                try clear hcz75_1
                try clear hcz75_2
                try clear hcz75_3
                try clear hcz75_4
                try clear hcz77_0
                try clear hcz77_1
                try clear hcz77_2
                try clear hcz77_3
                try clear hcz77_4
                try clear hcz81_0
                try clear hcz81_1
                try clear hcz81_2
                try clear hcz81_3
                try clear hcz81_4
                try clear hcz83_0
                try clear hcz83_1
                try clear hcz83_2
                try clear hcz83_3
                try clear hcz83_4
                try clear hcz86_0
                try clear hcz86_1
                try clear hcz86_2
                try clear hcz86_3
                try clear hcz86_4
                try clear hcz88_0
                try clear hcz88_1
                try clear hcz88_2
                try clear hcz88_3
                try clear hcz88_4
                try clear hcz93_0
                try clear hcz93_1
                try clear hcz99_0
                try clear hcz99_1
                try clear hcz99_2
                try clear hcz99_3
                try clear hcz99_4
                try clear hfz102_0
                try clear hfz102_1
                try clear hfz102_2
                try clear hfz102_3
                try clear hfz102_4
                try clear hfz104_0
                try clear hfz104_1
                try clear hfz104_2
                try clear hfz104_3
                try clear hfz104_4
                try clear hfz31_0
                try clear hfz31_1
                try clear hfz31_2
                try clear hfz31_3
                try clear hfz31_4
                try clear hfz33_0
                try clear hfz33_1
                try clear hfz33_2
                try clear hfz33_3
                try clear hfz33_4
                try clear hfz38_0
                try clear hfz38_1
                try clear hfz38_2
                try clear hfz38_3
                try clear hfz38_4
                try clear hfz40_0
                try clear hfz40_1
                try clear hfz40_2
                try clear hfz40_3
                try clear hfz40_4
                try clear hfz43_0
                try clear hfz43_1
                try clear hfz43_2
                try clear hfz43_3
                try clear hfz43_4
                try clear hfz45_0
                try clear hfz45_1
                try clear hfz45_2
                try clear hfz45_3
                try clear hfz45_4
                try clear hfz49_0
                try clear hfz49_1
                try clear hfz49_2
                try clear hfz49_3
                try clear hfz49_4
                try clear hfz53_0
                try clear hfz53_1
                try clear hfz53_2
                try clear hfz53_3
                try clear hfz53_4
                try clear hfz55_0
                try clear hfz55_1
                try clear hfz55_2
                try clear hfz55_3
                try clear hfz55_4
                try clear hfz58_0
                try clear hfz58_1
                try clear hfz58_2
                try clear hfz58_3
                try clear hfz58_4
                try clear hfz60_0
                try clear hfz60_1
                try clear hfz60_2
                try clear hfz60_3
                try clear hfz60_4
                try clear hfz65_0
                try clear hfz65_1
                try clear hfz65_2
                try clear hfz65_3
                try clear hfz65_4
                try clear hfz69_0
                try clear hfz69_1
                try clear hfz69_2
                try clear hfz69_3
                try clear hfz69_4
                try clear hfz71_0
                try clear hfz71_1
                try clear hfz71_2
                try clear hfz71_3
                try clear hfz71_4
                try clear hfz75_0
                try clear hfz75_1
                try clear hfz75_2
                try clear hfz75_3
                try clear hfz75_4
                try clear hfz77_0
                try clear hfz77_1
                try clear hfz77_2
                try clear hfz77_3
                try clear hfz77_4
                try clear hfz81_0
                try clear hfz81_1
                try clear hfz81_2
                try clear hfz81_3
                try clear hfz81_4
                try clear hfz83_0
                try clear hfz83_1
                try clear hfz83_2
                try clear hfz83_3
                try clear hfz83_4
                try clear hfz86_0
                try clear hfz86_1
                try clear hfz86_2
                try clear hfz86_3
                try clear hfz86_4
                try clear hfz88_0
                try clear hfz88_1
                try clear hfz88_2
                try clear hfz88_3
                try clear hfz88_4
                try clear hfz93_0
                try clear hfz93_1
                try clear hfz99_0
                try clear hfz99_1
                try clear hfz99_2
                try clear hfz99_3
                try clear hfz99_4
                try clear p2
                obtain ⟨kq, x69_94, rfl, HA, HJ94, BK207, BK218, BK219, HB⟩ := hcut
                cases kq with
                | zero => exact absurd HA.out (by simp [impl_FMul.j2])
                | succ kj94 =>
                  have H := HA.out
                  clear HA
                  simp only [impl_FMul.j2] at H
                  by_cases c105 : x69_94 = true
                  · subst c105
                    have H1 : ((impl_format_infinite.f t204 t205 (t208 != t213)).bind fun t221 => (some t221)) = some r := by rw [if_pos rfl] at H; exact H
                    clear H
                    have H := H1
                    clear H1
                    replace H := Option.bind_eq_some_iff.mp H
                    obtain ⟨t221, A1060, H⟩ := H
                    replace H : (some t221) = some r := H
                    have A106 := Aside0.mk A1060
                    clear A1060
                    obtain rfl := Option.some.inj H
                    simp only [Option.some.injEq, Prod.mk.injEq] at H
                    obtain ⟨rfl⟩ := H
                    have hnb107 := NB207_218.out
                    have hnc107 := NB218_207.out
                    have hnb108 := NB207_219.out
                    have hnc108 := NB219_207.out
                    have hcz109_0 : wc.cell? ⟨gb207, 0, none⟩ = some (.int .i64 t204) := (blk_cell BK207.out 0).trans rfl
                    have hcz109_1 : wc.cell? ⟨gb207, 1, none⟩ = some (.int .i64 t205) := (blk_cell BK207.out 1).trans rfl
                    have hfz109_0 := blk_frozen BK207.out 0
                    have hfz109_1 := blk_frozen BK207.out 1
                    go_wp2_with (first | ((with_reducible refine gate_callee (f := 54) rfl ?_); refine goesL_ (some 78) rfl rfl Try.func54 (by kernel_rfl) rfl #[.agg #[.int .i64 t204, .int .i64 t205], .bool (t208 != t213)] rfl (by (try simp only [List.map_toArray, List.map_cons, List.map_nil]); first | done | rfl | (simp only [List.length_drop, List.length_take]; rfl)) ?_; (with_reducible refine (impl_format_infinite.calls t204 t205 (t208 != t213) t221 _ A106.out).mono ?_); rintro e w110 ⟨rfl, hb⟩; refine ⟨_, rfl, ?_⟩; have n0_ := Aside0.mk (blk_below (g := gb207) (o := .cells #[.int .i64 t204, .int .i64 t205] 62 (0, 0)) (by (with_reducible repeat (first | refine blk_drewN ?_ _ | refine blk_drew ?_ | refine blk_alloc ?_ _)); exact BK207.out) hb); have n1_ := Aside0.mk (blk_below (g := gb218) (o := .cells #[.bool t208, .bool t209, .bool t210, .int .u64 t211, .int .i64 t212] 66 (0, 0)) (by (with_reducible repeat (first | refine blk_drewN ?_ _ | refine blk_drew ?_ | refine blk_alloc ?_ _)); exact BK218.out) hb); have n2_ := Aside0.mk (blk_below (g := gb219) (o := .cells #[.bool t213, .bool t214, .bool t215, .int .u64 t216, .int .i64 t217] 66 (0, 0)) (by (with_reducible repeat (first | refine blk_drewN ?_ _ | refine blk_drew ?_ | refine blk_alloc ?_ _)); exact BK219.out) hb); have n3_ := Aside0.mk (below_step (by repeat (first | (with_reducible first | exact HB.out | apply below_alloc | apply pw_below_drewN | apply below_drew1 | refine below_set ?_ GE207.out | refine below_set ?_ GE218.out | refine below_set ?_ GE219.out) | exact HB.out)) hb); clear BK207; clear BK218; clear BK219; clear HB; have BK207 := n0_; have BK218 := n1_; have BK219 := n2_; have HB := n3_; clear n0_ n1_ n2_ n3_; (try clear hb); (try clear hb2); (try clear hk); (try clear hi)))
                    go_ret
                    exact ⟨by first | rfl | (simp [errW_none, errW_some] <;> rfl) | (simp [*, errW_none, errW_some] <;> rfl), by repeat (first | (with_reducible first | exact HB.out | apply below_alloc | apply pw_below_drewN | apply below_drew1 | refine below_set ?_ GE207.out | refine below_set ?_ GE218.out | refine below_set ?_ GE219.out) | exact HB.out)⟩
                  · replace c105 := Bool.eq_false_iff.mpr c105
                    subst c105
                    have H1 : ((impl_format_round.f kj94 t204 t205 (t208 != t213) (IntKind.u64.wrap (t211 * t216)) (wrap64 (t212 + t217)) false).bind fun t222 => (some t222)) = some r := by rw [if_neg (show ¬ (false = true) by decide)] at H; exact H
                    clear H
                    have H := H1
                    clear H1
                    replace H := Option.bind_eq_some_iff.mp H
                    obtain ⟨t222, A1110, H⟩ := H
                    replace H : (some t222) = some r := H
                    have A111 := Aside0.mk A1110
                    clear A1110
                    obtain rfl := Option.some.inj H
                    simp only [Option.some.injEq, Prod.mk.injEq] at H
                    obtain ⟨rfl⟩ := H
                    have hnb112 := NB207_218.out
                    have hnc112 := NB218_207.out
                    have hnb113 := NB207_219.out
                    have hnc113 := NB219_207.out
                    have hcz114_0 : wc.cell? ⟨gb207, 0, none⟩ = some (.int .i64 t204) := (blk_cell BK207.out 0).trans rfl
                    have hcz114_1 : wc.cell? ⟨gb207, 1, none⟩ = some (.int .i64 t205) := (blk_cell BK207.out 1).trans rfl
                    have hfz114_0 := blk_frozen BK207.out 0
                    have hfz114_1 := blk_frozen BK207.out 1
                    have hnb115 := NB218_219.out
                    have hnc115 := NB219_218.out
                    have hcz116_0 : wc.cell? ⟨gb218, 0, none⟩ = some (.bool t208) := (blk_cell BK218.out 0).trans rfl
                    have hcz116_1 : wc.cell? ⟨gb218, 1, none⟩ = some (.bool t209) := (blk_cell BK218.out 1).trans rfl
                    have hcz116_2 : wc.cell? ⟨gb218, 2, none⟩ = some (.bool t210) := (blk_cell BK218.out 2).trans rfl
                    have hcz116_3 : wc.cell? ⟨gb218, 3, none⟩ = some (.int .u64 t211) := (blk_cell BK218.out 3).trans rfl
                    have hcz116_4 : wc.cell? ⟨gb218, 4, none⟩ = some (.int .i64 t212) := (blk_cell BK218.out 4).trans rfl
                    have hfz116_0 := blk_frozen BK218.out 0
                    have hfz116_1 := blk_frozen BK218.out 1
                    have hfz116_2 := blk_frozen BK218.out 2
                    have hfz116_3 := blk_frozen BK218.out 3
                    have hfz116_4 := blk_frozen BK218.out 4
                    have hcz117_0 : wc.cell? ⟨gb219, 0, none⟩ = some (.bool t213) := (blk_cell BK219.out 0).trans rfl
                    have hcz117_1 : wc.cell? ⟨gb219, 1, none⟩ = some (.bool t214) := (blk_cell BK219.out 1).trans rfl
                    have hcz117_2 : wc.cell? ⟨gb219, 2, none⟩ = some (.bool t215) := (blk_cell BK219.out 2).trans rfl
                    have hcz117_3 : wc.cell? ⟨gb219, 3, none⟩ = some (.int .u64 t216) := (blk_cell BK219.out 3).trans rfl
                    have hcz117_4 : wc.cell? ⟨gb219, 4, none⟩ = some (.int .i64 t217) := (blk_cell BK219.out 4).trans rfl
                    have hfz117_0 := blk_frozen BK219.out 0
                    have hfz117_1 := blk_frozen BK219.out 1
                    have hfz117_2 := blk_frozen BK219.out 2
                    have hfz117_3 := blk_frozen BK219.out 3
                    have hfz117_4 := blk_frozen BK219.out 4
                    go_wp2_with (first | ((with_reducible refine gate_callee (f := 55) rfl ?_); refine goesL_ (some 91) rfl rfl Try.func55 (by kernel_rfl) rfl #[.agg #[.int .i64 t204, .int .i64 t205], .bool (t208 != t213), .int .u64 (IntKind.u64.wrap (t211 * t216)), .int .i64 (wrap64 (t212 + t217)), .bool false] rfl (by (try simp only [List.map_toArray, List.map_cons, List.map_nil]); first | done | rfl | (simp only [List.length_drop, List.length_take]; rfl)) ?_; (with_reducible refine (impl_format_round.calls kj94 t204 t205 (t208 != t213) (IntKind.u64.wrap (t211 * t216)) (wrap64 (t212 + t217)) false t222 _ A111.out).mono ?_); rintro e w118 ⟨rfl, hb⟩; refine ⟨_, rfl, ?_⟩; have n0_ := Aside0.mk (blk_below (g := gb207) (o := .cells #[.int .i64 t204, .int .i64 t205] 62 (0, 0)) (by (with_reducible repeat (first | refine blk_drewN ?_ _ | refine blk_drew ?_ | refine blk_alloc ?_ _)); exact BK207.out) hb); have n1_ := Aside0.mk (blk_below (g := gb218) (o := .cells #[.bool t208, .bool t209, .bool t210, .int .u64 t211, .int .i64 t212] 66 (0, 0)) (by (with_reducible repeat (first | refine blk_drewN ?_ _ | refine blk_drew ?_ | refine blk_alloc ?_ _)); exact BK218.out) hb); have n2_ := Aside0.mk (blk_below (g := gb219) (o := .cells #[.bool t213, .bool t214, .bool t215, .int .u64 t216, .int .i64 t217] 66 (0, 0)) (by (with_reducible repeat (first | refine blk_drewN ?_ _ | refine blk_drew ?_ | refine blk_alloc ?_ _)); exact BK219.out) hb); have n3_ := Aside0.mk (below_step (by repeat (first | (with_reducible first | exact HB.out | apply below_alloc | apply pw_below_drewN | apply below_drew1 | refine below_set ?_ GE207.out | refine below_set ?_ GE218.out | refine below_set ?_ GE219.out) | exact HB.out)) hb); clear BK207; clear BK218; clear BK219; clear HB; have BK207 := n0_; have BK218 := n1_; have BK219 := n2_; have HB := n3_; clear n0_ n1_ n2_ n3_; (try clear hb); (try clear hb2); (try clear hk); (try clear hi)))
                    go_ret
                    exact ⟨by first | rfl | (simp [errW_none, errW_some] <;> rfl) | (simp [*, errW_none, errW_some] <;> rfl), by repeat (first | (with_reducible first | exact HB.out | apply below_alloc | apply pw_below_drewN | apply below_drew1 | refine below_set ?_ GE207.out | refine below_set ?_ GE218.out | refine below_set ?_ GE219.out) | exact HB.out)⟩
  · replace c5 := Bool.eq_false_iff.mpr c5
    subst c5
    have H1 : (some 0) = some r := by rw [if_neg (show ¬ (false = true) by decide)] at H; exact H
    clear H
    have H := H1
    clear H1
    obtain rfl := Option.some.inj H
    simp only [Option.some.injEq, Prod.mk.injEq] at H
    obtain ⟨rfl⟩ := H
    go_enter Try.func19, Try.ntmps19
    go_wp2_with (first | ((with_reducible refine gate_callee (f := 51) rfl ?_); refine goesL_ (some 15) rfl rfl Try.func51 (by kernel_rfl) rfl #[.int .i64 a0] rfl (by (try simp only [List.map_toArray, List.map_cons, List.map_nil]); first | done | rfl | (simp only [List.length_drop, List.length_take]; rfl)) ?_; (with_reducible refine (impl_formatOf.calls a0 t204 t205 false _ A4.out).mono ?_); rintro e w119 ⟨rfl, hb⟩; refine ⟨_, rfl, ?_⟩; have n0_ := Aside0.mk (below_step (by repeat (first | (with_reducible first | exact HB.out | apply below_alloc | apply pw_below_drewN | apply below_drew1) | exact HB.out)) hb); clear HB; have HB := n0_; clear n0_; (try clear hb); (try clear hb2); (try clear hk); (try clear hi)) | ((with_reducible refine gate_dst (N := 7) rfl ?_); refine box_event ?hg (N := 7) ?hd (cs := #[.int .i64 0, .int .i64 0]) (t := 62) ?hr ?_; (case hd => rfl); (case hg => rfl); (case hr => first | (go_simp; done) | (go_simp; rfl)); intro gb207 hg w120 hbox hb; have n0_ := Aside0.mk (below_step (by repeat (first | (with_reducible first | exact HB.out | apply below_alloc | apply pw_below_drewN | apply below_drew1) | exact HB.out)) hb); have n1_ := Aside0.mk (hbox); have n2_ := Aside0.mk ((by rw [hg]; exact (below_size (by repeat (first | (with_reducible first | exact HB.out | apply below_alloc | apply pw_below_drewN | apply below_drew1) | exact HB.out))) : w.heap.size ≤ gb207)); have n3_ := Aside0.mk ((by rw [hg]; exact (below_size (by repeat (first | (with_reducible first | exact HB.out | apply below_alloc | apply pw_below_drewN | apply below_drew1) | exact HB.out))) : w.heap.size ≤ gb207)); clear HB; have HB := n0_; have BK207 := n1_; have GW207 := n2_; have GE207 := n3_; clear n0_ n1_ n2_ n3_; clear hb hbox hg; have hcz121_0 : w120.cell? ⟨gb207, 0, none⟩ = some (.int .i64 0) := (blk_cell BK207.out 0).trans rfl; have hcz121_1 : w120.cell? ⟨gb207, 1, none⟩ = some (.int .i64 0) := (blk_cell BK207.out 1).trans rfl; have hfz121_0 := blk_frozen BK207.out 0; have hfz121_1 := blk_frozen BK207.out 1))
    go_ret
    exact ⟨by first | rfl | (simp [errW_none, errW_some] <;> rfl) | (simp [*, errW_none, errW_some] <;> rfl), by repeat (first | (with_reducible first | exact HB.out | apply below_alloc | apply pw_below_drewN | apply below_drew1 | refine below_set ?_ GE207.out) | exact HB.out)⟩

end Go.Proofs.Ytdeogandkgiggaa.Q
