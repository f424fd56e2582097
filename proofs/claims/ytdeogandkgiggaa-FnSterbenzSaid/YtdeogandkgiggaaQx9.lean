-- Written by a program of this session; it walks the functions that the law reaches.
import Derived.Test.YtdeogandkgiggaaQx0
import Derived.Test.YtdeogandkgiggaaQx1
import Derived.Test.YtdeogandkgiggaaQx4
import Derived.Test.YtdeogandkgiggaaQx5
import Derived.Test.YtdeogandkgiggaaQx7
namespace Go.Proofs.Ytdeogandkgiggaa.Q
open Go.RowKit Go.Proofs.YtdeogandkgiggaaW.PrintWords Go.Proofs.YtdeogandkgiggaaW.PrintLast Go.Proofs.YtdeogandkgiggaaW.PrintMore
attribute [local go_sem] max2_int min2_int max_two min_two max_three min_three max_four min_four   -- for this text's walks alone
set_option linter.unusedVariables false
set_option linter.unusedSimpArgs false

/-! ### impl_FAdd: function 27 -/
def impl_FAdd.j0 : Nat → Bool → Int → Int → Bool → Bool → Bool → Int → Int → Bool → Bool → Bool → Int → Int → Option (Int)
 | 0, _, _, _, _, _, _, _, _, _, _, _, _, _ => none
 | k + 1, x24, x234000, x234001, x245000, x245001, x245002, x245003, x245004, x246000, x246001, x246002, x246003, x246004 => if x24 = true then ((impl_format_noNumber.f x234000 x234001).bind fun t246 => (some t246)) else (if x245002 = true then ((impl_format_infinite.f x234000 x234001 x245000).bind fun t247 => (some t247)) else (if x246002 = true then ((impl_format_infinite.f x234000 x234001 x246000).bind fun t248 => (some t248)) else ((impl_format_sum.f k x234000 x234001 x245000 x245001 x245002 x245003 x245004 x246000 x246001 x246002 x246003 x246004).bind fun t249 => (some t249))))
def impl_FAdd.f (k : Nat) (a0 : Int) (a1 : Int) (a2 : Int) : Option (Int) := (impl_formatOf.f a0).bind fun bt230 => (if bt230.2.2 = true then ((impl_format_open.f bt230.1 bt230.2.1 a1).bind fun bt234 => ((impl_format_open.f bt230.1 bt230.2.1 a2).bind fun bt239 => (if bt234.2.1 = true then (impl_FAdd.j0 k true bt230.1 bt230.2.1 bt234.1 bt234.2.1 bt234.2.2.1 bt234.2.2.2.1 bt234.2.2.2.2 bt239.1 bt239.2.1 bt239.2.2.1 bt239.2.2.2.1 bt239.2.2.2.2) else (if bt239.2.1 = true then (impl_FAdd.j0 k true bt230.1 bt230.2.1 bt234.1 bt234.2.1 bt234.2.2.1 bt234.2.2.2.1 bt234.2.2.2.2 bt239.1 bt239.2.1 bt239.2.2.1 bt239.2.2.2.1 bt239.2.2.2.2) else (if bt234.2.2.1 = true then (if bt239.2.2.1 = true then (impl_FAdd.j0 k (bt234.1 != bt239.1) bt230.1 bt230.2.1 bt234.1 bt234.2.1 bt234.2.2.1 bt234.2.2.2.1 bt234.2.2.2.2 bt239.1 bt239.2.1 bt239.2.2.1 bt239.2.2.2.1 bt239.2.2.2.2) else (impl_FAdd.j0 k false bt230.1 bt230.2.1 bt234.1 bt234.2.1 bt234.2.2.1 bt234.2.2.2.1 bt234.2.2.2.2 bt239.1 bt239.2.1 bt239.2.2.1 bt239.2.2.2.1 bt239.2.2.2.2)) else (impl_FAdd.j0 k false bt230.1 bt230.2.1 bt234.1 bt234.2.1 bt234.2.2.1 bt234.2.2.2.1 bt234.2.2.2.2 bt239.1 bt239.2.1 bt239.2.2.1 bt239.2.2.2.1 bt239.2.2.2.2)))))) else (some 0))
theorem impl_FAdd.mono_l : ∀ k, (∀ y0 y1 y2 y3 y4 y5 y6 y7 y8 y9 y10 y11 y12, LeO (impl_FAdd.j0 k y0 y1 y2 y3 y4 y5 y6 y7 y8 y9 y10 y11 y12) (impl_FAdd.j0 (k + 1) y0 y1 y2 y3 y4 y5 y6 y7 y8 y9 y10 y11 y12))
 | 0 => fun _ _ _ _ _ _ _ _ _ _ _ _ _ r h => by simp [impl_FAdd.j0] at h
 | k + 1 => by
  have ih0 := impl_FAdd.mono_l k
  ·
   intro y0 y1 y2 y3 y4 y5 y6 y7 y8 y9 y10 y11 y12
   unfold impl_FAdd.j0
   repeat' first
   | (with_reducible exact ih0 _ _ _ _ _ _ _ _ _ _ _ _ _)
   | (with_reducible exact impl_format_sum.mono _ _ _ _ _ _ _ _ _ _ _ _ _)
   | (with_reducible exact LeO.refl _)
   | (with_reducible exact LeO.none _)
   | (with_reducible refine LeO.ite ?_ ?_)
   | (with_reducible refine LeO.bind ?_ (fun _ => ?_))
   | exact ih0 _ _ _ _ _ _ _ _ _ _ _ _ _
   | exact impl_format_sum.mono _ _ _ _ _ _ _ _ _ _ _ _ _
   | exact LeO.none _
   | refine LeO.ite ?_ ?_
   | refine LeO.bind ?_ (fun _ => ?_)
theorem impl_FAdd.mono : ∀ a0 a1 a2 k, LeO (impl_FAdd.f k a0 a1 a2) (impl_FAdd.f (k + 1) a0 a1 a2) := by
 intro a0 a1 a2 k
 have ih0 := impl_FAdd.mono_l k
 unfold impl_FAdd.f
 repeat' first
   | (with_reducible exact ih0 _ _ _ _ _ _ _ _ _ _ _ _ _)
   | (with_reducible exact impl_format_sum.mono _ _ _ _ _ _ _ _ _ _ _ _ _)
   | (with_reducible exact LeO.refl _)
   | (with_reducible exact LeO.none _)
   | (with_reducible refine LeO.ite ?_ ?_)
   | (with_reducible refine LeO.bind ?_ (fun _ => ?_))
   | exact ih0 _ _ _ _ _ _ _ _ _ _ _ _ _
   | exact impl_format_sum.mono _ _ _ _ _ _ _ _ _ _ _ _ _
   | exact LeO.none _
   | refine LeO.ite ?_ ?_
   | refine LeO.bind ?_ (fun _ => ?_)
def impl_FAdd.T4 : Bool × List (List Nat × List Nat) := (true, [([], []), ([], []), ([0, 1], [0, 1]), ([], []), ([], []), ([3, 4, 2], [3, 4]), ([], []), ([], []), ([6, 2, 5, 0, 1, 2, 6, 7], [2, 6]), ([7, 5, 8, 0, 1, 2, 3, 4, 5, 6, 7, 8], [5, 7])])
def impl_FAdd.B4 : List Nat := [0, 0, 3, 0, 0, 31, 0, 0, 255, 511]
theorem impl_FAdd.tab4 : rtab .any (opsOf Try.f27 4) = impl_FAdd.T4 := by kernel_rfl
theorem impl_FAdd.bits4 : waitsOk impl_FAdd.T4.2 impl_FAdd.B4 = true := by kernel_rfl
set_option maxHeartbeats 8000000 in
set_option maxRecDepth 100000 in
theorem impl_FAdd.calls (k : Nat) (a0 : Int) (a1 : Int) (a2 : Int) (r : Int) (w : World) (h : impl_FAdd.f k a0 a1 a2 = some r) :
  Calls Try.prog 27 #[.int .i64 a0, .int .u32 a1, .int .u32 a2] w fun e w' => e = .returned (.int .u32 r) ∧ Below w.heap.size w w' := by
 have hu62 := Try.underlying62
 have hu66 := Try.underlying66
 have HB := Aside0.mk (Below.refl w.heap.size w)
 have H : ((impl_formatOf.f a0).bind fun bt230 => (if bt230.2.2 = true then ((impl_format_open.f bt230.1 bt230.2.1 a1).bind fun bt234 => ((impl_format_open.f bt230.1 bt230.2.1 a2).bind fun bt239 => (if bt234.2.1 = true then (impl_FAdd.j0 k true bt230.1 bt230.2.1 bt234.1 bt234.2.1 bt234.2.2.1 bt234.2.2.2.1 bt234.2.2.2.2 bt239.1 bt239.2.1 bt239.2.2.1 bt239.2.2.2.1 bt239.2.2.2.2) else (if bt239.2.1 = true then (impl_FAdd.j0 k true bt230.1 bt230.2.1 bt234.1 bt234.2.1 bt234.2.2.1 bt234.2.2.2.1 bt234.2.2.2.2 bt239.1 bt239.2.1 bt239.2.2.1 bt239.2.2.2.1 bt239.2.2.2.2) else (if bt234.2.2.1 = true then (if bt239.2.2.1 = true then (impl_FAdd.j0 k (bt234.1 != bt239.1) bt230.1 bt230.2.1 bt234.1 bt234.2.1 bt234.2.2.1 bt234.2.2.2.1 bt234.2.2.2.2 bt239.1 bt239.2.1 bt239.2.2.1 bt239.2.2.2.1 bt239.2.2.2.2) else (impl_FAdd.j0 k false bt230.1 bt230.2.1 bt234.1 bt234.2.1 bt234.2.2.1 bt234.2.2.2.1 bt234.2.2.2.2 bt239.1 bt239.2.1 bt239.2.2.1 bt239.2.2.2.1 bt239.2.2.2.2)) else (impl_FAdd.j0 k false bt230.1 bt230.2.1 bt234.1 bt234.2.1 bt234.2.2.1 bt234.2.2.2.1 bt234.2.2.2.2 bt239.1 bt239.2.1 bt239.2.2.1 bt239.2.2.2.1 bt239.2.2.2.2)))))) else (some 0))) = some r := h
 clear h
 replace H := Option.bind_eq_some_iff.mp H
 obtain ⟨⟨t230, t231, t232⟩, A40, H⟩ := H
 replace H : (if t232 = true then ((impl_format_open.f t230 t231 a1).bind fun bt234 => ((impl_format_open.f t230 t231 a2).bind fun bt239 => (if bt234.2.1 = true then (impl_FAdd.j0 k true t230 t231 bt234.1 bt234.2.1 bt234.2.2.1 bt234.2.2.2.1 bt234.2.2.2.2 bt239.1 bt239.2.1 bt239.2.2.1 bt239.2.2.2.1 bt239.2.2.2.2) else (if bt239.2.1 = true then (impl_FAdd.j0 k true t230 t231 bt234.1 bt234.2.1 bt234.2.2.1 bt234.2.2.2.1 bt234.2.2.2.2 bt239.1 bt239.2.1 bt239.2.2.1 bt239.2.2.2.1 bt239.2.2.2.2) else (if bt234.2.2.1 = true then (if bt239.2.2.1 = true then (impl_FAdd.j0 k (bt234.1 != bt239.1) t230 t231 bt234.1 bt234.2.1 bt234.2.2.1 bt234.2.2.2.1 bt234.2.2.2.2 bt239.1 bt239.2.1 bt239.2.2.1 bt239.2.2.2.1 bt239.2.2.2.2) else (impl_FAdd.j0 k false t230 t231 bt234.1 bt234.2.1 bt234.2.2.1 bt234.2.2.2.1 bt234.2.2.2.2 bt239.1 bt239.2.1 bt239.2.2.1 bt239.2.2.2.1 bt239.2.2.2.2)) else (impl_FAdd.j0 k false t230 t231 bt234.1 bt234.2.1 bt234.2.2.1 bt234.2.2.2.1 bt234.2.2.2.2 bt239.1 bt239.2.1 bt239.2.2.1 bt239.2.2.2.1 bt239.2.2.2.2)))))) else (some 0)) = some r := H
 have A4 := Aside0.mk A40
 clear A40
 by_cases c5 : t232 = true
 ·
  subst c5
  have H1 : ((impl_format_open.f t230 t231 a1).bind fun bt234 => ((impl_format_open.f t230 t231 a2).bind fun bt239 => (if bt234.2.1 = true then (impl_FAdd.j0 k true t230 t231 bt234.1 bt234.2.1 bt234.2.2.1 bt234.2.2.2.1 bt234.2.2.2.2 bt239.1 bt239.2.1 bt239.2.2.1 bt239.2.2.2.1 bt239.2.2.2.2) else (if bt239.2.1 = true then (impl_FAdd.j0 k true t230 t231 bt234.1 bt234.2.1 bt234.2.2.1 bt234.2.2.2.1 bt234.2.2.2.2 bt239.1 bt239.2.1 bt239.2.2.1 bt239.2.2.2.1 bt239.2.2.2.2) else (if bt234.2.2.1 = true then (if bt239.2.2.1 = true then (impl_FAdd.j0 k (bt234.1 != bt239.1) t230 t231 bt234.1 bt234.2.1 bt234.2.2.1 bt234.2.2.2.1 bt234.2.2.2.2 bt239.1 bt239.2.1 bt239.2.2.1 bt239.2.2.2.1 bt239.2.2.2.2) else (impl_FAdd.j0 k false t230 t231 bt234.1 bt234.2.1 bt234.2.2.1 bt234.2.2.2.1 bt234.2.2.2.2 bt239.1 bt239.2.1 bt239.2.2.1 bt239.2.2.2.1 bt239.2.2.2.2)) else (impl_FAdd.j0 k false t230 t231 bt234.1 bt234.2.1 bt234.2.2.1 bt234.2.2.2.1 bt234.2.2.2.2 bt239.1 bt239.2.1 bt239.2.2.1 bt239.2.2.2.1 bt239.2.2.2.2)))))) = some r := by rw [if_pos rfl] at H; exact H
  clear H
  have H := H1
  clear H1
  replace H := Option.bind_eq_some_iff.mp H
  obtain ⟨⟨t234, t235, t236, t237, t238⟩, A60, H⟩ := H
  replace H : ((impl_format_open.f t230 t231 a2).bind fun bt239 => (if t235 = true then (impl_FAdd.j0 k true t230 t231 t234 t235 t236 t237 t238 bt239.1 bt239.2.1 bt239.2.2.1 bt239.2.2.2.1 bt239.2.2.2.2) else (if bt239.2.1 = true then (impl_FAdd.j0 k true t230 t231 t234 t235 t236 t237 t238 bt239.1 bt239.2.1 bt239.2.2.1 bt239.2.2.2.1 bt239.2.2.2.2) else (if t236 = true then (if bt239.2.2.1 = true then (impl_FAdd.j0 k (t234 != bt239.1) t230 t231 t234 t235 t236 t237 t238 bt239.1 bt239.2.1 bt239.2.2.1 bt239.2.2.2.1 bt239.2.2.2.2) else (impl_FAdd.j0 k false t230 t231 t234 t235 t236 t237 t238 bt239.1 bt239.2.1 bt239.2.2.1 bt239.2.2.2.1 bt239.2.2.2.2)) else (impl_FAdd.j0 k false t230 t231 t234 t235 t236 t237 t238 bt239.1 bt239.2.1 bt239.2.2.1 bt239.2.2.2.1 bt239.2.2.2.2))))) = some r := H
  have A6 := Aside0.mk A60
  clear A60
  replace H := Option.bind_eq_some_iff.mp H
  obtain ⟨⟨t239, t240, t241, t242, t243⟩, A70, H⟩ := H
  replace H : (if t235 = true then (impl_FAdd.j0 k true t230 t231 t234 t235 t236 t237 t238 t239 t240 t241 t242 t243) else (if t240 = true then (impl_FAdd.j0 k true t230 t231 t234 t235 t236 t237 t238 t239 t240 t241 t242 t243) else (if t236 = true then (if t241 = true then (impl_FAdd.j0 k (t234 != t239) t230 t231 t234 t235 t236 t237 t238 t239 t240 t241 t242 t243) else (impl_FAdd.j0 k false t230 t231 t234 t235 t236 t237 t238 t239 t240 t241 t242 t243)) else (impl_FAdd.j0 k false t230 t231 t234 t235 t236 t237 t238 t239 t240 t241 t242 t243)))) = some r := H
  have A7 := Aside0.mk A70
  clear A70
  have HC8 := Aside0.mk H
  clear H
  go_enter Try.func27, Try.ntmps27
  try go_wp2_with (first | ((with_reducible refine gate_callee (f := 51) rfl ?_); refine goesL_ (some 13) rfl rfl Try.func51 (by kernel_rfl) rfl #[.int .i64 a0] rfl ar ?_; (with_reducible refine (impl_formatOf.calls a0 t230 t231 true _ A4.out).mono ?_); rintro e w9 ⟨rfl, hb⟩; refine ⟨_, rfl, ?_⟩; have n0_ := Aside0.mk (below_step (bw HB.out) hb); clear HB; have HB := n0_; clear n0_; (try clear hb)) | ((with_reducible refine gate_dst (N := 7) rfl ?_); refine box_event ?hg (N := 7) ?hd (cs := #[.int .i64 0, .int .i64 0]) (t := 62) ?hr ?_; (case hd => rfl); (case hg => rfl); (case hr => first | (go_simp; done) | (go_simp; rfl)); intro gb233 hg w10 hbox hb; have n0_ := Aside0.mk (below_step (bw HB.out) hb); have n1_ := Aside0.mk (hbox); have n2_ := Aside0.mk ((by rw [hg]; exact (below_size (bw HB.out)) : w.heap.size ≤ gb233)); have n3_ := Aside0.mk ((by rw [hg]; exact (below_size (bw HB.out)) : w.heap.size ≤ gb233)); clear HB; have HB := n0_; have BK233 := n1_; have GW233 := n2_; have GE233 := n3_; clear n0_ n1_ n2_ n3_; clear hb hbox hg; have hcz11_0 : w10.cell? ⟨gb233, 0, none⟩ = some (.int .i64 0) := (blk_cell BK233.out 0).trans rfl; have hcz11_1 : w10.cell? ⟨gb233, 1, none⟩ = some (.int .i64 0) := (blk_cell BK233.out 1).trans rfl; have hfz11_0 := blk_frozen BK233.out 0; have hfz11_1 := blk_frozen BK233.out 1))
  have n0_ : Aside0 (((w10.setCell ⟨gb233, 0, none⟩ (.int .i64 t230)).setCell ⟨gb233, 1, none⟩ (.int .i64 t231)).heap[gb233]? = some (.cells #[.int .i64 t230, .int .i64 t231] 62 (0, 0))) := ⟨by (with_reducible repeat (first | refine blk_drewN ?_ _ | refine blk_drew ?_ | refine blk_alloc ?_ _)); refine blk_put (cs := #[.int .i64 t230, .int .i64 0]) ?_ 1 _ rfl; (with_reducible repeat (first | refine blk_drewN ?_ _ | refine blk_drew ?_ | refine blk_alloc ?_ _)); refine blk_put (cs := #[.int .i64 0, .int .i64 0]) ?_ 0 _ rfl; (with_reducible repeat (first | refine blk_drewN ?_ _ | refine blk_drew ?_ | refine blk_alloc ?_ _)); exact BK233.out⟩
  have n1_ : Aside0 (Below w.heap.size w ((w10.setCell ⟨gb233, 0, none⟩ (.int .i64 t230)).setCell ⟨gb233, 1, none⟩ (.int .i64 t231))) := ⟨bw HB.out⟩
  (try clear BK233)
  (try clear HB)
  generalize ((w10.setCell ⟨gb233, 0, none⟩ (.int .i64 t230)).setCell ⟨gb233, 1, none⟩ (.int .i64 t231)) = w12 at n0_ n1_ ⊢
  have BK233 := n0_
  have HB := n1_
  clear n0_ n1_
  have n0_ := Aside0.mk (blk_drew BK233.out)
  have n1_ := Aside0.mk (below_drew1 HB.out)
  clear BK233
  clear HB
  have BK233 := n0_
  have HB := n1_
  clear n0_ n1_
  refine start_ (n := 10) (S := fun w' => w'.cell? ⟨gb233, 0, none⟩ = some (.int .i64 t230) ∧ w'.cell? ⟨gb233, 1, none⟩ = some (.int .i64 t231)) (ds := []) #[false, false, false, false, false, false, false, false, false, false] (by kernel_rfl) rfl rfl ⟨(blk_cell BK233.out 0).trans rfl, (blk_cell BK233.out 1).trans rfl⟩ (fun hHeld => ?_); refine with_tabW impl_FAdd.tab4 impl_FAdd.bits4 (fun HT_ HW_ => ?_)
  generalize w12.drew = w13 at BK233 HB hHeld ⊢
  refine pure_ (i := 1) (N := some 19) (v := ?_) (a' := ?_) #[false, true, false, false, false, false, false, false, false, false] rfl rfl (any_of HT_.out (by kernel_rfl)) (fun _ _ _ h => h) (Or.inl ⟨by rfl, ?_⟩) ?_ ?_
  rotate_left
  ·
   intro w'
   go_simp
   with_reducible rfl
  rotate_left
  ·
   simp only [Act.put, List.setIfInBounds_toArray, List.set_cons_zero, List.set_cons_succ, i64_w, i32_w]
   rfl
  refine pure_ (i := 4) (N := some 22) (v := ?_) (a' := ?_) #[false, true, false, false, true, false, false, false, false, false] rfl rfl (any_of HT_.out (by kernel_rfl)) (fun _ _ _ h => h) (Or.inl ⟨by rfl, ?_⟩) ?_ ?_
  rotate_left
  ·
   intro w'
   go_simp
   with_reducible rfl
  rotate_left
  ·
   simp only [Act.put, List.setIfInBounds_toArray, List.set_cons_zero, List.set_cons_succ, i64_w, i32_w]
   rfl
  refine take_ (i := 0) (N := some 18) (v := ?_) (a' := ?_) #[true, true, false, false, true, false, false, false, false, false] rfl rfl (take_ofW HT_.out HW_.out (by kernel_rfl)) (fun _ _ _ h => h) (Or.inl ⟨by rfl, ?_⟩) hHeld ?_ ?_
  rotate_left
  ·
   rintro w' ⟨s0, s1⟩
   go_simp
   with_reducible rfl
  rotate_left
  ·
   simp only [Act.put, List.setIfInBounds_toArray, List.set_cons_zero, List.set_cons_succ, i64_w, i32_w]
   rfl
  refine take_ (i := 3) (N := some 21) (v := ?_) (a' := ?_) #[true, true, false, true, true, false, false, false, false, false] rfl rfl (take_ofW HT_.out HW_.out (by kernel_rfl)) (fun _ _ _ h => h) (Or.inl ⟨by rfl, ?_⟩) hHeld ?_ ?_
  rotate_left
  ·
   rintro w' ⟨s0, s1⟩
   go_simp
   with_reducible rfl
  rotate_left
  ·
   simp only [Act.put, List.setIfInBounds_toArray, List.set_cons_zero, List.set_cons_succ, i64_w, i32_w]
   rfl
  refine join_ (σ := Nat × Nat) 2 #[true, true, true, true, true, true, true, true, false, false] (fun s_ => [(20, .agg #[.bool t234, .bool t235, .bool t236, .int .u64 t237, .int .i64 t238]), (23, .agg #[.bool t239, .bool t240, .bool t241, .int .u64 t242, .int .i64 t243]), (9, .pointer (some ⟨s_.1, 0, none⟩)), (10, .pointer (some ⟨s_.2, 0, none⟩))]) (fun s_ w' => (w'.cell? ⟨gb233, 0, none⟩ = some (.int .i64 t230) ∧ w'.cell? ⟨gb233, 1, none⟩ = some (.int .i64 t231)) ∧ (w'.heap[gb233]? = some (.cells #[.int .i64 t230, .int .i64 t231] 62 (0, 0))) ∧ (w'.heap[s_.1]? = some (.cells #[.bool false, .bool false, .bool false, .int .u64 0, .int .i64 0] 66 (0, 0))) ∧ (w'.heap[s_.2]? = some (.cells #[.bool false, .bool false, .bool false, .int .u64 0, .int .i64 0] 66 (0, 0))) ∧ (w.heap.size ≤ s_.1) ∧ (w.heap.size ≤ s_.1) ∧ (gb233 ≠ s_.1) ∧ (s_.1 ≠ gb233) ∧ (s_.2 ≠ s_.1) ∧ (s_.1 ≠ s_.2) ∧ (w.heap.size ≤ s_.2) ∧ (w.heap.size ≤ s_.2) ∧ (gb233 ≠ s_.2) ∧ (s_.2 ≠ gb233) ∧ (Below w.heap.size w w')) ?_ ?_
  rotate_left
  ·
   intro hJ2_5_6_7
   refine join_ (σ := Nat) 3 #[true, true, true, true, true, true, true, false, false, false] (fun s_ => [(20, .agg #[.bool t234, .bool t235, .bool t236, .int .u64 t237, .int .i64 t238]), (23, .agg #[.bool t239, .bool t240, .bool t241, .int .u64 t242, .int .i64 t243]), (9, .pointer (some ⟨s_, 0, none⟩))]) (fun s_ w' => (w'.cell? ⟨gb233, 0, none⟩ = some (.int .i64 t230) ∧ w'.cell? ⟨gb233, 1, none⟩ = some (.int .i64 t231)) ∧ (w'.heap[gb233]? = some (.cells #[.int .i64 t230, .int .i64 t231] 62 (0, 0))) ∧ (w'.heap[s_]? = some (.cells #[.bool false, .bool false, .bool false, .int .u64 0, .int .i64 0] 66 (0, 0))) ∧ (w.heap.size ≤ s_) ∧ (w.heap.size ≤ s_) ∧ (gb233 ≠ s_) ∧ (s_ ≠ gb233) ∧ (Below w.heap.size w w')) ?_ ?_
   rotate_left
   ·
    intro hJ2_5_6
    refine join_ (σ := Nat) 3 #[true, true, true, true, true, true, false, true, false, false] (fun s_ => [(20, .agg #[.bool t234, .bool t235, .bool t236, .int .u64 t237, .int .i64 t238]), (23, .agg #[.bool t239, .bool t240, .bool t241, .int .u64 t242, .int .i64 t243]), (10, .pointer (some ⟨s_, 0, none⟩))]) (fun s_ w' => (w'.cell? ⟨gb233, 0, none⟩ = some (.int .i64 t230) ∧ w'.cell? ⟨gb233, 1, none⟩ = some (.int .i64 t231)) ∧ (w'.heap[gb233]? = some (.cells #[.int .i64 t230, .int .i64 t231] 62 (0, 0))) ∧ (w'.heap[s_]? = some (.cells #[.bool false, .bool false, .bool false, .int .u64 0, .int .i64 0] 66 (0, 0))) ∧ (w.heap.size ≤ s_) ∧ (w.heap.size ≤ s_) ∧ (gb233 ≠ s_) ∧ (s_ ≠ gb233) ∧ (Below w.heap.size w w')) ?_ ?_
    rotate_left
    ·
     intro hJ2_5_7
     refine join_ (σ := Nat × Nat) 3 #[true, true, true, true, true, false, true, true, false, false] (fun s_ => [(20, .agg #[.bool t234, .bool t235, .bool t236, .int .u64 t237, .int .i64 t238]), (9, .pointer (some ⟨s_.1, 0, none⟩)), (10, .pointer (some ⟨s_.2, 0, none⟩))]) (fun s_ w' => (w'.cell? ⟨gb233, 0, none⟩ = some (.int .i64 t230) ∧ w'.cell? ⟨gb233, 1, none⟩ = some (.int .i64 t231)) ∧ (w'.heap[gb233]? = some (.cells #[.int .i64 t230, .int .i64 t231] 62 (0, 0))) ∧ (w'.heap[s_.1]? = some (.cells #[.bool false, .bool false, .bool false, .int .u64 0, .int .i64 0] 66 (0, 0))) ∧ (w'.heap[s_.2]? = some (.cells #[.bool false, .bool false, .bool false, .int .u64 0, .int .i64 0] 66 (0, 0))) ∧ (w.heap.size ≤ s_.1) ∧ (w.heap.size ≤ s_.1) ∧ (gb233 ≠ s_.1) ∧ (s_.1 ≠ gb233) ∧ (s_.2 ≠ s_.1) ∧ (s_.1 ≠ s_.2) ∧ (w.heap.size ≤ s_.2) ∧ (w.heap.size ≤ s_.2) ∧ (gb233 ≠ s_.2) ∧ (s_.2 ≠ gb233) ∧ (Below w.heap.size w w')) ?_ ?_
     rotate_left
     ·
      intro hJ2_6_7
      refine join_ (σ := Unit) 4 #[true, true, true, true, true, true, false, false, false, false] (fun s_ => [(20, .agg #[.bool t234, .bool t235, .bool t236, .int .u64 t237, .int .i64 t238]), (23, .agg #[.bool t239, .bool t240, .bool t241, .int .u64 t242, .int .i64 t243])]) (fun s_ w' => (w'.cell? ⟨gb233, 0, none⟩ = some (.int .i64 t230) ∧ w'.cell? ⟨gb233, 1, none⟩ = some (.int .i64 t231)) ∧ (w'.heap[gb233]? = some (.cells #[.int .i64 t230, .int .i64 t231] 62 (0, 0))) ∧ (Below w.heap.size w w')) ?_ ?_
      rotate_left
      ·
       intro hJ2_5
       refine join_ (σ := Nat) 4 #[true, true, true, true, true, false, true, false, false, false] (fun s_ => [(20, .agg #[.bool t234, .bool t235, .bool t236, .int .u64 t237, .int .i64 t238]), (9, .pointer (some ⟨s_, 0, none⟩))]) (fun s_ w' => (w'.cell? ⟨gb233, 0, none⟩ = some (.int .i64 t230) ∧ w'.cell? ⟨gb233, 1, none⟩ = some (.int .i64 t231)) ∧ (w'.heap[gb233]? = some (.cells #[.int .i64 t230, .int .i64 t231] 62 (0, 0))) ∧ (w'.heap[s_]? = some (.cells #[.bool false, .bool false, .bool false, .int .u64 0, .int .i64 0] 66 (0, 0))) ∧ (w.heap.size ≤ s_) ∧ (w.heap.size ≤ s_) ∧ (gb233 ≠ s_) ∧ (s_ ≠ gb233) ∧ (Below w.heap.size w w')) ?_ ?_
       rotate_left
       ·
        intro hJ2_6
        refine join_ (σ := Nat) 4 #[true, true, true, true, true, false, false, true, false, false] (fun s_ => [(20, .agg #[.bool t234, .bool t235, .bool t236, .int .u64 t237, .int .i64 t238]), (10, .pointer (some ⟨s_, 0, none⟩))]) (fun s_ w' => (w'.cell? ⟨gb233, 0, none⟩ = some (.int .i64 t230) ∧ w'.cell? ⟨gb233, 1, none⟩ = some (.int .i64 t231)) ∧ (w'.heap[gb233]? = some (.cells #[.int .i64 t230, .int .i64 t231] 62 (0, 0))) ∧ (w'.heap[s_]? = some (.cells #[.bool false, .bool false, .bool false, .int .u64 0, .int .i64 0] 66 (0, 0))) ∧ (w.heap.size ≤ s_) ∧ (w.heap.size ≤ s_) ∧ (gb233 ≠ s_) ∧ (s_ ≠ gb233) ∧ (Below w.heap.size w w')) ?_ ?_
        rotate_left
        ·
         intro hJ2_7
         refine join_ (σ := Nat × Nat) 4 #[true, true, false, true, true, false, true, true, false, false] (fun s_ => [(9, .pointer (some ⟨s_.1, 0, none⟩)), (10, .pointer (some ⟨s_.2, 0, none⟩))]) (fun s_ w' => (w'.cell? ⟨gb233, 0, none⟩ = some (.int .i64 t230) ∧ w'.cell? ⟨gb233, 1, none⟩ = some (.int .i64 t231)) ∧ (w'.heap[gb233]? = some (.cells #[.int .i64 t230, .int .i64 t231] 62 (0, 0))) ∧ (w'.heap[s_.1]? = some (.cells #[.bool false, .bool false, .bool false, .int .u64 0, .int .i64 0] 66 (0, 0))) ∧ (w'.heap[s_.2]? = some (.cells #[.bool false, .bool false, .bool false, .int .u64 0, .int .i64 0] 66 (0, 0))) ∧ (w.heap.size ≤ s_.1) ∧ (w.heap.size ≤ s_.1) ∧ (gb233 ≠ s_.1) ∧ (s_.1 ≠ gb233) ∧ (s_.2 ≠ s_.1) ∧ (s_.1 ≠ s_.2) ∧ (w.heap.size ≤ s_.2) ∧ (w.heap.size ≤ s_.2) ∧ (gb233 ≠ s_.2) ∧ (s_.2 ≠ gb233) ∧ (Below w.heap.size w w')) ?_ ?_
         rotate_left
         ·
          intro hJ6_7
          refine join_ (σ := Unit) 5 #[true, true, true, true, true, false, false, false, false, false] (fun s_ => [(20, .agg #[.bool t234, .bool t235, .bool t236, .int .u64 t237, .int .i64 t238])]) (fun s_ w' => (w'.cell? ⟨gb233, 0, none⟩ = some (.int .i64 t230) ∧ w'.cell? ⟨gb233, 1, none⟩ = some (.int .i64 t231)) ∧ (w'.heap[gb233]? = some (.cells #[.int .i64 t230, .int .i64 t231] 62 (0, 0))) ∧ (Below w.heap.size w w')) ?_ ?_
          rotate_left
          ·
           intro hJ2
           refine join_ (σ := Nat) 5 #[true, true, false, true, true, false, true, false, false, false] (fun s_ => [(9, .pointer (some ⟨s_, 0, none⟩))]) (fun s_ w' => (w'.cell? ⟨gb233, 0, none⟩ = some (.int .i64 t230) ∧ w'.cell? ⟨gb233, 1, none⟩ = some (.int .i64 t231)) ∧ (w'.heap[gb233]? = some (.cells #[.int .i64 t230, .int .i64 t231] 62 (0, 0))) ∧ (w'.heap[s_]? = some (.cells #[.bool false, .bool false, .bool false, .int .u64 0, .int .i64 0] 66 (0, 0))) ∧ (w.heap.size ≤ s_) ∧ (w.heap.size ≤ s_) ∧ (gb233 ≠ s_) ∧ (s_ ≠ gb233) ∧ (Below w.heap.size w w')) ?_ ?_
           rotate_left
           ·
            intro hJ6
            refine join_ (σ := Nat) 5 #[true, true, false, true, true, false, false, true, false, false] (fun s_ => [(10, .pointer (some ⟨s_, 0, none⟩))]) (fun s_ w' => (w'.cell? ⟨gb233, 0, none⟩ = some (.int .i64 t230) ∧ w'.cell? ⟨gb233, 1, none⟩ = some (.int .i64 t231)) ∧ (w'.heap[gb233]? = some (.cells #[.int .i64 t230, .int .i64 t231] 62 (0, 0))) ∧ (w'.heap[s_]? = some (.cells #[.bool false, .bool false, .bool false, .int .u64 0, .int .i64 0] 66 (0, 0))) ∧ (w.heap.size ≤ s_) ∧ (w.heap.size ≤ s_) ∧ (gb233 ≠ s_) ∧ (s_ ≠ gb233) ∧ (Below w.heap.size w w')) ?_ ?_
            rotate_left
            ·
             intro hJ7
             refine three_ (i := 2) (j := 6) (k := 7) (Ni := some 20) (Nj := some 9) (Nk := some 10) #[true, true, true, true, true, false, false, false, false, false] #[true, true, false, true, true, false, true, false, false, false] #[true, true, false, true, true, false, false, true, false, false] rfl rfl rfl rfl rfl rfl (three_of HT_.out (by kernel_rfl)) (by decide) (by decide) (by decide) (fun K hK => ?_) (fun K hK => ?_) (fun K hK => ?_)
             ·
              skip
              refine goes_ Try.func52 (by kernel_rfl) rfl #[.agg #[.int .i64 t230, .int .i64 t231], .int .u32 a1] (by rfl) rfl rfl ar ?_
              with_reducible refine (impl_format_open.calls t230 t231 a1 t234 t235 t236 t237 t238 _ A6.out).mono ?_
              rintro e w14 ⟨rfl, hb⟩
              refine ⟨_, rfl, ?_⟩
              have n0_ := Aside0.mk (blk_below (g := gb233) (o := .cells #[.int .i64 t230, .int .i64 t231] 62 (0, 0)) (bk BK233.out) hb)
              have n1_ := Aside0.mk (below_step (bw HB.out) hb)
              clear BK233
              clear HB
              have BK233 := n0_
              have HB := n1_
              clear n0_ n1_
              (try clear hb)
              (try clear hb2)
              (try clear hk)
              (try clear hi)
              refine hK.out _ _ ⟨(blk_cell BK233.out 0).trans rfl, (blk_cell BK233.out 1).trans rfl⟩ (fun hHeld => ?_)
              clear hK K
              refine norm_ (a' := ?_) ?_ ?_
              rotate_left
              ·
               show Act.put _ (some 20) _ = _
               simp only [Act.put, List.setIfInBounds_toArray, List.set_cons_zero, List.set_cons_succ, i64_w, i32_w]
               rfl
              exact norm_ (by first | (simp only [putAll, Act.put, List.setIfInBounds_toArray, List.set_cons_zero, List.set_cons_succ]; done) | (simp only [putAll, Act.put, List.setIfInBounds_toArray, List.set_cons_zero, List.set_cons_succ]; rfl)) (hJ2 () _ ⟨hHeld, (bk BK233.out), (bw HB.out)⟩)
             ·
              skip
              refine box_step ?hg (N := 9) ?hd (cs := #[.bool false, .bool false, .bool false, .int .u64 0, .int .i64 0]) (t := 66) ?hr ?_; (case hd => rfl); (case hg => rfl); (case hr => first | (go_simp; done) | (go_simp; rfl))
              intro gb244 hg w14 hbox hb
              have n0_ := Aside0.mk (blk_below (g := gb233) (o := .cells #[.int .i64 t230, .int .i64 t231] 62 (0, 0)) (bk BK233.out) hb)
              have n1_ := Aside0.mk (below_step (bw HB.out) hb)
              have n2_ := Aside0.mk (hbox)
              have n3_ := Aside0.mk ((by rw [hg]; exact (below_size (bw HB.out)) : w.heap.size ≤ gb244))
              have n4_ := Aside0.mk ((by rw [hg]; exact (below_size (bw HB.out)) : w.heap.size ≤ gb244))
              have n5_ := Aside0.mk ((by rw [hg]; exact Nat.ne_of_lt (blk_lt (g := gb233) (o := .cells #[.int .i64 t230, .int .i64 t231] 62 (0, 0)) (bk BK233.out)) : gb233 ≠ gb244))
              have n6_ := Aside0.mk ((by rw [hg]; exact Nat.ne_of_gt (blk_lt (g := gb233) (o := .cells #[.int .i64 t230, .int .i64 t231] 62 (0, 0)) (bk BK233.out)) : gb244 ≠ gb233))
              clear BK233
              clear HB
              have BK233 := n0_
              have HB := n1_
              have BK244 := n2_
              have GW244 := n3_
              have GE244 := n4_
              have NB233_244 := n5_
              have NB244_233 := n6_
              clear n0_ n1_ n2_ n3_ n4_ n5_ n6_
              clear hb hbox hg
              refine hK.out _ _ ⟨(blk_cell BK233.out 0).trans rfl, (blk_cell BK233.out 1).trans rfl⟩ (fun hHeld => ?_)
              clear hK K
              refine norm_ (a' := ?_) ?_ ?_
              rotate_left
              ·
               show Act.put _ (some 9) _ = _
               simp only [Act.put, List.setIfInBounds_toArray, List.set_cons_zero, List.set_cons_succ, i64_w, i32_w]
               rfl
              exact norm_ (by first | (simp only [putAll, Act.put, List.setIfInBounds_toArray, List.set_cons_zero, List.set_cons_succ]; done) | (simp only [putAll, Act.put, List.setIfInBounds_toArray, List.set_cons_zero, List.set_cons_succ]; rfl)) (hJ6 (gb244) _ ⟨hHeld, (bk BK233.out), (bk BK244.out), GW244.out, GE244.out, NB233_244.out, NB244_233.out, (bw HB.out)⟩)
             ·
              skip
              refine box_step ?hg (N := 10) ?hd (cs := #[.bool false, .bool false, .bool false, .int .u64 0, .int .i64 0]) (t := 66) ?hr ?_; (case hd => rfl); (case hg => rfl); (case hr => first | (go_simp; done) | (go_simp; rfl))
              intro gb245 hg w14 hbox hb
              have n0_ := Aside0.mk (blk_below (g := gb233) (o := .cells #[.int .i64 t230, .int .i64 t231] 62 (0, 0)) (bk BK233.out) hb)
              have n1_ := Aside0.mk (below_step (bw HB.out) hb)
              have n2_ := Aside0.mk (hbox)
              have n3_ := Aside0.mk ((by rw [hg]; exact (below_size (bw HB.out)) : w.heap.size ≤ gb245))
              have n4_ := Aside0.mk ((by rw [hg]; exact (below_size (bw HB.out)) : w.heap.size ≤ gb245))
              have n5_ := Aside0.mk ((by rw [hg]; exact Nat.ne_of_lt (blk_lt (g := gb233) (o := .cells #[.int .i64 t230, .int .i64 t231] 62 (0, 0)) (bk BK233.out)) : gb233 ≠ gb245))
              have n6_ := Aside0.mk ((by rw [hg]; exact Nat.ne_of_gt (blk_lt (g := gb233) (o := .cells #[.int .i64 t230, .int .i64 t231] 62 (0, 0)) (bk BK233.out)) : gb245 ≠ gb233))
              clear BK233
              clear HB
              have BK233 := n0_
              have HB := n1_
              have BK245 := n2_
              have GW245 := n3_
              have GE245 := n4_
              have NB233_245 := n5_
              have NB245_233 := n6_
              clear n0_ n1_ n2_ n3_ n4_ n5_ n6_
              clear hb hbox hg
              refine hK.out _ _ ⟨(blk_cell BK233.out 0).trans rfl, (blk_cell BK233.out 1).trans rfl⟩ (fun hHeld => ?_)
              clear hK K
              refine norm_ (a' := ?_) ?_ ?_
              rotate_left
              ·
               show Act.put _ (some 10) _ = _
               simp only [Act.put, List.setIfInBounds_toArray, List.set_cons_zero, List.set_cons_succ, i64_w, i32_w]
               rfl
              exact norm_ (by first | (simp only [putAll, Act.put, List.setIfInBounds_toArray, List.set_cons_zero, List.set_cons_succ]; done) | (simp only [putAll, Act.put, List.setIfInBounds_toArray, List.set_cons_zero, List.set_cons_succ]; rfl)) (hJ7 (gb245) _ ⟨hHeld, (bk BK233.out), (bk BK245.out), GW245.out, GE245.out, NB233_245.out, NB245_233.out, (bw HB.out)⟩)
            ·
             skip
             rintro gb245 w15 ⟨hS_, h0_, h1_, h2_, h3_, h4_, h5_, h6_⟩
             have n0_ : Aside0 (w15.heap[gb233]? = some (.cells #[.int .i64 t230, .int .i64 t231] 62 (0, 0))) := ⟨h0_⟩
             have n1_ : Aside0 (w15.heap[gb245]? = some (.cells #[.bool false, .bool false, .bool false, .int .u64 0, .int .i64 0] 66 (0, 0))) := ⟨h1_⟩
             have n2_ : Aside0 (w.heap.size ≤ gb245) := ⟨h2_⟩
             have n3_ : Aside0 (w.heap.size ≤ gb245) := ⟨h3_⟩
             have n4_ : Aside0 (gb233 ≠ gb245) := ⟨h4_⟩
             have n5_ : Aside0 (gb245 ≠ gb233) := ⟨h5_⟩
             have n6_ : Aside0 (Below w.heap.size w w15) := ⟨h6_⟩
             clear BK233
             clear HB
             clear h0_ h1_ h2_ h3_ h4_ h5_ h6_
             have BK233 := n0_
             have BK245 := n1_
             have GW245 := n2_
             have GE245 := n3_
             have NB233_245 := n4_
             have NB245_233 := n5_
             have HB := n6_
             clear n0_ n1_ n2_ n3_ n4_ n5_ n6_
             have hHeld : w15.cell? ⟨gb233, 0, none⟩ = some (.int .i64 t230) ∧ w15.cell? ⟨gb233, 1, none⟩ = some (.int .i64 t231) := hS_
             refine norm_ (a' := ?_) ?_ ?_
             rotate_left
             ·
              simp only [putAll, Act.put, List.setIfInBounds_toArray, List.set_cons_zero, List.set_cons_succ]
              rfl
             refine two_ (i := 2) (j := 6) (Ni := some 20) (Nj := some 9) #[true, true, true, true, true, false, false, true, false, false] #[true, true, false, true, true, false, true, true, false, false] rfl rfl rfl rfl (two_of HT_.out (by kernel_rfl)) (by decide) (by decide) (fun K hK => ?_) (fun K hK => ?_)
             ·
              skip
              refine goes_ Try.func52 (by kernel_rfl) rfl #[.agg #[.int .i64 t230, .int .i64 t231], .int .u32 a1] (by rfl) rfl rfl ar ?_
              with_reducible refine (impl_format_open.calls t230 t231 a1 t234 t235 t236 t237 t238 _ A6.out).mono ?_
              rintro e w16 ⟨rfl, hb⟩
              refine ⟨_, rfl, ?_⟩
              have n0_ := Aside0.mk (blk_below (g := gb233) (o := .cells #[.int .i64 t230, .int .i64 t231] 62 (0, 0)) (bk BK233.out) hb)
              have n1_ := Aside0.mk (blk_below (g := gb245) (o := .cells #[.bool false, .bool false, .bool false, .int .u64 0, .int .i64 0] 66 (0, 0)) (bk BK245.out) hb)
              have n2_ := Aside0.mk (below_step (bw HB.out) hb)
              clear BK233
              clear BK245
              clear HB
              have BK233 := n0_
              have BK245 := n1_
              have HB := n2_
              clear n0_ n1_ n2_
              (try clear hb)
              (try clear hb2)
              (try clear hk)
              (try clear hi)
              refine hK.out _ _ ⟨(blk_cell BK233.out 0).trans rfl, (blk_cell BK233.out 1).trans rfl⟩ (fun hHeld => ?_)
              clear hK K
              refine norm_ (a' := ?_) ?_ ?_
              rotate_left
              ·
               show Act.put _ (some 20) _ = _
               simp only [Act.put, List.setIfInBounds_toArray, List.set_cons_zero, List.set_cons_succ, i64_w, i32_w]
               rfl
              exact norm_ (by first | (simp only [putAll, Act.put, List.setIfInBounds_toArray, List.set_cons_zero, List.set_cons_succ]; done) | (simp only [putAll, Act.put, List.setIfInBounds_toArray, List.set_cons_zero, List.set_cons_succ]; rfl)) (hJ2_7 (gb245) _ ⟨hHeld, (bk BK233.out), (bk BK245.out), GW245.out, GE245.out, NB233_245.out, NB245_233.out, (bw HB.out)⟩)
             ·
              skip
              refine box_step ?hg (N := 9) ?hd (cs := #[.bool false, .bool false, .bool false, .int .u64 0, .int .i64 0]) (t := 66) ?hr ?_; (case hd => rfl); (case hg => rfl); (case hr => first | (go_simp; done) | (go_simp; rfl))
              intro gb244 hg w16 hbox hb
              have n0_ := Aside0.mk (blk_below (g := gb233) (o := .cells #[.int .i64 t230, .int .i64 t231] 62 (0, 0)) (bk BK233.out) hb)
              have n1_ := Aside0.mk (blk_below (g := gb245) (o := .cells #[.bool false, .bool false, .bool false, .int .u64 0, .int .i64 0] 66 (0, 0)) (bk BK245.out) hb)
              have n2_ := Aside0.mk (below_step (bw HB.out) hb)
              have n3_ := Aside0.mk (hbox)
              have n4_ := Aside0.mk ((by rw [hg]; exact (below_size (bw HB.out)) : w.heap.size ≤ gb244))
              have n5_ := Aside0.mk ((by rw [hg]; exact (below_size (bw HB.out)) : w.heap.size ≤ gb244))
              have n6_ := Aside0.mk ((by rw [hg]; exact Nat.ne_of_lt (blk_lt (g := gb233) (o := .cells #[.int .i64 t230, .int .i64 t231] 62 (0, 0)) (bk BK233.out)) : gb233 ≠ gb244))
              have n7_ := Aside0.mk ((by rw [hg]; exact Nat.ne_of_gt (blk_lt (g := gb233) (o := .cells #[.int .i64 t230, .int .i64 t231] 62 (0, 0)) (bk BK233.out)) : gb244 ≠ gb233))
              have n8_ := Aside0.mk ((by rw [hg]; exact Nat.ne_of_lt (blk_lt (g := gb245) (o := .cells #[.bool false, .bool false, .bool false, .int .u64 0, .int .i64 0] 66 (0, 0)) (bk BK245.out)) : gb245 ≠ gb244))
              have n9_ := Aside0.mk ((by rw [hg]; exact Nat.ne_of_gt (blk_lt (g := gb245) (o := .cells #[.bool false, .bool false, .bool false, .int .u64 0, .int .i64 0] 66 (0, 0)) (bk BK245.out)) : gb244 ≠ gb245))
              clear BK233
              clear BK245
              clear HB
              have BK233 := n0_
              have BK245 := n1_
              have HB := n2_
              have BK244 := n3_
              have GW244 := n4_
              have GE244 := n5_
              have NB233_244 := n6_
              have NB244_233 := n7_
              have NB245_244 := n8_
              have NB244_245 := n9_
              clear n0_ n1_ n2_ n3_ n4_ n5_ n6_ n7_ n8_ n9_
              clear hb hbox hg
              refine hK.out _ _ ⟨(blk_cell BK233.out 0).trans rfl, (blk_cell BK233.out 1).trans rfl⟩ (fun hHeld => ?_)
              clear hK K
              refine norm_ (a' := ?_) ?_ ?_
              rotate_left
              ·
               show Act.put _ (some 9) _ = _
               simp only [Act.put, List.setIfInBounds_toArray, List.set_cons_zero, List.set_cons_succ, i64_w, i32_w]
               rfl
              exact norm_ (by first | (simp only [putAll, Act.put, List.setIfInBounds_toArray, List.set_cons_zero, List.set_cons_succ]; done) | (simp only [putAll, Act.put, List.setIfInBounds_toArray, List.set_cons_zero, List.set_cons_succ]; rfl)) (hJ6_7 (gb244, gb245) _ ⟨hHeld, (bk BK233.out), (bk BK244.out), (bk BK245.out), GW244.out, GE244.out, NB233_244.out, NB244_233.out, NB245_244.out, NB244_245.out, GW245.out, GE245.out, NB233_245.out, NB245_233.out, (bw HB.out)⟩)
           ·
            skip
            rintro gb244 w15 ⟨hS_, h0_, h1_, h2_, h3_, h4_, h5_, h6_⟩
            have n0_ : Aside0 (w15.heap[gb233]? = some (.cells #[.int .i64 t230, .int .i64 t231] 62 (0, 0))) := ⟨h0_⟩
            have n1_ : Aside0 (w15.heap[gb244]? = some (.cells #[.bool false, .bool false, .bool false, .int .u64 0, .int .i64 0] 66 (0, 0))) := ⟨h1_⟩
            have n2_ : Aside0 (w.heap.size ≤ gb244) := ⟨h2_⟩
            have n3_ : Aside0 (w.heap.size ≤ gb244) := ⟨h3_⟩
            have n4_ : Aside0 (gb233 ≠ gb244) := ⟨h4_⟩
            have n5_ : Aside0 (gb244 ≠ gb233) := ⟨h5_⟩
            have n6_ : Aside0 (Below w.heap.size w w15) := ⟨h6_⟩
            clear BK233
            clear HB
            clear h0_ h1_ h2_ h3_ h4_ h5_ h6_
            have BK233 := n0_
            have BK244 := n1_
            have GW244 := n2_
            have GE244 := n3_
            have NB233_244 := n4_
            have NB244_233 := n5_
            have HB := n6_
            clear n0_ n1_ n2_ n3_ n4_ n5_ n6_
            have hHeld : w15.cell? ⟨gb233, 0, none⟩ = some (.int .i64 t230) ∧ w15.cell? ⟨gb233, 1, none⟩ = some (.int .i64 t231) := hS_
            refine norm_ (a' := ?_) ?_ ?_
            rotate_left
            ·
             simp only [putAll, Act.put, List.setIfInBounds_toArray, List.set_cons_zero, List.set_cons_succ]
             rfl
            refine two_ (i := 2) (j := 7) (Ni := some 20) (Nj := some 10) #[true, true, true, true, true, false, true, false, false, false] #[true, true, false, true, true, false, true, true, false, false] rfl rfl rfl rfl (two_of HT_.out (by kernel_rfl)) (by decide) (by decide) (fun K hK => ?_) (fun K hK => ?_)
            ·
             skip
             refine goes_ Try.func52 (by kernel_rfl) rfl #[.agg #[.int .i64 t230, .int .i64 t231], .int .u32 a1] (by rfl) rfl rfl ar ?_
             with_reducible refine (impl_format_open.calls t230 t231 a1 t234 t235 t236 t237 t238 _ A6.out).mono ?_
             rintro e w16 ⟨rfl, hb⟩
             refine ⟨_, rfl, ?_⟩
             have n0_ := Aside0.mk (blk_below (g := gb233) (o := .cells #[.int .i64 t230, .int .i64 t231] 62 (0, 0)) (bk BK233.out) hb)
             have n1_ := Aside0.mk (blk_below (g := gb244) (o := .cells #[.bool false, .bool false, .bool false, .int .u64 0, .int .i64 0] 66 (0, 0)) (bk BK244.out) hb)
             have n2_ := Aside0.mk (below_step (bw HB.out) hb)
             clear BK233
             clear BK244
             clear HB
             have BK233 := n0_
             have BK244 := n1_
             have HB := n2_
             clear n0_ n1_ n2_
             (try clear hb)
             (try clear hb2)
             (try clear hk)
             (try clear hi)
             refine hK.out _ _ ⟨(blk_cell BK233.out 0).trans rfl, (blk_cell BK233.out 1).trans rfl⟩ (fun hHeld => ?_)
             clear hK K
             refine norm_ (a' := ?_) ?_ ?_
             rotate_left
             ·
              show Act.put _ (some 20) _ = _
              simp only [Act.put, List.setIfInBounds_toArray, List.set_cons_zero, List.set_cons_succ, i64_w, i32_w]
              rfl
             exact norm_ (by first | (simp only [putAll, Act.put, List.setIfInBounds_toArray, List.set_cons_zero, List.set_cons_succ]; done) | (simp only [putAll, Act.put, List.setIfInBounds_toArray, List.set_cons_zero, List.set_cons_succ]; rfl)) (hJ2_6 (gb244) _ ⟨hHeld, (bk BK233.out), (bk BK244.out), GW244.out, GE244.out, NB233_244.out, NB244_233.out, (bw HB.out)⟩)
            ·
             skip
             refine box_step ?hg (N := 10) ?hd (cs := #[.bool false, .bool false, .bool false, .int .u64 0, .int .i64 0]) (t := 66) ?hr ?_; (case hd => rfl); (case hg => rfl); (case hr => first | (go_simp; done) | (go_simp; rfl))
             intro gb245 hg w16 hbox hb
             have n0_ := Aside0.mk (blk_below (g := gb233) (o := .cells #[.int .i64 t230, .int .i64 t231] 62 (0, 0)) (bk BK233.out) hb)
             have n1_ := Aside0.mk (blk_below (g := gb244) (o := .cells #[.bool false, .bool false, .bool false, .int .u64 0, .int .i64 0] 66 (0, 0)) (bk BK244.out) hb)
             have n2_ := Aside0.mk (below_step (bw HB.out) hb)
             have n3_ := Aside0.mk (hbox)
             have n4_ := Aside0.mk ((by rw [hg]; exact (below_size (bw HB.out)) : w.heap.size ≤ gb245))
             have n5_ := Aside0.mk ((by rw [hg]; exact (below_size (bw HB.out)) : w.heap.size ≤ gb245))
             have n6_ := Aside0.mk ((by rw [hg]; exact Nat.ne_of_lt (blk_lt (g := gb233) (o := .cells #[.int .i64 t230, .int .i64 t231] 62 (0, 0)) (bk BK233.out)) : gb233 ≠ gb245))
             have n7_ := Aside0.mk ((by rw [hg]; exact Nat.ne_of_gt (blk_lt (g := gb233) (o := .cells #[.int .i64 t230, .int .i64 t231] 62 (0, 0)) (bk BK233.out)) : gb245 ≠ gb233))
             have n8_ := Aside0.mk ((by rw [hg]; exact Nat.ne_of_lt (blk_lt (g := gb244) (o := .cells #[.bool false, .bool false, .bool false, .int .u64 0, .int .i64 0] 66 (0, 0)) (bk BK244.out)) : gb244 ≠ gb245))
             have n9_ := Aside0.mk ((by rw [hg]; exact Nat.ne_of_gt (blk_lt (g := gb244) (o := .cells #[.bool false, .bool false, .bool false, .int .u64 0, .int .i64 0] 66 (0, 0)) (bk BK244.out)) : gb245 ≠ gb244))
             clear BK233
             clear BK244
             clear HB
             have BK233 := n0_
             have BK244 := n1_
             have HB := n2_
             have BK245 := n3_
             have GW245 := n4_
             have GE245 := n5_
             have NB233_245 := n6_
             have NB245_233 := n7_
             have NB244_245 := n8_
             have NB245_244 := n9_
             clear n0_ n1_ n2_ n3_ n4_ n5_ n6_ n7_ n8_ n9_
             clear hb hbox hg
             refine hK.out _ _ ⟨(blk_cell BK233.out 0).trans rfl, (blk_cell BK233.out 1).trans rfl⟩ (fun hHeld => ?_)
             clear hK K
             refine norm_ (a' := ?_) ?_ ?_
             rotate_left
             ·
              show Act.put _ (some 10) _ = _
              simp only [Act.put, List.setIfInBounds_toArray, List.set_cons_zero, List.set_cons_succ, i64_w, i32_w]
              rfl
             exact norm_ (by first | (simp only [putAll, Act.put, List.setIfInBounds_toArray, List.set_cons_zero, List.set_cons_succ]; done) | (simp only [putAll, Act.put, List.setIfInBounds_toArray, List.set_cons_zero, List.set_cons_succ]; rfl)) (hJ6_7 (gb244, gb245) _ ⟨hHeld, (bk BK233.out), (bk BK244.out), (bk BK245.out), GW244.out, GE244.out, NB233_244.out, NB244_233.out, NB245_244.out, NB244_245.out, GW245.out, GE245.out, NB233_245.out, NB245_233.out, (bw HB.out)⟩)
          ·
           skip
           rintro _ w15 ⟨hS_, h0_, h1_⟩
           have n0_ : Aside0 (w15.heap[gb233]? = some (.cells #[.int .i64 t230, .int .i64 t231] 62 (0, 0))) := ⟨h0_⟩
           have n1_ : Aside0 (Below w.heap.size w w15) := ⟨h1_⟩
           clear BK233
           clear HB
           clear h0_ h1_
           have BK233 := n0_
           have HB := n1_
           clear n0_ n1_
           have hHeld : w15.cell? ⟨gb233, 0, none⟩ = some (.int .i64 t230) ∧ w15.cell? ⟨gb233, 1, none⟩ = some (.int .i64 t231) := hS_
           refine norm_ (a' := ?_) ?_ ?_
           rotate_left
           ·
            simp only [putAll, Act.put, List.setIfInBounds_toArray, List.set_cons_zero, List.set_cons_succ]
            rfl
           refine three_ (i := 5) (j := 6) (k := 7) (Ni := some 23) (Nj := some 9) (Nk := some 10) #[true, true, true, true, true, true, false, false, false, false] #[true, true, true, true, true, false, true, false, false, false] #[true, true, true, true, true, false, false, true, false, false] rfl rfl rfl rfl rfl rfl (three_of HT_.out (by kernel_rfl)) (by decide) (by decide) (by decide) (fun K hK => ?_) (fun K hK => ?_) (fun K hK => ?_)
           ·
            skip
            refine goes_ Try.func52 (by kernel_rfl) rfl #[.agg #[.int .i64 t230, .int .i64 t231], .int .u32 a2] (by rfl) rfl rfl ar ?_
            with_reducible refine (impl_format_open.calls t230 t231 a2 t239 t240 t241 t242 t243 _ A7.out).mono ?_
            rintro e w16 ⟨rfl, hb⟩
            refine ⟨_, rfl, ?_⟩
            have n0_ := Aside0.mk (blk_below (g := gb233) (o := .cells #[.int .i64 t230, .int .i64 t231] 62 (0, 0)) (bk BK233.out) hb)
            have n1_ := Aside0.mk (below_step (bw HB.out) hb)
            clear BK233
            clear HB
            have BK233 := n0_
            have HB := n1_
            clear n0_ n1_
            (try clear hb)
            (try clear hb2)
            (try clear hk)
            (try clear hi)
            refine hK.out _ _ ⟨(blk_cell BK233.out 0).trans rfl, (blk_cell BK233.out 1).trans rfl⟩ (fun hHeld => ?_)
            clear hK K
            refine norm_ (a' := ?_) ?_ ?_
            rotate_left
            ·
             show Act.put _ (some 23) _ = _
             simp only [Act.put, List.setIfInBounds_toArray, List.set_cons_zero, List.set_cons_succ, i64_w, i32_w]
             rfl
            exact norm_ (by first | (simp only [putAll, Act.put, List.setIfInBounds_toArray, List.set_cons_zero, List.set_cons_succ]; done) | (simp only [putAll, Act.put, List.setIfInBounds_toArray, List.set_cons_zero, List.set_cons_succ]; rfl)) (hJ2_5 () _ ⟨hHeld, (bk BK233.out), (bw HB.out)⟩)
           ·
            skip
            refine box_step ?hg (N := 9) ?hd (cs := #[.bool false, .bool false, .bool false, .int .u64 0, .int .i64 0]) (t := 66) ?hr ?_; (case hd => rfl); (case hg => rfl); (case hr => first | (go_simp; done) | (go_simp; rfl))
            intro gb244 hg w16 hbox hb
            have n0_ := Aside0.mk (blk_below (g := gb233) (o := .cells #[.int .i64 t230, .int .i64 t231] 62 (0, 0)) (bk BK233.out) hb)
            have n1_ := Aside0.mk (below_step (bw HB.out) hb)
            have n2_ := Aside0.mk (hbox)
            have n3_ := Aside0.mk ((by rw [hg]; exact (below_size (bw HB.out)) : w.heap.size ≤ gb244))
            have n4_ := Aside0.mk ((by rw [hg]; exact (below_size (bw HB.out)) : w.heap.size ≤ gb244))
            have n5_ := Aside0.mk ((by rw [hg]; exact Nat.ne_of_lt (blk_lt (g := gb233) (o := .cells #[.int .i64 t230, .int .i64 t231] 62 (0, 0)) (bk BK233.out)) : gb233 ≠ gb244))
            have n6_ := Aside0.mk ((by rw [hg]; exact Nat.ne_of_gt (blk_lt (g := gb233) (o := .cells #[.int .i64 t230, .int .i64 t231] 62 (0, 0)) (bk BK233.out)) : gb244 ≠ gb233))
            clear BK233
            clear HB
            have BK233 := n0_
            have HB := n1_
            have BK244 := n2_
            have GW244 := n3_
            have GE244 := n4_
            have NB233_244 := n5_
            have NB244_233 := n6_
            clear n0_ n1_ n2_ n3_ n4_ n5_ n6_
            clear hb hbox hg
            refine hK.out _ _ ⟨(blk_cell BK233.out 0).trans rfl, (blk_cell BK233.out 1).trans rfl⟩ (fun hHeld => ?_)
            clear hK K
            refine norm_ (a' := ?_) ?_ ?_
            rotate_left
            ·
             show Act.put _ (some 9) _ = _
             simp only [Act.put, List.setIfInBounds_toArray, List.set_cons_zero, List.set_cons_succ, i64_w, i32_w]
             rfl
            exact norm_ (by first | (simp only [putAll, Act.put, List.setIfInBounds_toArray, List.set_cons_zero, List.set_cons_succ]; done) | (simp only [putAll, Act.put, List.setIfInBounds_toArray, List.set_cons_zero, List.set_cons_succ]; rfl)) (hJ2_6 (gb244) _ ⟨hHeld, (bk BK233.out), (bk BK244.out), GW244.out, GE244.out, NB233_244.out, NB244_233.out, (bw HB.out)⟩)
           ·
            skip
            refine box_step ?hg (N := 10) ?hd (cs := #[.bool false, .bool false, .bool false, .int .u64 0, .int .i64 0]) (t := 66) ?hr ?_; (case hd => rfl); (case hg => rfl); (case hr => first | (go_simp; done) | (go_simp; rfl))
            intro gb245 hg w16 hbox hb
            have n0_ := Aside0.mk (blk_below (g := gb233) (o := .cells #[.int .i64 t230, .int .i64 t231] 62 (0, 0)) (bk BK233.out) hb)
            have n1_ := Aside0.mk (below_step (bw HB.out) hb)
            have n2_ := Aside0.mk (hbox)
            have n3_ := Aside0.mk ((by rw [hg]; exact (below_size (bw HB.out)) : w.heap.size ≤ gb245))
            have n4_ := Aside0.mk ((by rw [hg]; exact (below_size (bw HB.out)) : w.heap.size ≤ gb245))
            have n5_ := Aside0.mk ((by rw [hg]; exact Nat.ne_of_lt (blk_lt (g := gb233) (o := .cells #[.int .i64 t230, .int .i64 t231] 62 (0, 0)) (bk BK233.out)) : gb233 ≠ gb245))
            have n6_ := Aside0.mk ((by rw [hg]; exact Nat.ne_of_gt (blk_lt (g := gb233) (o := .cells #[.int .i64 t230, .int .i64 t231] 62 (0, 0)) (bk BK233.out)) : gb245 ≠ gb233))
            clear BK233
            clear HB
            have BK233 := n0_
            have HB := n1_
            have BK245 := n2_
            have GW245 := n3_
            have GE245 := n4_
            have NB233_245 := n5_
            have NB245_233 := n6_
            clear n0_ n1_ n2_ n3_ n4_ n5_ n6_
            clear hb hbox hg
            refine hK.out _ _ ⟨(blk_cell BK233.out 0).trans rfl, (blk_cell BK233.out 1).trans rfl⟩ (fun hHeld => ?_)
            clear hK K
            refine norm_ (a' := ?_) ?_ ?_
            rotate_left
            ·
             show Act.put _ (some 10) _ = _
             simp only [Act.put, List.setIfInBounds_toArray, List.set_cons_zero, List.set_cons_succ, i64_w, i32_w]
             rfl
            exact norm_ (by first | (simp only [putAll, Act.put, List.setIfInBounds_toArray, List.set_cons_zero, List.set_cons_succ]; done) | (simp only [putAll, Act.put, List.setIfInBounds_toArray, List.set_cons_zero, List.set_cons_succ]; rfl)) (hJ2_7 (gb245) _ ⟨hHeld, (bk BK233.out), (bk BK245.out), GW245.out, GE245.out, NB233_245.out, NB245_233.out, (bw HB.out)⟩)
         ·
          skip
          rintro ⟨gb244, gb245⟩ w16 ⟨hS_, h0_, h1_, h2_, h3_, h4_, h5_, h6_, h7_, h8_, h9_, h10_, h11_, h12_, h13_⟩
          have n0_ : Aside0 (w16.heap[gb233]? = some (.cells #[.int .i64 t230, .int .i64 t231] 62 (0, 0))) := ⟨h0_⟩
          have n1_ : Aside0 (w16.heap[gb244]? = some (.cells #[.bool false, .bool false, .bool false, .int .u64 0, .int .i64 0] 66 (0, 0))) := ⟨h1_⟩
          have n2_ : Aside0 (w16.heap[gb245]? = some (.cells #[.bool false, .bool false, .bool false, .int .u64 0, .int .i64 0] 66 (0, 0))) := ⟨h2_⟩
          have n3_ : Aside0 (w.heap.size ≤ gb244) := ⟨h3_⟩
          have n4_ : Aside0 (w.heap.size ≤ gb244) := ⟨h4_⟩
          have n5_ : Aside0 (gb233 ≠ gb244) := ⟨h5_⟩
          have n6_ : Aside0 (gb244 ≠ gb233) := ⟨h6_⟩
          have n7_ : Aside0 (gb245 ≠ gb244) := ⟨h7_⟩
          have n8_ : Aside0 (gb244 ≠ gb245) := ⟨h8_⟩
          have n9_ : Aside0 (w.heap.size ≤ gb245) := ⟨h9_⟩
          have n10_ : Aside0 (w.heap.size ≤ gb245) := ⟨h10_⟩
          have n11_ : Aside0 (gb233 ≠ gb245) := ⟨h11_⟩
          have n12_ : Aside0 (gb245 ≠ gb233) := ⟨h12_⟩
          have n13_ : Aside0 (Below w.heap.size w w16) := ⟨h13_⟩
          clear BK233
          clear HB
          clear h0_ h1_ h2_ h3_ h4_ h5_ h6_ h7_ h8_ h9_ h10_ h11_ h12_ h13_
          have BK233 := n0_
          have BK244 := n1_
          have BK245 := n2_
          have GW244 := n3_
          have GE244 := n4_
          have NB233_244 := n5_
          have NB244_233 := n6_
          have NB245_244 := n7_
          have NB244_245 := n8_
          have GW245 := n9_
          have GE245 := n10_
          have NB233_245 := n11_
          have NB245_233 := n12_
          have HB := n13_
          clear n0_ n1_ n2_ n3_ n4_ n5_ n6_ n7_ n8_ n9_ n10_ n11_ n12_ n13_
          have hHeld : w16.cell? ⟨gb233, 0, none⟩ = some (.int .i64 t230) ∧ w16.cell? ⟨gb233, 1, none⟩ = some (.int .i64 t231) := hS_
          refine norm_ (a' := ?_) ?_ ?_
          rotate_left
          ·
           simp only [putAll, Act.put, List.setIfInBounds_toArray, List.set_cons_zero, List.set_cons_succ]
           rfl
          refine one_ (i := 2) (N := some 20) #[true, true, true, true, true, false, true, true, false, false] rfl rfl (one_of HT_.out (by kernel_rfl)) (by decide) (fun K hK => ?_)
          refine goes_ Try.func52 (by kernel_rfl) rfl #[.agg #[.int .i64 t230, .int .i64 t231], .int .u32 a1] (by rfl) rfl rfl ar ?_
          with_reducible refine (impl_format_open.calls t230 t231 a1 t234 t235 t236 t237 t238 _ A6.out).mono ?_
          rintro e w17 ⟨rfl, hb⟩
          refine ⟨_, rfl, ?_⟩
          have n0_ := Aside0.mk (blk_below (g := gb233) (o := .cells #[.int .i64 t230, .int .i64 t231] 62 (0, 0)) (bk BK233.out) hb)
          have n1_ := Aside0.mk (blk_below (g := gb244) (o := .cells #[.bool false, .bool false, .bool false, .int .u64 0, .int .i64 0] 66 (0, 0)) (bk BK244.out) hb)
          have n2_ := Aside0.mk (blk_below (g := gb245) (o := .cells #[.bool false, .bool false, .bool false, .int .u64 0, .int .i64 0] 66 (0, 0)) (bk BK245.out) hb)
          have n3_ := Aside0.mk (below_step (bw HB.out) hb)
          clear BK233
          clear BK244
          clear BK245
          clear HB
          have BK233 := n0_
          have BK244 := n1_
          have BK245 := n2_
          have HB := n3_
          clear n0_ n1_ n2_ n3_
          (try clear hb)
          (try clear hb2)
          (try clear hk)
          (try clear hi)
          refine hK.out _ _ ⟨(blk_cell BK233.out 0).trans rfl, (blk_cell BK233.out 1).trans rfl⟩ (fun hHeld => ?_)
          clear hK K
          refine norm_ (a' := ?_) ?_ ?_
          rotate_left
          ·
           show Act.put _ (some 20) _ = _
           simp only [Act.put, List.setIfInBounds_toArray, List.set_cons_zero, List.set_cons_succ, i64_w, i32_w]
           rfl
          exact norm_ (by first | (simp only [putAll, Act.put, List.setIfInBounds_toArray, List.set_cons_zero, List.set_cons_succ]; done) | (simp only [putAll, Act.put, List.setIfInBounds_toArray, List.set_cons_zero, List.set_cons_succ]; rfl)) (hJ2_6_7 (gb244, gb245) _ ⟨hHeld, (bk BK233.out), (bk BK244.out), (bk BK245.out), GW244.out, GE244.out, NB233_244.out, NB244_233.out, NB245_244.out, NB244_245.out, GW245.out, GE245.out, NB233_245.out, NB245_233.out, (bw HB.out)⟩)
        ·
         skip
         rintro gb245 w16 ⟨hS_, h0_, h1_, h2_, h3_, h4_, h5_, h6_⟩
         have n0_ : Aside0 (w16.heap[gb233]? = some (.cells #[.int .i64 t230, .int .i64 t231] 62 (0, 0))) := ⟨h0_⟩
         have n1_ : Aside0 (w16.heap[gb245]? = some (.cells #[.bool false, .bool false, .bool false, .int .u64 0, .int .i64 0] 66 (0, 0))) := ⟨h1_⟩
         have n2_ : Aside0 (w.heap.size ≤ gb245) := ⟨h2_⟩
         have n3_ : Aside0 (w.heap.size ≤ gb245) := ⟨h3_⟩
         have n4_ : Aside0 (gb233 ≠ gb245) := ⟨h4_⟩
         have n5_ : Aside0 (gb245 ≠ gb233) := ⟨h5_⟩
         have n6_ : Aside0 (Below w.heap.size w w16) := ⟨h6_⟩
         clear BK233
         clear HB
         clear h0_ h1_ h2_ h3_ h4_ h5_ h6_
         have BK233 := n0_
         have BK245 := n1_
         have GW245 := n2_
         have GE245 := n3_
         have NB233_245 := n4_
         have NB245_233 := n5_
         have HB := n6_
         clear n0_ n1_ n2_ n3_ n4_ n5_ n6_
         have hHeld : w16.cell? ⟨gb233, 0, none⟩ = some (.int .i64 t230) ∧ w16.cell? ⟨gb233, 1, none⟩ = some (.int .i64 t231) := hS_
         refine norm_ (a' := ?_) ?_ ?_
         rotate_left
         ·
          simp only [putAll, Act.put, List.setIfInBounds_toArray, List.set_cons_zero, List.set_cons_succ]
          rfl
         refine two_ (i := 5) (j := 6) (Ni := some 23) (Nj := some 9) #[true, true, true, true, true, true, false, true, false, false] #[true, true, true, true, true, false, true, true, false, false] rfl rfl rfl rfl (two_of HT_.out (by kernel_rfl)) (by decide) (by decide) (fun K hK => ?_) (fun K hK => ?_)
         ·
          skip
          refine goes_ Try.func52 (by kernel_rfl) rfl #[.agg #[.int .i64 t230, .int .i64 t231], .int .u32 a2] (by rfl) rfl rfl ar ?_
          with_reducible refine (impl_format_open.calls t230 t231 a2 t239 t240 t241 t242 t243 _ A7.out).mono ?_
          rintro e w17 ⟨rfl, hb⟩
          refine ⟨_, rfl, ?_⟩
          have n0_ := Aside0.mk (blk_below (g := gb233) (o := .cells #[.int .i64 t230, .int .i64 t231] 62 (0, 0)) (bk BK233.out) hb)
          have n1_ := Aside0.mk (blk_below (g := gb245) (o := .cells #[.bool false, .bool false, .bool false, .int .u64 0, .int .i64 0] 66 (0, 0)) (bk BK245.out) hb)
          have n2_ := Aside0.mk (below_step (bw HB.out) hb)
          clear BK233
          clear BK245
          clear HB
          have BK233 := n0_
          have BK245 := n1_
          have HB := n2_
          clear n0_ n1_ n2_
          (try clear hb)
          (try clear hb2)
          (try clear hk)
          (try clear hi)
          refine hK.out _ _ ⟨(blk_cell BK233.out 0).trans rfl, (blk_cell BK233.out 1).trans rfl⟩ (fun hHeld => ?_)
          clear hK K
          refine norm_ (a' := ?_) ?_ ?_
          rotate_left
          ·
           show Act.put _ (some 23) _ = _
           simp only [Act.put, List.setIfInBounds_toArray, List.set_cons_zero, List.set_cons_succ, i64_w, i32_w]
           rfl
          exact norm_ (by first | (simp only [putAll, Act.put, List.setIfInBounds_toArray, List.set_cons_zero, List.set_cons_succ]; done) | (simp only [putAll, Act.put, List.setIfInBounds_toArray, List.set_cons_zero, List.set_cons_succ]; rfl)) (hJ2_5_7 (gb245) _ ⟨hHeld, (bk BK233.out), (bk BK245.out), GW245.out, GE245.out, NB233_245.out, NB245_233.out, (bw HB.out)⟩)
         ·
          skip
          refine box_step ?hg (N := 9) ?hd (cs := #[.bool false, .bool false, .bool false, .int .u64 0, .int .i64 0]) (t := 66) ?hr ?_; (case hd => rfl); (case hg => rfl); (case hr => first | (go_simp; done) | (go_simp; rfl))
          intro gb244 hg w17 hbox hb
          have n0_ := Aside0.mk (blk_below (g := gb233) (o := .cells #[.int .i64 t230, .int .i64 t231] 62 (0, 0)) (bk BK233.out) hb)
          have n1_ := Aside0.mk (blk_below (g := gb245) (o := .cells #[.bool false, .bool false, .bool false, .int .u64 0, .int .i64 0] 66 (0, 0)) (bk BK245.out) hb)
          have n2_ := Aside0.mk (below_step (bw HB.out) hb)
          have n3_ := Aside0.mk (hbox)
          have n4_ := Aside0.mk ((by rw [hg]; exact (below_size (bw HB.out)) : w.heap.size ≤ gb244))
          have n5_ := Aside0.mk ((by rw [hg]; exact (below_size (bw HB.out)) : w.heap.size ≤ gb244))
          have n6_ := Aside0.mk ((by rw [hg]; exact Nat.ne_of_lt (blk_lt (g := gb233) (o := .cells #[.int .i64 t230, .int .i64 t231] 62 (0, 0)) (bk BK233.out)) : gb233 ≠ gb244))
          have n7_ := Aside0.mk ((by rw [hg]; exact Nat.ne_of_gt (blk_lt (g := gb233) (o := .cells #[.int .i64 t230, .int .i64 t231] 62 (0, 0)) (bk BK233.out)) : gb244 ≠ gb233))
          have n8_ := Aside0.mk ((by rw [hg]; exact Nat.ne_of_lt (blk_lt (g := gb245) (o := .cells #[.bool false, .bool false, .bool false, .int .u64 0, .int .i64 0] 66 (0, 0)) (bk BK245.out)) : gb245 ≠ gb244))
          have n9_ := Aside0.mk ((by rw [hg]; exact Nat.ne_of_gt (blk_lt (g := gb245) (o := .cells #[.bool false, .bool false, .bool false, .int .u64 0, .int .i64 0] 66 (0, 0)) (bk BK245.out)) : gb244 ≠ gb245))
          clear BK233
          clear BK245
          clear HB
          have BK233 := n0_
          have BK245 := n1_
          have HB := n2_
          have BK244 := n3_
          have GW244 := n4_
          have GE244 := n5_
          have NB233_244 := n6_
          have NB244_233 := n7_
          have NB245_244 := n8_
          have NB244_245 := n9_
          clear n0_ n1_ n2_ n3_ n4_ n5_ n6_ n7_ n8_ n9_
          clear hb hbox hg
          refine hK.out _ _ ⟨(blk_cell BK233.out 0).trans rfl, (blk_cell BK233.out 1).trans rfl⟩ (fun hHeld => ?_)
          clear hK K
          refine norm_ (a' := ?_) ?_ ?_
          rotate_left
          ·
           show Act.put _ (some 9) _ = _
           simp only [Act.put, List.setIfInBounds_toArray, List.set_cons_zero, List.set_cons_succ, i64_w, i32_w]
           rfl
          exact norm_ (by first | (simp only [putAll, Act.put, List.setIfInBounds_toArray, List.set_cons_zero, List.set_cons_succ]; done) | (simp only [putAll, Act.put, List.setIfInBounds_toArray, List.set_cons_zero, List.set_cons_succ]; rfl)) (hJ2_6_7 (gb244, gb245) _ ⟨hHeld, (bk BK233.out), (bk BK244.out), (bk BK245.out), GW244.out, GE244.out, NB233_244.out, NB244_233.out, NB245_244.out, NB244_245.out, GW245.out, GE245.out, NB233_245.out, NB245_233.out, (bw HB.out)⟩)
       ·
        skip
        rintro gb244 w16 ⟨hS_, h0_, h1_, h2_, h3_, h4_, h5_, h6_⟩
        have n0_ : Aside0 (w16.heap[gb233]? = some (.cells #[.int .i64 t230, .int .i64 t231] 62 (0, 0))) := ⟨h0_⟩
        have n1_ : Aside0 (w16.heap[gb244]? = some (.cells #[.bool false, .bool false, .bool false, .int .u64 0, .int .i64 0] 66 (0, 0))) := ⟨h1_⟩
        have n2_ : Aside0 (w.heap.size ≤ gb244) := ⟨h2_⟩
        have n3_ : Aside0 (w.heap.size ≤ gb244) := ⟨h3_⟩
        have n4_ : Aside0 (gb233 ≠ gb244) := ⟨h4_⟩
        have n5_ : Aside0 (gb244 ≠ gb233) := ⟨h5_⟩
        have n6_ : Aside0 (Below w.heap.size w w16) := ⟨h6_⟩
        clear BK233
        clear HB
        clear h0_ h1_ h2_ h3_ h4_ h5_ h6_
        have BK233 := n0_
        have BK244 := n1_
        have GW244 := n2_
        have GE244 := n3_
        have NB233_244 := n4_
        have NB244_233 := n5_
        have HB := n6_
        clear n0_ n1_ n2_ n3_ n4_ n5_ n6_
        have hHeld : w16.cell? ⟨gb233, 0, none⟩ = some (.int .i64 t230) ∧ w16.cell? ⟨gb233, 1, none⟩ = some (.int .i64 t231) := hS_
        refine norm_ (a' := ?_) ?_ ?_
        rotate_left
        ·
         simp only [putAll, Act.put, List.setIfInBounds_toArray, List.set_cons_zero, List.set_cons_succ]
         rfl
        refine two_ (i := 5) (j := 7) (Ni := some 23) (Nj := some 10) #[true, true, true, true, true, true, true, false, false, false] #[true, true, true, true, true, false, true, true, false, false] rfl rfl rfl rfl (two_of HT_.out (by kernel_rfl)) (by decide) (by decide) (fun K hK => ?_) (fun K hK => ?_)
        ·
         skip
         refine goes_ Try.func52 (by kernel_rfl) rfl #[.agg #[.int .i64 t230, .int .i64 t231], .int .u32 a2] (by rfl) rfl rfl ar ?_
         with_reducible refine (impl_format_open.calls t230 t231 a2 t239 t240 t241 t242 t243 _ A7.out).mono ?_
         rintro e w17 ⟨rfl, hb⟩
         refine ⟨_, rfl, ?_⟩
         have n0_ := Aside0.mk (blk_below (g := gb233) (o := .cells #[.int .i64 t230, .int .i64 t231] 62 (0, 0)) (bk BK233.out) hb)
         have n1_ := Aside0.mk (blk_below (g := gb244) (o := .cells #[.bool false, .bool false, .bool false, .int .u64 0, .int .i64 0] 66 (0, 0)) (bk BK244.out) hb)
         have n2_ := Aside0.mk (below_step (bw HB.out) hb)
         clear BK233
         clear BK244
         clear HB
         have BK233 := n0_
         have BK244 := n1_
         have HB := n2_
         clear n0_ n1_ n2_
         (try clear hb)
         (try clear hb2)
         (try clear hk)
         (try clear hi)
         refine hK.out _ _ ⟨(blk_cell BK233.out 0).trans rfl, (blk_cell BK233.out 1).trans rfl⟩ (fun hHeld => ?_)
         clear hK K
         refine norm_ (a' := ?_) ?_ ?_
         rotate_left
         ·
          show Act.put _ (some 23) _ = _
          simp only [Act.put, List.setIfInBounds_toArray, List.set_cons_zero, List.set_cons_succ, i64_w, i32_w]
          rfl
         exact norm_ (by first | (simp only [putAll, Act.put, List.setIfInBounds_toArray, List.set_cons_zero, List.set_cons_succ]; done) | (simp only [putAll, Act.put, List.setIfInBounds_toArray, List.set_cons_zero, List.set_cons_succ]; rfl)) (hJ2_5_6 (gb244) _ ⟨hHeld, (bk BK233.out), (bk BK244.out), GW244.out, GE244.out, NB233_244.out, NB244_233.out, (bw HB.out)⟩)
        ·
         skip
         refine box_step ?hg (N := 10) ?hd (cs := #[.bool false, .bool false, .bool false, .int .u64 0, .int .i64 0]) (t := 66) ?hr ?_; (case hd => rfl); (case hg => rfl); (case hr => first | (go_simp; done) | (go_simp; rfl))
         intro gb245 hg w17 hbox hb
         have n0_ := Aside0.mk (blk_below (g := gb233) (o := .cells #[.int .i64 t230, .int .i64 t231] 62 (0, 0)) (bk BK233.out) hb)
         have n1_ := Aside0.mk (blk_below (g := gb244) (o := .cells #[.bool false, .bool false, .bool false, .int .u64 0, .int .i64 0] 66 (0, 0)) (bk BK244.out) hb)
         have n2_ := Aside0.mk (below_step (bw HB.out) hb)
         have n3_ := Aside0.mk (hbox)
         have n4_ := Aside0.mk ((by rw [hg]; exact (below_size (bw HB.out)) : w.heap.size ≤ gb245))
         have n5_ := Aside0.mk ((by rw [hg]; exact (below_size (bw HB.out)) : w.heap.size ≤ gb245))
         have n6_ := Aside0.mk ((by rw [hg]; exact Nat.ne_of_lt (blk_lt (g := gb233) (o := .cells #[.int .i64 t230, .int .i64 t231] 62 (0, 0)) (bk BK233.out)) : gb233 ≠ gb245))
         have n7_ := Aside0.mk ((by rw [hg]; exact Nat.ne_of_gt (blk_lt (g := gb233) (o := .cells #[.int .i64 t230, .int .i64 t231] 62 (0, 0)) (bk BK233.out)) : gb245 ≠ gb233))
         have n8_ := Aside0.mk ((by rw [hg]; exact Nat.ne_of_lt (blk_lt (g := gb244) (o := .cells #[.bool false, .bool false, .bool false, .int .u64 0, .int .i64 0] 66 (0, 0)) (bk BK244.out)) : gb244 ≠ gb245))
         have n9_ := Aside0.mk ((by rw [hg]; exact Nat.ne_of_gt (blk_lt (g := gb244) (o := .cells #[.bool false, .bool false, .bool false, .int .u64 0, .int .i64 0] 66 (0, 0)) (bk BK244.out)) : gb245 ≠ gb244))
         clear BK233
         clear BK244
         clear HB
         have BK233 := n0_
         have BK244 := n1_
         have HB := n2_
         have BK245 := n3_
         have GW245 := n4_
         have GE245 := n5_
         have NB233_245 := n6_
         have NB245_233 := n7_
         have NB244_245 := n8_
         have NB245_244 := n9_
         clear n0_ n1_ n2_ n3_ n4_ n5_ n6_ n7_ n8_ n9_
         clear hb hbox hg
         refine hK.out _ _ ⟨(blk_cell BK233.out 0).trans rfl, (blk_cell BK233.out 1).trans rfl⟩ (fun hHeld => ?_)
         clear hK K
         refine norm_ (a' := ?_) ?_ ?_
         rotate_left
         ·
          show Act.put _ (some 10) _ = _
          simp only [Act.put, List.setIfInBounds_toArray, List.set_cons_zero, List.set_cons_succ, i64_w, i32_w]
          rfl
         exact norm_ (by first | (simp only [putAll, Act.put, List.setIfInBounds_toArray, List.set_cons_zero, List.set_cons_succ]; done) | (simp only [putAll, Act.put, List.setIfInBounds_toArray, List.set_cons_zero, List.set_cons_succ]; rfl)) (hJ2_6_7 (gb244, gb245) _ ⟨hHeld, (bk BK233.out), (bk BK244.out), (bk BK245.out), GW244.out, GE244.out, NB233_244.out, NB244_233.out, NB245_244.out, NB244_245.out, GW245.out, GE245.out, NB233_245.out, NB245_233.out, (bw HB.out)⟩)
      ·
       skip
       rintro _ w16 ⟨hS_, h0_, h1_⟩
       have n0_ : Aside0 (w16.heap[gb233]? = some (.cells #[.int .i64 t230, .int .i64 t231] 62 (0, 0))) := ⟨h0_⟩
       have n1_ : Aside0 (Below w.heap.size w w16) := ⟨h1_⟩
       clear BK233
       clear HB
       clear h0_ h1_
       have BK233 := n0_
       have HB := n1_
       clear n0_ n1_
       have hHeld : w16.cell? ⟨gb233, 0, none⟩ = some (.int .i64 t230) ∧ w16.cell? ⟨gb233, 1, none⟩ = some (.int .i64 t231) := hS_
       refine norm_ (a' := ?_) ?_ ?_
       rotate_left
       ·
        simp only [putAll, Act.put, List.setIfInBounds_toArray, List.set_cons_zero, List.set_cons_succ]
        rfl
       refine two_ (i := 6) (j := 7) (Ni := some 9) (Nj := some 10) #[true, true, true, true, true, true, true, false, false, false] #[true, true, true, true, true, true, false, true, false, false] rfl rfl rfl rfl (two_of HT_.out (by kernel_rfl)) (by decide) (by decide) (fun K hK => ?_) (fun K hK => ?_)
       ·
        skip
        refine box_step ?hg (N := 9) ?hd (cs := #[.bool false, .bool false, .bool false, .int .u64 0, .int .i64 0]) (t := 66) ?hr ?_; (case hd => rfl); (case hg => rfl); (case hr => first | (go_simp; done) | (go_simp; rfl))
        intro gb244 hg w17 hbox hb
        have n0_ := Aside0.mk (blk_below (g := gb233) (o := .cells #[.int .i64 t230, .int .i64 t231] 62 (0, 0)) (bk BK233.out) hb)
        have n1_ := Aside0.mk (below_step (bw HB.out) hb)
        have n2_ := Aside0.mk (hbox)
        have n3_ := Aside0.mk ((by rw [hg]; exact (below_size (bw HB.out)) : w.heap.size ≤ gb244))
        have n4_ := Aside0.mk ((by rw [hg]; exact (below_size (bw HB.out)) : w.heap.size ≤ gb244))
        have n5_ := Aside0.mk ((by rw [hg]; exact Nat.ne_of_lt (blk_lt (g := gb233) (o := .cells #[.int .i64 t230, .int .i64 t231] 62 (0, 0)) (bk BK233.out)) : gb233 ≠ gb244))
        have n6_ := Aside0.mk ((by rw [hg]; exact Nat.ne_of_gt (blk_lt (g := gb233) (o := .cells #[.int .i64 t230, .int .i64 t231] 62 (0, 0)) (bk BK233.out)) : gb244 ≠ gb233))
        clear BK233
        clear HB
        have BK233 := n0_
        have HB := n1_
        have BK244 := n2_
        have GW244 := n3_
        have GE244 := n4_
        have NB233_244 := n5_
        have NB244_233 := n6_
        clear n0_ n1_ n2_ n3_ n4_ n5_ n6_
        clear hb hbox hg
        refine hK.out _ _ ⟨(blk_cell BK233.out 0).trans rfl, (blk_cell BK233.out 1).trans rfl⟩ (fun hHeld => ?_)
        clear hK K
        refine norm_ (a' := ?_) ?_ ?_
        rotate_left
        ·
         show Act.put _ (some 9) _ = _
         simp only [Act.put, List.setIfInBounds_toArray, List.set_cons_zero, List.set_cons_succ, i64_w, i32_w]
         rfl
        exact norm_ (by first | (simp only [putAll, Act.put, List.setIfInBounds_toArray, List.set_cons_zero, List.set_cons_succ]; done) | (simp only [putAll, Act.put, List.setIfInBounds_toArray, List.set_cons_zero, List.set_cons_succ]; rfl)) (hJ2_5_6 (gb244) _ ⟨hHeld, (bk BK233.out), (bk BK244.out), GW244.out, GE244.out, NB233_244.out, NB244_233.out, (bw HB.out)⟩)
       ·
        skip
        refine box_step ?hg (N := 10) ?hd (cs := #[.bool false, .bool false, .bool false, .int .u64 0, .int .i64 0]) (t := 66) ?hr ?_; (case hd => rfl); (case hg => rfl); (case hr => first | (go_simp; done) | (go_simp; rfl))
        intro gb245 hg w17 hbox hb
        have n0_ := Aside0.mk (blk_below (g := gb233) (o := .cells #[.int .i64 t230, .int .i64 t231] 62 (0, 0)) (bk BK233.out) hb)
        have n1_ := Aside0.mk (below_step (bw HB.out) hb)
        have n2_ := Aside0.mk (hbox)
        have n3_ := Aside0.mk ((by rw [hg]; exact (below_size (bw HB.out)) : w.heap.size ≤ gb245))
        have n4_ := Aside0.mk ((by rw [hg]; exact (below_size (bw HB.out)) : w.heap.size ≤ gb245))
        have n5_ := Aside0.mk ((by rw [hg]; exact Nat.ne_of_lt (blk_lt (g := gb233) (o := .cells #[.int .i64 t230, .int .i64 t231] 62 (0, 0)) (bk BK233.out)) : gb233 ≠ gb245))
        have n6_ := Aside0.mk ((by rw [hg]; exact Nat.ne_of_gt (blk_lt (g := gb233) (o := .cells #[.int .i64 t230, .int .i64 t231] 62 (0, 0)) (bk BK233.out)) : gb245 ≠ gb233))
        clear BK233
        clear HB
        have BK233 := n0_
        have HB := n1_
        have BK245 := n2_
        have GW245 := n3_
        have GE245 := n4_
        have NB233_245 := n5_
        have NB245_233 := n6_
        clear n0_ n1_ n2_ n3_ n4_ n5_ n6_
        clear hb hbox hg
        refine hK.out _ _ ⟨(blk_cell BK233.out 0).trans rfl, (blk_cell BK233.out 1).trans rfl⟩ (fun hHeld => ?_)
        clear hK K
        refine norm_ (a' := ?_) ?_ ?_
        rotate_left
        ·
         show Act.put _ (some 10) _ = _
         simp only [Act.put, List.setIfInBounds_toArray, List.set_cons_zero, List.set_cons_succ, i64_w, i32_w]
         rfl
        exact norm_ (by first | (simp only [putAll, Act.put, List.setIfInBounds_toArray, List.set_cons_zero, List.set_cons_succ]; done) | (simp only [putAll, Act.put, List.setIfInBounds_toArray, List.set_cons_zero, List.set_cons_succ]; rfl)) (hJ2_5_7 (gb245) _ ⟨hHeld, (bk BK233.out), (bk BK245.out), GW245.out, GE245.out, NB233_245.out, NB245_233.out, (bw HB.out)⟩)
     ·
      skip
      rintro ⟨gb244, gb245⟩ w17 ⟨hS_, h0_, h1_, h2_, h3_, h4_, h5_, h6_, h7_, h8_, h9_, h10_, h11_, h12_, h13_⟩
      have n0_ : Aside0 (w17.heap[gb233]? = some (.cells #[.int .i64 t230, .int .i64 t231] 62 (0, 0))) := ⟨h0_⟩
      have n1_ : Aside0 (w17.heap[gb244]? = some (.cells #[.bool false, .bool false, .bool false, .int .u64 0, .int .i64 0] 66 (0, 0))) := ⟨h1_⟩
      have n2_ : Aside0 (w17.heap[gb245]? = some (.cells #[.bool false, .bool false, .bool false, .int .u64 0, .int .i64 0] 66 (0, 0))) := ⟨h2_⟩
      have n3_ : Aside0 (w.heap.size ≤ gb244) := ⟨h3_⟩
      have n4_ : Aside0 (w.heap.size ≤ gb244) := ⟨h4_⟩
      have n5_ : Aside0 (gb233 ≠ gb244) := ⟨h5_⟩
      have n6_ : Aside0 (gb244 ≠ gb233) := ⟨h6_⟩
      have n7_ : Aside0 (gb245 ≠ gb244) := ⟨h7_⟩
      have n8_ : Aside0 (gb244 ≠ gb245) := ⟨h8_⟩
      have n9_ : Aside0 (w.heap.size ≤ gb245) := ⟨h9_⟩
      have n10_ : Aside0 (w.heap.size ≤ gb245) := ⟨h10_⟩
      have n11_ : Aside0 (gb233 ≠ gb245) := ⟨h11_⟩
      have n12_ : Aside0 (gb245 ≠ gb233) := ⟨h12_⟩
      have n13_ : Aside0 (Below w.heap.size w w17) := ⟨h13_⟩
      clear BK233
      clear HB
      clear h0_ h1_ h2_ h3_ h4_ h5_ h6_ h7_ h8_ h9_ h10_ h11_ h12_ h13_
      have BK233 := n0_
      have BK244 := n1_
      have BK245 := n2_
      have GW244 := n3_
      have GE244 := n4_
      have NB233_244 := n5_
      have NB244_233 := n6_
      have NB245_244 := n7_
      have NB244_245 := n8_
      have GW245 := n9_
      have GE245 := n10_
      have NB233_245 := n11_
      have NB245_233 := n12_
      have HB := n13_
      clear n0_ n1_ n2_ n3_ n4_ n5_ n6_ n7_ n8_ n9_ n10_ n11_ n12_ n13_
      have hHeld : w17.cell? ⟨gb233, 0, none⟩ = some (.int .i64 t230) ∧ w17.cell? ⟨gb233, 1, none⟩ = some (.int .i64 t231) := hS_
      refine norm_ (a' := ?_) ?_ ?_
      rotate_left
      ·
       simp only [putAll, Act.put, List.setIfInBounds_toArray, List.set_cons_zero, List.set_cons_succ]
       rfl
      refine one_ (i := 5) (N := some 23) #[true, true, true, true, true, true, true, true, false, false] rfl rfl (one_of HT_.out (by kernel_rfl)) (by decide) (fun K hK => ?_)
      refine goes_ Try.func52 (by kernel_rfl) rfl #[.agg #[.int .i64 t230, .int .i64 t231], .int .u32 a2] (by rfl) rfl rfl ar ?_
      with_reducible refine (impl_format_open.calls t230 t231 a2 t239 t240 t241 t242 t243 _ A7.out).mono ?_
      rintro e w18 ⟨rfl, hb⟩
      refine ⟨_, rfl, ?_⟩
      have n0_ := Aside0.mk (blk_below (g := gb233) (o := .cells #[.int .i64 t230, .int .i64 t231] 62 (0, 0)) (bk BK233.out) hb)
      have n1_ := Aside0.mk (blk_below (g := gb244) (o := .cells #[.bool false, .bool false, .bool false, .int .u64 0, .int .i64 0] 66 (0, 0)) (bk BK244.out) hb)
      have n2_ := Aside0.mk (blk_below (g := gb245) (o := .cells #[.bool false, .bool false, .bool false, .int .u64 0, .int .i64 0] 66 (0, 0)) (bk BK245.out) hb)
      have n3_ := Aside0.mk (below_step (bw HB.out) hb)
      clear BK233
      clear BK244
      clear BK245
      clear HB
      have BK233 := n0_
      have BK244 := n1_
      have BK245 := n2_
      have HB := n3_
      clear n0_ n1_ n2_ n3_
      (try clear hb)
      (try clear hb2)
      (try clear hk)
      (try clear hi)
      refine hK.out _ _ ⟨(blk_cell BK233.out 0).trans rfl, (blk_cell BK233.out 1).trans rfl⟩ (fun hHeld => ?_)
      clear hK K
      refine norm_ (a' := ?_) ?_ ?_
      rotate_left
      ·
       show Act.put _ (some 23) _ = _
       simp only [Act.put, List.setIfInBounds_toArray, List.set_cons_zero, List.set_cons_succ, i64_w, i32_w]
       rfl
      exact norm_ (by first | (simp only [putAll, Act.put, List.setIfInBounds_toArray, List.set_cons_zero, List.set_cons_succ]; done) | (simp only [putAll, Act.put, List.setIfInBounds_toArray, List.set_cons_zero, List.set_cons_succ]; rfl)) (hJ2_5_6_7 (gb244, gb245) _ ⟨hHeld, (bk BK233.out), (bk BK244.out), (bk BK245.out), GW244.out, GE244.out, NB233_244.out, NB244_233.out, NB245_244.out, NB244_245.out, GW245.out, GE245.out, NB233_245.out, NB245_233.out, (bw HB.out)⟩)
    ·
     skip
     rintro gb245 w17 ⟨hS_, h0_, h1_, h2_, h3_, h4_, h5_, h6_⟩
     have n0_ : Aside0 (w17.heap[gb233]? = some (.cells #[.int .i64 t230, .int .i64 t231] 62 (0, 0))) := ⟨h0_⟩
     have n1_ : Aside0 (w17.heap[gb245]? = some (.cells #[.bool false, .bool false, .bool false, .int .u64 0, .int .i64 0] 66 (0, 0))) := ⟨h1_⟩
     have n2_ : Aside0 (w.heap.size ≤ gb245) := ⟨h2_⟩
     have n3_ : Aside0 (w.heap.size ≤ gb245) := ⟨h3_⟩
     have n4_ : Aside0 (gb233 ≠ gb245) := ⟨h4_⟩
     have n5_ : Aside0 (gb245 ≠ gb233) := ⟨h5_⟩
     have n6_ : Aside0 (Below w.heap.size w w17) := ⟨h6_⟩
     clear BK233
     clear HB
     clear h0_ h1_ h2_ h3_ h4_ h5_ h6_
     have BK233 := n0_
     have BK245 := n1_
     have GW245 := n2_
     have GE245 := n3_
     have NB233_245 := n4_
     have NB245_233 := n5_
     have HB := n6_
     clear n0_ n1_ n2_ n3_ n4_ n5_ n6_
     have hHeld : w17.cell? ⟨gb233, 0, none⟩ = some (.int .i64 t230) ∧ w17.cell? ⟨gb233, 1, none⟩ = some (.int .i64 t231) := hS_
     refine norm_ (a' := ?_) ?_ ?_
     rotate_left
     ·
      simp only [putAll, Act.put, List.setIfInBounds_toArray, List.set_cons_zero, List.set_cons_succ]
      rfl
     refine one_ (i := 6) (N := some 9) #[true, true, true, true, true, true, true, true, false, false] rfl rfl (one_of HT_.out (by kernel_rfl)) (by decide) (fun K hK => ?_)
     refine box_step ?hg (N := 9) ?hd (cs := #[.bool false, .bool false, .bool false, .int .u64 0, .int .i64 0]) (t := 66) ?hr ?_; (case hd => rfl); (case hg => rfl); (case hr => first | (go_simp; done) | (go_simp; rfl))
     intro gb244 hg w18 hbox hb
     have n0_ := Aside0.mk (blk_below (g := gb233) (o := .cells #[.int .i64 t230, .int .i64 t231] 62 (0, 0)) (bk BK233.out) hb)
     have n1_ := Aside0.mk (blk_below (g := gb245) (o := .cells #[.bool false, .bool false, .bool false, .int .u64 0, .int .i64 0] 66 (0, 0)) (bk BK245.out) hb)
     have n2_ := Aside0.mk (below_step (bw HB.out) hb)
     have n3_ := Aside0.mk (hbox)
     have n4_ := Aside0.mk ((by rw [hg]; exact (below_size (bw HB.out)) : w.heap.size ≤ gb244))
     have n5_ := Aside0.mk ((by rw [hg]; exact (below_size (bw HB.out)) : w.heap.size ≤ gb244))
     have n6_ := Aside0.mk ((by rw [hg]; exact Nat.ne_of_lt (blk_lt (g := gb233) (o := .cells #[.int .i64 t230, .int .i64 t231] 62 (0, 0)) (bk BK233.out)) : gb233 ≠ gb244))
     have n7_ := Aside0.mk ((by rw [hg]; exact Nat.ne_of_gt (blk_lt (g := gb233) (o := .cells #[.int .i64 t230, .int .i64 t231] 62 (0, 0)) (bk BK233.out)) : gb244 ≠ gb233))
     have n8_ := Aside0.mk ((by rw [hg]; exact Nat.ne_of_lt (blk_lt (g := gb245) (o := .cells #[.bool false, .bool false, .bool false, .int .u64 0, .int .i64 0] 66 (0, 0)) (bk BK245.out)) : gb245 ≠ gb244))
     have n9_ := Aside0.mk ((by rw [hg]; exact Nat.ne_of_gt (blk_lt (g := gb245) (o := .cells #[.bool false, .bool false, .bool false, .int .u64 0, .int .i64 0] 66 (0, 0)) (bk BK245.out)) : gb244 ≠ gb245))
     clear BK233
     clear BK245
     clear HB
     have BK233 := n0_
     have BK245 := n1_
     have HB := n2_
     have BK244 := n3_
     have GW244 := n4_
     have GE244 := n5_
     have NB233_244 := n6_
     have NB244_233 := n7_
     have NB245_244 := n8_
     have NB244_245 := n9_
     clear n0_ n1_ n2_ n3_ n4_ n5_ n6_ n7_ n8_ n9_
     clear hb hbox hg
     refine hK.out _ _ ⟨(blk_cell BK233.out 0).trans rfl, (blk_cell BK233.out 1).trans rfl⟩ (fun hHeld => ?_)
     clear hK K
     refine norm_ (a' := ?_) ?_ ?_
     rotate_left
     ·
      show Act.put _ (some 9) _ = _
      simp only [Act.put, List.setIfInBounds_toArray, List.set_cons_zero, List.set_cons_succ, i64_w, i32_w]
      rfl
     exact norm_ (by first | (simp only [putAll, Act.put, List.setIfInBounds_toArray, List.set_cons_zero, List.set_cons_succ]; done) | (simp only [putAll, Act.put, List.setIfInBounds_toArray, List.set_cons_zero, List.set_cons_succ]; rfl)) (hJ2_5_6_7 (gb244, gb245) _ ⟨hHeld, (bk BK233.out), (bk BK244.out), (bk BK245.out), GW244.out, GE244.out, NB233_244.out, NB244_233.out, NB245_244.out, NB244_245.out, GW245.out, GE245.out, NB233_245.out, NB245_233.out, (bw HB.out)⟩)
   ·
    skip
    rintro gb244 w17 ⟨hS_, h0_, h1_, h2_, h3_, h4_, h5_, h6_⟩
    have n0_ : Aside0 (w17.heap[gb233]? = some (.cells #[.int .i64 t230, .int .i64 t231] 62 (0, 0))) := ⟨h0_⟩
    have n1_ : Aside0 (w17.heap[gb244]? = some (.cells #[.bool false, .bool false, .bool false, .int .u64 0, .int .i64 0] 66 (0, 0))) := ⟨h1_⟩
    have n2_ : Aside0 (w.heap.size ≤ gb244) := ⟨h2_⟩
    have n3_ : Aside0 (w.heap.size ≤ gb244) := ⟨h3_⟩
    have n4_ : Aside0 (gb233 ≠ gb244) := ⟨h4_⟩
    have n5_ : Aside0 (gb244 ≠ gb233) := ⟨h5_⟩
    have n6_ : Aside0 (Below w.heap.size w w17) := ⟨h6_⟩
    clear BK233
    clear HB
    clear h0_ h1_ h2_ h3_ h4_ h5_ h6_
    have BK233 := n0_
    have BK244 := n1_
    have GW244 := n2_
    have GE244 := n3_
    have NB233_244 := n4_
    have NB244_233 := n5_
    have HB := n6_
    clear n0_ n1_ n2_ n3_ n4_ n5_ n6_
    have hHeld : w17.cell? ⟨gb233, 0, none⟩ = some (.int .i64 t230) ∧ w17.cell? ⟨gb233, 1, none⟩ = some (.int .i64 t231) := hS_
    refine norm_ (a' := ?_) ?_ ?_
    rotate_left
    ·
     simp only [putAll, Act.put, List.setIfInBounds_toArray, List.set_cons_zero, List.set_cons_succ]
     rfl
    refine one_ (i := 7) (N := some 10) #[true, true, true, true, true, true, true, true, false, false] rfl rfl (one_of HT_.out (by kernel_rfl)) (by decide) (fun K hK => ?_)
    refine box_step ?hg (N := 10) ?hd (cs := #[.bool false, .bool false, .bool false, .int .u64 0, .int .i64 0]) (t := 66) ?hr ?_; (case hd => rfl); (case hg => rfl); (case hr => first | (go_simp; done) | (go_simp; rfl))
    intro gb245 hg w18 hbox hb
    have n0_ := Aside0.mk (blk_below (g := gb233) (o := .cells #[.int .i64 t230, .int .i64 t231] 62 (0, 0)) (bk BK233.out) hb)
    have n1_ := Aside0.mk (blk_below (g := gb244) (o := .cells #[.bool false, .bool false, .bool false, .int .u64 0, .int .i64 0] 66 (0, 0)) (bk BK244.out) hb)
    have n2_ := Aside0.mk (below_step (bw HB.out) hb)
    have n3_ := Aside0.mk (hbox)
    have n4_ := Aside0.mk ((by rw [hg]; exact (below_size (bw HB.out)) : w.heap.size ≤ gb245))
    have n5_ := Aside0.mk ((by rw [hg]; exact (below_size (bw HB.out)) : w.heap.size ≤ gb245))
    have n6_ := Aside0.mk ((by rw [hg]; exact Nat.ne_of_lt (blk_lt (g := gb233) (o := .cells #[.int .i64 t230, .int .i64 t231] 62 (0, 0)) (bk BK233.out)) : gb233 ≠ gb245))
    have n7_ := Aside0.mk ((by rw [hg]; exact Nat.ne_of_gt (blk_lt (g := gb233) (o := .cells #[.int .i64 t230, .int .i64 t231] 62 (0, 0)) (bk BK233.out)) : gb245 ≠ gb233))
    have n8_ := Aside0.mk ((by rw [hg]; exact Nat.ne_of_lt (blk_lt (g := gb244) (o := .cells #[.bool false, .bool false, .bool false, .int .u64 0, .int .i64 0] 66 (0, 0)) (bk BK244.out)) : gb244 ≠ gb245))
    have n9_ := Aside0.mk ((by rw [hg]; exact Nat.ne_of_gt (blk_lt (g := gb244) (o := .cells #[.bool false, .bool false, .bool false, .int .u64 0, .int .i64 0] 66 (0, 0)) (bk BK244.out)) : gb245 ≠ gb244))
    clear BK233
    clear BK244
    clear HB
    have BK233 := n0_
    have BK244 := n1_
    have HB := n2_
    have BK245 := n3_
    have GW245 := n4_
    have GE245 := n5_
    have NB233_245 := n6_
    have NB245_233 := n7_
    have NB244_245 := n8_
    have NB245_244 := n9_
    clear n0_ n1_ n2_ n3_ n4_ n5_ n6_ n7_ n8_ n9_
    clear hb hbox hg
    refine hK.out _ _ ⟨(blk_cell BK233.out 0).trans rfl, (blk_cell BK233.out 1).trans rfl⟩ (fun hHeld => ?_)
    clear hK K
    refine norm_ (a' := ?_) ?_ ?_
    rotate_left
    ·
     show Act.put _ (some 10) _ = _
     simp only [Act.put, List.setIfInBounds_toArray, List.set_cons_zero, List.set_cons_succ, i64_w, i32_w]
     rfl
    exact norm_ (by first | (simp only [putAll, Act.put, List.setIfInBounds_toArray, List.set_cons_zero, List.set_cons_succ]; done) | (simp only [putAll, Act.put, List.setIfInBounds_toArray, List.set_cons_zero, List.set_cons_succ]; rfl)) (hJ2_5_6_7 (gb244, gb245) _ ⟨hHeld, (bk BK233.out), (bk BK244.out), (bk BK245.out), GW244.out, GE244.out, NB233_244.out, NB244_233.out, NB245_244.out, NB244_245.out, GW245.out, GE245.out, NB233_245.out, NB245_233.out, (bw HB.out)⟩)
  rintro ⟨gb244, gb245⟩ w18 ⟨hS_, h0_, h1_, h2_, h3_, h4_, h5_, h6_, h7_, h8_, h9_, h10_, h11_, h12_, h13_⟩
  have n0_ : Aside0 (w18.heap[gb233]? = some (.cells #[.int .i64 t230, .int .i64 t231] 62 (0, 0))) := ⟨h0_⟩
  have n1_ : Aside0 (w18.heap[gb244]? = some (.cells #[.bool false, .bool false, .bool false, .int .u64 0, .int .i64 0] 66 (0, 0))) := ⟨h1_⟩
  have n2_ : Aside0 (w18.heap[gb245]? = some (.cells #[.bool false, .bool false, .bool false, .int .u64 0, .int .i64 0] 66 (0, 0))) := ⟨h2_⟩
  have n3_ : Aside0 (w.heap.size ≤ gb244) := ⟨h3_⟩
  have n4_ : Aside0 (w.heap.size ≤ gb244) := ⟨h4_⟩
  have n5_ : Aside0 (gb233 ≠ gb244) := ⟨h5_⟩
  have n6_ : Aside0 (gb244 ≠ gb233) := ⟨h6_⟩
  have n7_ : Aside0 (gb245 ≠ gb244) := ⟨h7_⟩
  have n8_ : Aside0 (gb244 ≠ gb245) := ⟨h8_⟩
  have n9_ : Aside0 (w.heap.size ≤ gb245) := ⟨h9_⟩
  have n10_ : Aside0 (w.heap.size ≤ gb245) := ⟨h10_⟩
  have n11_ : Aside0 (gb233 ≠ gb245) := ⟨h11_⟩
  have n12_ : Aside0 (gb245 ≠ gb233) := ⟨h12_⟩
  have n13_ : Aside0 (Below w.heap.size w w18) := ⟨h13_⟩
  clear BK233
  clear HB
  clear h0_ h1_ h2_ h3_ h4_ h5_ h6_ h7_ h8_ h9_ h10_ h11_ h12_ h13_
  have BK233 := n0_
  have BK244 := n1_
  have BK245 := n2_
  have GW244 := n3_
  have GE244 := n4_
  have NB233_244 := n5_
  have NB244_233 := n6_
  have NB245_244 := n7_
  have NB244_245 := n8_
  have GW245 := n9_
  have GE245 := n10_
  have NB233_245 := n11_
  have NB245_233 := n12_
  have HB := n13_
  clear n0_ n1_ n2_ n3_ n4_ n5_ n6_ n7_ n8_ n9_ n10_ n11_ n12_ n13_
  have hHeld : w18.cell? ⟨gb233, 0, none⟩ = some (.int .i64 t230) ∧ w18.cell? ⟨gb233, 1, none⟩ = some (.int .i64 t231) := hS_
  refine norm_ (a' := ?_) ?_ ?_
  rotate_left
  ·
   simp only [putAll, Act.put, List.setIfInBounds_toArray, List.set_cons_zero, List.set_cons_succ]
   rfl
  refine one_ (i := 8) (N := none) #[true, true, true, true, true, true, true, true, true, false] rfl rfl (one_of HT_.out (by kernel_rfl)) (by decide) (fun K hK => ?_)
  have hs19 : w18.cell? ⟨gb244, 0, none⟩ = some (.bool false) := (blk_cell BK244.out 0).trans rfl
  have hfs19 := blk_frozen BK244.out 0
  have hns19_0 := NB233_244.out
  have hns19_2 := NB245_244.out
  have hms19_0 := NB244_233.out
  have hms19_2 := NB244_245.out
  have hs20 : w18.cell? ⟨gb244, 1, none⟩ = some (.bool false) := (blk_cell BK244.out 1).trans rfl
  have hfs20 := blk_frozen BK244.out 1
  have hns20_0 := NB233_244.out
  have hns20_2 := NB245_244.out
  have hms20_0 := NB244_233.out
  have hms20_2 := NB244_245.out
  have hs21 : w18.cell? ⟨gb244, 2, none⟩ = some (.bool false) := (blk_cell BK244.out 2).trans rfl
  have hfs21 := blk_frozen BK244.out 2
  have hns21_0 := NB233_244.out
  have hns21_2 := NB245_244.out
  have hms21_0 := NB244_233.out
  have hms21_2 := NB244_245.out
  have hs22 : w18.cell? ⟨gb244, 3, none⟩ = some (.int .u64 0) := (blk_cell BK244.out 3).trans rfl
  have hfs22 := blk_frozen BK244.out 3
  have hns22_0 := NB233_244.out
  have hns22_2 := NB245_244.out
  have hms22_0 := NB244_233.out
  have hms22_2 := NB244_245.out
  have hs23 : w18.cell? ⟨gb244, 4, none⟩ = some (.int .i64 0) := (blk_cell BK244.out 4).trans rfl
  have hfs23 := blk_frozen BK244.out 4
  have hns23_0 := NB233_244.out
  have hns23_2 := NB245_244.out
  have hms23_0 := NB244_233.out
  have hms23_2 := NB244_245.out
  refine skip_ (w1 := ?_) (by rfl) rfl ?_ ?_
  rotate_left
  ·
   go_simp
   rfl
  refine hK.out _ _ ⟨((cell_far (p := ⟨gb244, _, none⟩) NB233_244.out _).trans (((cell_far (p := ⟨gb244, _, none⟩) NB233_244.out _).trans (((cell_far (p := ⟨gb244, _, none⟩) NB233_244.out _).trans (((cell_far (p := ⟨gb244, _, none⟩) NB233_244.out _).trans (((cell_far (p := ⟨gb244, _, none⟩) NB233_244.out _).trans (hHeld.1)))))))))), ((cell_far (p := ⟨gb244, _, none⟩) NB233_244.out _).trans (((cell_far (p := ⟨gb244, _, none⟩) NB233_244.out _).trans (((cell_far (p := ⟨gb244, _, none⟩) NB233_244.out _).trans (((cell_far (p := ⟨gb244, _, none⟩) NB233_244.out _).trans (((cell_far (p := ⟨gb244, _, none⟩) NB233_244.out _).trans (hHeld.2))))))))))⟩ (fun hHeld => ?_)
  clear hK K
  refine one_ (i := 9) (N := none) #[true, true, true, true, true, true, true, true, true, true] rfl rfl (one_of HT_.out (by kernel_rfl)) (by decide) (fun K hK => ?_)
  have hs24 : w18.cell? ⟨gb245, 0, none⟩ = some (.bool false) := (blk_cell BK245.out 0).trans rfl
  have hfs24 := blk_frozen BK245.out 0
  have hns24_0 := NB233_245.out
  have hns24_1 := NB244_245.out
  have hms24_0 := NB245_233.out
  have hms24_1 := NB245_244.out
  have hs25 : w18.cell? ⟨gb245, 1, none⟩ = some (.bool false) := (blk_cell BK245.out 1).trans rfl
  have hfs25 := blk_frozen BK245.out 1
  have hns25_0 := NB233_245.out
  have hns25_1 := NB244_245.out
  have hms25_0 := NB245_233.out
  have hms25_1 := NB245_244.out
  have hs26 : w18.cell? ⟨gb245, 2, none⟩ = some (.bool false) := (blk_cell BK245.out 2).trans rfl
  have hfs26 := blk_frozen BK245.out 2
  have hns26_0 := NB233_245.out
  have hns26_1 := NB244_245.out
  have hms26_0 := NB245_233.out
  have hms26_1 := NB245_244.out
  have hs27 : w18.cell? ⟨gb245, 3, none⟩ = some (.int .u64 0) := (blk_cell BK245.out 3).trans rfl
  have hfs27 := blk_frozen BK245.out 3
  have hns27_0 := NB233_245.out
  have hns27_1 := NB244_245.out
  have hms27_0 := NB245_233.out
  have hms27_1 := NB245_244.out
  have hs28 : w18.cell? ⟨gb245, 4, none⟩ = some (.int .i64 0) := (blk_cell BK245.out 4).trans rfl
  have hfs28 := blk_frozen BK245.out 4
  have hns28_0 := NB233_245.out
  have hns28_1 := NB244_245.out
  have hms28_0 := NB245_233.out
  have hms28_1 := NB245_244.out
  refine skip_ (w1 := ?_) (by rfl) rfl ?_ ?_
  rotate_left
  ·
   go_simp
   rfl
  refine hK.out _ _ ⟨((cell_far (p := ⟨gb245, _, none⟩) NB233_245.out _).trans (((cell_far (p := ⟨gb245, _, none⟩) NB233_245.out _).trans (((cell_far (p := ⟨gb245, _, none⟩) NB233_245.out _).trans (((cell_far (p := ⟨gb245, _, none⟩) NB233_245.out _).trans (((cell_far (p := ⟨gb245, _, none⟩) NB233_245.out _).trans (hHeld.1)))))))))), ((cell_far (p := ⟨gb245, _, none⟩) NB233_245.out _).trans (((cell_far (p := ⟨gb245, _, none⟩) NB233_245.out _).trans (((cell_far (p := ⟨gb245, _, none⟩) NB233_245.out _).trans (((cell_far (p := ⟨gb245, _, none⟩) NB233_245.out _).trans (((cell_far (p := ⟨gb245, _, none⟩) NB233_245.out _).trans (hHeld.2))))))))))⟩ (fun hHeld => ?_)
  clear hK K
  refine done_ (done_of HT_.out (by kernel_rfl)) ?_
  go_upto_region 5 with (fail)
  go_cut [24] (fun v24 wc => ∃ (kq : Nat) (x24_7 : Bool), v24 = .bool x24_7 ∧ Aside0 (impl_FAdd.j0 kq x24_7 t230 t231 t234 t235 t236 t237 t238 t239 t240 t241 t242 t243 = some r) ∧ Aside0 (kq ≤ k) ∧ Aside0 (wc.heap[gb233]? = some (.cells #[.int .i64 t230, .int .i64 t231] 62 (0, 0))) ∧ Aside0 (wc.heap[gb244]? = some (.cells #[.bool t234, .bool t235, .bool t236, .int .u64 t237, .int .i64 t238] 66 (0, 0))) ∧ Aside0 (wc.heap[gb245]? = some (.cells #[.bool t239, .bool t240, .bool t241, .int .u64 t242, .int .i64 t243] 66 (0, 0))) ∧ Aside0 (Below w.heap.size w wc))
  case first =>
   have H := HC8.out
   clear HC8
   by_cases c29 : t235 = true
   ·
    subst c29
    have H1 : (impl_FAdd.j0 k true t230 t231 t234 true t236 t237 t238 t239 t240 t241 t242 t243) = some r := by rw [if_pos rfl] at H; exact H
    clear H
    have H := H1
    clear H1
    have H' := Aside0.mk H
    clear H
    have hnb30 := NB244_233.out
    have hnc30 := NB233_244.out
    have hnb31 := NB244_245.out
    have hnc31 := NB245_244.out
    have hcz32_0 : w18.cell? ⟨gb244, 0, none⟩ = some (.bool false) := (blk_cell BK244.out 0).trans rfl
    have hcz32_1 : w18.cell? ⟨gb244, 1, none⟩ = some (.bool false) := (blk_cell BK244.out 1).trans rfl
    have hcz32_2 : w18.cell? ⟨gb244, 2, none⟩ = some (.bool false) := (blk_cell BK244.out 2).trans rfl
    have hcz32_3 : w18.cell? ⟨gb244, 3, none⟩ = some (.int .u64 0) := (blk_cell BK244.out 3).trans rfl
    have hcz32_4 : w18.cell? ⟨gb244, 4, none⟩ = some (.int .i64 0) := (blk_cell BK244.out 4).trans rfl
    have hfz32_0 := blk_frozen BK244.out 0
    have hfz32_1 := blk_frozen BK244.out 1
    have hfz32_2 := blk_frozen BK244.out 2
    have hfz32_3 := blk_frozen BK244.out 3
    have hfz32_4 := blk_frozen BK244.out 4
    go_wp2
    go_meet
    case rel => exact ⟨_, (true), (by first | rfl | (simp; done) | (simp [*]; done)), H', ⟨by first | omega | exact Nat.le_refl _⟩, ⟨by (with_reducible repeat (first | refine blk_drewN ?_ _ | refine blk_drew ?_ | refine blk_alloc ?_ _)); refine blk_far ?_ NB233_245.out _; (with_reducible repeat (first | refine blk_drewN ?_ _ | refine blk_drew ?_ | refine blk_alloc ?_ _)); refine blk_far ?_ NB233_245.out _; (with_reducible repeat (first | refine blk_drewN ?_ _ | refine blk_drew ?_ | refine blk_alloc ?_ _)); refine blk_far ?_ NB233_245.out _; (with_reducible repeat (first | refine blk_drewN ?_ _ | refine blk_drew ?_ | refine blk_alloc ?_ _)); refine blk_far ?_ NB233_245.out _; (with_reducible repeat (first | refine blk_drewN ?_ _ | refine blk_drew ?_ | refine blk_alloc ?_ _)); refine blk_far ?_ NB233_245.out _; (with_reducible repeat (first | refine blk_drewN ?_ _ | refine blk_drew ?_ | refine blk_alloc ?_ _)); refine blk_far ?_ NB233_244.out _; (with_reducible repeat (first | refine blk_drewN ?_ _ | refine blk_drew ?_ | refine blk_alloc ?_ _)); refine blk_far ?_ NB233_244.out _; (with_reducible repeat (first | refine blk_drewN ?_ _ | refine blk_drew ?_ | refine blk_alloc ?_ _)); refine blk_far ?_ NB233_244.out _; (with_reducible repeat (first | refine blk_drewN ?_ _ | refine blk_drew ?_ | refine blk_alloc ?_ _)); refine blk_far ?_ NB233_244.out _; (with_reducible repeat (first | refine blk_drewN ?_ _ | refine blk_drew ?_ | refine blk_alloc ?_ _)); refine blk_far ?_ NB233_244.out _; (with_reducible repeat (first | refine blk_drewN ?_ _ | refine blk_drew ?_ | refine blk_alloc ?_ _)); exact BK233.out⟩, ⟨by (with_reducible repeat (first | refine blk_drewN ?_ _ | refine blk_drew ?_ | refine blk_alloc ?_ _)); refine blk_far ?_ NB244_245.out _; (with_reducible repeat (first | refine blk_drewN ?_ _ | refine blk_drew ?_ | refine blk_alloc ?_ _)); refine blk_far ?_ NB244_245.out _; (with_reducible repeat (first | refine blk_drewN ?_ _ | refine blk_drew ?_ | refine blk_alloc ?_ _)); refine blk_far ?_ NB244_245.out _; (with_reducible repeat (first | refine blk_drewN ?_ _ | refine blk_drew ?_ | refine blk_alloc ?_ _)); refine blk_far ?_ NB244_245.out _; (with_reducible repeat (first | refine blk_drewN ?_ _ | refine blk_drew ?_ | refine blk_alloc ?_ _)); refine blk_far ?_ NB244_245.out _; (with_reducible repeat (first | refine blk_drewN ?_ _ | refine blk_drew ?_ | refine blk_alloc ?_ _)); refine blk_put (cs := #[.bool t234, .bool true, .bool t236, .int .u64 t237, .int .i64 0]) ?_ 4 _ rfl; (with_reducible repeat (first | refine blk_drewN ?_ _ | refine blk_drew ?_ | refine blk_alloc ?_ _)); refine blk_put (cs := #[.bool t234, .bool true, .bool t236, .int .u64 0, .int .i64 0]) ?_ 3 _ rfl; (with_reducible repeat (first | refine blk_drewN ?_ _ | refine blk_drew ?_ | refine blk_alloc ?_ _)); refine blk_put (cs := #[.bool t234, .bool true, .bool false, .int .u64 0, .int .i64 0]) ?_ 2 _ rfl; (with_reducible repeat (first | refine blk_drewN ?_ _ | refine blk_drew ?_ | refine blk_alloc ?_ _)); refine blk_put (cs := #[.bool t234, .bool false, .bool false, .int .u64 0, .int .i64 0]) ?_ 1 _ rfl; (with_reducible repeat (first | refine blk_drewN ?_ _ | refine blk_drew ?_ | refine blk_alloc ?_ _)); refine blk_put (cs := #[.bool false, .bool false, .bool false, .int .u64 0, .int .i64 0]) ?_ 0 _ rfl; (with_reducible repeat (first | refine blk_drewN ?_ _ | refine blk_drew ?_ | refine blk_alloc ?_ _)); exact BK244.out⟩, ⟨by (with_reducible repeat (first | refine blk_drewN ?_ _ | refine blk_drew ?_ | refine blk_alloc ?_ _)); refine blk_put (cs := #[.bool t239, .bool t240, .bool t241, .int .u64 t242, .int .i64 0]) ?_ 4 _ rfl; (with_reducible repeat (first | refine blk_drewN ?_ _ | refine blk_drew ?_ | refine blk_alloc ?_ _)); refine blk_put (cs := #[.bool t239, .bool t240, .bool t241, .int .u64 0, .int .i64 0]) ?_ 3 _ rfl; (with_reducible repeat (first | refine blk_drewN ?_ _ | refine blk_drew ?_ | refine blk_alloc ?_ _)); refine blk_put (cs := #[.bool t239, .bool t240, .bool false, .int .u64 0, .int .i64 0]) ?_ 2 _ rfl; (with_reducible repeat (first | refine blk_drewN ?_ _ | refine blk_drew ?_ | refine blk_alloc ?_ _)); refine blk_put (cs := #[.bool t239, .bool false, .bool false, .int .u64 0, .int .i64 0]) ?_ 1 _ rfl; (with_reducible repeat (first | refine blk_drewN ?_ _ | refine blk_drew ?_ | refine blk_alloc ?_ _)); refine blk_put (cs := #[.bool false, .bool false, .bool false, .int .u64 0, .int .i64 0]) ?_ 0 _ rfl; (with_reducible repeat (first | refine blk_drewN ?_ _ | refine blk_drew ?_ | refine blk_alloc ?_ _)); refine blk_far ?_ NB245_244.out _; (with_reducible repeat (first | refine blk_drewN ?_ _ | refine blk_drew ?_ | refine blk_alloc ?_ _)); refine blk_far ?_ NB245_244.out _; (with_reducible repeat (first | refine blk_drewN ?_ _ | refine blk_drew ?_ | refine blk_alloc ?_ _)); refine blk_far ?_ NB245_244.out _; (with_reducible repeat (first | refine blk_drewN ?_ _ | refine blk_drew ?_ | refine blk_alloc ?_ _)); refine blk_far ?_ NB245_244.out _; (with_reducible repeat (first | refine blk_drewN ?_ _ | refine blk_drew ?_ | refine blk_alloc ?_ _)); refine blk_far ?_ NB245_244.out _; (with_reducible repeat (first | refine blk_drewN ?_ _ | refine blk_drew ?_ | refine blk_alloc ?_ _)); exact BK245.out⟩, ⟨bw HB.out⟩⟩
   ·
    replace c29 := Bool.eq_false_iff.mpr c29
    subst c29
    have H1 : (if t240 = true then (impl_FAdd.j0 k true t230 t231 t234 false t236 t237 t238 t239 t240 t241 t242 t243) else (if t236 = true then (if t241 = true then (impl_FAdd.j0 k (t234 != t239) t230 t231 t234 false t236 t237 t238 t239 t240 t241 t242 t243) else (impl_FAdd.j0 k false t230 t231 t234 false t236 t237 t238 t239 t240 t241 t242 t243)) else (impl_FAdd.j0 k false t230 t231 t234 false t236 t237 t238 t239 t240 t241 t242 t243))) = some r := by rw [if_neg (show ¬ (false = true) by decide)] at H; exact H
    clear H
    have H := H1
    clear H1
    by_cases c33 : t240 = true
    ·
     subst c33
     have H1 : (impl_FAdd.j0 k true t230 t231 t234 false t236 t237 t238 t239 true t241 t242 t243) = some r := by rw [if_pos rfl] at H; exact H
     clear H
     have H := H1
     clear H1
     have H' := Aside0.mk H
     clear H
     have hnb34 := NB244_233.out
     have hnc34 := NB233_244.out
     have hnb35 := NB244_245.out
     have hnc35 := NB245_244.out
     have hcz36_0 : w18.cell? ⟨gb244, 0, none⟩ = some (.bool false) := (blk_cell BK244.out 0).trans rfl
     have hcz36_1 : w18.cell? ⟨gb244, 1, none⟩ = some (.bool false) := (blk_cell BK244.out 1).trans rfl
     have hcz36_2 : w18.cell? ⟨gb244, 2, none⟩ = some (.bool false) := (blk_cell BK244.out 2).trans rfl
     have hcz36_3 : w18.cell? ⟨gb244, 3, none⟩ = some (.int .u64 0) := (blk_cell BK244.out 3).trans rfl
     have hcz36_4 : w18.cell? ⟨gb244, 4, none⟩ = some (.int .i64 0) := (blk_cell BK244.out 4).trans rfl
     have hfz36_0 := blk_frozen BK244.out 0
     have hfz36_1 := blk_frozen BK244.out 1
     have hfz36_2 := blk_frozen BK244.out 2
     have hfz36_3 := blk_frozen BK244.out 3
     have hfz36_4 := blk_frozen BK244.out 4
     have hnb37 := NB245_233.out
     have hnc37 := NB233_245.out
     have hcz38_0 : w18.cell? ⟨gb245, 0, none⟩ = some (.bool false) := (blk_cell BK245.out 0).trans rfl
     have hcz38_1 : w18.cell? ⟨gb245, 1, none⟩ = some (.bool false) := (blk_cell BK245.out 1).trans rfl
     have hcz38_2 : w18.cell? ⟨gb245, 2, none⟩ = some (.bool false) := (blk_cell BK245.out 2).trans rfl
     have hcz38_3 : w18.cell? ⟨gb245, 3, none⟩ = some (.int .u64 0) := (blk_cell BK245.out 3).trans rfl
     have hcz38_4 : w18.cell? ⟨gb245, 4, none⟩ = some (.int .i64 0) := (blk_cell BK245.out 4).trans rfl
     have hfz38_0 := blk_frozen BK245.out 0
     have hfz38_1 := blk_frozen BK245.out 1
     have hfz38_2 := blk_frozen BK245.out 2
     have hfz38_3 := blk_frozen BK245.out 3
     have hfz38_4 := blk_frozen BK245.out 4
     go_wp2
     go_meet
     case rel => exact ⟨_, (true), (by first | rfl | (simp; done) | (simp [*]; done)), H', ⟨by first | omega | exact Nat.le_refl _⟩, ⟨by (with_reducible repeat (first | refine blk_drewN ?_ _ | refine blk_drew ?_ | refine blk_alloc ?_ _)); refine blk_far ?_ NB233_245.out _; (with_reducible repeat (first | refine blk_drewN ?_ _ | refine blk_drew ?_ | refine blk_alloc ?_ _)); refine blk_far ?_ NB233_245.out _; (with_reducible repeat (first | refine blk_drewN ?_ _ | refine blk_drew ?_ | refine blk_alloc ?_ _)); refine blk_far ?_ NB233_245.out _; (with_reducible repeat (first | refine blk_drewN ?_ _ | refine blk_drew ?_ | refine blk_alloc ?_ _)); refine blk_far ?_ NB233_245.out _; (with_reducible repeat (first | refine blk_drewN ?_ _ | refine blk_drew ?_ | refine blk_alloc ?_ _)); refine blk_far ?_ NB233_245.out _; (with_reducible repeat (first | refine blk_drewN ?_ _ | refine blk_drew ?_ | refine blk_alloc ?_ _)); refine blk_far ?_ NB233_244.out _; (with_reducible repeat (first | refine blk_drewN ?_ _ | refine blk_drew ?_ | refine blk_alloc ?_ _)); refine blk_far ?_ NB233_244.out _; (with_reducible repeat (first | refine blk_drewN ?_ _ | refine blk_drew ?_ | refine blk_alloc ?_ _)); refine blk_far ?_ NB233_244.out _; (with_reducible repeat (first | refine blk_drewN ?_ _ | refine blk_drew ?_ | refine blk_alloc ?_ _)); refine blk_far ?_ NB233_244.out _; (with_reducible repeat (first | refine blk_drewN ?_ _ | refine blk_drew ?_ | refine blk_alloc ?_ _)); refine blk_far ?_ NB233_244.out _; (with_reducible repeat (first | refine blk_drewN ?_ _ | refine blk_drew ?_ | refine blk_alloc ?_ _)); exact BK233.out⟩, ⟨by (with_reducible repeat (first | refine blk_drewN ?_ _ | refine blk_drew ?_ | refine blk_alloc ?_ _)); refine blk_far ?_ NB244_245.out _; (with_reducible repeat (first | refine blk_drewN ?_ _ | refine blk_drew ?_ | refine blk_alloc ?_ _)); refine blk_far ?_ NB244_245.out _; (with_reducible repeat (first | refine blk_drewN ?_ _ | refine blk_drew ?_ | refine blk_alloc ?_ _)); refine blk_far ?_ NB244_245.out _; (with_reducible repeat (first | refine blk_drewN ?_ _ | refine blk_drew ?_ | refine blk_alloc ?_ _)); refine blk_far ?_ NB244_245.out _; (with_reducible repeat (first | refine blk_drewN ?_ _ | refine blk_drew ?_ | refine blk_alloc ?_ _)); refine blk_far ?_ NB244_245.out _; (with_reducible repeat (first | refine blk_drewN ?_ _ | refine blk_drew ?_ | refine blk_alloc ?_ _)); refine blk_put (cs := #[.bool t234, .bool false, .bool t236, .int .u64 t237, .int .i64 0]) ?_ 4 _ rfl; (with_reducible repeat (first | refine blk_drewN ?_ _ | refine blk_drew ?_ | refine blk_alloc ?_ _)); refine blk_put (cs := #[.bool t234, .bool false, .bool t236, .int .u64 0, .int .i64 0]) ?_ 3 _ rfl; (with_reducible repeat (first | refine blk_drewN ?_ _ | refine blk_drew ?_ | refine blk_alloc ?_ _)); refine blk_put (cs := #[.bool t234, .bool false, .bool false, .int .u64 0, .int .i64 0]) ?_ 2 _ rfl; (with_reducible repeat (first | refine blk_drewN ?_ _ | refine blk_drew ?_ | refine blk_alloc ?_ _)); refine blk_put (cs := #[.bool t234, .bool false, .bool false, .int .u64 0, .int .i64 0]) ?_ 1 _ rfl; (with_reducible repeat (first | refine blk_drewN ?_ _ | refine blk_drew ?_ | refine blk_alloc ?_ _)); refine blk_put (cs := #[.bool false, .bool false, .bool false, .int .u64 0, .int .i64 0]) ?_ 0 _ rfl; (with_reducible repeat (first | refine blk_drewN ?_ _ | refine blk_drew ?_ | refine blk_alloc ?_ _)); exact BK244.out⟩, ⟨by (with_reducible repeat (first | refine blk_drewN ?_ _ | refine blk_drew ?_ | refine blk_alloc ?_ _)); refine blk_put (cs := #[.bool t239, .bool true, .bool t241, .int .u64 t242, .int .i64 0]) ?_ 4 _ rfl; (with_reducible repeat (first | refine blk_drewN ?_ _ | refine blk_drew ?_ | refine blk_alloc ?_ _)); refine blk_put (cs := #[.bool t239, .bool true, .bool t241, .int .u64 0, .int .i64 0]) ?_ 3 _ rfl; (with_reducible repeat (first | refine blk_drewN ?_ _ | refine blk_drew ?_ | refine blk_alloc ?_ _)); refine blk_put (cs := #[.bool t239, .bool true, .bool false, .int .u64 0, .int .i64 0]) ?_ 2 _ rfl; (with_reducible repeat (first | refine blk_drewN ?_ _ | refine blk_drew ?_ | refine blk_alloc ?_ _)); refine blk_put (cs := #[.bool t239, .bool false, .bool false, .int .u64 0, .int .i64 0]) ?_ 1 _ rfl; (with_reducible repeat (first | refine blk_drewN ?_ _ | refine blk_drew ?_ | refine blk_alloc ?_ _)); refine blk_put (cs := #[.bool false, .bool false, .bool false, .int .u64 0, .int .i64 0]) ?_ 0 _ rfl; (with_reducible repeat (first | refine blk_drewN ?_ _ | refine blk_drew ?_ | refine blk_alloc ?_ _)); refine blk_far ?_ NB245_244.out _; (with_reducible repeat (first | refine blk_drewN ?_ _ | refine blk_drew ?_ | refine blk_alloc ?_ _)); refine blk_far ?_ NB245_244.out _; (with_reducible repeat (first | refine blk_drewN ?_ _ | refine blk_drew ?_ | refine blk_alloc ?_ _)); refine blk_far ?_ NB245_244.out _; (with_reducible repeat (first | refine blk_drewN ?_ _ | refine blk_drew ?_ | refine blk_alloc ?_ _)); refine blk_far ?_ NB245_244.out _; (with_reducible repeat (first | refine blk_drewN ?_ _ | refine blk_drew ?_ | refine blk_alloc ?_ _)); refine blk_far ?_ NB245_244.out _; (with_reducible repeat (first | refine blk_drewN ?_ _ | refine blk_drew ?_ | refine blk_alloc ?_ _)); exact BK245.out⟩, ⟨bw HB.out⟩⟩
    ·
     replace c33 := Bool.eq_false_iff.mpr c33
     subst c33
     have H1 : (if t236 = true then (if t241 = true then (impl_FAdd.j0 k (t234 != t239) t230 t231 t234 false t236 t237 t238 t239 false t241 t242 t243) else (impl_FAdd.j0 k false t230 t231 t234 false t236 t237 t238 t239 false t241 t242 t243)) else (impl_FAdd.j0 k false t230 t231 t234 false t236 t237 t238 t239 false t241 t242 t243)) = some r := by rw [if_neg (show ¬ (false = true) by decide)] at H; exact H
     clear H
     have H := H1
     clear H1
     by_cases c39 : t236 = true
     ·
      subst c39
      have H1 : (if t241 = true then (impl_FAdd.j0 k (t234 != t239) t230 t231 t234 false true t237 t238 t239 false t241 t242 t243) else (impl_FAdd.j0 k false t230 t231 t234 false true t237 t238 t239 false t241 t242 t243)) = some r := by rw [if_pos rfl] at H; exact H
      clear H
      have H := H1
      clear H1
      by_cases c40 : t241 = true
      ·
       subst c40
       have H1 : (impl_FAdd.j0 k (t234 != t239) t230 t231 t234 false true t237 t238 t239 false true t242 t243) = some r := by rw [if_pos rfl] at H; exact H
       clear H
       have H := H1
       clear H1
       have H' := Aside0.mk H
       clear H
       have hnb41 := NB244_233.out
       have hnc41 := NB233_244.out
       have hnb42 := NB244_245.out
       have hnc42 := NB245_244.out
       have hcz43_0 : w18.cell? ⟨gb244, 0, none⟩ = some (.bool false) := (blk_cell BK244.out 0).trans rfl
       have hcz43_1 : w18.cell? ⟨gb244, 1, none⟩ = some (.bool false) := (blk_cell BK244.out 1).trans rfl
       have hcz43_2 : w18.cell? ⟨gb244, 2, none⟩ = some (.bool false) := (blk_cell BK244.out 2).trans rfl
       have hcz43_3 : w18.cell? ⟨gb244, 3, none⟩ = some (.int .u64 0) := (blk_cell BK244.out 3).trans rfl
       have hcz43_4 : w18.cell? ⟨gb244, 4, none⟩ = some (.int .i64 0) := (blk_cell BK244.out 4).trans rfl
       have hfz43_0 := blk_frozen BK244.out 0
       have hfz43_1 := blk_frozen BK244.out 1
       have hfz43_2 := blk_frozen BK244.out 2
       have hfz43_3 := blk_frozen BK244.out 3
       have hfz43_4 := blk_frozen BK244.out 4
       have hnb44 := NB245_233.out
       have hnc44 := NB233_245.out
       have hcz45_0 : w18.cell? ⟨gb245, 0, none⟩ = some (.bool false) := (blk_cell BK245.out 0).trans rfl
       have hcz45_1 : w18.cell? ⟨gb245, 1, none⟩ = some (.bool false) := (blk_cell BK245.out 1).trans rfl
       have hcz45_2 : w18.cell? ⟨gb245, 2, none⟩ = some (.bool false) := (blk_cell BK245.out 2).trans rfl
       have hcz45_3 : w18.cell? ⟨gb245, 3, none⟩ = some (.int .u64 0) := (blk_cell BK245.out 3).trans rfl
       have hcz45_4 : w18.cell? ⟨gb245, 4, none⟩ = some (.int .i64 0) := (blk_cell BK245.out 4).trans rfl
       have hfz45_0 := blk_frozen BK245.out 0
       have hfz45_1 := blk_frozen BK245.out 1
       have hfz45_2 := blk_frozen BK245.out 2
       have hfz45_3 := blk_frozen BK245.out 3
       have hfz45_4 := blk_frozen BK245.out 4
       go_wp2
       go_meet
       case rel => exact ⟨_, ((t234 != t239)), (by first | rfl | (simp; done) | (simp [*]; done)), H', ⟨by first | omega | exact Nat.le_refl _⟩, ⟨by (with_reducible repeat (first | refine blk_drewN ?_ _ | refine blk_drew ?_ | refine blk_alloc ?_ _)); refine blk_far ?_ NB233_245.out _; (with_reducible repeat (first | refine blk_drewN ?_ _ | refine blk_drew ?_ | refine blk_alloc ?_ _)); refine blk_far ?_ NB233_245.out _; (with_reducible repeat (first | refine blk_drewN ?_ _ | refine blk_drew ?_ | refine blk_alloc ?_ _)); refine blk_far ?_ NB233_245.out _; (with_reducible repeat (first | refine blk_drewN ?_ _ | refine blk_drew ?_ | refine blk_alloc ?_ _)); refine blk_far ?_ NB233_245.out _; (with_reducible repeat (first | refine blk_drewN ?_ _ | refine blk_drew ?_ | refine blk_alloc ?_ _)); refine blk_far ?_ NB233_245.out _; (with_reducible repeat (first | refine blk_drewN ?_ _ | refine blk_drew ?_ | refine blk_alloc ?_ _)); refine blk_far ?_ NB233_244.out _; (with_reducible repeat (first | refine blk_drewN ?_ _ | refine blk_drew ?_ | refine blk_alloc ?_ _)); refine blk_far ?_ NB233_244.out _; (with_reducible repeat (first | refine blk_drewN ?_ _ | refine blk_drew ?_ | refine blk_alloc ?_ _)); refine blk_far ?_ NB233_244.out _; (with_reducible repeat (first | refine blk_drewN ?_ _ | refine blk_drew ?_ | refine blk_alloc ?_ _)); refine blk_far ?_ NB233_244.out _; (with_reducible repeat (first | refine blk_drewN ?_ _ | refine blk_drew ?_ | refine blk_alloc ?_ _)); refine blk_far ?_ NB233_244.out _; (with_reducible repeat (first | refine blk_drewN ?_ _ | refine blk_drew ?_ | refine blk_alloc ?_ _)); exact BK233.out⟩, ⟨by (with_reducible repeat (first | refine blk_drewN ?_ _ | refine blk_drew ?_ | refine blk_alloc ?_ _)); refine blk_far ?_ NB244_245.out _; (with_reducible repeat (first | refine blk_drewN ?_ _ | refine blk_drew ?_ | refine blk_alloc ?_ _)); refine blk_far ?_ NB244_245.out _; (with_reducible repeat (first | refine blk_drewN ?_ _ | refine blk_drew ?_ | refine blk_alloc ?_ _)); refine blk_far ?_ NB244_245.out _; (with_reducible repeat (first | refine blk_drewN ?_ _ | refine blk_drew ?_ | refine blk_alloc ?_ _)); refine blk_far ?_ NB244_245.out _; (with_reducible repeat (first | refine blk_drewN ?_ _ | refine blk_drew ?_ | refine blk_alloc ?_ _)); refine blk_far ?_ NB244_245.out _; (with_reducible repeat (first | refine blk_drewN ?_ _ | refine blk_drew ?_ | refine blk_alloc ?_ _)); refine blk_put (cs := #[.bool t234, .bool false, .bool true, .int .u64 t237, .int .i64 0]) ?_ 4 _ rfl; (with_reducible repeat (first | refine blk_drewN ?_ _ | refine blk_drew ?_ | refine blk_alloc ?_ _)); refine blk_put (cs := #[.bool t234, .bool false, .bool true, .int .u64 0, .int .i64 0]) ?_ 3 _ rfl; (with_reducible repeat (first | refine blk_drewN ?_ _ | refine blk_drew ?_ | refine blk_alloc ?_ _)); refine blk_put (cs := #[.bool t234, .bool false, .bool false, .int .u64 0, .int .i64 0]) ?_ 2 _ rfl; (with_reducible repeat (first | refine blk_drewN ?_ _ | refine blk_drew ?_ | refine blk_alloc ?_ _)); refine blk_put (cs := #[.bool t234, .bool false, .bool false, .int .u64 0, .int .i64 0]) ?_ 1 _ rfl; (with_reducible repeat (first | refine blk_drewN ?_ _ | refine blk_drew ?_ | refine blk_alloc ?_ _)); refine blk_put (cs := #[.bool false, .bool false, .bool false, .int .u64 0, .int .i64 0]) ?_ 0 _ rfl; (with_reducible repeat (first | refine blk_drewN ?_ _ | refine blk_drew ?_ | refine blk_alloc ?_ _)); exact BK244.out⟩, ⟨by (with_reducible repeat (first | refine blk_drewN ?_ _ | refine blk_drew ?_ | refine blk_alloc ?_ _)); refine blk_put (cs := #[.bool t239, .bool false, .bool true, .int .u64 t242, .int .i64 0]) ?_ 4 _ rfl; (with_reducible repeat (first | refine blk_drewN ?_ _ | refine blk_drew ?_ | refine blk_alloc ?_ _)); refine blk_put (cs := #[.bool t239, .bool false, .bool true, .int .u64 0, .int .i64 0]) ?_ 3 _ rfl; (with_reducible repeat (first | refine blk_drewN ?_ _ | refine blk_drew ?_ | refine blk_alloc ?_ _)); refine blk_put (cs := #[.bool t239, .bool false, .bool false, .int .u64 0, .int .i64 0]) ?_ 2 _ rfl; (with_reducible repeat (first | refine blk_drewN ?_ _ | refine blk_drew ?_ | refine blk_alloc ?_ _)); refine blk_put (cs := #[.bool t239, .bool false, .bool false, .int .u64 0, .int .i64 0]) ?_ 1 _ rfl; (with_reducible repeat (first | refine blk_drewN ?_ _ | refine blk_drew ?_ | refine blk_alloc ?_ _)); refine blk_put (cs := #[.bool false, .bool false, .bool false, .int .u64 0, .int .i64 0]) ?_ 0 _ rfl; (with_reducible repeat (first | refine blk_drewN ?_ _ | refine blk_drew ?_ | refine blk_alloc ?_ _)); refine blk_far ?_ NB245_244.out _; (with_reducible repeat (first | refine blk_drewN ?_ _ | refine blk_drew ?_ | refine blk_alloc ?_ _)); refine blk_far ?_ NB245_244.out _; (with_reducible repeat (first | refine blk_drewN ?_ _ | refine blk_drew ?_ | refine blk_alloc ?_ _)); refine blk_far ?_ NB245_244.out _; (with_reducible repeat (first | refine blk_drewN ?_ _ | refine blk_drew ?_ | refine blk_alloc ?_ _)); refine blk_far ?_ NB245_244.out _; (with_reducible repeat (first | refine blk_drewN ?_ _ | refine blk_drew ?_ | refine blk_alloc ?_ _)); refine blk_far ?_ NB245_244.out _; (with_reducible repeat (first | refine blk_drewN ?_ _ | refine blk_drew ?_ | refine blk_alloc ?_ _)); exact BK245.out⟩, ⟨bw HB.out⟩⟩
      ·
       replace c40 := Bool.eq_false_iff.mpr c40
       subst c40
       have H1 : (impl_FAdd.j0 k false t230 t231 t234 false true t237 t238 t239 false false t242 t243) = some r := by rw [if_neg (show ¬ (false = true) by decide)] at H; exact H
       clear H
       have H := H1
       clear H1
       have H' := Aside0.mk H
       clear H
       have hnb46 := NB244_233.out
       have hnc46 := NB233_244.out
       have hnb47 := NB244_245.out
       have hnc47 := NB245_244.out
       have hcz48_0 : w18.cell? ⟨gb244, 0, none⟩ = some (.bool false) := (blk_cell BK244.out 0).trans rfl
       have hcz48_1 : w18.cell? ⟨gb244, 1, none⟩ = some (.bool false) := (blk_cell BK244.out 1).trans rfl
       have hcz48_2 : w18.cell? ⟨gb244, 2, none⟩ = some (.bool false) := (blk_cell BK244.out 2).trans rfl
       have hcz48_3 : w18.cell? ⟨gb244, 3, none⟩ = some (.int .u64 0) := (blk_cell BK244.out 3).trans rfl
       have hcz48_4 : w18.cell? ⟨gb244, 4, none⟩ = some (.int .i64 0) := (blk_cell BK244.out 4).trans rfl
       have hfz48_0 := blk_frozen BK244.out 0
       have hfz48_1 := blk_frozen BK244.out 1
       have hfz48_2 := blk_frozen BK244.out 2
       have hfz48_3 := blk_frozen BK244.out 3
       have hfz48_4 := blk_frozen BK244.out 4
       have hnb49 := NB245_233.out
       have hnc49 := NB233_245.out
       have hcz50_0 : w18.cell? ⟨gb245, 0, none⟩ = some (.bool false) := (blk_cell BK245.out 0).trans rfl
       have hcz50_1 : w18.cell? ⟨gb245, 1, none⟩ = some (.bool false) := (blk_cell BK245.out 1).trans rfl
       have hcz50_2 : w18.cell? ⟨gb245, 2, none⟩ = some (.bool false) := (blk_cell BK245.out 2).trans rfl
       have hcz50_3 : w18.cell? ⟨gb245, 3, none⟩ = some (.int .u64 0) := (blk_cell BK245.out 3).trans rfl
       have hcz50_4 : w18.cell? ⟨gb245, 4, none⟩ = some (.int .i64 0) := (blk_cell BK245.out 4).trans rfl
       have hfz50_0 := blk_frozen BK245.out 0
       have hfz50_1 := blk_frozen BK245.out 1
       have hfz50_2 := blk_frozen BK245.out 2
       have hfz50_3 := blk_frozen BK245.out 3
       have hfz50_4 := blk_frozen BK245.out 4
       go_wp2
       go_meet
       case rel => exact ⟨_, (false), (by first | rfl | (simp; done) | (simp [*]; done)), H', ⟨by first | omega | exact Nat.le_refl _⟩, ⟨by (with_reducible repeat (first | refine blk_drewN ?_ _ | refine blk_drew ?_ | refine blk_alloc ?_ _)); refine blk_far ?_ NB233_245.out _; (with_reducible repeat (first | refine blk_drewN ?_ _ | refine blk_drew ?_ | refine blk_alloc ?_ _)); refine blk_far ?_ NB233_245.out _; (with_reducible repeat (first | refine blk_drewN ?_ _ | refine blk_drew ?_ | refine blk_alloc ?_ _)); refine blk_far ?_ NB233_245.out _; (with_reducible repeat (first | refine blk_drewN ?_ _ | refine blk_drew ?_ | refine blk_alloc ?_ _)); refine blk_far ?_ NB233_245.out _; (with_reducible repeat (first | refine blk_drewN ?_ _ | refine blk_drew ?_ | refine blk_alloc ?_ _)); refine blk_far ?_ NB233_245.out _; (with_reducible repeat (first | refine blk_drewN ?_ _ | refine blk_drew ?_ | refine blk_alloc ?_ _)); refine blk_far ?_ NB233_244.out _; (with_reducible repeat (first | refine blk_drewN ?_ _ | refine blk_drew ?_ | refine blk_alloc ?_ _)); refine blk_far ?_ NB233_244.out _; (with_reducible repeat (first | refine blk_drewN ?_ _ | refine blk_drew ?_ | refine blk_alloc ?_ _)); refine blk_far ?_ NB233_244.out _; (with_reducible repeat (first | refine blk_drewN ?_ _ | refine blk_drew ?_ | refine blk_alloc ?_ _)); refine blk_far ?_ NB233_244.out _; (with_reducible repeat (first | refine blk_drewN ?_ _ | refine blk_drew ?_ | refine blk_alloc ?_ _)); refine blk_far ?_ NB233_244.out _; (with_reducible repeat (first | refine blk_drewN ?_ _ | refine blk_drew ?_ | refine blk_alloc ?_ _)); exact BK233.out⟩, ⟨by (with_reducible repeat (first | refine blk_drewN ?_ _ | refine blk_drew ?_ | refine blk_alloc ?_ _)); refine blk_far ?_ NB244_245.out _; (with_reducible repeat (first | refine blk_drewN ?_ _ | refine blk_drew ?_ | refine blk_alloc ?_ _)); refine blk_far ?_ NB244_245.out _; (with_reducible repeat (first | refine blk_drewN ?_ _ | refine blk_drew ?_ | refine blk_alloc ?_ _)); refine blk_far ?_ NB244_245.out _; (with_reducible repeat (first | refine blk_drewN ?_ _ | refine blk_drew ?_ | refine blk_alloc ?_ _)); refine blk_far ?_ NB244_245.out _; (with_reducible repeat (first | refine blk_drewN ?_ _ | refine blk_drew ?_ | refine blk_alloc ?_ _)); refine blk_far ?_ NB244_245.out _; (with_reducible repeat (first | refine blk_drewN ?_ _ | refine blk_drew ?_ | refine blk_alloc ?_ _)); refine blk_put (cs := #[.bool t234, .bool false, .bool true, .int .u64 t237, .int .i64 0]) ?_ 4 _ rfl; (with_reducible repeat (first | refine blk_drewN ?_ _ | refine blk_drew ?_ | refine blk_alloc ?_ _)); refine blk_put (cs := #[.bool t234, .bool false, .bool true, .int .u64 0, .int .i64 0]) ?_ 3 _ rfl; (with_reducible repeat (first | refine blk_drewN ?_ _ | refine blk_drew ?_ | refine blk_alloc ?_ _)); refine blk_put (cs := #[.bool t234, .bool false, .bool false, .int .u64 0, .int .i64 0]) ?_ 2 _ rfl; (with_reducible repeat (first | refine blk_drewN ?_ _ | refine blk_drew ?_ | refine blk_alloc ?_ _)); refine blk_put (cs := #[.bool t234, .bool false, .bool false, .int .u64 0, .int .i64 0]) ?_ 1 _ rfl; (with_reducible repeat (first | refine blk_drewN ?_ _ | refine blk_drew ?_ | refine blk_alloc ?_ _)); refine blk_put (cs := #[.bool false, .bool false, .bool false, .int .u64 0, .int .i64 0]) ?_ 0 _ rfl; (with_reducible repeat (first | refine blk_drewN ?_ _ | refine blk_drew ?_ | refine blk_alloc ?_ _)); exact BK244.out⟩, ⟨by (with_reducible repeat (first | refine blk_drewN ?_ _ | refine blk_drew ?_ | refine blk_alloc ?_ _)); refine blk_put (cs := #[.bool t239, .bool false, .bool false, .int .u64 t242, .int .i64 0]) ?_ 4 _ rfl; (with_reducible repeat (first | refine blk_drewN ?_ _ | refine blk_drew ?_ | refine blk_alloc ?_ _)); refine blk_put (cs := #[.bool t239, .bool false, .bool false, .int .u64 0, .int .i64 0]) ?_ 3 _ rfl; (with_reducible repeat (first | refine blk_drewN ?_ _ | refine blk_drew ?_ | refine blk_alloc ?_ _)); refine blk_put (cs := #[.bool t239, .bool false, .bool false, .int .u64 0, .int .i64 0]) ?_ 2 _ rfl; (with_reducible repeat (first | refine blk_drewN ?_ _ | refine blk_drew ?_ | refine blk_alloc ?_ _)); refine blk_put (cs := #[.bool t239, .bool false, .bool false, .int .u64 0, .int .i64 0]) ?_ 1 _ rfl; (with_reducible repeat (first | refine blk_drewN ?_ _ | refine blk_drew ?_ | refine blk_alloc ?_ _)); refine blk_put (cs := #[.bool false, .bool false, .bool false, .int .u64 0, .int .i64 0]) ?_ 0 _ rfl; (with_reducible repeat (first | refine blk_drewN ?_ _ | refine blk_drew ?_ | refine blk_alloc ?_ _)); refine blk_far ?_ NB245_244.out _; (with_reducible repeat (first | refine blk_drewN ?_ _ | refine blk_drew ?_ | refine blk_alloc ?_ _)); refine blk_far ?_ NB245_244.out _; (with_reducible repeat (first | refine blk_drewN ?_ _ | refine blk_drew ?_ | refine blk_alloc ?_ _)); refine blk_far ?_ NB245_244.out _; (with_reducible repeat (first | refine blk_drewN ?_ _ | refine blk_drew ?_ | refine blk_alloc ?_ _)); refine blk_far ?_ NB245_244.out _; (with_reducible repeat (first | refine blk_drewN ?_ _ | refine blk_drew ?_ | refine blk_alloc ?_ _)); refine blk_far ?_ NB245_244.out _; (with_reducible repeat (first | refine blk_drewN ?_ _ | refine blk_drew ?_ | refine blk_alloc ?_ _)); exact BK245.out⟩, ⟨bw HB.out⟩⟩
     ·
      replace c39 := Bool.eq_false_iff.mpr c39
      subst c39
      have H1 : (impl_FAdd.j0 k false t230 t231 t234 false false t237 t238 t239 false t241 t242 t243) = some r := by rw [if_neg (show ¬ (false = true) by decide)] at H; exact H
      clear H
      have H := H1
      clear H1
      have H' := Aside0.mk H
      clear H
      have hnb51 := NB244_233.out
      have hnc51 := NB233_244.out
      have hnb52 := NB244_245.out
      have hnc52 := NB245_244.out
      have hcz53_0 : w18.cell? ⟨gb244, 0, none⟩ = some (.bool false) := (blk_cell BK244.out 0).trans rfl
      have hcz53_1 : w18.cell? ⟨gb244, 1, none⟩ = some (.bool false) := (blk_cell BK244.out 1).trans rfl
      have hcz53_2 : w18.cell? ⟨gb244, 2, none⟩ = some (.bool false) := (blk_cell BK244.out 2).trans rfl
      have hcz53_3 : w18.cell? ⟨gb244, 3, none⟩ = some (.int .u64 0) := (blk_cell BK244.out 3).trans rfl
      have hcz53_4 : w18.cell? ⟨gb244, 4, none⟩ = some (.int .i64 0) := (blk_cell BK244.out 4).trans rfl
      have hfz53_0 := blk_frozen BK244.out 0
      have hfz53_1 := blk_frozen BK244.out 1
      have hfz53_2 := blk_frozen BK244.out 2
      have hfz53_3 := blk_frozen BK244.out 3
      have hfz53_4 := blk_frozen BK244.out 4
      have hnb54 := NB245_233.out
      have hnc54 := NB233_245.out
      have hcz55_0 : w18.cell? ⟨gb245, 0, none⟩ = some (.bool false) := (blk_cell BK245.out 0).trans rfl
      have hcz55_1 : w18.cell? ⟨gb245, 1, none⟩ = some (.bool false) := (blk_cell BK245.out 1).trans rfl
      have hcz55_2 : w18.cell? ⟨gb245, 2, none⟩ = some (.bool false) := (blk_cell BK245.out 2).trans rfl
      have hcz55_3 : w18.cell? ⟨gb245, 3, none⟩ = some (.int .u64 0) := (blk_cell BK245.out 3).trans rfl
      have hcz55_4 : w18.cell? ⟨gb245, 4, none⟩ = some (.int .i64 0) := (blk_cell BK245.out 4).trans rfl
      have hfz55_0 := blk_frozen BK245.out 0
      have hfz55_1 := blk_frozen BK245.out 1
      have hfz55_2 := blk_frozen BK245.out 2
      have hfz55_3 := blk_frozen BK245.out 3
      have hfz55_4 := blk_frozen BK245.out 4
      go_wp2
      go_meet
      case rel => exact ⟨_, (false), (by first | rfl | (simp; done) | (simp [*]; done)), H', ⟨by first | omega | exact Nat.le_refl _⟩, ⟨by (with_reducible repeat (first | refine blk_drewN ?_ _ | refine blk_drew ?_ | refine blk_alloc ?_ _)); refine blk_far ?_ NB233_245.out _; (with_reducible repeat (first | refine blk_drewN ?_ _ | refine blk_drew ?_ | refine blk_alloc ?_ _)); refine blk_far ?_ NB233_245.out _; (with_reducible repeat (first | refine blk_drewN ?_ _ | refine blk_drew ?_ | refine blk_alloc ?_ _)); refine blk_far ?_ NB233_245.out _; (with_reducible repeat (first | refine blk_drewN ?_ _ | refine blk_drew ?_ | refine blk_alloc ?_ _)); refine blk_far ?_ NB233_245.out _; (with_reducible repeat (first | refine blk_drewN ?_ _ | refine blk_drew ?_ | refine blk_alloc ?_ _)); refine blk_far ?_ NB233_245.out _; (with_reducible repeat (first | refine blk_drewN ?_ _ | refine blk_drew ?_ | refine blk_alloc ?_ _)); refine blk_far ?_ NB233_244.out _; (with_reducible repeat (first | refine blk_drewN ?_ _ | refine blk_drew ?_ | refine blk_alloc ?_ _)); refine blk_far ?_ NB233_244.out _; (with_reducible repeat (first | refine blk_drewN ?_ _ | refine blk_drew ?_ | refine blk_alloc ?_ _)); refine blk_far ?_ NB233_244.out _; (with_reducible repeat (first | refine blk_drewN ?_ _ | refine blk_drew ?_ | refine blk_alloc ?_ _)); refine blk_far ?_ NB233_244.out _; (with_reducible repeat (first | refine blk_drewN ?_ _ | refine blk_drew ?_ | refine blk_alloc ?_ _)); refine blk_far ?_ NB233_244.out _; (with_reducible repeat (first | refine blk_drewN ?_ _ | refine blk_drew ?_ | refine blk_alloc ?_ _)); exact BK233.out⟩, ⟨by (with_reducible repeat (first | refine blk_drewN ?_ _ | refine blk_drew ?_ | refine blk_alloc ?_ _)); refine blk_far ?_ NB244_245.out _; (with_reducible repeat (first | refine blk_drewN ?_ _ | refine blk_drew ?_ | refine blk_alloc ?_ _)); refine blk_far ?_ NB244_245.out _; (with_reducible repeat (first | refine blk_drewN ?_ _ | refine blk_drew ?_ | refine blk_alloc ?_ _)); refine blk_far ?_ NB244_245.out _; (with_reducible repeat (first | refine blk_drewN ?_ _ | refine blk_drew ?_ | refine blk_alloc ?_ _)); refine blk_far ?_ NB244_245.out _; (with_reducible repeat (first | refine blk_drewN ?_ _ | refine blk_drew ?_ | refine blk_alloc ?_ _)); refine blk_far ?_ NB244_245.out _; (with_reducible repeat (first | refine blk_drewN ?_ _ | refine blk_drew ?_ | refine blk_alloc ?_ _)); refine blk_put (cs := #[.bool t234, .bool false, .bool false, .int .u64 t237, .int .i64 0]) ?_ 4 _ rfl; (with_reducible repeat (first | refine blk_drewN ?_ _ | refine blk_drew ?_ | refine blk_alloc ?_ _)); refine blk_put (cs := #[.bool t234, .bool false, .bool false, .int .u64 0, .int .i64 0]) ?_ 3 _ rfl; (with_reducible repeat (first | refine blk_drewN ?_ _ | refine blk_drew ?_ | refine blk_alloc ?_ _)); refine blk_put (cs := #[.bool t234, .bool false, .bool false, .int .u64 0, .int .i64 0]) ?_ 2 _ rfl; (with_reducible repeat (first | refine blk_drewN ?_ _ | refine blk_drew ?_ | refine blk_alloc ?_ _)); refine blk_put (cs := #[.bool t234, .bool false, .bool false, .int .u64 0, .int .i64 0]) ?_ 1 _ rfl; (with_reducible repeat (first | refine blk_drewN ?_ _ | refine blk_drew ?_ | refine blk_alloc ?_ _)); refine blk_put (cs := #[.bool false, .bool false, .bool false, .int .u64 0, .int .i64 0]) ?_ 0 _ rfl; (with_reducible repeat (first | refine blk_drewN ?_ _ | refine blk_drew ?_ | refine blk_alloc ?_ _)); exact BK244.out⟩, ⟨by (with_reducible repeat (first | refine blk_drewN ?_ _ | refine blk_drew ?_ | refine blk_alloc ?_ _)); refine blk_put (cs := #[.bool t239, .bool false, .bool t241, .int .u64 t242, .int .i64 0]) ?_ 4 _ rfl; (with_reducible repeat (first | refine blk_drewN ?_ _ | refine blk_drew ?_ | refine blk_alloc ?_ _)); refine blk_put (cs := #[.bool t239, .bool false, .bool t241, .int .u64 0, .int .i64 0]) ?_ 3 _ rfl; (with_reducible repeat (first | refine blk_drewN ?_ _ | refine blk_drew ?_ | refine blk_alloc ?_ _)); refine blk_put (cs := #[.bool t239, .bool false, .bool false, .int .u64 0, .int .i64 0]) ?_ 2 _ rfl; (with_reducible repeat (first | refine blk_drewN ?_ _ | refine blk_drew ?_ | refine blk_alloc ?_ _)); refine blk_put (cs := #[.bool t239, .bool false, .bool false, .int .u64 0, .int .i64 0]) ?_ 1 _ rfl; (with_reducible repeat (first | refine blk_drewN ?_ _ | refine blk_drew ?_ | refine blk_alloc ?_ _)); refine blk_put (cs := #[.bool false, .bool false, .bool false, .int .u64 0, .int .i64 0]) ?_ 0 _ rfl; (with_reducible repeat (first | refine blk_drewN ?_ _ | refine blk_drew ?_ | refine blk_alloc ?_ _)); refine blk_far ?_ NB245_244.out _; (with_reducible repeat (first | refine blk_drewN ?_ _ | refine blk_drew ?_ | refine blk_alloc ?_ _)); refine blk_far ?_ NB245_244.out _; (with_reducible repeat (first | refine blk_drewN ?_ _ | refine blk_drew ?_ | refine blk_alloc ?_ _)); refine blk_far ?_ NB245_244.out _; (with_reducible repeat (first | refine blk_drewN ?_ _ | refine blk_drew ?_ | refine blk_alloc ?_ _)); refine blk_far ?_ NB245_244.out _; (with_reducible repeat (first | refine blk_drewN ?_ _ | refine blk_drew ?_ | refine blk_alloc ?_ _)); refine blk_far ?_ NB245_244.out _; (with_reducible repeat (first | refine blk_drewN ?_ _ | refine blk_drew ?_ | refine blk_alloc ?_ _)); exact BK245.out⟩, ⟨bw HB.out⟩⟩
  case rest =>
   clear HC8
   try clear c2
   try clear p2
   try clear c3
   try clear c4
   try clear c5
   try clear c29
   try clear c30
   try clear c31
   try clear c33
   try clear c34
   try clear c35
   try clear c37
   try clear c39
   try clear c40
   try clear c41
   try clear c42
   try clear c44
   try clear c46
   try clear c47
   try clear c49
   try clear c51
   try clear c52
   try clear c54
   try clear hcz32_0 hcz32_1 hcz32_2 hcz32_3 hcz32_4
   try clear hcz36_0 hcz36_1 hcz36_2 hcz36_3 hcz36_4
   try clear hcz38_0 hcz38_1 hcz38_2 hcz38_3 hcz38_4
   try clear hcz43_0 hcz43_1 hcz43_2 hcz43_3 hcz43_4
   try clear hcz45_0 hcz45_1 hcz45_2 hcz45_3 hcz45_4
   try clear hcz48_0 hcz48_1 hcz48_2 hcz48_3 hcz48_4
   try clear hcz50_0 hcz50_1 hcz50_2 hcz50_3 hcz50_4
   try clear hcz53_0 hcz53_1 hcz53_2 hcz53_3 hcz53_4
   try clear hcz55_0 hcz55_1 hcz55_2 hcz55_3 hcz55_4
   try clear hfz32_0 hfz32_1 hfz32_2 hfz32_3 hfz32_4
   try clear hfz36_0 hfz36_1 hfz36_2 hfz36_3 hfz36_4
   try clear hfz38_0 hfz38_1 hfz38_2 hfz38_3 hfz38_4
   try clear hfz43_0 hfz43_1 hfz43_2 hfz43_3 hfz43_4
   try clear hfz45_0 hfz45_1 hfz45_2 hfz45_3 hfz45_4
   try clear hfz48_0 hfz48_1 hfz48_2 hfz48_3 hfz48_4
   try clear hfz50_0 hfz50_1 hfz50_2 hfz50_3 hfz50_4
   try clear hfz53_0 hfz53_1 hfz53_2 hfz53_3 hfz53_4
   try clear hfz55_0 hfz55_1 hfz55_2 hfz55_3 hfz55_4
   obtain ⟨kq, x24_7, rfl, HA, HJ7, BK233, BK244, BK245, HB⟩ := hcut
   cases kq with
   | zero => exact absurd HA.out (by simp [impl_FAdd.j0])
   | succ kj7 =>
    have H := HA.out
    clear HA
    simp only [impl_FAdd.j0] at H
    by_cases c56 : x24_7 = true
    ·
     subst c56
     have H1 : ((impl_format_noNumber.f t230 t231).bind fun t246 => (some t246)) = some r := by rw [if_pos rfl] at H; exact H
     clear H
     have H := H1
     clear H1
     replace H := Option.bind_eq_some_iff.mp H
     obtain ⟨t246, A570, H⟩ := H
     replace H : (some t246) = some r := H
     have A57 := Aside0.mk A570
     clear A570
     obtain rfl := Option.some.inj H
     simp only [Option.some.injEq, Prod.mk.injEq] at H
     obtain ⟨rfl⟩ := H
     have hnb58 := NB233_244.out
     have hnc58 := NB244_233.out
     have hnb59 := NB233_245.out
     have hnc59 := NB245_233.out
     have hcz60_0 : wc.cell? ⟨gb233, 0, none⟩ = some (.int .i64 t230) := (blk_cell BK233.out 0).trans rfl
     have hcz60_1 : wc.cell? ⟨gb233, 1, none⟩ = some (.int .i64 t231) := (blk_cell BK233.out 1).trans rfl
     have hfz60_0 := blk_frozen BK233.out 0
     have hfz60_1 := blk_frozen BK233.out 1
     go_wp2_with (first | ((with_reducible refine gate_callee (f := 53) rfl ?_); refine goesL_ (some 47) rfl rfl Try.func53 (by kernel_rfl) rfl #[.agg #[.int .i64 t230, .int .i64 t231]] rfl ar ?_; (with_reducible refine (impl_format_noNumber.calls t230 t231 t246 _ A57.out).mono ?_); rintro e w61 ⟨rfl, hb⟩; refine ⟨_, rfl, ?_⟩; have n0_ := Aside0.mk (blk_below (g := gb233) (o := .cells #[.int .i64 t230, .int .i64 t231] 62 (0, 0)) (bk BK233.out) hb); have n1_ := Aside0.mk (blk_below (g := gb244) (o := .cells #[.bool t234, .bool t235, .bool t236, .int .u64 t237, .int .i64 t238] 66 (0, 0)) (bk BK244.out) hb); have n2_ := Aside0.mk (blk_below (g := gb245) (o := .cells #[.bool t239, .bool t240, .bool t241, .int .u64 t242, .int .i64 t243] 66 (0, 0)) (bk BK245.out) hb); have n3_ := Aside0.mk (below_step (bw HB.out) hb); clear BK233; clear BK244; clear BK245; clear HB; have BK233 := n0_; have BK244 := n1_; have BK245 := n2_; have HB := n3_; clear n0_ n1_ n2_ n3_; (try clear hb)))
     go_ret
     exact ⟨by first | rfl | (simp [errW_none, errW_some] <;> rfl) | (simp [*, errW_none, errW_some] <;> rfl), bw HB.out⟩
    ·
     replace c56 := Bool.eq_false_iff.mpr c56
     subst c56
     have H1 : (if t236 = true then ((impl_format_infinite.f t230 t231 t234).bind fun t247 => (some t247)) else (if t241 = true then ((impl_format_infinite.f t230 t231 t239).bind fun t248 => (some t248)) else ((impl_format_sum.f kj7 t230 t231 t234 t235 t236 t237 t238 t239 t240 t241 t242 t243).bind fun t249 => (some t249)))) = some r := by rw [if_neg (show ¬ (false = true) by decide)] at H; exact H
     clear H
     have H := H1
     clear H1
     by_cases c62 : t236 = true
     ·
      subst c62
      have H1 : ((impl_format_infinite.f t230 t231 t234).bind fun t247 => (some t247)) = some r := by rw [if_pos rfl] at H; exact H
      clear H
      have H := H1
      clear H1
      replace H := Option.bind_eq_some_iff.mp H
      obtain ⟨t247, A630, H⟩ := H
      replace H : (some t247) = some r := H
      have A63 := Aside0.mk A630
      clear A630
      obtain rfl := Option.some.inj H
      simp only [Option.some.injEq, Prod.mk.injEq] at H
      obtain ⟨rfl⟩ := H
      have hnb64 := NB244_233.out
      have hnc64 := NB233_244.out
      have hnb65 := NB244_245.out
      have hnc65 := NB245_244.out
      have hcz66_0 : wc.cell? ⟨gb244, 0, none⟩ = some (.bool t234) := (blk_cell BK244.out 0).trans rfl
      have hcz66_1 : wc.cell? ⟨gb244, 1, none⟩ = some (.bool t235) := (blk_cell BK244.out 1).trans rfl
      have hcz66_2 : wc.cell? ⟨gb244, 2, none⟩ = some (.bool true) := (blk_cell BK244.out 2).trans rfl
      have hcz66_3 : wc.cell? ⟨gb244, 3, none⟩ = some (.int .u64 t237) := (blk_cell BK244.out 3).trans rfl
      have hcz66_4 : wc.cell? ⟨gb244, 4, none⟩ = some (.int .i64 t238) := (blk_cell BK244.out 4).trans rfl
      have hfz66_0 := blk_frozen BK244.out 0
      have hfz66_1 := blk_frozen BK244.out 1
      have hfz66_2 := blk_frozen BK244.out 2
      have hfz66_3 := blk_frozen BK244.out 3
      have hfz66_4 := blk_frozen BK244.out 4
      have hnb67 := NB233_245.out
      have hnc67 := NB245_233.out
      have hcz68_0 : wc.cell? ⟨gb233, 0, none⟩ = some (.int .i64 t230) := (blk_cell BK233.out 0).trans rfl
      have hcz68_1 : wc.cell? ⟨gb233, 1, none⟩ = some (.int .i64 t231) := (blk_cell BK233.out 1).trans rfl
      have hfz68_0 := blk_frozen BK233.out 0
      have hfz68_1 := blk_frozen BK233.out 1
      go_wp2_with (first | ((with_reducible refine gate_callee (f := 54) rfl ?_); refine goesL_ (some 54) rfl rfl Try.func54 (by kernel_rfl) rfl #[.agg #[.int .i64 t230, .int .i64 t231], .bool t234] rfl ar ?_; (with_reducible refine (impl_format_infinite.calls t230 t231 t234 t247 _ A63.out).mono ?_); rintro e w69 ⟨rfl, hb⟩; refine ⟨_, rfl, ?_⟩; have n0_ := Aside0.mk (blk_below (g := gb233) (o := .cells #[.int .i64 t230, .int .i64 t231] 62 (0, 0)) (bk BK233.out) hb); have n1_ := Aside0.mk (blk_below (g := gb244) (o := .cells #[.bool t234, .bool t235, .bool true, .int .u64 t237, .int .i64 t238] 66 (0, 0)) (bk BK244.out) hb); have n2_ := Aside0.mk (blk_below (g := gb245) (o := .cells #[.bool t239, .bool t240, .bool t241, .int .u64 t242, .int .i64 t243] 66 (0, 0)) (bk BK245.out) hb); have n3_ := Aside0.mk (below_step (bw HB.out) hb); clear BK233; clear BK244; clear BK245; clear HB; have BK233 := n0_; have BK244 := n1_; have BK245 := n2_; have HB := n3_; clear n0_ n1_ n2_ n3_; (try clear hb)))
      go_ret
      exact ⟨by first | rfl | (simp [errW_none, errW_some] <;> rfl) | (simp [*, errW_none, errW_some] <;> rfl), bw HB.out⟩
     ·
      replace c62 := Bool.eq_false_iff.mpr c62
      subst c62
      have H1 : (if t241 = true then ((impl_format_infinite.f t230 t231 t239).bind fun t248 => (some t248)) else ((impl_format_sum.f kj7 t230 t231 t234 t235 false t237 t238 t239 t240 t241 t242 t243).bind fun t249 => (some t249))) = some r := by rw [if_neg (show ¬ (false = true) by decide)] at H; exact H
      clear H
      have H := H1
      clear H1
      by_cases c70 : t241 = true
      ·
       subst c70
       have H1 : ((impl_format_infinite.f t230 t231 t239).bind fun t248 => (some t248)) = some r := by rw [if_pos rfl] at H; exact H
       clear H
       have H := H1
       clear H1
       replace H := Option.bind_eq_some_iff.mp H
       obtain ⟨t248, A710, H⟩ := H
       replace H : (some t248) = some r := H
       have A71 := Aside0.mk A710
       clear A710
       obtain rfl := Option.some.inj H
       simp only [Option.some.injEq, Prod.mk.injEq] at H
       obtain ⟨rfl⟩ := H
       have hnb72 := NB244_233.out
       have hnc72 := NB233_244.out
       have hnb73 := NB244_245.out
       have hnc73 := NB245_244.out
       have hcz74_0 : wc.cell? ⟨gb244, 0, none⟩ = some (.bool t234) := (blk_cell BK244.out 0).trans rfl
       have hcz74_1 : wc.cell? ⟨gb244, 1, none⟩ = some (.bool t235) := (blk_cell BK244.out 1).trans rfl
       have hcz74_2 : wc.cell? ⟨gb244, 2, none⟩ = some (.bool false) := (blk_cell BK244.out 2).trans rfl
       have hcz74_3 : wc.cell? ⟨gb244, 3, none⟩ = some (.int .u64 t237) := (blk_cell BK244.out 3).trans rfl
       have hcz74_4 : wc.cell? ⟨gb244, 4, none⟩ = some (.int .i64 t238) := (blk_cell BK244.out 4).trans rfl
       have hfz74_0 := blk_frozen BK244.out 0
       have hfz74_1 := blk_frozen BK244.out 1
       have hfz74_2 := blk_frozen BK244.out 2
       have hfz74_3 := blk_frozen BK244.out 3
       have hfz74_4 := blk_frozen BK244.out 4
       have hnb75 := NB245_233.out
       have hnc75 := NB233_245.out
       have hcz76_0 : wc.cell? ⟨gb245, 0, none⟩ = some (.bool t239) := (blk_cell BK245.out 0).trans rfl
       have hcz76_1 : wc.cell? ⟨gb245, 1, none⟩ = some (.bool t240) := (blk_cell BK245.out 1).trans rfl
       have hcz76_2 : wc.cell? ⟨gb245, 2, none⟩ = some (.bool true) := (blk_cell BK245.out 2).trans rfl
       have hcz76_3 : wc.cell? ⟨gb245, 3, none⟩ = some (.int .u64 t242) := (blk_cell BK245.out 3).trans rfl
       have hcz76_4 : wc.cell? ⟨gb245, 4, none⟩ = some (.int .i64 t243) := (blk_cell BK245.out 4).trans rfl
       have hfz76_0 := blk_frozen BK245.out 0
       have hfz76_1 := blk_frozen BK245.out 1
       have hfz76_2 := blk_frozen BK245.out 2
       have hfz76_3 := blk_frozen BK245.out 3
       have hfz76_4 := blk_frozen BK245.out 4
       have hcz77_0 : wc.cell? ⟨gb233, 0, none⟩ = some (.int .i64 t230) := (blk_cell BK233.out 0).trans rfl
       have hcz77_1 : wc.cell? ⟨gb233, 1, none⟩ = some (.int .i64 t231) := (blk_cell BK233.out 1).trans rfl
       have hfz77_0 := blk_frozen BK233.out 0
       have hfz77_1 := blk_frozen BK233.out 1
       go_wp2_with (first | ((with_reducible refine gate_callee (f := 54) rfl ?_); refine goesL_ (some 61) rfl rfl Try.func54 (by kernel_rfl) rfl #[.agg #[.int .i64 t230, .int .i64 t231], .bool t239] rfl ar ?_; (with_reducible refine (impl_format_infinite.calls t230 t231 t239 t248 _ A71.out).mono ?_); rintro e w78 ⟨rfl, hb⟩; refine ⟨_, rfl, ?_⟩; have n0_ := Aside0.mk (blk_below (g := gb233) (o := .cells #[.int .i64 t230, .int .i64 t231] 62 (0, 0)) (bk BK233.out) hb); have n1_ := Aside0.mk (blk_below (g := gb244) (o := .cells #[.bool t234, .bool t235, .bool false, .int .u64 t237, .int .i64 t238] 66 (0, 0)) (bk BK244.out) hb); have n2_ := Aside0.mk (blk_below (g := gb245) (o := .cells #[.bool t239, .bool t240, .bool true, .int .u64 t242, .int .i64 t243] 66 (0, 0)) (bk BK245.out) hb); have n3_ := Aside0.mk (below_step (bw HB.out) hb); clear BK233; clear BK244; clear BK245; clear HB; have BK233 := n0_; have BK244 := n1_; have BK245 := n2_; have HB := n3_; clear n0_ n1_ n2_ n3_; (try clear hb)))
       go_ret
       exact ⟨by first | rfl | (simp [errW_none, errW_some] <;> rfl) | (simp [*, errW_none, errW_some] <;> rfl), bw HB.out⟩
      ·
       replace c70 := Bool.eq_false_iff.mpr c70
       subst c70
       have H1 : ((impl_format_sum.f kj7 t230 t231 t234 t235 false t237 t238 t239 t240 false t242 t243).bind fun t249 => (some t249)) = some r := by rw [if_neg (show ¬ (false = true) by decide)] at H; exact H
       clear H
       have H := H1
       clear H1
       replace H := Option.bind_eq_some_iff.mp H
       obtain ⟨t249, A790, H⟩ := H
       replace H : (some t249) = some r := H
       have A79 := Aside0.mk A790
       clear A790
       obtain rfl := Option.some.inj H
       simp only [Option.some.injEq, Prod.mk.injEq] at H
       obtain ⟨rfl⟩ := H
       have hnb80 := NB244_233.out
       have hnc80 := NB233_244.out
       have hnb81 := NB244_245.out
       have hnc81 := NB245_244.out
       have hcz82_0 : wc.cell? ⟨gb244, 0, none⟩ = some (.bool t234) := (blk_cell BK244.out 0).trans rfl
       have hcz82_1 : wc.cell? ⟨gb244, 1, none⟩ = some (.bool t235) := (blk_cell BK244.out 1).trans rfl
       have hcz82_2 : wc.cell? ⟨gb244, 2, none⟩ = some (.bool false) := (blk_cell BK244.out 2).trans rfl
       have hcz82_3 : wc.cell? ⟨gb244, 3, none⟩ = some (.int .u64 t237) := (blk_cell BK244.out 3).trans rfl
       have hcz82_4 : wc.cell? ⟨gb244, 4, none⟩ = some (.int .i64 t238) := (blk_cell BK244.out 4).trans rfl
       have hfz82_0 := blk_frozen BK244.out 0
       have hfz82_1 := blk_frozen BK244.out 1
       have hfz82_2 := blk_frozen BK244.out 2
       have hfz82_3 := blk_frozen BK244.out 3
       have hfz82_4 := blk_frozen BK244.out 4
       have hnb83 := NB245_233.out
       have hnc83 := NB233_245.out
       have hcz84_0 : wc.cell? ⟨gb245, 0, none⟩ = some (.bool t239) := (blk_cell BK245.out 0).trans rfl
       have hcz84_1 : wc.cell? ⟨gb245, 1, none⟩ = some (.bool t240) := (blk_cell BK245.out 1).trans rfl
       have hcz84_2 : wc.cell? ⟨gb245, 2, none⟩ = some (.bool false) := (blk_cell BK245.out 2).trans rfl
       have hcz84_3 : wc.cell? ⟨gb245, 3, none⟩ = some (.int .u64 t242) := (blk_cell BK245.out 3).trans rfl
       have hcz84_4 : wc.cell? ⟨gb245, 4, none⟩ = some (.int .i64 t243) := (blk_cell BK245.out 4).trans rfl
       have hfz84_0 := blk_frozen BK245.out 0
       have hfz84_1 := blk_frozen BK245.out 1
       have hfz84_2 := blk_frozen BK245.out 2
       have hfz84_3 := blk_frozen BK245.out 3
       have hfz84_4 := blk_frozen BK245.out 4
       have hcz85_0 : wc.cell? ⟨gb233, 0, none⟩ = some (.int .i64 t230) := (blk_cell BK233.out 0).trans rfl
       have hcz85_1 : wc.cell? ⟨gb233, 1, none⟩ = some (.int .i64 t231) := (blk_cell BK233.out 1).trans rfl
       have hfz85_0 := blk_frozen BK233.out 0
       have hfz85_1 := blk_frozen BK233.out 1
       go_wp2_with (first | ((with_reducible refine gate_callee (f := 67) rfl ?_); refine goesL_ (some 65) rfl rfl Try.func67 (by kernel_rfl) rfl #[.agg #[.int .i64 t230, .int .i64 t231], .agg #[.bool t234, .bool t235, .bool false, .int .u64 t237, .int .i64 t238], .agg #[.bool t239, .bool t240, .bool false, .int .u64 t242, .int .i64 t243]] rfl ar ?_; (with_reducible refine (impl_format_sum.calls kj7 t230 t231 t234 t235 false t237 t238 t239 t240 false t242 t243 t249 _ A79.out).mono ?_); rintro e w86 ⟨rfl, hb⟩; refine ⟨_, rfl, ?_⟩; have n0_ := Aside0.mk (blk_below (g := gb233) (o := .cells #[.int .i64 t230, .int .i64 t231] 62 (0, 0)) (bk BK233.out) hb); have n1_ := Aside0.mk (blk_below (g := gb244) (o := .cells #[.bool t234, .bool t235, .bool false, .int .u64 t237, .int .i64 t238] 66 (0, 0)) (bk BK244.out) hb); have n2_ := Aside0.mk (blk_below (g := gb245) (o := .cells #[.bool t239, .bool t240, .bool false, .int .u64 t242, .int .i64 t243] 66 (0, 0)) (bk BK245.out) hb); have n3_ := Aside0.mk (below_step (bw HB.out) hb); clear BK233; clear BK244; clear BK245; clear HB; have BK233 := n0_; have BK244 := n1_; have BK245 := n2_; have HB := n3_; clear n0_ n1_ n2_ n3_; (try clear hb)))
       go_ret
       exact ⟨by first | rfl | (simp [errW_none, errW_some] <;> rfl) | (simp [*, errW_none, errW_some] <;> rfl), bw HB.out⟩
 ·
  replace c5 := Bool.eq_false_iff.mpr c5
  subst c5
  have H1 : (some 0) = some r := by rw [if_neg (show ¬ (false = true) by decide)] at H; exact H
  clear H
  have H := H1
  clear H1
  obtain rfl := Option.some.inj H
  simp only [Option.some.injEq, Prod.mk.injEq] at H
  obtain ⟨rfl⟩ := H
  go_enter Try.func27, Try.ntmps27
  go_wp2_with (first | ((with_reducible refine gate_callee (f := 51) rfl ?_); refine goesL_ (some 13) rfl rfl Try.func51 (by kernel_rfl) rfl #[.int .i64 a0] rfl ar ?_; (with_reducible refine (impl_formatOf.calls a0 t230 t231 false _ A4.out).mono ?_); rintro e w87 ⟨rfl, hb⟩; refine ⟨_, rfl, ?_⟩; have n0_ := Aside0.mk (below_step (bw HB.out) hb); clear HB; have HB := n0_; clear n0_; (try clear hb)) | ((with_reducible refine gate_dst (N := 7) rfl ?_); refine box_event ?hg (N := 7) ?hd (cs := #[.int .i64 0, .int .i64 0]) (t := 62) ?hr ?_; (case hd => rfl); (case hg => rfl); (case hr => first | (go_simp; done) | (go_simp; rfl)); intro gb233 hg w88 hbox hb; have n0_ := Aside0.mk (below_step (bw HB.out) hb); have n1_ := Aside0.mk (hbox); have n2_ := Aside0.mk ((by rw [hg]; exact (below_size (bw HB.out)) : w.heap.size ≤ gb233)); have n3_ := Aside0.mk ((by rw [hg]; exact (below_size (bw HB.out)) : w.heap.size ≤ gb233)); clear HB; have HB := n0_; have BK233 := n1_; have GW233 := n2_; have GE233 := n3_; clear n0_ n1_ n2_ n3_; clear hb hbox hg; have hcz89_0 : w88.cell? ⟨gb233, 0, none⟩ = some (.int .i64 0) := (blk_cell BK233.out 0).trans rfl; have hcz89_1 : w88.cell? ⟨gb233, 1, none⟩ = some (.int .i64 0) := (blk_cell BK233.out 1).trans rfl; have hfz89_0 := blk_frozen BK233.out 0; have hfz89_1 := blk_frozen BK233.out 1))
  go_ret
  exact ⟨by first | rfl | (simp [errW_none, errW_some] <;> rfl) | (simp [*, errW_none, errW_some] <;> rfl), bw HB.out⟩

end Go.Proofs.Ytdeogandkgiggaa.Q

