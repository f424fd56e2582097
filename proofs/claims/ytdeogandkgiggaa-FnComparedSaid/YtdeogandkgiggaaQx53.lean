-- Written by a program of this session; it walks the functions that the law reaches.
import Derived.Test.YtdeogandkgiggaaQx0
import Derived.Test.YtdeogandkgiggaaQx6
import Derived.Test.YtdeogandkgiggaaQx7
import Derived.Test.YtdeogandkgiggaaQx52
namespace Go.Proofs.Ytdeogandkgiggaa.Q
open Go.RowKit Go.Proofs.YtdeogandkgiggaaW.PrintWords Go.Proofs.YtdeogandkgiggaaW.PrintLast Go.Proofs.YtdeogandkgiggaaW.PrintMore
attribute [local go_sem] max2_int min2_int max_two min_two max_three min_three max_four min_four   -- for this text's walks alone
set_option linter.unusedVariables false
set_option linter.unusedSimpArgs false

/-! ### impl_FCompare: function 35 -/
mutual
def impl_FCompare.j0 : Nat → Int → Int → Bool → Int → Int → Bool → Bool → Bool → Int → Int → Bool → Bool → Bool → Int → Int → Option (Int)
 | 0, _, _, _, _, _, _, _, _, _, _, _, _, _, _, _ => none
 | k + 1, x1, x2, x31, x609000, x609001, x620000, x620001, x620002, x620003, x620004, x621000, x621001, x621002, x621003, x621004 => if x31 = true then (some 2) else (if x620002 = true then (impl_FCompare.j1 k x1 x2 false x609000 x609001) else (if x621002 = true then (impl_FCompare.j1 k x1 x2 false x609000 x609001) else (if x620003 = 0 then (impl_FCompare.j1 k x1 x2 (x621003 == 0) x609000 x609001) else (impl_FCompare.j1 k x1 x2 false x609000 x609001))))
def impl_FCompare.j1 : Nat → Int → Int → Bool → Int → Int → Option (Int)
 | 0, _, _, _, _, _ => none
 | k + 1, x1, x2, x49, x609000, x609001 => if x49 = true then (some 0) else ((impl_format_order.f x609000 x609001 x1).bind fun t621 => ((impl_format_order.f x609000 x609001 x2).bind fun t622 => (if t621 < t622 then (some (-1)) else (if t621 > t622 then (some 1) else (some 0)))))
end
def impl_FCompare.f (k : Nat) (a0 : Int) (a1 : Int) (a2 : Int) : Option (Int) := (impl_formatOf.f a0).bind fun bt605 => (if bt605.2.2 = true then ((impl_format_open.f bt605.1 bt605.2.1 a1).bind fun bt609 => ((impl_format_open.f bt605.1 bt605.2.1 a2).bind fun bt614 => (if bt609.2.1 = true then (impl_FCompare.j0 k a1 a2 true bt605.1 bt605.2.1 bt609.1 bt609.2.1 bt609.2.2.1 bt609.2.2.2.1 bt609.2.2.2.2 bt614.1 bt614.2.1 bt614.2.2.1 bt614.2.2.2.1 bt614.2.2.2.2) else (impl_FCompare.j0 k a1 a2 bt614.2.1 bt605.1 bt605.2.1 bt609.1 bt609.2.1 bt609.2.2.1 bt609.2.2.2.1 bt609.2.2.2.2 bt614.1 bt614.2.1 bt614.2.2.1 bt614.2.2.2.1 bt614.2.2.2.2)))) else (some 0))
theorem impl_FCompare.mono_l : ∀ k, (∀ y0 y1 y2 y3 y4 y5 y6 y7 y8 y9 y10 y11 y12 y13 y14, LeO (impl_FCompare.j0 k y0 y1 y2 y3 y4 y5 y6 y7 y8 y9 y10 y11 y12 y13 y14) (impl_FCompare.j0 (k + 1) y0 y1 y2 y3 y4 y5 y6 y7 y8 y9 y10 y11 y12 y13 y14)) ∧ (∀ y0 y1 y2 y3 y4, LeO (impl_FCompare.j1 k y0 y1 y2 y3 y4) (impl_FCompare.j1 (k + 1) y0 y1 y2 y3 y4))
 | 0 => ⟨fun _ _ _ _ _ _ _ _ _ _ _ _ _ _ _ r h => by simp [impl_FCompare.j0] at h, fun _ _ _ _ _ r h => by simp [impl_FCompare.j1] at h⟩
 | k + 1 => by
  obtain ⟨ih0, ih1⟩ := impl_FCompare.mono_l k
  refine ⟨?_, ?_⟩
  ·
   intro y0 y1 y2 y3 y4 y5 y6 y7 y8 y9 y10 y11 y12 y13 y14
   unfold impl_FCompare.j0
   repeat' first
   | (with_reducible exact ih0 _ _ _ _ _ _ _ _ _ _ _ _ _ _ _)
   | (with_reducible exact ih1 _ _ _ _ _)
   | (with_reducible exact LeO.refl _)
   | (with_reducible exact LeO.none _)
   | (with_reducible refine LeO.ite ?_ ?_)
   | (with_reducible refine LeO.bind ?_ (fun _ => ?_))
   | exact ih0 _ _ _ _ _ _ _ _ _ _ _ _ _ _ _
   | exact ih1 _ _ _ _ _
   | exact LeO.none _
   | refine LeO.ite ?_ ?_
   | refine LeO.bind ?_ (fun _ => ?_)
  ·
   intro y0 y1 y2 y3 y4
   unfold impl_FCompare.j1
   repeat' first
   | (with_reducible exact ih0 _ _ _ _ _ _ _ _ _ _ _ _ _ _ _)
   | (with_reducible exact ih1 _ _ _ _ _)
   | (with_reducible exact LeO.refl _)
   | (with_reducible exact LeO.none _)
   | (with_reducible refine LeO.ite ?_ ?_)
   | (with_reducible refine LeO.bind ?_ (fun _ => ?_))
   | exact ih0 _ _ _ _ _ _ _ _ _ _ _ _ _ _ _
   | exact ih1 _ _ _ _ _
   | exact LeO.none _
   | refine LeO.ite ?_ ?_
   | refine LeO.bind ?_ (fun _ => ?_)
theorem impl_FCompare.mono : ∀ a0 a1 a2 k, LeO (impl_FCompare.f k a0 a1 a2) (impl_FCompare.f (k + 1) a0 a1 a2) := by
 intro a0 a1 a2 k
 obtain ⟨ih0, ih1⟩ := impl_FCompare.mono_l k
 unfold impl_FCompare.f
 repeat' first
   | (with_reducible exact ih0 _ _ _ _ _ _ _ _ _ _ _ _ _ _ _)
   | (with_reducible exact ih1 _ _ _ _ _)
   | (with_reducible exact LeO.refl _)
   | (with_reducible exact LeO.none _)
   | (with_reducible refine LeO.ite ?_ ?_)
   | (with_reducible refine LeO.bind ?_ (fun _ => ?_))
   | exact ih0 _ _ _ _ _ _ _ _ _ _ _ _ _ _ _
   | exact ih1 _ _ _ _ _
   | exact LeO.none _
   | refine LeO.ite ?_ ?_
   | refine LeO.bind ?_ (fun _ => ?_)
def impl_FCompare.T4 : Bool × List (List Nat × List Nat) := (true, [([], []), ([], []), ([0, 1], [0, 1]), ([], []), ([], []), ([3, 4, 2], [3, 4]), ([], []), ([], []), ([6, 2, 5, 0, 1, 2, 6, 7], [2, 6]), ([7, 5, 8, 0, 1, 2, 3, 4, 5, 6, 7, 8], [5, 7])])
def impl_FCompare.B4 : List Nat := [0, 0, 3, 0, 0, 31, 0, 0, 255, 511]
theorem impl_FCompare.tab4 : rtab .any (opsOf Try.f35 4) = impl_FCompare.T4 := by kernel_rfl
theorem impl_FCompare.bits4 : waitsOk impl_FCompare.T4.2 impl_FCompare.B4 = true := by kernel_rfl
def impl_FCompare.T9 : Bool × List (List Nat × List Nat) := (true, [([], []), ([], []), ([0, 1], [0, 1]), ([], []), ([], []), ([3, 4, 2], [3, 4]), ([2, 5, 0, 1, 2], [2]), ([5, 6, 0, 1, 2, 3, 4, 5, 6], [5])])
def impl_FCompare.B9 : List Nat := [0, 0, 3, 0, 0, 31, 63, 127]
theorem impl_FCompare.tab9 : rtab .any (opsOf Try.f35 9) = impl_FCompare.T9 := by kernel_rfl
theorem impl_FCompare.bits9 : waitsOk impl_FCompare.T9.2 impl_FCompare.B9 = true := by kernel_rfl
set_option maxHeartbeats 8000000 in
set_option maxRecDepth 100000 in
theorem impl_FCompare.calls (k : Nat) (a0 : Int) (a1 : Int) (a2 : Int) (r : Int) (w : World) (h : impl_FCompare.f k a0 a1 a2 = some r) :
  Calls Try.prog 35 #[.int .i64 a0, .int .u32 a1, .int .u32 a2] w fun e w' => e = .returned (.int .i64 r) ∧ Below w.heap.size w w' := by
 have hu62 := Try.underlying62
 have hu66 := Try.underlying66
 have HB := Aside0.mk (Below.refl w.heap.size w)
 have H : ((impl_formatOf.f a0).bind fun bt605 => (if bt605.2.2 = true then ((impl_format_open.f bt605.1 bt605.2.1 a1).bind fun bt609 => ((impl_format_open.f bt605.1 bt605.2.1 a2).bind fun bt614 => (if bt609.2.1 = true then (impl_FCompare.j0 k a1 a2 true bt605.1 bt605.2.1 bt609.1 bt609.2.1 bt609.2.2.1 bt609.2.2.2.1 bt609.2.2.2.2 bt614.1 bt614.2.1 bt614.2.2.1 bt614.2.2.2.1 bt614.2.2.2.2) else (impl_FCompare.j0 k a1 a2 bt614.2.1 bt605.1 bt605.2.1 bt609.1 bt609.2.1 bt609.2.2.1 bt609.2.2.2.1 bt609.2.2.2.2 bt614.1 bt614.2.1 bt614.2.2.1 bt614.2.2.2.1 bt614.2.2.2.2)))) else (some 0))) = some r := h
 clear h
 replace H := Option.bind_eq_some_iff.mp H
 obtain ⟨⟨t605, t606, t607⟩, A40, H⟩ := H
 replace H : (if t607 = true then ((impl_format_open.f t605 t606 a1).bind fun bt609 => ((impl_format_open.f t605 t606 a2).bind fun bt614 => (if bt609.2.1 = true then (impl_FCompare.j0 k a1 a2 true t605 t606 bt609.1 bt609.2.1 bt609.2.2.1 bt609.2.2.2.1 bt609.2.2.2.2 bt614.1 bt614.2.1 bt614.2.2.1 bt614.2.2.2.1 bt614.2.2.2.2) else (impl_FCompare.j0 k a1 a2 bt614.2.1 t605 t606 bt609.1 bt609.2.1 bt609.2.2.1 bt609.2.2.2.1 bt609.2.2.2.2 bt614.1 bt614.2.1 bt614.2.2.1 bt614.2.2.2.1 bt614.2.2.2.2)))) else (some 0)) = some r := H
 have A4 := Aside0.mk A40
 clear A40
 by_cases c5 : t607 = true
 ·
  subst c5
  have H1 : ((impl_format_open.f t605 t606 a1).bind fun bt609 => ((impl_format_open.f t605 t606 a2).bind fun bt614 => (if bt609.2.1 = true then (impl_FCompare.j0 k a1 a2 true t605 t606 bt609.1 bt609.2.1 bt609.2.2.1 bt609.2.2.2.1 bt609.2.2.2.2 bt614.1 bt614.2.1 bt614.2.2.1 bt614.2.2.2.1 bt614.2.2.2.2) else (impl_FCompare.j0 k a1 a2 bt614.2.1 t605 t606 bt609.1 bt609.2.1 bt609.2.2.1 bt609.2.2.2.1 bt609.2.2.2.2 bt614.1 bt614.2.1 bt614.2.2.1 bt614.2.2.2.1 bt614.2.2.2.2)))) = some r := by rw [if_pos rfl] at H; exact H
  clear H
  have H := H1
  clear H1
  replace H := Option.bind_eq_some_iff.mp H
  obtain ⟨⟨t609, t610, t611, t612, t613⟩, A60, H⟩ := H
  replace H : ((impl_format_open.f t605 t606 a2).bind fun bt614 => (if t610 = true then (impl_FCompare.j0 k a1 a2 true t605 t606 t609 t610 t611 t612 t613 bt614.1 bt614.2.1 bt614.2.2.1 bt614.2.2.2.1 bt614.2.2.2.2) else (impl_FCompare.j0 k a1 a2 bt614.2.1 t605 t606 t609 t610 t611 t612 t613 bt614.1 bt614.2.1 bt614.2.2.1 bt614.2.2.2.1 bt614.2.2.2.2))) = some r := H
  have A6 := Aside0.mk A60
  clear A60
  replace H := Option.bind_eq_some_iff.mp H
  obtain ⟨⟨t614, t615, t616, t617, t618⟩, A70, H⟩ := H
  replace H : (if t610 = true then (impl_FCompare.j0 k a1 a2 true t605 t606 t609 t610 t611 t612 t613 t614 t615 t616 t617 t618) else (impl_FCompare.j0 k a1 a2 t615 t605 t606 t609 t610 t611 t612 t613 t614 t615 t616 t617 t618)) = some r := H
  have A7 := Aside0.mk A70
  clear A70
  have HC8 := Aside0.mk H
  clear H
  go_enter Try.func35, Try.ntmps35
  try go_wp2_with (first | ((with_reducible refine gate_callee (f := 51) rfl ?_); refine goesL_ (some 15) rfl rfl Try.func51 (by kernel_rfl) rfl #[.int .i64 a0] rfl (by (try simp only [List.map_toArray, List.map_cons, List.map_nil]); first | done | rfl | (simp only [List.length_drop, List.length_take]; rfl)) ?_; (with_reducible refine (impl_formatOf.calls a0 t605 t606 true _ A4.out).mono ?_); rintro e w9 ⟨rfl, hb⟩; refine ⟨_, rfl, ?_⟩; have n0_ := Aside0.mk (below_step (by repeat (first | (with_reducible first | exact HB.out | apply below_alloc | apply pw_below_drewN | apply below_drew1) | exact HB.out)) hb); clear HB; have HB := n0_; clear n0_; (try clear hb); (try clear hb2); (try clear hk); (try clear hi)) | ((with_reducible refine gate_dst (N := 7) rfl ?_); refine box_event ?hg (N := 7) ?hd (cs := #[.int .i64 0, .int .i64 0]) (t := 62) ?hr ?_; (case hd => rfl); (case hg => rfl); (case hr => first | (go_simp; done) | (go_simp; rfl)); intro gb608 hg w10 hbox hb; have n0_ := Aside0.mk (below_step (by repeat (first | (with_reducible first | exact HB.out | apply below_alloc | apply pw_below_drewN | apply below_drew1) | exact HB.out)) hb); have n1_ := Aside0.mk (hbox); have n2_ := Aside0.mk ((by rw [hg]; exact (below_size (by repeat (first | (with_reducible first | exact HB.out | apply below_alloc | apply pw_below_drewN | apply below_drew1) | exact HB.out))) : w.heap.size ≤ gb608)); have n3_ := Aside0.mk ((by rw [hg]; exact (below_size (by repeat (first | (with_reducible first | exact HB.out | apply below_alloc | apply pw_below_drewN | apply below_drew1) | exact HB.out))) : w.heap.size ≤ gb608)); clear HB; have HB := n0_; have BK608 := n1_; have GW608 := n2_; have GE608 := n3_; clear n0_ n1_ n2_ n3_; clear hb hbox hg; have hcz11_0 : w10.cell? ⟨gb608, 0, none⟩ = some (.int .i64 0) := (blk_cell BK608.out 0).trans rfl; have hcz11_1 : w10.cell? ⟨gb608, 1, none⟩ = some (.int .i64 0) := (blk_cell BK608.out 1).trans rfl; have hfz11_0 := blk_frozen BK608.out 0; have hfz11_1 := blk_frozen BK608.out 1))
  have n0_ : Aside0 (((w10.setCell ⟨gb608, 0, none⟩ (.int .i64 t605)).setCell ⟨gb608, 1, none⟩ (.int .i64 t606)).heap[gb608]? = some (.cells #[.int .i64 t605, .int .i64 t606] 62 (0, 0))) := ⟨by (with_reducible repeat (first | refine blk_drewN ?_ _ | refine blk_drew ?_ | refine blk_alloc ?_ _)); refine blk_put (cs := #[.int .i64 t605, .int .i64 0]) ?_ 1 _ rfl; (with_reducible repeat (first | refine blk_drewN ?_ _ | refine blk_drew ?_ | refine blk_alloc ?_ _)); refine blk_put (cs := #[.int .i64 0, .int .i64 0]) ?_ 0 _ rfl; (with_reducible repeat (first | refine blk_drewN ?_ _ | refine blk_drew ?_ | refine blk_alloc ?_ _)); exact BK608.out⟩
  have n1_ : Aside0 (Below w.heap.size w ((w10.setCell ⟨gb608, 0, none⟩ (.int .i64 t605)).setCell ⟨gb608, 1, none⟩ (.int .i64 t606))) := ⟨by repeat (first | (with_reducible first | exact HB.out | apply below_alloc | apply pw_below_drewN | apply below_drew1 | refine below_set ?_ GE608.out) | exact HB.out)⟩
  (try clear BK608)
  (try clear HB)
  generalize ((w10.setCell ⟨gb608, 0, none⟩ (.int .i64 t605)).setCell ⟨gb608, 1, none⟩ (.int .i64 t606)) = w12 at n0_ n1_ ⊢
  have BK608 := n0_
  have HB := n1_
  clear n0_ n1_
  have n0_ := Aside0.mk (blk_drew BK608.out)
  have n1_ := Aside0.mk (below_drew1 HB.out)
  clear BK608
  clear HB
  have BK608 := n0_
  have HB := n1_
  clear n0_ n1_
  refine start_ (n := 10) (S := fun w' => w'.cell? ⟨gb608, 0, none⟩ = some (.int .i64 t605) ∧ w'.cell? ⟨gb608, 1, none⟩ = some (.int .i64 t606)) (ds := []) #[false, false, false, false, false, false, false, false, false, false] (by kernel_rfl) rfl rfl ⟨(blk_cell BK608.out 0).trans rfl, (blk_cell BK608.out 1).trans rfl⟩ (fun hHeld => ?_); refine with_tabW impl_FCompare.tab4 impl_FCompare.bits4 (fun HT_ HW_ => ?_)
  generalize w12.drew = w13 at BK608 HB hHeld ⊢
  refine pure_ (i := 1) (N := some 21) (v := ?_) (a' := ?_) #[false, true, false, false, false, false, false, false, false, false] rfl rfl (any_of HT_.out (by kernel_rfl)) (fun _ _ _ h => h) (Or.inl ⟨by rfl, ?_⟩) ?_ ?_
  rotate_left
  ·
   intro w'
   go_simp
   with_reducible rfl
  rotate_left
  ·
   simp only [Act.put, List.setIfInBounds_toArray, List.set_cons_zero, List.set_cons_succ, i64_w, i32_w]
   rfl
  refine pure_ (i := 4) (N := some 24) (v := ?_) (a' := ?_) #[false, true, false, false, true, false, false, false, false, false] rfl rfl (any_of HT_.out (by kernel_rfl)) (fun _ _ _ h => h) (Or.inl ⟨by rfl, ?_⟩) ?_ ?_
  rotate_left
  ·
   intro w'
   go_simp
   with_reducible rfl
  rotate_left
  ·
   simp only [Act.put, List.setIfInBounds_toArray, List.set_cons_zero, List.set_cons_succ, i64_w, i32_w]
   rfl
  refine take_ (i := 0) (N := some 20) (v := ?_) (a' := ?_) #[true, true, false, false, true, false, false, false, false, false] rfl rfl (take_ofW HT_.out HW_.out (by kernel_rfl)) (fun _ _ _ h => h) (Or.inl ⟨by rfl, ?_⟩) hHeld ?_ ?_
  rotate_left
  ·
   rintro w' ⟨s0, s1⟩
   go_simp
   with_reducible rfl
  rotate_left
  ·
   simp only [Act.put, List.setIfInBounds_toArray, List.set_cons_zero, List.set_cons_succ, i64_w, i32_w]
   rfl
  refine take_ (i := 3) (N := some 23) (v := ?_) (a' := ?_) #[true, true, false, true, true, false, false, false, false, false] rfl rfl (take_ofW HT_.out HW_.out (by kernel_rfl)) (fun _ _ _ h => h) (Or.inl ⟨by rfl, ?_⟩) hHeld ?_ ?_
  rotate_left
  ·
   rintro w' ⟨s0, s1⟩
   go_simp
   with_reducible rfl
  rotate_left
  ·
   simp only [Act.put, List.setIfInBounds_toArray, List.set_cons_zero, List.set_cons_succ, i64_w, i32_w]
   rfl
  refine join_ (σ := Nat × Nat) 2 #[true, true, true, true, true, true, true, true, false, false] (fun s_ => [(22, .agg #[.bool t609, .bool t610, .bool t611, .int .u64 t612, .int .i64 t613]), (25, .agg #[.bool t614, .bool t615, .bool t616, .int .u64 t617, .int .i64 t618]), (9, .pointer (some ⟨s_.1, 0, none⟩)), (10, .pointer (some ⟨s_.2, 0, none⟩))]) (fun s_ w' => (w'.cell? ⟨gb608, 0, none⟩ = some (.int .i64 t605) ∧ w'.cell? ⟨gb608, 1, none⟩ = some (.int .i64 t606)) ∧ (w'.heap[gb608]? = some (.cells #[.int .i64 t605, .int .i64 t606] 62 (0, 0))) ∧ (w'.heap[s_.1]? = some (.cells #[.bool false, .bool false, .bool false, .int .u64 0, .int .i64 0] 66 (0, 0))) ∧ (w'.heap[s_.2]? = some (.cells #[.bool false, .bool false, .bool false, .int .u64 0, .int .i64 0] 66 (0, 0))) ∧ (w.heap.size ≤ s_.1) ∧ (w.heap.size ≤ s_.1) ∧ (gb608 ≠ s_.1) ∧ (s_.1 ≠ gb608) ∧ (s_.2 ≠ s_.1) ∧ (s_.1 ≠ s_.2) ∧ (w.heap.size ≤ s_.2) ∧ (w.heap.size ≤ s_.2) ∧ (gb608 ≠ s_.2) ∧ (s_.2 ≠ gb608) ∧ (Below w.heap.size w w')) ?_ ?_
  rotate_left
  ·
   intro hJ2_5_6_7
   refine join_ (σ := Nat) 3 #[true, true, true, true, true, true, true, false, false, false] (fun s_ => [(22, .agg #[.bool t609, .bool t610, .bool t611, .int .u64 t612, .int .i64 t613]), (25, .agg #[.bool t614, .bool t615, .bool t616, .int .u64 t617, .int .i64 t618]), (9, .pointer (some ⟨s_, 0, none⟩))]) (fun s_ w' => (w'.cell? ⟨gb608, 0, none⟩ = some (.int .i64 t605) ∧ w'.cell? ⟨gb608, 1, none⟩ = some (.int .i64 t606)) ∧ (w'.heap[gb608]? = some (.cells #[.int .i64 t605, .int .i64 t606] 62 (0, 0))) ∧ (w'.heap[s_]? = some (.cells #[.bool false, .bool false, .bool false, .int .u64 0, .int .i64 0] 66 (0, 0))) ∧ (w.heap.size ≤ s_) ∧ (w.heap.size ≤ s_) ∧ (gb608 ≠ s_) ∧ (s_ ≠ gb608) ∧ (Below w.heap.size w w')) ?_ ?_
   rotate_left
   ·
    intro hJ2_5_6
    refine join_ (σ := Nat) 3 #[true, true, true, true, true, true, false, true, false, false] (fun s_ => [(22, .agg #[.bool t609, .bool t610, .bool t611, .int .u64 t612, .int .i64 t613]), (25, .agg #[.bool t614, .bool t615, .bool t616, .int .u64 t617, .int .i64 t618]), (10, .pointer (some ⟨s_, 0, none⟩))]) (fun s_ w' => (w'.cell? ⟨gb608, 0, none⟩ = some (.int .i64 t605) ∧ w'.cell? ⟨gb608, 1, none⟩ = some (.int .i64 t606)) ∧ (w'.heap[gb608]? = some (.cells #[.int .i64 t605, .int .i64 t606] 62 (0, 0))) ∧ (w'.heap[s_]? = some (.cells #[.bool false, .bool false, .bool false, .int .u64 0, .int .i64 0] 66 (0, 0))) ∧ (w.heap.size ≤ s_) ∧ (w.heap.size ≤ s_) ∧ (gb608 ≠ s_) ∧ (s_ ≠ gb608) ∧ (Below w.heap.size w w')) ?_ ?_
    rotate_left
    ·
     intro hJ2_5_7
     refine join_ (σ := Nat × Nat) 3 #[true, true, true, true, true, false, true, true, false, false] (fun s_ => [(22, .agg #[.bool t609, .bool t610, .bool t611, .int .u64 t612, .int .i64 t613]), (9, .pointer (some ⟨s_.1, 0, none⟩)), (10, .pointer (some ⟨s_.2, 0, none⟩))]) (fun s_ w' => (w'.cell? ⟨gb608, 0, none⟩ = some (.int .i64 t605) ∧ w'.cell? ⟨gb608, 1, none⟩ = some (.int .i64 t606)) ∧ (w'.heap[gb608]? = some (.cells #[.int .i64 t605, .int .i64 t606] 62 (0, 0))) ∧ (w'.heap[s_.1]? = some (.cells #[.bool false, .bool false, .bool false, .int .u64 0, .int .i64 0] 66 (0, 0))) ∧ (w'.heap[s_.2]? = some (.cells #[.bool false, .bool false, .bool false, .int .u64 0, .int .i64 0] 66 (0, 0))) ∧ (w.heap.size ≤ s_.1) ∧ (w.heap.size ≤ s_.1) ∧ (gb608 ≠ s_.1) ∧ (s_.1 ≠ gb608) ∧ (s_.2 ≠ s_.1) ∧ (s_.1 ≠ s_.2) ∧ (w.heap.size ≤ s_.2) ∧ (w.heap.size ≤ s_.2) ∧ (gb608 ≠ s_.2) ∧ (s_.2 ≠ gb608) ∧ (Below w.heap.size w w')) ?_ ?_
     rotate_left
     ·
      intro hJ2_6_7
      refine join_ (σ := Unit) 4 #[true, true, true, true, true, true, false, false, false, false] (fun s_ => [(22, .agg #[.bool t609, .bool t610, .bool t611, .int .u64 t612, .int .i64 t613]), (25, .agg #[.bool t614, .bool t615, .bool t616, .int .u64 t617, .int .i64 t618])]) (fun s_ w' => (w'.cell? ⟨gb608, 0, none⟩ = some (.int .i64 t605) ∧ w'.cell? ⟨gb608, 1, none⟩ = some (.int .i64 t606)) ∧ (w'.heap[gb608]? = some (.cells #[.int .i64 t605, .int .i64 t606] 62 (0, 0))) ∧ (Below w.heap.size w w')) ?_ ?_
      rotate_left
      ·
       intro hJ2_5
       refine join_ (σ := Nat) 4 #[true, true, true, true, true, false, true, false, false, false] (fun s_ => [(22, .agg #[.bool t609, .bool t610, .bool t611, .int .u64 t612, .int .i64 t613]), (9, .pointer (some ⟨s_, 0, none⟩))]) (fun s_ w' => (w'.cell? ⟨gb608, 0, none⟩ = some (.int .i64 t605) ∧ w'.cell? ⟨gb608, 1, none⟩ = some (.int .i64 t606)) ∧ (w'.heap[gb608]? = some (.cells #[.int .i64 t605, .int .i64 t606] 62 (0, 0))) ∧ (w'.heap[s_]? = some (.cells #[.bool false, .bool false, .bool false, .int .u64 0, .int .i64 0] 66 (0, 0))) ∧ (w.heap.size ≤ s_) ∧ (w.heap.size ≤ s_) ∧ (gb608 ≠ s_) ∧ (s_ ≠ gb608) ∧ (Below w.heap.size w w')) ?_ ?_
       rotate_left
       ·
        intro hJ2_6
        refine join_ (σ := Nat) 4 #[true, true, true, true, true, false, false, true, false, false] (fun s_ => [(22, .agg #[.bool t609, .bool t610, .bool t611, .int .u64 t612, .int .i64 t613]), (10, .pointer (some ⟨s_, 0, none⟩))]) (fun s_ w' => (w'.cell? ⟨gb608, 0, none⟩ = some (.int .i64 t605) ∧ w'.cell? ⟨gb608, 1, none⟩ = some (.int .i64 t606)) ∧ (w'.heap[gb608]? = some (.cells #[.int .i64 t605, .int .i64 t606] 62 (0, 0))) ∧ (w'.heap[s_]? = some (.cells #[.bool false, .bool false, .bool false, .int .u64 0, .int .i64 0] 66 (0, 0))) ∧ (w.heap.size ≤ s_) ∧ (w.heap.size ≤ s_) ∧ (gb608 ≠ s_) ∧ (s_ ≠ gb608) ∧ (Below w.heap.size w w')) ?_ ?_
        rotate_left
        ·
         intro hJ2_7
         refine join_ (σ := Nat × Nat) 4 #[true, true, false, true, true, false, true, true, false, false] (fun s_ => [(9, .pointer (some ⟨s_.1, 0, none⟩)), (10, .pointer (some ⟨s_.2, 0, none⟩))]) (fun s_ w' => (w'.cell? ⟨gb608, 0, none⟩ = some (.int .i64 t605) ∧ w'.cell? ⟨gb608, 1, none⟩ = some (.int .i64 t606)) ∧ (w'.heap[gb608]? = some (.cells #[.int .i64 t605, .int .i64 t606] 62 (0, 0))) ∧ (w'.heap[s_.1]? = some (.cells #[.bool false, .bool false, .bool false, .int .u64 0, .int .i64 0] 66 (0, 0))) ∧ (w'.heap[s_.2]? = some (.cells #[.bool false, .bool false, .bool false, .int .u64 0, .int .i64 0] 66 (0, 0))) ∧ (w.heap.size ≤ s_.1) ∧ (w.heap.size ≤ s_.1) ∧ (gb608 ≠ s_.1) ∧ (s_.1 ≠ gb608) ∧ (s_.2 ≠ s_.1) ∧ (s_.1 ≠ s_.2) ∧ (w.heap.size ≤ s_.2) ∧ (w.heap.size ≤ s_.2) ∧ (gb608 ≠ s_.2) ∧ (s_.2 ≠ gb608) ∧ (Below w.heap.size w w')) ?_ ?_
         rotate_left
         ·
          intro hJ6_7
          refine join_ (σ := Unit) 5 #[true, true, true, true, true, false, false, false, false, false] (fun s_ => [(22, .agg #[.bool t609, .bool t610, .bool t611, .int .u64 t612, .int .i64 t613])]) (fun s_ w' => (w'.cell? ⟨gb608, 0, none⟩ = some (.int .i64 t605) ∧ w'.cell? ⟨gb608, 1, none⟩ = some (.int .i64 t606)) ∧ (w'.heap[gb608]? = some (.cells #[.int .i64 t605, .int .i64 t606] 62 (0, 0))) ∧ (Below w.heap.size w w')) ?_ ?_
          rotate_left
          ·
           intro hJ2
           refine join_ (σ := Nat) 5 #[true, true, false, true, true, false, true, false, false, false] (fun s_ => [(9, .pointer (some ⟨s_, 0, none⟩))]) (fun s_ w' => (w'.cell? ⟨gb608, 0, none⟩ = some (.int .i64 t605) ∧ w'.cell? ⟨gb608, 1, none⟩ = some (.int .i64 t606)) ∧ (w'.heap[gb608]? = some (.cells #[.int .i64 t605, .int .i64 t606] 62 (0, 0))) ∧ (w'.heap[s_]? = some (.cells #[.bool false, .bool false, .bool false, .int .u64 0, .int .i64 0] 66 (0, 0))) ∧ (w.heap.size ≤ s_) ∧ (w.heap.size ≤ s_) ∧ (gb608 ≠ s_) ∧ (s_ ≠ gb608) ∧ (Below w.heap.size w w')) ?_ ?_
           rotate_left
           ·
            intro hJ6
            refine join_ (σ := Nat) 5 #[true, true, false, true, true, false, false, true, false, false] (fun s_ => [(10, .pointer (some ⟨s_, 0, none⟩))]) (fun s_ w' => (w'.cell? ⟨gb608, 0, none⟩ = some (.int .i64 t605) ∧ w'.cell? ⟨gb608, 1, none⟩ = some (.int .i64 t606)) ∧ (w'.heap[gb608]? = some (.cells #[.int .i64 t605, .int .i64 t606] 62 (0, 0))) ∧ (w'.heap[s_]? = some (.cells #[.bool false, .bool false, .bool false, .int .u64 0, .int .i64 0] 66 (0, 0))) ∧ (w.heap.size ≤ s_) ∧ (w.heap.size ≤ s_) ∧ (gb608 ≠ s_) ∧ (s_ ≠ gb608) ∧ (Below w.heap.size w w')) ?_ ?_
            rotate_left
            ·
             intro hJ7
             refine three_ (i := 2) (j := 6) (k := 7) (Ni := some 22) (Nj := some 9) (Nk := some 10) #[true, true, true, true, true, false, false, false, false, false] #[true, true, false, true, true, false, true, false, false, false] #[true, true, false, true, true, false, false, true, false, false] rfl rfl rfl rfl rfl rfl (three_of HT_.out (by kernel_rfl)) (by decide) (by decide) (by decide) (fun K hK => ?_) (fun K hK => ?_) (fun K hK => ?_)
             ·
              skip
              refine goes_ Try.func52 (by kernel_rfl) rfl #[.agg #[.int .i64 t605, .int .i64 t606], .int .u32 a1] (by rfl) rfl rfl (by (try simp only [List.map_toArray, List.map_cons, List.map_nil]); first | done | rfl | (simp only [List.length_drop, List.length_take]; rfl)) ?_
              with_reducible refine (impl_format_open.calls t605 t606 a1 t609 t610 t611 t612 t613 _ A6.out).mono ?_
              rintro e w14 ⟨rfl, hb⟩
              refine ⟨_, rfl, ?_⟩
              have n0_ := Aside0.mk (blk_below (g := gb608) (o := .cells #[.int .i64 t605, .int .i64 t606] 62 (0, 0)) (by (with_reducible repeat (first | refine blk_drewN ?_ _ | refine blk_drew ?_ | refine blk_alloc ?_ _)); exact BK608.out) hb)
              have n1_ := Aside0.mk (below_step (by repeat (first | (with_reducible first | exact HB.out | apply below_alloc | apply pw_below_drewN | apply below_drew1 | refine below_set ?_ GE608.out) | exact HB.out)) hb)
              clear BK608
              clear HB
              have BK608 := n0_
              have HB := n1_
              clear n0_ n1_
              (try clear hb)
              (try clear hb2)
              (try clear hk)
              (try clear hi)
              refine hK.out _ _ ⟨(blk_cell BK608.out 0).trans rfl, (blk_cell BK608.out 1).trans rfl⟩ (fun hHeld => ?_)
              clear hK K
              refine norm_ (a' := ?_) ?_ ?_
              rotate_left
              ·
               show Act.put _ (some 22) _ = _
               simp only [Act.put, List.setIfInBounds_toArray, List.set_cons_zero, List.set_cons_succ, i64_w, i32_w]
               rfl
              exact norm_ (by first | (simp only [putAll, Act.put, List.setIfInBounds_toArray, List.set_cons_zero, List.set_cons_succ]; done) | (simp only [putAll, Act.put, List.setIfInBounds_toArray, List.set_cons_zero, List.set_cons_succ]; rfl)) (hJ2 () _ ⟨hHeld, (by (with_reducible repeat (first | refine blk_drewN ?_ _ | refine blk_drew ?_ | refine blk_alloc ?_ _)); exact BK608.out), (by repeat (first | (with_reducible first | exact HB.out | apply below_alloc | apply pw_below_drewN | apply below_drew1 | refine below_set ?_ GE608.out) | exact HB.out))⟩)
             ·
              skip
              refine box_step ?hg (N := 9) ?hd (cs := #[.bool false, .bool false, .bool false, .int .u64 0, .int .i64 0]) (t := 66) ?hr ?_; (case hd => rfl); (case hg => rfl); (case hr => first | (go_simp; done) | (go_simp; rfl))
              intro gb619 hg w14 hbox hb
              have n0_ := Aside0.mk (blk_below (g := gb608) (o := .cells #[.int .i64 t605, .int .i64 t606] 62 (0, 0)) (by (with_reducible repeat (first | refine blk_drewN ?_ _ | refine blk_drew ?_ | refine blk_alloc ?_ _)); exact BK608.out) hb)
              have n1_ := Aside0.mk (below_step (by repeat (first | (with_reducible first | exact HB.out | apply below_alloc | apply pw_below_drewN | apply below_drew1 | refine below_set ?_ GE608.out) | exact HB.out)) hb)
              have n2_ := Aside0.mk (hbox)
              have n3_ := Aside0.mk ((by rw [hg]; exact (below_size (by repeat (first | (with_reducible first | exact HB.out | apply below_alloc | apply pw_below_drewN | apply below_drew1 | refine below_set ?_ GE608.out) | exact HB.out))) : w.heap.size ≤ gb619))
              have n4_ := Aside0.mk ((by rw [hg]; exact (below_size (by repeat (first | (with_reducible first | exact HB.out | apply below_alloc | apply pw_below_drewN | apply below_drew1 | refine below_set ?_ GE608.out) | exact HB.out))) : w.heap.size ≤ gb619))
              have n5_ := Aside0.mk ((by rw [hg]; exact Nat.ne_of_lt (blk_lt (g := gb608) (o := .cells #[.int .i64 t605, .int .i64 t606] 62 (0, 0)) (by (with_reducible repeat (first | refine blk_drewN ?_ _ | refine blk_drew ?_ | refine blk_alloc ?_ _)); exact BK608.out)) : gb608 ≠ gb619))
              have n6_ := Aside0.mk ((by rw [hg]; exact Nat.ne_of_gt (blk_lt (g := gb608) (o := .cells #[.int .i64 t605, .int .i64 t606] 62 (0, 0)) (by (with_reducible repeat (first | refine blk_drewN ?_ _ | refine blk_drew ?_ | refine blk_alloc ?_ _)); exact BK608.out)) : gb619 ≠ gb608))
              clear BK608
              clear HB
              have BK608 := n0_
              have HB := n1_
              have BK619 := n2_
              have GW619 := n3_
              have GE619 := n4_
              have NB608_619 := n5_
              have NB619_608 := n6_
              clear n0_ n1_ n2_ n3_ n4_ n5_ n6_
              clear hb hbox hg
              refine hK.out _ _ ⟨(blk_cell BK608.out 0).trans rfl, (blk_cell BK608.out 1).trans rfl⟩ (fun hHeld => ?_)
              clear hK K
              refine norm_ (a' := ?_) ?_ ?_
              rotate_left
              ·
               show Act.put _ (some 9) _ = _
               simp only [Act.put, List.setIfInBounds_toArray, List.set_cons_zero, List.set_cons_succ, i64_w, i32_w]
               rfl
              exact norm_ (by first | (simp only [putAll, Act.put, List.setIfInBounds_toArray, List.set_cons_zero, List.set_cons_succ]; done) | (simp only [putAll, Act.put, List.setIfInBounds_toArray, List.set_cons_zero, List.set_cons_succ]; rfl)) (hJ6 (gb619) _ ⟨hHeld, (by (with_reducible repeat (first | refine blk_drewN ?_ _ | refine blk_drew ?_ | refine blk_alloc ?_ _)); exact BK608.out), (by (with_reducible repeat (first | refine blk_drewN ?_ _ | refine blk_drew ?_ | refine blk_alloc ?_ _)); exact BK619.out), GW619.out, GE619.out, NB608_619.out, NB619_608.out, (by repeat (first | (with_reducible first | exact HB.out | apply below_alloc | apply pw_below_drewN | apply below_drew1 | refine below_set ?_ GE608.out | refine below_set ?_ GE619.out) | exact HB.out))⟩)
             ·
              skip
              refine box_step ?hg (N := 10) ?hd (cs := #[.bool false, .bool false, .bool false, .int .u64 0, .int .i64 0]) (t := 66) ?hr ?_; (case hd => rfl); (case hg => rfl); (case hr => first | (go_simp; done) | (go_simp; rfl))
              intro gb620 hg w14 hbox hb
              have n0_ := Aside0.mk (blk_below (g := gb608) (o := .cells #[.int .i64 t605, .int .i64 t606] 62 (0, 0)) (by (with_reducible repeat (first | refine blk_drewN ?_ _ | refine blk_drew ?_ | refine blk_alloc ?_ _)); exact BK608.out) hb)
              have n1_ := Aside0.mk (below_step (by repeat (first | (with_reducible first | exact HB.out | apply below_alloc | apply pw_below_drewN | apply below_drew1 | refine below_set ?_ GE608.out) | exact HB.out)) hb)
              have n2_ := Aside0.mk (hbox)
              have n3_ := Aside0.mk ((by rw [hg]; exact (below_size (by repeat (first | (with_reducible first | exact HB.out | apply below_alloc | apply pw_below_drewN | apply below_drew1 | refine below_set ?_ GE608.out) | exact HB.out))) : w.heap.size ≤ gb620))
              have n4_ := Aside0.mk ((by rw [hg]; exact (below_size (by repeat (first | (with_reducible first | exact HB.out | apply below_alloc | apply pw_below_drewN | apply below_drew1 | refine below_set ?_ GE608.out) | exact HB.out))) : w.heap.size ≤ gb620))
              have n5_ := Aside0.mk ((by rw [hg]; exact Nat.ne_of_lt (blk_lt (g := gb608) (o := .cells #[.int .i64 t605, .int .i64 t606] 62 (0, 0)) (by (with_reducible repeat (first | refine blk_drewN ?_ _ | refine blk_drew ?_ | refine blk_alloc ?_ _)); exact BK608.out)) : gb608 ≠ gb620))
              have n6_ := Aside0.mk ((by rw [hg]; exact Nat.ne_of_gt (blk_lt (g := gb608) (o := .cells #[.int .i64 t605, .int .i64 t606] 62 (0, 0)) (by (with_reducible repeat (first | refine blk_drewN ?_ _ | refine blk_drew ?_ | refine blk_alloc ?_ _)); exact BK608.out)) : gb620 ≠ gb608))
              clear BK608
              clear HB
              have BK608 := n0_
              have HB := n1_
              have BK620 := n2_
              have GW620 := n3_
              have GE620 := n4_
              have NB608_620 := n5_
              have NB620_608 := n6_
              clear n0_ n1_ n2_ n3_ n4_ n5_ n6_
              clear hb hbox hg
              refine hK.out _ _ ⟨(blk_cell BK608.out 0).trans rfl, (blk_cell BK608.out 1).trans rfl⟩ (fun hHeld => ?_)
              clear hK K
              refine norm_ (a' := ?_) ?_ ?_
              rotate_left
              ·
               show Act.put _ (some 10) _ = _
               simp only [Act.put, List.setIfInBounds_toArray, List.set_cons_zero, List.set_cons_succ, i64_w, i32_w]
               rfl
              exact norm_ (by first | (simp only [putAll, Act.put, List.setIfInBounds_toArray, List.set_cons_zero, List.set_cons_succ]; done) | (simp only [putAll, Act.put, List.setIfInBounds_toArray, List.set_cons_zero, List.set_cons_succ]; rfl)) (hJ7 (gb620) _ ⟨hHeld, (by (with_reducible repeat (first | refine blk_drewN ?_ _ | refine blk_drew ?_ | refine blk_alloc ?_ _)); exact BK608.out), (by (with_reducible repeat (first | refine blk_drewN ?_ _ | refine blk_drew ?_ | refine blk_alloc ?_ _)); exact BK620.out), GW620.out, GE620.out, NB608_620.out, NB620_608.out, (by repeat (first | (with_reducible first | exact HB.out | apply below_alloc | apply pw_below_drewN | apply below_drew1 | refine below_set ?_ GE608.out | refine below_set ?_ GE620.out) | exact HB.out))⟩)
            ·
             skip
             rintro gb620 w15 ⟨hS_, h0_, h1_, h2_, h3_, h4_, h5_, h6_⟩
             have n0_ : Aside0 (w15.heap[gb608]? = some (.cells #[.int .i64 t605, .int .i64 t606] 62 (0, 0))) := ⟨h0_⟩
             have n1_ : Aside0 (w15.heap[gb620]? = some (.cells #[.bool false, .bool false, .bool false, .int .u64 0, .int .i64 0] 66 (0, 0))) := ⟨h1_⟩
             have n2_ : Aside0 (w.heap.size ≤ gb620) := ⟨h2_⟩
             have n3_ : Aside0 (w.heap.size ≤ gb620) := ⟨h3_⟩
             have n4_ : Aside0 (gb608 ≠ gb620) := ⟨h4_⟩
             have n5_ : Aside0 (gb620 ≠ gb608) := ⟨h5_⟩
             have n6_ : Aside0 (Below w.heap.size w w15) := ⟨h6_⟩
             clear BK608
             clear HB
             clear h0_ h1_ h2_ h3_ h4_ h5_ h6_
             have BK608 := n0_
             have BK620 := n1_
             have GW620 := n2_
             have GE620 := n3_
             have NB608_620 := n4_
             have NB620_608 := n5_
             have HB := n6_
             clear n0_ n1_ n2_ n3_ n4_ n5_ n6_
             have hHeld : w15.cell? ⟨gb608, 0, none⟩ = some (.int .i64 t605) ∧ w15.cell? ⟨gb608, 1, none⟩ = some (.int .i64 t606) := hS_
             refine norm_ (a' := ?_) ?_ ?_
             rotate_left
             ·
              simp only [putAll, Act.put, List.setIfInBounds_toArray, List.set_cons_zero, List.set_cons_succ]
              rfl
             refine two_ (i := 2) (j := 6) (Ni := some 22) (Nj := some 9) #[true, true, true, true, true, false, false, true, false, false] #[true, true, false, true, true, false, true, true, false, false] rfl rfl rfl rfl (two_of HT_.out (by kernel_rfl)) (by decide) (by decide) (fun K hK => ?_) (fun K hK => ?_)
             ·
              skip
              refine goes_ Try.func52 (by kernel_rfl) rfl #[.agg #[.int .i64 t605, .int .i64 t606], .int .u32 a1] (by rfl) rfl rfl (by (try simp only [List.map_toArray, List.map_cons, List.map_nil]); first | done | rfl | (simp only [List.length_drop, List.length_take]; rfl)) ?_
              with_reducible refine (impl_format_open.calls t605 t606 a1 t609 t610 t611 t612 t613 _ A6.out).mono ?_
              rintro e w16 ⟨rfl, hb⟩
              refine ⟨_, rfl, ?_⟩
              have n0_ := Aside0.mk (blk_below (g := gb608) (o := .cells #[.int .i64 t605, .int .i64 t606] 62 (0, 0)) (by (with_reducible repeat (first | refine blk_drewN ?_ _ | refine blk_drew ?_ | refine blk_alloc ?_ _)); exact BK608.out) hb)
              have n1_ := Aside0.mk (blk_below (g := gb620) (o := .cells #[.bool false, .bool false, .bool false, .int .u64 0, .int .i64 0] 66 (0, 0)) (by (with_reducible repeat (first | refine blk_drewN ?_ _ | refine blk_drew ?_ | refine blk_alloc ?_ _)); exact BK620.out) hb)
              have n2_ := Aside0.mk (below_step (by repeat (first | (with_reducible first | exact HB.out | apply below_alloc | apply pw_below_drewN | apply below_drew1 | refine below_set ?_ GE608.out | refine below_set ?_ GE620.out) | exact HB.out)) hb)
              clear BK608
              clear BK620
              clear HB
              have BK608 := n0_
              have BK620 := n1_
              have HB := n2_
              clear n0_ n1_ n2_
              (try clear hb)
              (try clear hb2)
              (try clear hk)
              (try clear hi)
              refine hK.out _ _ ⟨(blk_cell BK608.out 0).trans rfl, (blk_cell BK608.out 1).trans rfl⟩ (fun hHeld => ?_)
              clear hK K
              refine norm_ (a' := ?_) ?_ ?_
              rotate_left
              ·
               show Act.put _ (some 22) _ = _
               simp only [Act.put, List.setIfInBounds_toArray, List.set_cons_zero, List.set_cons_succ, i64_w, i32_w]
               rfl
              exact norm_ (by first | (simp only [putAll, Act.put, List.setIfInBounds_toArray, List.set_cons_zero, List.set_cons_succ]; done) | (simp only [putAll, Act.put, List.setIfInBounds_toArray, List.set_cons_zero, List.set_cons_succ]; rfl)) (hJ2_7 (gb620) _ ⟨hHeld, (by (with_reducible repeat (first | refine blk_drewN ?_ _ | refine blk_drew ?_ | refine blk_alloc ?_ _)); exact BK608.out), (by (with_reducible repeat (first | refine blk_drewN ?_ _ | refine blk_drew ?_ | refine blk_alloc ?_ _)); exact BK620.out), GW620.out, GE620.out, NB608_620.out, NB620_608.out, (by repeat (first | (with_reducible first | exact HB.out | apply below_alloc | apply pw_below_drewN | apply below_drew1 | refine below_set ?_ GE608.out | refine below_set ?_ GE620.out) | exact HB.out))⟩)
             ·
              skip
              refine box_step ?hg (N := 9) ?hd (cs := #[.bool false, .bool false, .bool false, .int .u64 0, .int .i64 0]) (t := 66) ?hr ?_; (case hd => rfl); (case hg => rfl); (case hr => first | (go_simp; done) | (go_simp; rfl))
              intro gb619 hg w16 hbox hb
              have n0_ := Aside0.mk (blk_below (g := gb608) (o := .cells #[.int .i64 t605, .int .i64 t606] 62 (0, 0)) (by (with_reducible repeat (first | refine blk_drewN ?_ _ | refine blk_drew ?_ | refine blk_alloc ?_ _)); exact BK608.out) hb)
              have n1_ := Aside0.mk (blk_below (g := gb620) (o := .cells #[.bool false, .bool false, .bool false, .int .u64 0, .int .i64 0] 66 (0, 0)) (by (with_reducible repeat (first | refine blk_drewN ?_ _ | refine blk_drew ?_ | refine blk_alloc ?_ _)); exact BK620.out) hb)
              have n2_ := Aside0.mk (below_step (by repeat (first | (with_reducible first | exact HB.out | apply below_alloc | apply pw_below_drewN | apply below_drew1 | refine below_set ?_ GE608.out | refine below_set ?_ GE620.out) | exact HB.out)) hb)
              have n3_ := Aside0.mk (hbox)
              have n4_ := Aside0.mk ((by rw [hg]; exact (below_size (by repeat (first | (with_reducible first | exact HB.out | apply below_alloc | apply pw_below_drewN | apply below_drew1 | refine below_set ?_ GE608.out | refine below_set ?_ GE620.out) | exact HB.out))) : w.heap.size ≤ gb619))
              have n5_ := Aside0.mk ((by rw [hg]; exact (below_size (by repeat (first | (with_reducible first | exact HB.out | apply below_alloc | apply pw_below_drewN | apply below_drew1 | refine below_set ?_ GE608.out | refine below_set ?_ GE620.out) | exact HB.out))) : w.heap.size ≤ gb619))
              have n6_ := Aside0.mk ((by rw [hg]; exact Nat.ne_of_lt (blk_lt (g := gb608) (o := .cells #[.int .i64 t605, .int .i64 t606] 62 (0, 0)) (by (with_reducible repeat (first | refine blk_drewN ?_ _ | refine blk_drew ?_ | refine blk_alloc ?_ _)); exact BK608.out)) : gb608 ≠ gb619))
              have n7_ := Aside0.mk ((by rw [hg]; exact Nat.ne_of_gt (blk_lt (g := gb608) (o := .cells #[.int .i64 t605, .int .i64 t606] 62 (0, 0)) (by (with_reducible repeat (first | refine blk_drewN ?_ _ | refine blk_drew ?_ | refine blk_alloc ?_ _)); exact BK608.out)) : gb619 ≠ gb608))
              have n8_ := Aside0.mk ((by rw [hg]; exact Nat.ne_of_lt (blk_lt (g := gb620) (o := .cells #[.bool false, .bool false, .bool false, .int .u64 0, .int .i64 0] 66 (0, 0)) (by (with_reducible repeat (first | refine blk_drewN ?_ _ | refine blk_drew ?_ | refine blk_alloc ?_ _)); exact BK620.out)) : gb620 ≠ gb619))
              have n9_ := Aside0.mk ((by rw [hg]; exact Nat.ne_of_gt (blk_lt (g := gb620) (o := .cells #[.bool false, .bool false, .bool false, .int .u64 0, .int .i64 0] 66 (0, 0)) (by (with_reducible repeat (first | refine blk_drewN ?_ _ | refine blk_drew ?_ | refine blk_alloc ?_ _)); exact BK620.out)) : gb619 ≠ gb620))
              clear BK608
              clear BK620
              clear HB
              have BK608 := n0_
              have BK620 := n1_
              have HB := n2_
              have BK619 := n3_
              have GW619 := n4_
              have GE619 := n5_
              have NB608_619 := n6_
              have NB619_608 := n7_
              have NB620_619 := n8_
              have NB619_620 := n9_
              clear n0_ n1_ n2_ n3_ n4_ n5_ n6_ n7_ n8_ n9_
              clear hb hbox hg
              refine hK.out _ _ ⟨(blk_cell BK608.out 0).trans rfl, (blk_cell BK608.out 1).trans rfl⟩ (fun hHeld => ?_)
              clear hK K
              refine norm_ (a' := ?_) ?_ ?_
              rotate_left
              ·
               show Act.put _ (some 9) _ = _
               simp only [Act.put, List.setIfInBounds_toArray, List.set_cons_zero, List.set_cons_succ, i64_w, i32_w]
               rfl
              exact norm_ (by first | (simp only [putAll, Act.put, List.setIfInBounds_toArray, List.set_cons_zero, List.set_cons_succ]; done) | (simp only [putAll, Act.put, List.setIfInBounds_toArray, List.set_cons_zero, List.set_cons_succ]; rfl)) (hJ6_7 (gb619, gb620) _ ⟨hHeld, (by (with_reducible repeat (first | refine blk_drewN ?_ _ | refine blk_drew ?_ | refine blk_alloc ?_ _)); exact BK608.out), (by (with_reducible repeat (first | refine blk_drewN ?_ _ | refine blk_drew ?_ | refine blk_alloc ?_ _)); exact BK619.out), (by (with_reducible repeat (first | refine blk_drewN ?_ _ | refine blk_drew ?_ | refine blk_alloc ?_ _)); exact BK620.out), GW619.out, GE619.out, NB608_619.out, NB619_608.out, NB620_619.out, NB619_620.out, GW620.out, GE620.out, NB608_620.out, NB620_608.out, (by repeat (first | (with_reducible first | exact HB.out | apply below_alloc | apply pw_below_drewN | apply below_drew1 | refine below_set ?_ GE608.out | refine below_set ?_ GE620.out | refine below_set ?_ GE619.out) | exact HB.out))⟩)
           ·
            skip
            rintro gb619 w15 ⟨hS_, h0_, h1_, h2_, h3_, h4_, h5_, h6_⟩
            have n0_ : Aside0 (w15.heap[gb608]? = some (.cells #[.int .i64 t605, .int .i64 t606] 62 (0, 0))) := ⟨h0_⟩
            have n1_ : Aside0 (w15.heap[gb619]? = some (.cells #[.bool false, .bool false, .bool false, .int .u64 0, .int .i64 0] 66 (0, 0))) := ⟨h1_⟩
            have n2_ : Aside0 (w.heap.size ≤ gb619) := ⟨h2_⟩
            have n3_ : Aside0 (w.heap.size ≤ gb619) := ⟨h3_⟩
            have n4_ : Aside0 (gb608 ≠ gb619) := ⟨h4_⟩
            have n5_ : Aside0 (gb619 ≠ gb608) := ⟨h5_⟩
            have n6_ : Aside0 (Below w.heap.size w w15) := ⟨h6_⟩
            clear BK608
            clear HB
            clear h0_ h1_ h2_ h3_ h4_ h5_ h6_
            have BK608 := n0_
            have BK619 := n1_
            have GW619 := n2_
            have GE619 := n3_
            have NB608_619 := n4_
            have NB619_608 := n5_
            have HB := n6_
            clear n0_ n1_ n2_ n3_ n4_ n5_ n6_
            have hHeld : w15.cell? ⟨gb608, 0, none⟩ = some (.int .i64 t605) ∧ w15.cell? ⟨gb608, 1, none⟩ = some (.int .i64 t606) := hS_
            refine norm_ (a' := ?_) ?_ ?_
            rotate_left
            ·
             simp only [putAll, Act.put, List.setIfInBounds_toArray, List.set_cons_zero, List.set_cons_succ]
             rfl
            refine two_ (i := 2) (j := 7) (Ni := some 22) (Nj := some 10) #[true, true, true, true, true, false, true, false, false, false] #[true, true, false, true, true, false, true, true, false, false] rfl rfl rfl rfl (two_of HT_.out (by kernel_rfl)) (by decide) (by decide) (fun K hK => ?_) (fun K hK => ?_)
            ·
             skip
             refine goes_ Try.func52 (by kernel_rfl) rfl #[.agg #[.int .i64 t605, .int .i64 t606], .int .u32 a1] (by rfl) rfl rfl (by (try simp only [List.map_toArray, List.map_cons, List.map_nil]); first | done | rfl | (simp only [List.length_drop, List.length_take]; rfl)) ?_
             with_reducible refine (impl_format_open.calls t605 t606 a1 t609 t610 t611 t612 t613 _ A6.out).mono ?_
             rintro e w16 ⟨rfl, hb⟩
             refine ⟨_, rfl, ?_⟩
             have n0_ := Aside0.mk (blk_below (g := gb608) (o := .cells #[.int .i64 t605, .int .i64 t606] 62 (0, 0)) (by (with_reducible repeat (first | refine blk_drewN ?_ _ | refine blk_drew ?_ | refine blk_alloc ?_ _)); exact BK608.out) hb)
             have n1_ := Aside0.mk (blk_below (g := gb619) (o := .cells #[.bool false, .bool false, .bool false, .int .u64 0, .int .i64 0] 66 (0, 0)) (by (with_reducible repeat (first | refine blk_drewN ?_ _ | refine blk_drew ?_ | refine blk_alloc ?_ _)); exact BK619.out) hb)
             have n2_ := Aside0.mk (below_step (by repeat (first | (with_reducible first | exact HB.out | apply below_alloc | apply pw_below_drewN | apply below_drew1 | refine below_set ?_ GE608.out | refine below_set ?_ GE619.out) | exact HB.out)) hb)
             clear BK608
             clear BK619
             clear HB
             have BK608 := n0_
             have BK619 := n1_
             have HB := n2_
             clear n0_ n1_ n2_
             (try clear hb)
             (try clear hb2)
             (try clear hk)
             (try clear hi)
             refine hK.out _ _ ⟨(blk_cell BK608.out 0).trans rfl, (blk_cell BK608.out 1).trans rfl⟩ (fun hHeld => ?_)
             clear hK K
             refine norm_ (a' := ?_) ?_ ?_
             rotate_left
             ·
              show Act.put _ (some 22) _ = _
              simp only [Act.put, List.setIfInBounds_toArray, List.set_cons_zero, List.set_cons_succ, i64_w, i32_w]
              rfl
             exact norm_ (by first | (simp only [putAll, Act.put, List.setIfInBounds_toArray, List.set_cons_zero, List.set_cons_succ]; done) | (simp only [putAll, Act.put, List.setIfInBounds_toArray, List.set_cons_zero, List.set_cons_succ]; rfl)) (hJ2_6 (gb619) _ ⟨hHeld, (by (with_reducible repeat (first | refine blk_drewN ?_ _ | refine blk_drew ?_ | refine blk_alloc ?_ _)); exact BK608.out), (by (with_reducible repeat (first | refine blk_drewN ?_ _ | refine blk_drew ?_ | refine blk_alloc ?_ _)); exact BK619.out), GW619.out, GE619.out, NB608_619.out, NB619_608.out, (by repeat (first | (with_reducible first | exact HB.out | apply below_alloc | apply pw_below_drewN | apply below_drew1 | refine below_set ?_ GE608.out | refine below_set ?_ GE619.out) | exact HB.out))⟩)
            ·
             skip
             refine box_step ?hg (N := 10) ?hd (cs := #[.bool false, .bool false, .bool false, .int .u64 0, .int .i64 0]) (t := 66) ?hr ?_; (case hd => rfl); (case hg => rfl); (case hr => first | (go_simp; done) | (go_simp; rfl))
             intro gb620 hg w16 hbox hb
             have n0_ := Aside0.mk (blk_below (g := gb608) (o := .cells #[.int .i64 t605, .int .i64 t606] 62 (0, 0)) (by (with_reducible repeat (first | refine blk_drewN ?_ _ | refine blk_drew ?_ | refine blk_alloc ?_ _)); exact BK608.out) hb)
             have n1_ := Aside0.mk (blk_below (g := gb619) (o := .cells #[.bool false, .bool false, .bool false, .int .u64 0, .int .i64 0] 66 (0, 0)) (by (with_reducible repeat (first | refine blk_drewN ?_ _ | refine blk_drew ?_ | refine blk_alloc ?_ _)); exact BK619.out) hb)
             have n2_ := Aside0.mk (below_step (by repeat (first | (with_reducible first | exact HB.out | apply below_alloc | apply pw_below_drewN | apply below_drew1 | refine below_set ?_ GE608.out | refine below_set ?_ GE619.out) | exact HB.out)) hb)
             have n3_ := Aside0.mk (hbox)
             have n4_ := Aside0.mk ((by rw [hg]; exact (below_size (by repeat (first | (with_reducible first | exact HB.out | apply below_alloc | apply pw_below_drewN | apply below_drew1 | refine below_set ?_ GE608.out | refine below_set ?_ GE619.out) | exact HB.out))) : w.heap.size ≤ gb620))
             have n5_ := Aside0.mk ((by rw [hg]; exact (below_size (by repeat (first | (with_reducible first | exact HB.out | apply below_alloc | apply pw_below_drewN | apply below_drew1 | refine below_set ?_ GE608.out | refine below_set ?_ GE619.out) | exact HB.out))) : w.heap.size ≤ gb620))
             have n6_ := Aside0.mk ((by rw [hg]; exact Nat.ne_of_lt (blk_lt (g := gb608) (o := .cells #[.int .i64 t605, .int .i64 t606] 62 (0, 0)) (by (with_reducible repeat (first | refine blk_drewN ?_ _ | refine blk_drew ?_ | refine blk_alloc ?_ _)); exact BK608.out)) : gb608 ≠ gb620))
             have n7_ := Aside0.mk ((by rw [hg]; exact Nat.ne_of_gt (blk_lt (g := gb608) (o := .cells #[.int .i64 t605, .int .i64 t606] 62 (0, 0)) (by (with_reducible repeat (first | refine blk_drewN ?_ _ | refine blk_drew ?_ | refine blk_alloc ?_ _)); exact BK608.out)) : gb620 ≠ gb608))
             have n8_ := Aside0.mk ((by rw [hg]; exact Nat.ne_of_lt (blk_lt (g := gb619) (o := .cells #[.bool false, .bool false, .bool false, .int .u64 0, .int .i64 0] 66 (0, 0)) (by (with_reducible repeat (first | refine blk_drewN ?_ _ | refine blk_drew ?_ | refine blk_alloc ?_ _)); exact BK619.out)) : gb619 ≠ gb620))
             have n9_ := Aside0.mk ((by rw [hg]; exact Nat.ne_of_gt (blk_lt (g := gb619) (o := .cells #[.bool false, .bool false, .bool false, .int .u64 0, .int .i64 0] 66 (0, 0)) (by (with_reducible repeat (first | refine blk_drewN ?_ _ | refine blk_drew ?_ | refine blk_alloc ?_ _)); exact BK619.out)) : gb620 ≠ gb619))
             clear BK608
             clear BK619
             clear HB
             have BK608 := n0_
             have BK619 := n1_
             have HB := n2_
             have BK620 := n3_
             have GW620 := n4_
             have GE620 := n5_
             have NB608_620 := n6_
             have NB620_608 := n7_
             have NB619_620 := n8_
             have NB620_619 := n9_
             clear n0_ n1_ n2_ n3_ n4_ n5_ n6_ n7_ n8_ n9_
             clear hb hbox hg
             refine hK.out _ _ ⟨(blk_cell BK608.out 0).trans rfl, (blk_cell BK608.out 1).trans rfl⟩ (fun hHeld => ?_)
             clear hK K
             refine norm_ (a' := ?_) ?_ ?_
             rotate_left
             ·
              show Act.put _ (some 10) _ = _
              simp only [Act.put, List.setIfInBounds_toArray, List.set_cons_zero, List.set_cons_succ, i64_w, i32_w]
              rfl
             exact norm_ (by first | (simp only [putAll, Act.put, List.setIfInBounds_toArray, List.set_cons_zero, List.set_cons_succ]; done) | (simp only [putAll, Act.put, List.setIfInBounds_toArray, List.set_cons_zero, List.set_cons_succ]; rfl)) (hJ6_7 (gb619, gb620) _ ⟨hHeld, (by (with_reducible repeat (first | refine blk_drewN ?_ _ | refine blk_drew ?_ | refine blk_alloc ?_ _)); exact BK608.out), (by (with_reducible repeat (first | refine blk_drewN ?_ _ | refine blk_drew ?_ | refine blk_alloc ?_ _)); exact BK619.out), (by (with_reducible repeat (first | refine blk_drewN ?_ _ | refine blk_drew ?_ | refine blk_alloc ?_ _)); exact BK620.out), GW619.out, GE619.out, NB608_619.out, NB619_608.out, NB620_619.out, NB619_620.out, GW620.out, GE620.out, NB608_620.out, NB620_608.out, (by repeat (first | (with_reducible first | exact HB.out | apply below_alloc | apply pw_below_drewN | apply below_drew1 | refine below_set ?_ GE608.out | refine below_set ?_ GE619.out | refine below_set ?_ GE620.out) | exact HB.out))⟩)
          ·
           skip
           rintro _ w15 ⟨hS_, h0_, h1_⟩
           have n0_ : Aside0 (w15.heap[gb608]? = some (.cells #[.int .i64 t605, .int .i64 t606] 62 (0, 0))) := ⟨h0_⟩
           have n1_ : Aside0 (Below w.heap.size w w15) := ⟨h1_⟩
           clear BK608
           clear HB
           clear h0_ h1_
           have BK608 := n0_
           have HB := n1_
           clear n0_ n1_
           have hHeld : w15.cell? ⟨gb608, 0, none⟩ = some (.int .i64 t605) ∧ w15.cell? ⟨gb608, 1, none⟩ = some (.int .i64 t606) := hS_
           refine norm_ (a' := ?_) ?_ ?_
           rotate_left
           ·
            simp only [putAll, Act.put, List.setIfInBounds_toArray, List.set_cons_zero, List.set_cons_succ]
            rfl
           refine three_ (i := 5) (j := 6) (k := 7) (Ni := some 25) (Nj := some 9) (Nk := some 10) #[true, true, true, true, true, true, false, false, false, false] #[true, true, true, true, true, false, true, false, false, false] #[true, true, true, true, true, false, false, true, false, false] rfl rfl rfl rfl rfl rfl (three_of HT_.out (by kernel_rfl)) (by decide) (by decide) (by decide) (fun K hK => ?_) (fun K hK => ?_) (fun K hK => ?_)
           ·
            skip
            refine goes_ Try.func52 (by kernel_rfl) rfl #[.agg #[.int .i64 t605, .int .i64 t606], .int .u32 a2] (by rfl) rfl rfl (by (try simp only [List.map_toArray, List.map_cons, List.map_nil]); first | done | rfl | (simp only [List.length_drop, List.length_take]; rfl)) ?_
            with_reducible refine (impl_format_open.calls t605 t606 a2 t614 t615 t616 t617 t618 _ A7.out).mono ?_
            rintro e w16 ⟨rfl, hb⟩
            refine ⟨_, rfl, ?_⟩
            have n0_ := Aside0.mk (blk_below (g := gb608) (o := .cells #[.int .i64 t605, .int .i64 t606] 62 (0, 0)) (by (with_reducible repeat (first | refine blk_drewN ?_ _ | refine blk_drew ?_ | refine blk_alloc ?_ _)); exact BK608.out) hb)
            have n1_ := Aside0.mk (below_step (by repeat (first | (with_reducible first | exact HB.out | apply below_alloc | apply pw_below_drewN | apply below_drew1 | refine below_set ?_ GE608.out) | exact HB.out)) hb)
            clear BK608
            clear HB
            have BK608 := n0_
            have HB := n1_
            clear n0_ n1_
            (try clear hb)
            (try clear hb2)
            (try clear hk)
            (try clear hi)
            refine hK.out _ _ ⟨(blk_cell BK608.out 0).trans rfl, (blk_cell BK608.out 1).trans rfl⟩ (fun hHeld => ?_)
            clear hK K
            refine norm_ (a' := ?_) ?_ ?_
            rotate_left
            ·
             show Act.put _ (some 25) _ = _
             simp only [Act.put, List.setIfInBounds_toArray, List.set_cons_zero, List.set_cons_succ, i64_w, i32_w]
             rfl
            exact norm_ (by first | (simp only [putAll, Act.put, List.setIfInBounds_toArray, List.set_cons_zero, List.set_cons_succ]; done) | (simp only [putAll, Act.put, List.setIfInBounds_toArray, List.set_cons_zero, List.set_cons_succ]; rfl)) (hJ2_5 () _ ⟨hHeld, (by (with_reducible repeat (first | refine blk_drewN ?_ _ | refine blk_drew ?_ | refine blk_alloc ?_ _)); exact BK608.out), (by repeat (first | (with_reducible first | exact HB.out | apply below_alloc | apply pw_below_drewN | apply below_drew1 | refine below_set ?_ GE608.out) | exact HB.out))⟩)
           ·
            skip
            refine box_step ?hg (N := 9) ?hd (cs := #[.bool false, .bool false, .bool false, .int .u64 0, .int .i64 0]) (t := 66) ?hr ?_; (case hd => rfl); (case hg => rfl); (case hr => first | (go_simp; done) | (go_simp; rfl))
            intro gb619 hg w16 hbox hb
            have n0_ := Aside0.mk (blk_below (g := gb608) (o := .cells #[.int .i64 t605, .int .i64 t606] 62 (0, 0)) (by (with_reducible repeat (first | refine blk_drewN ?_ _ | refine blk_drew ?_ | refine blk_alloc ?_ _)); exact BK608.out) hb)
            have n1_ := Aside0.mk (below_step (by repeat (first | (with_reducible first | exact HB.out | apply below_alloc | apply pw_below_drewN | apply below_drew1 | refine below_set ?_ GE608.out) | exact HB.out)) hb)
            have n2_ := Aside0.mk (hbox)
            have n3_ := Aside0.mk ((by rw [hg]; exact (below_size (by repeat (first | (with_reducible first | exact HB.out | apply below_alloc | apply pw_below_drewN | apply below_drew1 | refine below_set ?_ GE608.out) | exact HB.out))) : w.heap.size ≤ gb619))
            have n4_ := Aside0.mk ((by rw [hg]; exact (below_size (by repeat (first | (with_reducible first | exact HB.out | apply below_alloc | apply pw_below_drewN | apply below_drew1 | refine below_set ?_ GE608.out) | exact HB.out))) : w.heap.size ≤ gb619))
            have n5_ := Aside0.mk ((by rw [hg]; exact Nat.ne_of_lt (blk_lt (g := gb608) (o := .cells #[.int .i64 t605, .int .i64 t606] 62 (0, 0)) (by (with_reducible repeat (first | refine blk_drewN ?_ _ | refine blk_drew ?_ | refine blk_alloc ?_ _)); exact BK608.out)) : gb608 ≠ gb619))
            have n6_ := Aside0.mk ((by rw [hg]; exact Nat.ne_of_gt (blk_lt (g := gb608) (o := .cells #[.int .i64 t605, .int .i64 t606] 62 (0, 0)) (by (with_reducible repeat (first | refine blk_drewN ?_ _ | refine blk_drew ?_ | refine blk_alloc ?_ _)); exact BK608.out)) : gb619 ≠ gb608))
            clear BK608
            clear HB
            have BK608 := n0_
            have HB := n1_
            have BK619 := n2_
            have GW619 := n3_
            have GE619 := n4_
            have NB608_619 := n5_
            have NB619_608 := n6_
            clear n0_ n1_ n2_ n3_ n4_ n5_ n6_
            clear hb hbox hg
            refine hK.out _ _ ⟨(blk_cell BK608.out 0).trans rfl, (blk_cell BK608.out 1).trans rfl⟩ (fun hHeld => ?_)
            clear hK K
            refine norm_ (a' := ?_) ?_ ?_
            rotate_left
            ·
             show Act.put _ (some 9) _ = _
             simp only [Act.put, List.setIfInBounds_toArray, List.set_cons_zero, List.set_cons_succ, i64_w, i32_w]
             rfl
            exact norm_ (by first | (simp only [putAll, Act.put, List.setIfInBounds_toArray, List.set_cons_zero, List.set_cons_succ]; done) | (simp only [putAll, Act.put, List.setIfInBounds_toArray, List.set_cons_zero, List.set_cons_succ]; rfl)) (hJ2_6 (gb619) _ ⟨hHeld, (by (with_reducible repeat (first | refine blk_drewN ?_ _ | refine blk_drew ?_ | refine blk_alloc ?_ _)); exact BK608.out), (by (with_reducible repeat (first | refine blk_drewN ?_ _ | refine blk_drew ?_ | refine blk_alloc ?_ _)); exact BK619.out), GW619.out, GE619.out, NB608_619.out, NB619_608.out, (by repeat (first | (with_reducible first | exact HB.out | apply below_alloc | apply pw_below_drewN | apply below_drew1 | refine below_set ?_ GE608.out | refine below_set ?_ GE619.out) | exact HB.out))⟩)
           ·
            skip
            refine box_step ?hg (N := 10) ?hd (cs := #[.bool false, .bool false, .bool false, .int .u64 0, .int .i64 0]) (t := 66) ?hr ?_; (case hd => rfl); (case hg => rfl); (case hr => first | (go_simp; done) | (go_simp; rfl))
            intro gb620 hg w16 hbox hb
            have n0_ := Aside0.mk (blk_below (g := gb608) (o := .cells #[.int .i64 t605, .int .i64 t606] 62 (0, 0)) (by (with_reducible repeat (first | refine blk_drewN ?_ _ | refine blk_drew ?_ | refine blk_alloc ?_ _)); exact BK608.out) hb)
            have n1_ := Aside0.mk (below_step (by repeat (first | (with_reducible first | exact HB.out | apply below_alloc | apply pw_below_drewN | apply below_drew1 | refine below_set ?_ GE608.out) | exact HB.out)) hb)
            have n2_ := Aside0.mk (hbox)
            have n3_ := Aside0.mk ((by rw [hg]; exact (below_size (by repeat (first | (with_reducible first | exact HB.out | apply below_alloc | apply pw_below_drewN | apply below_drew1 | refine below_set ?_ GE608.out) | exact HB.out))) : w.heap.size ≤ gb620))
            have n4_ := Aside0.mk ((by rw [hg]; exact (below_size (by repeat (first | (with_reducible first | exact HB.out | apply below_alloc | apply pw_below_drewN | apply below_drew1 | refine below_set ?_ GE608.out) | exact HB.out))) : w.heap.size ≤ gb620))
            have n5_ := Aside0.mk ((by rw [hg]; exact Nat.ne_of_lt (blk_lt (g := gb608) (o := .cells #[.int .i64 t605, .int .i64 t606] 62 (0, 0)) (by (with_reducible repeat (first | refine blk_drewN ?_ _ | refine blk_drew ?_ | refine blk_alloc ?_ _)); exact BK608.out)) : gb608 ≠ gb620))
            have n6_ := Aside0.mk ((by rw [hg]; exact Nat.ne_of_gt (blk_lt (g := gb608) (o := .cells #[.int .i64 t605, .int .i64 t606] 62 (0, 0)) (by (with_reducible repeat (first | refine blk_drewN ?_ _ | refine blk_drew ?_ | refine blk_alloc ?_ _)); exact BK608.out)) : gb620 ≠ gb608))
            clear BK608
            clear HB
            have BK608 := n0_
            have HB := n1_
            have BK620 := n2_
            have GW620 := n3_
            have GE620 := n4_
            have NB608_620 := n5_
            have NB620_608 := n6_
            clear n0_ n1_ n2_ n3_ n4_ n5_ n6_
            clear hb hbox hg
            refine hK.out _ _ ⟨(blk_cell BK608.out 0).trans rfl, (blk_cell BK608.out 1).trans rfl⟩ (fun hHeld => ?_)
            clear hK K
            refine norm_ (a' := ?_) ?_ ?_
            rotate_left
            ·
             show Act.put _ (some 10) _ = _
             simp only [Act.put, List.setIfInBounds_toArray, List.set_cons_zero, List.set_cons_succ, i64_w, i32_w]
             rfl
            exact norm_ (by first | (simp only [putAll, Act.put, List.setIfInBounds_toArray, List.set_cons_zero, List.set_cons_succ]; done) | (simp only [putAll, Act.put, List.setIfInBounds_toArray, List.set_cons_zero, List.set_cons_succ]; rfl)) (hJ2_7 (gb620) _ ⟨hHeld, (by (with_reducible repeat (first | refine blk_drewN ?_ _ | refine blk_drew ?_ | refine blk_alloc ?_ _)); exact BK608.out), (by (with_reducible repeat (first | refine blk_drewN ?_ _ | refine blk_drew ?_ | refine blk_alloc ?_ _)); exact BK620.out), GW620.out, GE620.out, NB608_620.out, NB620_608.out, (by repeat (first | (with_reducible first | exact HB.out | apply below_alloc | apply pw_below_drewN | apply below_drew1 | refine below_set ?_ GE608.out | refine below_set ?_ GE620.out) | exact HB.out))⟩)
         ·
          skip
          rintro ⟨gb619, gb620⟩ w16 ⟨hS_, h0_, h1_, h2_, h3_, h4_, h5_, h6_, h7_, h8_, h9_, h10_, h11_, h12_, h13_⟩
          have n0_ : Aside0 (w16.heap[gb608]? = some (.cells #[.int .i64 t605, .int .i64 t606] 62 (0, 0))) := ⟨h0_⟩
          have n1_ : Aside0 (w16.heap[gb619]? = some (.cells #[.bool false, .bool false, .bool false, .int .u64 0, .int .i64 0] 66 (0, 0))) := ⟨h1_⟩
          have n2_ : Aside0 (w16.heap[gb620]? = some (.cells #[.bool false, .bool false, .bool false, .int .u64 0, .int .i64 0] 66 (0, 0))) := ⟨h2_⟩
          have n3_ : Aside0 (w.heap.size ≤ gb619) := ⟨h3_⟩
          have n4_ : Aside0 (w.heap.size ≤ gb619) := ⟨h4_⟩
          have n5_ : Aside0 (gb608 ≠ gb619) := ⟨h5_⟩
          have n6_ : Aside0 (gb619 ≠ gb608) := ⟨h6_⟩
          have n7_ : Aside0 (gb620 ≠ gb619) := ⟨h7_⟩
          have n8_ : Aside0 (gb619 ≠ gb620) := ⟨h8_⟩
          have n9_ : Aside0 (w.heap.size ≤ gb620) := ⟨h9_⟩
          have n10_ : Aside0 (w.heap.size ≤ gb620) := ⟨h10_⟩
          have n11_ : Aside0 (gb608 ≠ gb620) := ⟨h11_⟩
          have n12_ : Aside0 (gb620 ≠ gb608) := ⟨h12_⟩
          have n13_ : Aside0 (Below w.heap.size w w16) := ⟨h13_⟩
          clear BK608
          clear HB
          clear h0_ h1_ h2_ h3_ h4_ h5_ h6_ h7_ h8_ h9_ h10_ h11_ h12_ h13_
          have BK608 := n0_
          have BK619 := n1_
          have BK620 := n2_
          have GW619 := n3_
          have GE619 := n4_
          have NB608_619 := n5_
          have NB619_608 := n6_
          have NB620_619 := n7_
          have NB619_620 := n8_
          have GW620 := n9_
          have GE620 := n10_
          have NB608_620 := n11_
          have NB620_608 := n12_
          have HB := n13_
          clear n0_ n1_ n2_ n3_ n4_ n5_ n6_ n7_ n8_ n9_ n10_ n11_ n12_ n13_
          have hHeld : w16.cell? ⟨gb608, 0, none⟩ = some (.int .i64 t605) ∧ w16.cell? ⟨gb608, 1, none⟩ = some (.int .i64 t606) := hS_
          refine norm_ (a' := ?_) ?_ ?_
          rotate_left
          ·
           simp only [putAll, Act.put, List.setIfInBounds_toArray, List.set_cons_zero, List.set_cons_succ]
           rfl
          refine one_ (i := 2) (N := some 22) #[true, true, true, true, true, false, true, true, false, false] rfl rfl (one_of HT_.out (by kernel_rfl)) (by decide) (fun K hK => ?_)
          refine goes_ Try.func52 (by kernel_rfl) rfl #[.agg #[.int .i64 t605, .int .i64 t606], .int .u32 a1] (by rfl) rfl rfl (by (try simp only [List.map_toArray, List.map_cons, List.map_nil]); first | done | rfl | (simp only [List.length_drop, List.length_take]; rfl)) ?_
          with_reducible refine (impl_format_open.calls t605 t606 a1 t609 t610 t611 t612 t613 _ A6.out).mono ?_
          rintro e w17 ⟨rfl, hb⟩
          refine ⟨_, rfl, ?_⟩
          have n0_ := Aside0.mk (blk_below (g := gb608) (o := .cells #[.int .i64 t605, .int .i64 t606] 62 (0, 0)) (by (with_reducible repeat (first | refine blk_drewN ?_ _ | refine blk_drew ?_ | refine blk_alloc ?_ _)); exact BK608.out) hb)
          have n1_ := Aside0.mk (blk_below (g := gb619) (o := .cells #[.bool false, .bool false, .bool false, .int .u64 0, .int .i64 0] 66 (0, 0)) (by (with_reducible repeat (first | refine blk_drewN ?_ _ | refine blk_drew ?_ | refine blk_alloc ?_ _)); exact BK619.out) hb)
          have n2_ := Aside0.mk (blk_below (g := gb620) (o := .cells #[.bool false, .bool false, .bool false, .int .u64 0, .int .i64 0] 66 (0, 0)) (by (with_reducible repeat (first | refine blk_drewN ?_ _ | refine blk_drew ?_ | refine blk_alloc ?_ _)); exact BK620.out) hb)
          have n3_ := Aside0.mk (below_step (by repeat (first | (with_reducible first | exact HB.out | apply below_alloc | apply pw_below_drewN | apply below_drew1 | refine below_set ?_ GE608.out | refine below_set ?_ GE619.out | refine below_set ?_ GE620.out) | exact HB.out)) hb)
          clear BK608
          clear BK619
          clear BK620
          clear HB
          have BK608 := n0_
          have BK619 := n1_
          have BK620 := n2_
          have HB := n3_
          clear n0_ n1_ n2_ n3_
          (try clear hb)
          (try clear hb2)
          (try clear hk)
          (try clear hi)
          refine hK.out _ _ ⟨(blk_cell BK608.out 0).trans rfl, (blk_cell BK608.out 1).trans rfl⟩ (fun hHeld => ?_)
          clear hK K
          refine norm_ (a' := ?_) ?_ ?_
          rotate_left
          ·
           show Act.put _ (some 22) _ = _
           simp only [Act.put, List.setIfInBounds_toArray, List.set_cons_zero, List.set_cons_succ, i64_w, i32_w]
           rfl
          exact norm_ (by first | (simp only [putAll, Act.put, List.setIfInBounds_toArray, List.set_cons_zero, List.set_cons_succ]; done) | (simp only [putAll, Act.put, List.setIfInBounds_toArray, List.set_cons_zero, List.set_cons_succ]; rfl)) (hJ2_6_7 (gb619, gb620) _ ⟨hHeld, (by (with_reducible repeat (first | refine blk_drewN ?_ _ | refine blk_drew ?_ | refine blk_alloc ?_ _)); exact BK608.out), (by (with_reducible repeat (first | refine blk_drewN ?_ _ | refine blk_drew ?_ | refine blk_alloc ?_ _)); exact BK619.out), (by (with_reducible repeat (first | refine blk_drewN ?_ _ | refine blk_drew ?_ | refine blk_alloc ?_ _)); exact BK620.out), GW619.out, GE619.out, NB608_619.out, NB619_608.out, NB620_619.out, NB619_620.out, GW620.out, GE620.out, NB608_620.out, NB620_608.out, (by repeat (first | (with_reducible first | exact HB.out | apply below_alloc | apply pw_below_drewN | apply below_drew1 | refine below_set ?_ GE608.out | refine below_set ?_ GE619.out | refine below_set ?_ GE620.out) | exact HB.out))⟩)
        ·
         skip
         rintro gb620 w16 ⟨hS_, h0_, h1_, h2_, h3_, h4_, h5_, h6_⟩
         have n0_ : Aside0 (w16.heap[gb608]? = some (.cells #[.int .i64 t605, .int .i64 t606] 62 (0, 0))) := ⟨h0_⟩
         have n1_ : Aside0 (w16.heap[gb620]? = some (.cells #[.bool false, .bool false, .bool false, .int .u64 0, .int .i64 0] 66 (0, 0))) := ⟨h1_⟩
         have n2_ : Aside0 (w.heap.size ≤ gb620) := ⟨h2_⟩
         have n3_ : Aside0 (w.heap.size ≤ gb620) := ⟨h3_⟩
         have n4_ : Aside0 (gb608 ≠ gb620) := ⟨h4_⟩
         have n5_ : Aside0 (gb620 ≠ gb608) := ⟨h5_⟩
         have n6_ : Aside0 (Below w.heap.size w w16) := ⟨h6_⟩
         clear BK608
         clear HB
         clear h0_ h1_ h2_ h3_ h4_ h5_ h6_
         have BK608 := n0_
         have BK620 := n1_
         have GW620 := n2_
         have GE620 := n3_
         have NB608_620 := n4_
         have NB620_608 := n5_
         have HB := n6_
         clear n0_ n1_ n2_ n3_ n4_ n5_ n6_
         have hHeld : w16.cell? ⟨gb608, 0, none⟩ = some (.int .i64 t605) ∧ w16.cell? ⟨gb608, 1, none⟩ = some (.int .i64 t606) := hS_
         refine norm_ (a' := ?_) ?_ ?_
         rotate_left
         ·
          simp only [putAll, Act.put, List.setIfInBounds_toArray, List.set_cons_zero, List.set_cons_succ]
          rfl
         refine two_ (i := 5) (j := 6) (Ni := some 25) (Nj := some 9) #[true, true, true, true, true, true, false, true, false, false] #[true, true, true, true, true, false, true, true, false, false] rfl rfl rfl rfl (two_of HT_.out (by kernel_rfl)) (by decide) (by decide) (fun K hK => ?_) (fun K hK => ?_)
         ·
          skip
          refine goes_ Try.func52 (by kernel_rfl) rfl #[.agg #[.int .i64 t605, .int .i64 t606], .int .u32 a2] (by rfl) rfl rfl (by (try simp only [List.map_toArray, List.map_cons, List.map_nil]); first | done | rfl | (simp only [List.length_drop, List.length_take]; rfl)) ?_
          with_reducible refine (impl_format_open.calls t605 t606 a2 t614 t615 t616 t617 t618 _ A7.out).mono ?_
          rintro e w17 ⟨rfl, hb⟩
          refine ⟨_, rfl, ?_⟩
          have n0_ := Aside0.mk (blk_below (g := gb608) (o := .cells #[.int .i64 t605, .int .i64 t606] 62 (0, 0)) (by (with_reducible repeat (first | refine blk_drewN ?_ _ | refine blk_drew ?_ | refine blk_alloc ?_ _)); exact BK608.out) hb)
          have n1_ := Aside0.mk (blk_below (g := gb620) (o := .cells #[.bool false, .bool false, .bool false, .int .u64 0, .int .i64 0] 66 (0, 0)) (by (with_reducible repeat (first | refine blk_drewN ?_ _ | refine blk_drew ?_ | refine blk_alloc ?_ _)); exact BK620.out) hb)
          have n2_ := Aside0.mk (below_step (by repeat (first | (with_reducible first | exact HB.out | apply below_alloc | apply pw_below_drewN | apply below_drew1 | refine below_set ?_ GE608.out | refine below_set ?_ GE620.out) | exact HB.out)) hb)
          clear BK608
          clear BK620
          clear HB
          have BK608 := n0_
          have BK620 := n1_
          have HB := n2_
          clear n0_ n1_ n2_
          (try clear hb)
          (try clear hb2)
          (try clear hk)
          (try clear hi)
          refine hK.out _ _ ⟨(blk_cell BK608.out 0).trans rfl, (blk_cell BK608.out 1).trans rfl⟩ (fun hHeld => ?_)
          clear hK K
          refine norm_ (a' := ?_) ?_ ?_
          rotate_left
          ·
           show Act.put _ (some 25) _ = _
           simp only [Act.put, List.setIfInBounds_toArray, List.set_cons_zero, List.set_cons_succ, i64_w, i32_w]
           rfl
          exact norm_ (by first | (simp only [putAll, Act.put, List.setIfInBounds_toArray, List.set_cons_zero, List.set_cons_succ]; done) | (simp only [putAll, Act.put, List.setIfInBounds_toArray, List.set_cons_zero, List.set_cons_succ]; rfl)) (hJ2_5_7 (gb620) _ ⟨hHeld, (by (with_reducible repeat (first | refine blk_drewN ?_ _ | refine blk_drew ?_ | refine blk_alloc ?_ _)); exact BK608.out), (by (with_reducible repeat (first | refine blk_drewN ?_ _ | refine blk_drew ?_ | refine blk_alloc ?_ _)); exact BK620.out), GW620.out, GE620.out, NB608_620.out, NB620_608.out, (by repeat (first | (with_reducible first | exact HB.out | apply below_alloc | apply pw_below_drewN | apply below_drew1 | refine below_set ?_ GE608.out | refine below_set ?_ GE620.out) | exact HB.out))⟩)
         ·
          skip
          refine box_step ?hg (N := 9) ?hd (cs := #[.bool false, .bool false, .bool false, .int .u64 0, .int .i64 0]) (t := 66) ?hr ?_; (case hd => rfl); (case hg => rfl); (case hr => first | (go_simp; done) | (go_simp; rfl))
          intro gb619 hg w17 hbox hb
          have n0_ := Aside0.mk (blk_below (g := gb608) (o := .cells #[.int .i64 t605, .int .i64 t606] 62 (0, 0)) (by (with_reducible repeat (first | refine blk_drewN ?_ _ | refine blk_drew ?_ | refine blk_alloc ?_ _)); exact BK608.out) hb)
          have n1_ := Aside0.mk (blk_below (g := gb620) (o := .cells #[.bool false, .bool false, .bool false, .int .u64 0, .int .i64 0] 66 (0, 0)) (by (with_reducible repeat (first | refine blk_drewN ?_ _ | refine blk_drew ?_ | refine blk_alloc ?_ _)); exact BK620.out) hb)
          have n2_ := Aside0.mk (below_step (by repeat (first | (with_reducible first | exact HB.out | apply below_alloc | apply pw_below_drewN | apply below_drew1 | refine below_set ?_ GE608.out | refine below_set ?_ GE620.out) | exact HB.out)) hb)
          have n3_ := Aside0.mk (hbox)
          have n4_ := Aside0.mk ((by rw [hg]; exact (below_size (by repeat (first | (with_reducible first | exact HB.out | apply below_alloc | apply pw_below_drewN | apply below_drew1 | refine below_set ?_ GE608.out | refine below_set ?_ GE620.out) | exact HB.out))) : w.heap.size ≤ gb619))
          have n5_ := Aside0.mk ((by rw [hg]; exact (below_size (by repeat (first | (with_reducible first | exact HB.out | apply below_alloc | apply pw_below_drewN | apply below_drew1 | refine below_set ?_ GE608.out | refine below_set ?_ GE620.out) | exact HB.out))) : w.heap.size ≤ gb619))
          have n6_ := Aside0.mk ((by rw [hg]; exact Nat.ne_of_lt (blk_lt (g := gb608) (o := .cells #[.int .i64 t605, .int .i64 t606] 62 (0, 0)) (by (with_reducible repeat (first | refine blk_drewN ?_ _ | refine blk_drew ?_ | refine blk_alloc ?_ _)); exact BK608.out)) : gb608 ≠ gb619))
          have n7_ := Aside0.mk ((by rw [hg]; exact Nat.ne_of_gt (blk_lt (g := gb608) (o := .cells #[.int .i64 t605, .int .i64 t606] 62 (0, 0)) (by (with_reducible repeat (first | refine blk_drewN ?_ _ | refine blk_drew ?_ | refine blk_alloc ?_ _)); exact BK608.out)) : gb619 ≠ gb608))
          have n8_ := Aside0.mk ((by rw [hg]; exact Nat.ne_of_lt (blk_lt (g := gb620) (o := .cells #[.bool false, .bool false, .bool false, .int .u64 0, .int .i64 0] 66 (0, 0)) (by (with_reducible repeat (first | refine blk_drewN ?_ _ | refine blk_drew ?_ | refine blk_alloc ?_ _)); exact BK620.out)) : gb620 ≠ gb619))
          have n9_ := Aside0.mk ((by rw [hg]; exact Nat.ne_of_gt (blk_lt (g := gb620) (o := .cells #[.bool false, .bool false, .bool false, .int .u64 0, .int .i64 0] 66 (0, 0)) (by (with_reducible repeat (first | refine blk_drewN ?_ _ | refine blk_drew ?_ | refine blk_alloc ?_ _)); exact BK620.out)) : gb619 ≠ gb620))
          clear BK608
          clear BK620
          clear HB
          have BK608 := n0_
          have BK620 := n1_
          have HB := n2_
          have BK619 := n3_
          have GW619 := n4_
          have GE619 := n5_
          have NB608_619 := n6_
          have NB619_608 := n7_
          have NB620_619 := n8_
          have NB619_620 := n9_
          clear n0_ n1_ n2_ n3_ n4_ n5_ n6_ n7_ n8_ n9_
          clear hb hbox hg
          refine hK.out _ _ ⟨(blk_cell BK608.out 0).trans rfl, (blk_cell BK608.out 1).trans rfl⟩ (fun hHeld => ?_)
          clear hK K
          refine norm_ (a' := ?_) ?_ ?_
          rotate_left
          ·
           show Act.put _ (some 9) _ = _
           simp only [Act.put, List.setIfInBounds_toArray, List.set_cons_zero, List.set_cons_succ, i64_w, i32_w]
           rfl
          exact norm_ (by first | (simp only [putAll, Act.put, List.setIfInBounds_toArray, List.set_cons_zero, List.set_cons_succ]; done) | (simp only [putAll, Act.put, List.setIfInBounds_toArray, List.set_cons_zero, List.set_cons_succ]; rfl)) (hJ2_6_7 (gb619, gb620) _ ⟨hHeld, (by (with_reducible repeat (first | refine blk_drewN ?_ _ | refine blk_drew ?_ | refine blk_alloc ?_ _)); exact BK608.out), (by (with_reducible repeat (first | refine blk_drewN ?_ _ | refine blk_drew ?_ | refine blk_alloc ?_ _)); exact BK619.out), (by (with_reducible repeat (first | refine blk_drewN ?_ _ | refine blk_drew ?_ | refine blk_alloc ?_ _)); exact BK620.out), GW619.out, GE619.out, NB608_619.out, NB619_608.out, NB620_619.out, NB619_620.out, GW620.out, GE620.out, NB608_620.out, NB620_608.out, (by repeat (first | (with_reducible first | exact HB.out | apply below_alloc | apply pw_below_drewN | apply below_drew1 | refine below_set ?_ GE608.out | refine below_set ?_ GE620.out | refine below_set ?_ GE619.out) | exact HB.out))⟩)
       ·
        skip
        rintro gb619 w16 ⟨hS_, h0_, h1_, h2_, h3_, h4_, h5_, h6_⟩
        have n0_ : Aside0 (w16.heap[gb608]? = some (.cells #[.int .i64 t605, .int .i64 t606] 62 (0, 0))) := ⟨h0_⟩
        have n1_ : Aside0 (w16.heap[gb619]? = some (.cells #[.bool false, .bool false, .bool false, .int .u64 0, .int .i64 0] 66 (0, 0))) := ⟨h1_⟩
        have n2_ : Aside0 (w.heap.size ≤ gb619) := ⟨h2_⟩
        have n3_ : Aside0 (w.heap.size ≤ gb619) := ⟨h3_⟩
        have n4_ : Aside0 (gb608 ≠ gb619) := ⟨h4_⟩
        have n5_ : Aside0 (gb619 ≠ gb608) := ⟨h5_⟩
        have n6_ : Aside0 (Below w.heap.size w w16) := ⟨h6_⟩
        clear BK608
        clear HB
        clear h0_ h1_ h2_ h3_ h4_ h5_ h6_
        have BK608 := n0_
        have BK619 := n1_
        have GW619 := n2_
        have GE619 := n3_
        have NB608_619 := n4_
        have NB619_608 := n5_
        have HB := n6_
        clear n0_ n1_ n2_ n3_ n4_ n5_ n6_
        have hHeld : w16.cell? ⟨gb608, 0, none⟩ = some (.int .i64 t605) ∧ w16.cell? ⟨gb608, 1, none⟩ = some (.int .i64 t606) := hS_
        refine norm_ (a' := ?_) ?_ ?_
        rotate_left
        ·
         simp only [putAll, Act.put, List.setIfInBounds_toArray, List.set_cons_zero, List.set_cons_succ]
         rfl
        refine two_ (i := 5) (j := 7) (Ni := some 25) (Nj := some 10) #[true, true, true, true, true, true, true, false, false, false] #[true, true, true, true, true, false, true, true, false, false] rfl rfl rfl rfl (two_of HT_.out (by kernel_rfl)) (by decide) (by decide) (fun K hK => ?_) (fun K hK => ?_)
        ·
         skip
         refine goes_ Try.func52 (by kernel_rfl) rfl #[.agg #[.int .i64 t605, .int .i64 t606], .int .u32 a2] (by rfl) rfl rfl (by (try simp only [List.map_toArray, List.map_cons, List.map_nil]); first | done | rfl | (simp only [List.length_drop, List.length_take]; rfl)) ?_
         with_reducible refine (impl_format_open.calls t605 t606 a2 t614 t615 t616 t617 t618 _ A7.out).mono ?_
         rintro e w17 ⟨rfl, hb⟩
         refine ⟨_, rfl, ?_⟩
         have n0_ := Aside0.mk (blk_below (g := gb608) (o := .cells #[.int .i64 t605, .int .i64 t606] 62 (0, 0)) (by (with_reducible repeat (first | refine blk_drewN ?_ _ | refine blk_drew ?_ | refine blk_alloc ?_ _)); exact BK608.out) hb)
         have n1_ := Aside0.mk (blk_below (g := gb619) (o := .cells #[.bool false, .bool false, .bool false, .int .u64 0, .int .i64 0] 66 (0, 0)) (by (with_reducible repeat (first | refine blk_drewN ?_ _ | refine blk_drew ?_ | refine blk_alloc ?_ _)); exact BK619.out) hb)
         have n2_ := Aside0.mk (below_step (by repeat (first | (with_reducible first | exact HB.out | apply below_alloc | apply pw_below_drewN | apply below_drew1 | refine below_set ?_ GE608.out | refine below_set ?_ GE619.out) | exact HB.out)) hb)
         clear BK608
         clear BK619
         clear HB
         have BK608 := n0_
         have BK619 := n1_
         have HB := n2_
         clear n0_ n1_ n2_
         (try clear hb)
         (try clear hb2)
         (try clear hk)
         (try clear hi)
         refine hK.out _ _ ⟨(blk_cell BK608.out 0).trans rfl, (blk_cell BK608.out 1).trans rfl⟩ (fun hHeld => ?_)
         clear hK K
         refine norm_ (a' := ?_) ?_ ?_
         rotate_left
         ·
          show Act.put _ (some 25) _ = _
          simp only [Act.put, List.setIfInBounds_toArray, List.set_cons_zero, List.set_cons_succ, i64_w, i32_w]
          rfl
         exact norm_ (by first | (simp only [putAll, Act.put, List.setIfInBounds_toArray, List.set_cons_zero, List.set_cons_succ]; done) | (simp only [putAll, Act.put, List.setIfInBounds_toArray, List.set_cons_zero, List.set_cons_succ]; rfl)) (hJ2_5_6 (gb619) _ ⟨hHeld, (by (with_reducible repeat (first | refine blk_drewN ?_ _ | refine blk_drew ?_ | refine blk_alloc ?_ _)); exact BK608.out), (by (with_reducible repeat (first | refine blk_drewN ?_ _ | refine blk_drew ?_ | refine blk_alloc ?_ _)); exact BK619.out), GW619.out, GE619.out, NB608_619.out, NB619_608.out, (by repeat (first | (with_reducible first | exact HB.out | apply below_alloc | apply pw_below_drewN | apply below_drew1 | refine below_set ?_ GE608.out | refine below_set ?_ GE619.out) | exact HB.out))⟩)
        ·
         skip
         refine box_step ?hg (N := 10) ?hd (cs := #[.bool false, .bool false, .bool false, .int .u64 0, .int .i64 0]) (t := 66) ?hr ?_; (case hd => rfl); (case hg => rfl); (case hr => first | (go_simp; done) | (go_simp; rfl))
         intro gb620 hg w17 hbox hb
         have n0_ := Aside0.mk (blk_below (g := gb608) (o := .cells #[.int .i64 t605, .int .i64 t606] 62 (0, 0)) (by (with_reducible repeat (first | refine blk_drewN ?_ _ | refine blk_drew ?_ | refine blk_alloc ?_ _)); exact BK608.out) hb)
         have n1_ := Aside0.mk (blk_below (g := gb619) (o := .cells #[.bool false, .bool false, .bool false, .int .u64 0, .int .i64 0] 66 (0, 0)) (by (with_reducible repeat (first | refine blk_drewN ?_ _ | refine blk_drew ?_ | refine blk_alloc ?_ _)); exact BK619.out) hb)
         have n2_ := Aside0.mk (below_step (by repeat (first | (with_reducible first | exact HB.out | apply below_alloc | apply pw_below_drewN | apply below_drew1 | refine below_set ?_ GE608.out | refine below_set ?_ GE619.out) | exact HB.out)) hb)
         have n3_ := Aside0.mk (hbox)
         have n4_ := Aside0.mk ((by rw [hg]; exact (below_size (by repeat (first | (with_reducible first | exact HB.out | apply below_alloc | apply pw_below_drewN | apply below_drew1 | refine below_set ?_ GE608.out | refine below_set ?_ GE619.out) | exact HB.out))) : w.heap.size ≤ gb620))
         have n5_ := Aside0.mk ((by rw [hg]; exact (below_size (by repeat (first | (with_reducible first | exact HB.out | apply below_alloc | apply pw_below_drewN | apply below_drew1 | refine below_set ?_ GE608.out | refine below_set ?_ GE619.out) | exact HB.out))) : w.heap.size ≤ gb620))
         have n6_ := Aside0.mk ((by rw [hg]; exact Nat.ne_of_lt (blk_lt (g := gb608) (o := .cells #[.int .i64 t605, .int .i64 t606] 62 (0, 0)) (by (with_reducible repeat (first | refine blk_drewN ?_ _ | refine blk_drew ?_ | refine blk_alloc ?_ _)); exact BK608.out)) : gb608 ≠ gb620))
         have n7_ := Aside0.mk ((by rw [hg]; exact Nat.ne_of_gt (blk_lt (g := gb608) (o := .cells #[.int .i64 t605, .int .i64 t606] 62 (0, 0)) (by (with_reducible repeat (first | refine blk_drewN ?_ _ | refine blk_drew ?_ | refine blk_alloc ?_ _)); exact BK608.out)) : gb620 ≠ gb608))
         have n8_ := Aside0.mk ((by rw [hg]; exact Nat.ne_of_lt (blk_lt (g := gb619) (o := .cells #[.bool false, .bool false, .bool false, .int .u64 0, .int .i64 0] 66 (0, 0)) (by (with_reducible repeat (first | refine blk_drewN ?_ _ | refine blk_drew ?_ | refine blk_alloc ?_ _)); exact BK619.out)) : gb619 ≠ gb620))
         have n9_ := Aside0.mk ((by rw [hg]; exact Nat.ne_of_gt (blk_lt (g := gb619) (o := .cells #[.bool false, .bool false, .bool false, .int .u64 0, .int .i64 0] 66 (0, 0)) (by (with_reducible repeat (first | refine blk_drewN ?_ _ | refine blk_drew ?_ | refine blk_alloc ?_ _)); exact BK619.out)) : gb620 ≠ gb619))
         clear BK608
         clear BK619
         clear HB
         have BK608 := n0_
         have BK619 := n1_
         have HB := n2_
         have BK620 := n3_
         have GW620 := n4_
         have GE620 := n5_
         have NB608_620 := n6_
         have NB620_608 := n7_
         have NB619_620 := n8_
         have NB620_619 := n9_
         clear n0_ n1_ n2_ n3_ n4_ n5_ n6_ n7_ n8_ n9_
         clear hb hbox hg
         refine hK.out _ _ ⟨(blk_cell BK608.out 0).trans rfl, (blk_cell BK608.out 1).trans rfl⟩ (fun hHeld => ?_)
         clear hK K
         refine norm_ (a' := ?_) ?_ ?_
         rotate_left
         ·
          show Act.put _ (some 10) _ = _
          simp only [Act.put, List.setIfInBounds_toArray, List.set_cons_zero, List.set_cons_succ, i64_w, i32_w]
          rfl
         exact norm_ (by first | (simp only [putAll, Act.put, List.setIfInBounds_toArray, List.set_cons_zero, List.set_cons_succ]; done) | (simp only [putAll, Act.put, List.setIfInBounds_toArray, List.set_cons_zero, List.set_cons_succ]; rfl)) (hJ2_6_7 (gb619, gb620) _ ⟨hHeld, (by (with_reducible repeat (first | refine blk_drewN ?_ _ | refine blk_drew ?_ | refine blk_alloc ?_ _)); exact BK608.out), (by (with_reducible repeat (first | refine blk_drewN ?_ _ | refine blk_drew ?_ | refine blk_alloc ?_ _)); exact BK619.out), (by (with_reducible repeat (first | refine blk_drewN ?_ _ | refine blk_drew ?_ | refine blk_alloc ?_ _)); exact BK620.out), GW619.out, GE619.out, NB608_619.out, NB619_608.out, NB620_619.out, NB619_620.out, GW620.out, GE620.out, NB608_620.out, NB620_608.out, (by repeat (first | (with_reducible first | exact HB.out | apply below_alloc | apply pw_below_drewN | apply below_drew1 | refine below_set ?_ GE608.out | refine below_set ?_ GE619.out | refine below_set ?_ GE620.out) | exact HB.out))⟩)
      ·
       skip
       rintro _ w16 ⟨hS_, h0_, h1_⟩
       have n0_ : Aside0 (w16.heap[gb608]? = some (.cells #[.int .i64 t605, .int .i64 t606] 62 (0, 0))) := ⟨h0_⟩
       have n1_ : Aside0 (Below w.heap.size w w16) := ⟨h1_⟩
       clear BK608
       clear HB
       clear h0_ h1_
       have BK608 := n0_
       have HB := n1_
       clear n0_ n1_
       have hHeld : w16.cell? ⟨gb608, 0, none⟩ = some (.int .i64 t605) ∧ w16.cell? ⟨gb608, 1, none⟩ = some (.int .i64 t606) := hS_
       refine norm_ (a' := ?_) ?_ ?_
       rotate_left
       ·
        simp only [putAll, Act.put, List.setIfInBounds_toArray, List.set_cons_zero, List.set_cons_succ]
        rfl
       refine two_ (i := 6) (j := 7) (Ni := some 9) (Nj := some 10) #[true, true, true, true, true, true, true, false, false, false] #[true, true, true, true, true, true, false, true, false, false] rfl rfl rfl rfl (two_of HT_.out (by kernel_rfl)) (by decide) (by decide) (fun K hK => ?_) (fun K hK => ?_)
       ·
        skip
        refine box_step ?hg (N := 9) ?hd (cs := #[.bool false, .bool false, .bool false, .int .u64 0, .int .i64 0]) (t := 66) ?hr ?_; (case hd => rfl); (case hg => rfl); (case hr => first | (go_simp; done) | (go_simp; rfl))
        intro gb619 hg w17 hbox hb
        have n0_ := Aside0.mk (blk_below (g := gb608) (o := .cells #[.int .i64 t605, .int .i64 t606] 62 (0, 0)) (by (with_reducible repeat (first | refine blk_drewN ?_ _ | refine blk_drew ?_ | refine blk_alloc ?_ _)); exact BK608.out) hb)
        have n1_ := Aside0.mk (below_step (by repeat (first | (with_reducible first | exact HB.out | apply below_alloc | apply pw_below_drewN | apply below_drew1 | refine below_set ?_ GE608.out) | exact HB.out)) hb)
        have n2_ := Aside0.mk (hbox)
        have n3_ := Aside0.mk ((by rw [hg]; exact (below_size (by repeat (first | (with_reducible first | exact HB.out | apply below_alloc | apply pw_below_drewN | apply below_drew1 | refine below_set ?_ GE608.out) | exact HB.out))) : w.heap.size ≤ gb619))
        have n4_ := Aside0.mk ((by rw [hg]; exact (below_size (by repeat (first | (with_reducible first | exact HB.out | apply below_alloc | apply pw_below_drewN | apply below_drew1 | refine below_set ?_ GE608.out) | exact HB.out))) : w.heap.size ≤ gb619))
        have n5_ := Aside0.mk ((by rw [hg]; exact Nat.ne_of_lt (blk_lt (g := gb608) (o := .cells #[.int .i64 t605, .int .i64 t606] 62 (0, 0)) (by (with_reducible repeat (first | refine blk_drewN ?_ _ | refine blk_drew ?_ | refine blk_alloc ?_ _)); exact BK608.out)) : gb608 ≠ gb619))
        have n6_ := Aside0.mk ((by rw [hg]; exact Nat.ne_of_gt (blk_lt (g := gb608) (o := .cells #[.int .i64 t605, .int .i64 t606] 62 (0, 0)) (by (with_reducible repeat (first | refine blk_drewN ?_ _ | refine blk_drew ?_ | refine blk_alloc ?_ _)); exact BK608.out)) : gb619 ≠ gb608))
        clear BK608
        clear HB
        have BK608 := n0_
        have HB := n1_
        have BK619 := n2_
        have GW619 := n3_
        have GE619 := n4_
        have NB608_619 := n5_
        have NB619_608 := n6_
        clear n0_ n1_ n2_ n3_ n4_ n5_ n6_
        clear hb hbox hg
        refine hK.out _ _ ⟨(blk_cell BK608.out 0).trans rfl, (blk_cell BK608.out 1).trans rfl⟩ (fun hHeld => ?_)
        clear hK K
        refine norm_ (a' := ?_) ?_ ?_
        rotate_left
        ·
         show Act.put _ (some 9) _ = _
         simp only [Act.put, List.setIfInBounds_toArray, List.set_cons_zero, List.set_cons_succ, i64_w, i32_w]
         rfl
        exact norm_ (by first | (simp only [putAll, Act.put, List.setIfInBounds_toArray, List.set_cons_zero, List.set_cons_succ]; done) | (simp only [putAll, Act.put, List.setIfInBounds_toArray, List.set_cons_zero, List.set_cons_succ]; rfl)) (hJ2_5_6 (gb619) _ ⟨hHeld, (by (with_reducible repeat (first | refine blk_drewN ?_ _ | refine blk_drew ?_ | refine blk_alloc ?_ _)); exact BK608.out), (by (with_reducible repeat (first | refine blk_drewN ?_ _ | refine blk_drew ?_ | refine blk_alloc ?_ _)); exact BK619.out), GW619.out, GE619.out, NB608_619.out, NB619_608.out, (by repeat (first | (with_reducible first | exact HB.out | apply below_alloc | apply pw_below_drewN | apply below_drew1 | refine below_set ?_ GE608.out | refine below_set ?_ GE619.out) | exact HB.out))⟩)
       ·
        skip
        refine box_step ?hg (N := 10) ?hd (cs := #[.bool false, .bool false, .bool false, .int .u64 0, .int .i64 0]) (t := 66) ?hr ?_; (case hd => rfl); (case hg => rfl); (case hr => first | (go_simp; done) | (go_simp; rfl))
        intro gb620 hg w17 hbox hb
        have n0_ := Aside0.mk (blk_below (g := gb608) (o := .cells #[.int .i64 t605, .int .i64 t606] 62 (0, 0)) (by (with_reducible repeat (first | refine blk_drewN ?_ _ | refine blk_drew ?_ | refine blk_alloc ?_ _)); exact BK608.out) hb)
        have n1_ := Aside0.mk (below_step (by repeat (first | (with_reducible first | exact HB.out | apply below_alloc | apply pw_below_drewN | apply below_drew1 | refine below_set ?_ GE608.out) | exact HB.out)) hb)
        have n2_ := Aside0.mk (hbox)
        have n3_ := Aside0.mk ((by rw [hg]; exact (below_size (by repeat (first | (with_reducible first | exact HB.out | apply below_alloc | apply pw_below_drewN | apply below_drew1 | refine below_set ?_ GE608.out) | exact HB.out))) : w.heap.size ≤ gb620))
        have n4_ := Aside0.mk ((by rw [hg]; exact (below_size (by repeat (first | (with_reducible first | exact HB.out | apply below_alloc | apply pw_below_drewN | apply below_drew1 | refine below_set ?_ GE608.out) | exact HB.out))) : w.heap.size ≤ gb620))
        have n5_ := Aside0.mk ((by rw [hg]; exact Nat.ne_of_lt (blk_lt (g := gb608) (o := .cells #[.int .i64 t605, .int .i64 t606] 62 (0, 0)) (by (with_reducible repeat (first | refine blk_drewN ?_ _ | refine blk_drew ?_ | refine blk_alloc ?_ _)); exact BK608.out)) : gb608 ≠ gb620))
        have n6_ := Aside0.mk ((by rw [hg]; exact Nat.ne_of_gt (blk_lt (g := gb608) (o := .cells #[.int .i64 t605, .int .i64 t606] 62 (0, 0)) (by (with_reducible repeat (first | refine blk_drewN ?_ _ | refine blk_drew ?_ | refine blk_alloc ?_ _)); exact BK608.out)) : gb620 ≠ gb608))
        clear BK608
        clear HB
        have BK608 := n0_
        have HB := n1_
        have BK620 := n2_
        have GW620 := n3_
        have GE620 := n4_
        have NB608_620 := n5_
        have NB620_608 := n6_
        clear n0_ n1_ n2_ n3_ n4_ n5_ n6_
        clear hb hbox hg
        refine hK.out _ _ ⟨(blk_cell BK608.out 0).trans rfl, (blk_cell BK608.out 1).trans rfl⟩ (fun hHeld => ?_)
        clear hK K
        refine norm_ (a' := ?_) ?_ ?_
        rotate_left
        ·
         show Act.put _ (some 10) _ = _
         simp only [Act.put, List.setIfInBounds_toArray, List.set_cons_zero, List.set_cons_succ, i64_w, i32_w]
         rfl
        exact norm_ (by first | (simp only [putAll, Act.put, List.setIfInBounds_toArray, List.set_cons_zero, List.set_cons_succ]; done) | (simp only [putAll, Act.put, List.setIfInBounds_toArray, List.set_cons_zero, List.set_cons_succ]; rfl)) (hJ2_5_7 (gb620) _ ⟨hHeld, (by (with_reducible repeat (first | refine blk_drewN ?_ _ | refine blk_drew ?_ | refine blk_alloc ?_ _)); exact BK608.out), (by (with_reducible repeat (first | refine blk_drewN ?_ _ | refine blk_drew ?_ | refine blk_alloc ?_ _)); exact BK620.out), GW620.out, GE620.out, NB608_620.out, NB620_608.out, (by repeat (first | (with_reducible first | exact HB.out | apply below_alloc | apply pw_below_drewN | apply below_drew1 | refine below_set ?_ GE608.out | refine below_set ?_ GE620.out) | exact HB.out))⟩)
     ·
      skip
      rintro ⟨gb619, gb620⟩ w17 ⟨hS_, h0_, h1_, h2_, h3_, h4_, h5_, h6_, h7_, h8_, h9_, h10_, h11_, h12_, h13_⟩
      have n0_ : Aside0 (w17.heap[gb608]? = some (.cells #[.int .i64 t605, .int .i64 t606] 62 (0, 0))) := ⟨h0_⟩
      have n1_ : Aside0 (w17.heap[gb619]? = some (.cells #[.bool false, .bool false, .bool false, .int .u64 0, .int .i64 0] 66 (0, 0))) := ⟨h1_⟩
      have n2_ : Aside0 (w17.heap[gb620]? = some (.cells #[.bool false, .bool false, .bool false, .int .u64 0, .int .i64 0] 66 (0, 0))) := ⟨h2_⟩
      have n3_ : Aside0 (w.heap.size ≤ gb619) := ⟨h3_⟩
      have n4_ : Aside0 (w.heap.size ≤ gb619) := ⟨h4_⟩
      have n5_ : Aside0 (gb608 ≠ gb619) := ⟨h5_⟩
      have n6_ : Aside0 (gb619 ≠ gb608) := ⟨h6_⟩
      have n7_ : Aside0 (gb620 ≠ gb619) := ⟨h7_⟩
      have n8_ : Aside0 (gb619 ≠ gb620) := ⟨h8_⟩
      have n9_ : Aside0 (w.heap.size ≤ gb620) := ⟨h9_⟩
      have n10_ : Aside0 (w.heap.size ≤ gb620) := ⟨h10_⟩
      have n11_ : Aside0 (gb608 ≠ gb620) := ⟨h11_⟩
      have n12_ : Aside0 (gb620 ≠ gb608) := ⟨h12_⟩
      have n13_ : Aside0 (Below w.heap.size w w17) := ⟨h13_⟩
      clear BK608
      clear HB
      clear h0_ h1_ h2_ h3_ h4_ h5_ h6_ h7_ h8_ h9_ h10_ h11_ h12_ h13_
      have BK608 := n0_
      have BK619 := n1_
      have BK620 := n2_
      have GW619 := n3_
      have GE619 := n4_
      have NB608_619 := n5_
      have NB619_608 := n6_
      have NB620_619 := n7_
      have NB619_620 := n8_
      have GW620 := n9_
      have GE620 := n10_
      have NB608_620 := n11_
      have NB620_608 := n12_
      have HB := n13_
      clear n0_ n1_ n2_ n3_ n4_ n5_ n6_ n7_ n8_ n9_ n10_ n11_ n12_ n13_
      have hHeld : w17.cell? ⟨gb608, 0, none⟩ = some (.int .i64 t605) ∧ w17.cell? ⟨gb608, 1, none⟩ = some (.int .i64 t606) := hS_
      refine norm_ (a' := ?_) ?_ ?_
      rotate_left
      ·
       simp only [putAll, Act.put, List.setIfInBounds_toArray, List.set_cons_zero, List.set_cons_succ]
       rfl
      refine one_ (i := 5) (N := some 25) #[true, true, true, true, true, true, true, true, false, false] rfl rfl (one_of HT_.out (by kernel_rfl)) (by decide) (fun K hK => ?_)
      refine goes_ Try.func52 (by kernel_rfl) rfl #[.agg #[.int .i64 t605, .int .i64 t606], .int .u32 a2] (by rfl) rfl rfl (by (try simp only [List.map_toArray, List.map_cons, List.map_nil]); first | done | rfl | (simp only [List.length_drop, List.length_take]; rfl)) ?_
      with_reducible refine (impl_format_open.calls t605 t606 a2 t614 t615 t616 t617 t618 _ A7.out).mono ?_
      rintro e w18 ⟨rfl, hb⟩
      refine ⟨_, rfl, ?_⟩
      have n0_ := Aside0.mk (blk_below (g := gb608) (o := .cells #[.int .i64 t605, .int .i64 t606] 62 (0, 0)) (by (with_reducible repeat (first | refine blk_drewN ?_ _ | refine blk_drew ?_ | refine blk_alloc ?_ _)); exact BK608.out) hb)
      have n1_ := Aside0.mk (blk_below (g := gb619) (o := .cells #[.bool false, .bool false, .bool false, .int .u64 0, .int .i64 0] 66 (0, 0)) (by (with_reducible repeat (first | refine blk_drewN ?_ _ | refine blk_drew ?_ | refine blk_alloc ?_ _)); exact BK619.out) hb)
      have n2_ := Aside0.mk (blk_below (g := gb620) (o := .cells #[.bool false, .bool false, .bool false, .int .u64 0, .int .i64 0] 66 (0, 0)) (by (with_reducible repeat (first | refine blk_drewN ?_ _ | refine blk_drew ?_ | refine blk_alloc ?_ _)); exact BK620.out) hb)
      have n3_ := Aside0.mk (below_step (by repeat (first | (with_reducible first | exact HB.out | apply below_alloc | apply pw_below_drewN | apply below_drew1 | refine below_set ?_ GE608.out | refine below_set ?_ GE619.out | refine below_set ?_ GE620.out) | exact HB.out)) hb)
      clear BK608
      clear BK619
      clear BK620
      clear HB
      have BK608 := n0_
      have BK619 := n1_
      have BK620 := n2_
      have HB := n3_
      clear n0_ n1_ n2_ n3_
      (try clear hb)
      (try clear hb2)
      (try clear hk)
      (try clear hi)
      refine hK.out _ _ ⟨(blk_cell BK608.out 0).trans rfl, (blk_cell BK608.out 1).trans rfl⟩ (fun hHeld => ?_)
      clear hK K
      refine norm_ (a' := ?_) ?_ ?_
      rotate_left
      ·
       show Act.put _ (some 25) _ = _
       simp only [Act.put, List.setIfInBounds_toArray, List.set_cons_zero, List.set_cons_succ, i64_w, i32_w]
       rfl
      exact norm_ (by first | (simp only [putAll, Act.put, List.setIfInBounds_toArray, List.set_cons_zero, List.set_cons_succ]; done) | (simp only [putAll, Act.put, List.setIfInBounds_toArray, List.set_cons_zero, List.set_cons_succ]; rfl)) (hJ2_5_6_7 (gb619, gb620) _ ⟨hHeld, (by (with_reducible repeat (first | refine blk_drewN ?_ _ | refine blk_drew ?_ | refine blk_alloc ?_ _)); exact BK608.out), (by (with_reducible repeat (first | refine blk_drewN ?_ _ | refine blk_drew ?_ | refine blk_alloc ?_ _)); exact BK619.out), (by (with_reducible repeat (first | refine blk_drewN ?_ _ | refine blk_drew ?_ | refine blk_alloc ?_ _)); exact BK620.out), GW619.out, GE619.out, NB608_619.out, NB619_608.out, NB620_619.out, NB619_620.out, GW620.out, GE620.out, NB608_620.out, NB620_608.out, (by repeat (first | (with_reducible first | exact HB.out | apply below_alloc | apply pw_below_drewN | apply below_drew1 | refine below_set ?_ GE608.out | refine below_set ?_ GE619.out | refine below_set ?_ GE620.out) | exact HB.out))⟩)
    ·
     skip
     rintro gb620 w17 ⟨hS_, h0_, h1_, h2_, h3_, h4_, h5_, h6_⟩
     have n0_ : Aside0 (w17.heap[gb608]? = some (.cells #[.int .i64 t605, .int .i64 t606] 62 (0, 0))) := ⟨h0_⟩
     have n1_ : Aside0 (w17.heap[gb620]? = some (.cells #[.bool false, .bool false, .bool false, .int .u64 0, .int .i64 0] 66 (0, 0))) := ⟨h1_⟩
     have n2_ : Aside0 (w.heap.size ≤ gb620) := ⟨h2_⟩
     have n3_ : Aside0 (w.heap.size ≤ gb620) := ⟨h3_⟩
     have n4_ : Aside0 (gb608 ≠ gb620) := ⟨h4_⟩
     have n5_ : Aside0 (gb620 ≠ gb608) := ⟨h5_⟩
     have n6_ : Aside0 (Below w.heap.size w w17) := ⟨h6_⟩
     clear BK608
     clear HB
     clear h0_ h1_ h2_ h3_ h4_ h5_ h6_
     have BK608 := n0_
     have BK620 := n1_
     have GW620 := n2_
     have GE620 := n3_
     have NB608_620 := n4_
     have NB620_608 := n5_
     have HB := n6_
     clear n0_ n1_ n2_ n3_ n4_ n5_ n6_
     have hHeld : w17.cell? ⟨gb608, 0, none⟩ = some (.int .i64 t605) ∧ w17.cell? ⟨gb608, 1, none⟩ = some (.int .i64 t606) := hS_
     refine norm_ (a' := ?_) ?_ ?_
     rotate_left
     ·
      simp only [putAll, Act.put, List.setIfInBounds_toArray, List.set_cons_zero, List.set_cons_succ]
      rfl
     refine one_ (i := 6) (N := some 9) #[true, true, true, true, true, true, true, true, false, false] rfl rfl (one_of HT_.out (by kernel_rfl)) (by decide) (fun K hK => ?_)
     refine box_step ?hg (N := 9) ?hd (cs := #[.bool false, .bool false, .bool false, .int .u64 0, .int .i64 0]) (t := 66) ?hr ?_; (case hd => rfl); (case hg => rfl); (case hr => first | (go_simp; done) | (go_simp; rfl))
     intro gb619 hg w18 hbox hb
     have n0_ := Aside0.mk (blk_below (g := gb608) (o := .cells #[.int .i64 t605, .int .i64 t606] 62 (0, 0)) (by (with_reducible repeat (first | refine blk_drewN ?_ _ | refine blk_drew ?_ | refine blk_alloc ?_ _)); exact BK608.out) hb)
     have n1_ := Aside0.mk (blk_below (g := gb620) (o := .cells #[.bool false, .bool false, .bool false, .int .u64 0, .int .i64 0] 66 (0, 0)) (by (with_reducible repeat (first | refine blk_drewN ?_ _ | refine blk_drew ?_ | refine blk_alloc ?_ _)); exact BK620.out) hb)
     have n2_ := Aside0.mk (below_step (by repeat (first | (with_reducible first | exact HB.out | apply below_alloc | apply pw_below_drewN | apply below_drew1 | refine below_set ?_ GE608.out | refine below_set ?_ GE620.out) | exact HB.out)) hb)
     have n3_ := Aside0.mk (hbox)
     have n4_ := Aside0.mk ((by rw [hg]; exact (below_size (by repeat (first | (with_reducible first | exact HB.out | apply below_alloc | apply pw_below_drewN | apply below_drew1 | refine below_set ?_ GE608.out | refine below_set ?_ GE620.out) | exact HB.out))) : w.heap.size ≤ gb619))
     have n5_ := Aside0.mk ((by rw [hg]; exact (below_size (by repeat (first | (with_reducible first | exact HB.out | apply below_alloc | apply pw_below_drewN | apply below_drew1 | refine below_set ?_ GE608.out | refine below_set ?_ GE620.out) | exact HB.out))) : w.heap.size ≤ gb619))
     have n6_ := Aside0.mk ((by rw [hg]; exact Nat.ne_of_lt (blk_lt (g := gb608) (o := .cells #[.int .i64 t605, .int .i64 t606] 62 (0, 0)) (by (with_reducible repeat (first | refine blk_drewN ?_ _ | refine blk_drew ?_ | refine blk_alloc ?_ _)); exact BK608.out)) : gb608 ≠ gb619))
     have n7_ := Aside0.mk ((by rw [hg]; exact Nat.ne_of_gt (blk_lt (g := gb608) (o := .cells #[.int .i64 t605, .int .i64 t606] 62 (0, 0)) (by (with_reducible repeat (first | refine blk_drewN ?_ _ | refine blk_drew ?_ | refine blk_alloc ?_ _)); exact BK608.out)) : gb619 ≠ gb608))
     have n8_ := Aside0.mk ((by rw [hg]; exact Nat.ne_of_lt (blk_lt (g := gb620) (o := .cells #[.bool false, .bool false, .bool false, .int .u64 0, .int .i64 0] 66 (0, 0)) (by (with_reducible repeat (first | refine blk_drewN ?_ _ | refine blk_drew ?_ | refine blk_alloc ?_ _)); exact BK620.out)) : gb620 ≠ gb619))
     have n9_ := Aside0.mk ((by rw [hg]; exact Nat.ne_of_gt (blk_lt (g := gb620) (o := .cells #[.bool false, .bool false, .bool false, .int .u64 0, .int .i64 0] 66 (0, 0)) (by (with_reducible repeat (first | refine blk_drewN ?_ _ | refine blk_drew ?_ | refine blk_alloc ?_ _)); exact BK620.out)) : gb619 ≠ gb620))
     clear BK608
     clear BK620
     clear HB
     have BK608 := n0_
     have BK620 := n1_
     have HB := n2_
     have BK619 := n3_
     have GW619 := n4_
     have GE619 := n5_
     have NB608_619 := n6_
     have NB619_608 := n7_
     have NB620_619 := n8_
     have NB619_620 := n9_
     clear n0_ n1_ n2_ n3_ n4_ n5_ n6_ n7_ n8_ n9_
     clear hb hbox hg
     refine hK.out _ _ ⟨(blk_cell BK608.out 0).trans rfl, (blk_cell BK608.out 1).trans rfl⟩ (fun hHeld => ?_)
     clear hK K
     refine norm_ (a' := ?_) ?_ ?_
     rotate_left
     ·
      show Act.put _ (some 9) _ = _
      simp only [Act.put, List.setIfInBounds_toArray, List.set_cons_zero, List.set_cons_succ, i64_w, i32_w]
      rfl
     exact norm_ (by first | (simp only [putAll, Act.put, List.setIfInBounds_toArray, List.set_cons_zero, List.set_cons_succ]; done) | (simp only [putAll, Act.put, List.setIfInBounds_toArray, List.set_cons_zero, List.set_cons_succ]; rfl)) (hJ2_5_6_7 (gb619, gb620) _ ⟨hHeld, (by (with_reducible repeat (first | refine blk_drewN ?_ _ | refine blk_drew ?_ | refine blk_alloc ?_ _)); exact BK608.out), (by (with_reducible repeat (first | refine blk_drewN ?_ _ | refine blk_drew ?_ | refine blk_alloc ?_ _)); exact BK619.out), (by (with_reducible repeat (first | refine blk_drewN ?_ _ | refine blk_drew ?_ | refine blk_alloc ?_ _)); exact BK620.out), GW619.out, GE619.out, NB608_619.out, NB619_608.out, NB620_619.out, NB619_620.out, GW620.out, GE620.out, NB608_620.out, NB620_608.out, (by repeat (first | (with_reducible first | exact HB.out | apply below_alloc | apply pw_below_drewN | apply below_drew1 | refine below_set ?_ GE608.out | refine below_set ?_ GE620.out | refine below_set ?_ GE619.out) | exact HB.out))⟩)
   ·
    skip
    rintro gb619 w17 ⟨hS_, h0_, h1_, h2_, h3_, h4_, h5_, h6_⟩
    have n0_ : Aside0 (w17.heap[gb608]? = some (.cells #[.int .i64 t605, .int .i64 t606] 62 (0, 0))) := ⟨h0_⟩
    have n1_ : Aside0 (w17.heap[gb619]? = some (.cells #[.bool false, .bool false, .bool false, .int .u64 0, .int .i64 0] 66 (0, 0))) := ⟨h1_⟩
    have n2_ : Aside0 (w.heap.size ≤ gb619) := ⟨h2_⟩
    have n3_ : Aside0 (w.heap.size ≤ gb619) := ⟨h3_⟩
    have n4_ : Aside0 (gb608 ≠ gb619) := ⟨h4_⟩
    have n5_ : Aside0 (gb619 ≠ gb608) := ⟨h5_⟩
    have n6_ : Aside0 (Below w.heap.size w w17) := ⟨h6_⟩
    clear BK608
    clear HB
    clear h0_ h1_ h2_ h3_ h4_ h5_ h6_
    have BK608 := n0_
    have BK619 := n1_
    have GW619 := n2_
    have GE619 := n3_
    have NB608_619 := n4_
    have NB619_608 := n5_
    have HB := n6_
    clear n0_ n1_ n2_ n3_ n4_ n5_ n6_
    have hHeld : w17.cell? ⟨gb608, 0, none⟩ = some (.int .i64 t605) ∧ w17.cell? ⟨gb608, 1, none⟩ = some (.int .i64 t606) := hS_
    refine norm_ (a' := ?_) ?_ ?_
    rotate_left
    ·
     simp only [putAll, Act.put, List.setIfInBounds_toArray, List.set_cons_zero, List.set_cons_succ]
     rfl
    refine one_ (i := 7) (N := some 10) #[true, true, true, true, true, true, true, true, false, false] rfl rfl (one_of HT_.out (by kernel_rfl)) (by decide) (fun K hK => ?_)
    refine box_step ?hg (N := 10) ?hd (cs := #[.bool false, .bool false, .bool false, .int .u64 0, .int .i64 0]) (t := 66) ?hr ?_; (case hd => rfl); (case hg => rfl); (case hr => first | (go_simp; done) | (go_simp; rfl))
    intro gb620 hg w18 hbox hb
    have n0_ := Aside0.mk (blk_below (g := gb608) (o := .cells #[.int .i64 t605, .int .i64 t606] 62 (0, 0)) (by (with_reducible repeat (first | refine blk_drewN ?_ _ | refine blk_drew ?_ | refine blk_alloc ?_ _)); exact BK608.out) hb)
    have n1_ := Aside0.mk (blk_below (g := gb619) (o := .cells #[.bool false, .bool false, .bool false, .int .u64 0, .int .i64 0] 66 (0, 0)) (by (with_reducible repeat (first | refine blk_drewN ?_ _ | refine blk_drew ?_ | refine blk_alloc ?_ _)); exact BK619.out) hb)
    have n2_ := Aside0.mk (below_step (by repeat (first | (with_reducible first | exact HB.out | apply below_alloc | apply pw_below_drewN | apply below_drew1 | refine below_set ?_ GE608.out | refine below_set ?_ GE619.out) | exact HB.out)) hb)
    have n3_ := Aside0.mk (hbox)
    have n4_ := Aside0.mk ((by rw [hg]; exact (below_size (by repeat (first | (with_reducible first | exact HB.out | apply below_alloc | apply pw_below_drewN | apply below_drew1 | refine below_set ?_ GE608.out | refine below_set ?_ GE619.out) | exact HB.out))) : w.heap.size ≤ gb620))
    have n5_ := Aside0.mk ((by rw [hg]; exact (below_size (by repeat (first | (with_reducible first | exact HB.out | apply below_alloc | apply pw_below_drewN | apply below_drew1 | refine below_set ?_ GE608.out | refine below_set ?_ GE619.out) | exact HB.out))) : w.heap.size ≤ gb620))
    have n6_ := Aside0.mk ((by rw [hg]; exact Nat.ne_of_lt (blk_lt (g := gb608) (o := .cells #[.int .i64 t605, .int .i64 t606] 62 (0, 0)) (by (with_reducible repeat (first | refine blk_drewN ?_ _ | refine blk_drew ?_ | refine blk_alloc ?_ _)); exact BK608.out)) : gb608 ≠ gb620))
    have n7_ := Aside0.mk ((by rw [hg]; exact Nat.ne_of_gt (blk_lt (g := gb608) (o := .cells #[.int .i64 t605, .int .i64 t606] 62 (0, 0)) (by (with_reducible repeat (first | refine blk_drewN ?_ _ | refine blk_drew ?_ | refine blk_alloc ?_ _)); exact BK608.out)) : gb620 ≠ gb608))
    have n8_ := Aside0.mk ((by rw [hg]; exact Nat.ne_of_lt (blk_lt (g := gb619) (o := .cells #[.bool false, .bool false, .bool false, .int .u64 0, .int .i64 0] 66 (0, 0)) (by (with_reducible repeat (first | refine blk_drewN ?_ _ | refine blk_drew ?_ | refine blk_alloc ?_ _)); exact BK619.out)) : gb619 ≠ gb620))
    have n9_ := Aside0.mk ((by rw [hg]; exact Nat.ne_of_gt (blk_lt (g := gb619) (o := .cells #[.bool false, .bool false, .bool false, .int .u64 0, .int .i64 0] 66 (0, 0)) (by (with_reducible repeat (first | refine blk_drewN ?_ _ | refine blk_drew ?_ | refine blk_alloc ?_ _)); exact BK619.out)) : gb620 ≠ gb619))
    clear BK608
    clear BK619
    clear HB
    have BK608 := n0_
    have BK619 := n1_
    have HB := n2_
    have BK620 := n3_
    have GW620 := n4_
    have GE620 := n5_
    have NB608_620 := n6_
    have NB620_608 := n7_
    have NB619_620 := n8_
    have NB620_619 := n9_
    clear n0_ n1_ n2_ n3_ n4_ n5_ n6_ n7_ n8_ n9_
    clear hb hbox hg
    refine hK.out _ _ ⟨(blk_cell BK608.out 0).trans rfl, (blk_cell BK608.out 1).trans rfl⟩ (fun hHeld => ?_)
    clear hK K
    refine norm_ (a' := ?_) ?_ ?_
    rotate_left
    ·
     show Act.put _ (some 10) _ = _
     simp only [Act.put, List.setIfInBounds_toArray, List.set_cons_zero, List.set_cons_succ, i64_w, i32_w]
     rfl
    exact norm_ (by first | (simp only [putAll, Act.put, List.setIfInBounds_toArray, List.set_cons_zero, List.set_cons_succ]; done) | (simp only [putAll, Act.put, List.setIfInBounds_toArray, List.set_cons_zero, List.set_cons_succ]; rfl)) (hJ2_5_6_7 (gb619, gb620) _ ⟨hHeld, (by (with_reducible repeat (first | refine blk_drewN ?_ _ | refine blk_drew ?_ | refine blk_alloc ?_ _)); exact BK608.out), (by (with_reducible repeat (first | refine blk_drewN ?_ _ | refine blk_drew ?_ | refine blk_alloc ?_ _)); exact BK619.out), (by (with_reducible repeat (first | refine blk_drewN ?_ _ | refine blk_drew ?_ | refine blk_alloc ?_ _)); exact BK620.out), GW619.out, GE619.out, NB608_619.out, NB619_608.out, NB620_619.out, NB619_620.out, GW620.out, GE620.out, NB608_620.out, NB620_608.out, (by repeat (first | (with_reducible first | exact HB.out | apply below_alloc | apply pw_below_drewN | apply below_drew1 | refine below_set ?_ GE608.out | refine below_set ?_ GE619.out | refine below_set ?_ GE620.out) | exact HB.out))⟩)
  rintro ⟨gb619, gb620⟩ w18 ⟨hS_, h0_, h1_, h2_, h3_, h4_, h5_, h6_, h7_, h8_, h9_, h10_, h11_, h12_, h13_⟩
  have n0_ : Aside0 (w18.heap[gb608]? = some (.cells #[.int .i64 t605, .int .i64 t606] 62 (0, 0))) := ⟨h0_⟩
  have n1_ : Aside0 (w18.heap[gb619]? = some (.cells #[.bool false, .bool false, .bool false, .int .u64 0, .int .i64 0] 66 (0, 0))) := ⟨h1_⟩
  have n2_ : Aside0 (w18.heap[gb620]? = some (.cells #[.bool false, .bool false, .bool false, .int .u64 0, .int .i64 0] 66 (0, 0))) := ⟨h2_⟩
  have n3_ : Aside0 (w.heap.size ≤ gb619) := ⟨h3_⟩
  have n4_ : Aside0 (w.heap.size ≤ gb619) := ⟨h4_⟩
  have n5_ : Aside0 (gb608 ≠ gb619) := ⟨h5_⟩
  have n6_ : Aside0 (gb619 ≠ gb608) := ⟨h6_⟩
  have n7_ : Aside0 (gb620 ≠ gb619) := ⟨h7_⟩
  have n8_ : Aside0 (gb619 ≠ gb620) := ⟨h8_⟩
  have n9_ : Aside0 (w.heap.size ≤ gb620) := ⟨h9_⟩
  have n10_ : Aside0 (w.heap.size ≤ gb620) := ⟨h10_⟩
  have n11_ : Aside0 (gb608 ≠ gb620) := ⟨h11_⟩
  have n12_ : Aside0 (gb620 ≠ gb608) := ⟨h12_⟩
  have n13_ : Aside0 (Below w.heap.size w w18) := ⟨h13_⟩
  clear BK608
  clear HB
  clear h0_ h1_ h2_ h3_ h4_ h5_ h6_ h7_ h8_ h9_ h10_ h11_ h12_ h13_
  have BK608 := n0_
  have BK619 := n1_
  have BK620 := n2_
  have GW619 := n3_
  have GE619 := n4_
  have NB608_619 := n5_
  have NB619_608 := n6_
  have NB620_619 := n7_
  have NB619_620 := n8_
  have GW620 := n9_
  have GE620 := n10_
  have NB608_620 := n11_
  have NB620_608 := n12_
  have HB := n13_
  clear n0_ n1_ n2_ n3_ n4_ n5_ n6_ n7_ n8_ n9_ n10_ n11_ n12_ n13_
  have hHeld : w18.cell? ⟨gb608, 0, none⟩ = some (.int .i64 t605) ∧ w18.cell? ⟨gb608, 1, none⟩ = some (.int .i64 t606) := hS_
  refine norm_ (a' := ?_) ?_ ?_
  rotate_left
  ·
   simp only [putAll, Act.put, List.setIfInBounds_toArray, List.set_cons_zero, List.set_cons_succ]
   rfl
  refine one_ (i := 8) (N := none) #[true, true, true, true, true, true, true, true, true, false] rfl rfl (one_of HT_.out (by kernel_rfl)) (by decide) (fun K hK => ?_)
  have hs19 : w18.cell? ⟨gb619, 0, none⟩ = some (.bool false) := (blk_cell BK619.out 0).trans rfl
  have hfs19 := blk_frozen BK619.out 0
  have hns19_0 := NB608_619.out
  have hns19_2 := NB620_619.out
  have hms19_0 := NB619_608.out
  have hms19_2 := NB619_620.out
  have hs20 : w18.cell? ⟨gb619, 1, none⟩ = some (.bool false) := (blk_cell BK619.out 1).trans rfl
  have hfs20 := blk_frozen BK619.out 1
  have hns20_0 := NB608_619.out
  have hns20_2 := NB620_619.out
  have hms20_0 := NB619_608.out
  have hms20_2 := NB619_620.out
  have hs21 : w18.cell? ⟨gb619, 2, none⟩ = some (.bool false) := (blk_cell BK619.out 2).trans rfl
  have hfs21 := blk_frozen BK619.out 2
  have hns21_0 := NB608_619.out
  have hns21_2 := NB620_619.out
  have hms21_0 := NB619_608.out
  have hms21_2 := NB619_620.out
  have hs22 : w18.cell? ⟨gb619, 3, none⟩ = some (.int .u64 0) := (blk_cell BK619.out 3).trans rfl
  have hfs22 := blk_frozen BK619.out 3
  have hns22_0 := NB608_619.out
  have hns22_2 := NB620_619.out
  have hms22_0 := NB619_608.out
  have hms22_2 := NB619_620.out
  have hs23 : w18.cell? ⟨gb619, 4, none⟩ = some (.int .i64 0) := (blk_cell BK619.out 4).trans rfl
  have hfs23 := blk_frozen BK619.out 4
  have hns23_0 := NB608_619.out
  have hns23_2 := NB620_619.out
  have hms23_0 := NB619_608.out
  have hms23_2 := NB619_620.out
  refine skip_ (w1 := ?_) (by rfl) rfl ?_ ?_
  rotate_left
  ·
   go_simp
   rfl
  refine hK.out _ _ ⟨((cell_far (p := ⟨gb619, _, none⟩) NB608_619.out _).trans (((cell_far (p := ⟨gb619, _, none⟩) NB608_619.out _).trans (((cell_far (p := ⟨gb619, _, none⟩) NB608_619.out _).trans (((cell_far (p := ⟨gb619, _, none⟩) NB608_619.out _).trans (((cell_far (p := ⟨gb619, _, none⟩) NB608_619.out _).trans (hHeld.1)))))))))), ((cell_far (p := ⟨gb619, _, none⟩) NB608_619.out _).trans (((cell_far (p := ⟨gb619, _, none⟩) NB608_619.out _).trans (((cell_far (p := ⟨gb619, _, none⟩) NB608_619.out _).trans (((cell_far (p := ⟨gb619, _, none⟩) NB608_619.out _).trans (((cell_far (p := ⟨gb619, _, none⟩) NB608_619.out _).trans (hHeld.2))))))))))⟩ (fun hHeld => ?_)
  clear hK K
  refine one_ (i := 9) (N := none) #[true, true, true, true, true, true, true, true, true, true] rfl rfl (one_of HT_.out (by kernel_rfl)) (by decide) (fun K hK => ?_)
  have hs24 : w18.cell? ⟨gb620, 0, none⟩ = some (.bool false) := (blk_cell BK620.out 0).trans rfl
  have hfs24 := blk_frozen BK620.out 0
  have hns24_0 := NB608_620.out
  have hns24_1 := NB619_620.out
  have hms24_0 := NB620_608.out
  have hms24_1 := NB620_619.out
  have hs25 : w18.cell? ⟨gb620, 1, none⟩ = some (.bool false) := (blk_cell BK620.out 1).trans rfl
  have hfs25 := blk_frozen BK620.out 1
  have hns25_0 := NB608_620.out
  have hns25_1 := NB619_620.out
  have hms25_0 := NB620_608.out
  have hms25_1 := NB620_619.out
  have hs26 : w18.cell? ⟨gb620, 2, none⟩ = some (.bool false) := (blk_cell BK620.out 2).trans rfl
  have hfs26 := blk_frozen BK620.out 2
  have hns26_0 := NB608_620.out
  have hns26_1 := NB619_620.out
  have hms26_0 := NB620_608.out
  have hms26_1 := NB620_619.out
  have hs27 : w18.cell? ⟨gb620, 3, none⟩ = some (.int .u64 0) := (blk_cell BK620.out 3).trans rfl
  have hfs27 := blk_frozen BK620.out 3
  have hns27_0 := NB608_620.out
  have hns27_1 := NB619_620.out
  have hms27_0 := NB620_608.out
  have hms27_1 := NB620_619.out
  have hs28 : w18.cell? ⟨gb620, 4, none⟩ = some (.int .i64 0) := (blk_cell BK620.out 4).trans rfl
  have hfs28 := blk_frozen BK620.out 4
  have hns28_0 := NB608_620.out
  have hns28_1 := NB619_620.out
  have hms28_0 := NB620_608.out
  have hms28_1 := NB620_619.out
  refine skip_ (w1 := ?_) (by rfl) rfl ?_ ?_
  rotate_left
  ·
   go_simp
   rfl
  refine hK.out _ _ ⟨((cell_far (p := ⟨gb620, _, none⟩) NB608_620.out _).trans (((cell_far (p := ⟨gb620, _, none⟩) NB608_620.out _).trans (((cell_far (p := ⟨gb620, _, none⟩) NB608_620.out _).trans (((cell_far (p := ⟨gb620, _, none⟩) NB608_620.out _).trans (((cell_far (p := ⟨gb620, _, none⟩) NB608_620.out _).trans (hHeld.1)))))))))), ((cell_far (p := ⟨gb620, _, none⟩) NB608_620.out _).trans (((cell_far (p := ⟨gb620, _, none⟩) NB608_620.out _).trans (((cell_far (p := ⟨gb620, _, none⟩) NB608_620.out _).trans (((cell_far (p := ⟨gb620, _, none⟩) NB608_620.out _).trans (((cell_far (p := ⟨gb620, _, none⟩) NB608_620.out _).trans (hHeld.2))))))))))⟩ (fun hHeld => ?_)
  clear hK K
  refine done_ (done_of HT_.out (by kernel_rfl)) ?_
  go_upto_region 5 with (fail)
  go_cut [31] (fun v31 wc => ∃ (kq : Nat) (x31_7 : Bool), v31 = .bool x31_7 ∧ Aside0 (impl_FCompare.j0 kq a1 a2 x31_7 t605 t606 t609 t610 t611 t612 t613 t614 t615 t616 t617 t618 = some r) ∧ Aside0 (kq ≤ k) ∧ Aside0 (wc.heap[gb608]? = some (.cells #[.int .i64 t605, .int .i64 t606] 62 (0, 0))) ∧ Aside0 (wc.heap[gb619]? = some (.cells #[.bool t609, .bool t610, .bool t611, .int .u64 t612, .int .i64 t613] 66 (0, 0))) ∧ Aside0 (wc.heap[gb620]? = some (.cells #[.bool t614, .bool t615, .bool t616, .int .u64 t617, .int .i64 t618] 66 (0, 0))) ∧ Aside0 (Below w.heap.size w wc))
  case first =>
   have H := HC8.out
   clear HC8
   by_cases c29 : t610 = true
   ·
    subst c29
    have H1 : (impl_FCompare.j0 k a1 a2 true t605 t606 t609 true t611 t612 t613 t614 t615 t616 t617 t618) = some r := by rw [if_pos rfl] at H; exact H
    clear H
    have H := H1
    clear H1
    have H' := Aside0.mk H
    clear H
    have hnb30 := NB619_608.out
    have hnc30 := NB608_619.out
    have hnb31 := NB619_620.out
    have hnc31 := NB620_619.out
    have hcz32_0 : w18.cell? ⟨gb619, 0, none⟩ = some (.bool false) := (blk_cell BK619.out 0).trans rfl
    have hcz32_1 : w18.cell? ⟨gb619, 1, none⟩ = some (.bool false) := (blk_cell BK619.out 1).trans rfl
    have hcz32_2 : w18.cell? ⟨gb619, 2, none⟩ = some (.bool false) := (blk_cell BK619.out 2).trans rfl
    have hcz32_3 : w18.cell? ⟨gb619, 3, none⟩ = some (.int .u64 0) := (blk_cell BK619.out 3).trans rfl
    have hcz32_4 : w18.cell? ⟨gb619, 4, none⟩ = some (.int .i64 0) := (blk_cell BK619.out 4).trans rfl
    have hfz32_0 := blk_frozen BK619.out 0
    have hfz32_1 := blk_frozen BK619.out 1
    have hfz32_2 := blk_frozen BK619.out 2
    have hfz32_3 := blk_frozen BK619.out 3
    have hfz32_4 := blk_frozen BK619.out 4
    go_wp2
    go_meet
    case rel => exact ⟨_, (true), (by first | rfl | (simp; done) | (simp [*]; done)), H', ⟨by first | omega | exact Nat.le_refl _⟩, ⟨by (with_reducible repeat (first | refine blk_drewN ?_ _ | refine blk_drew ?_ | refine blk_alloc ?_ _)); refine blk_far ?_ NB608_620.out _; (with_reducible repeat (first | refine blk_drewN ?_ _ | refine blk_drew ?_ | refine blk_alloc ?_ _)); refine blk_far ?_ NB608_620.out _; (with_reducible repeat (first | refine blk_drewN ?_ _ | refine blk_drew ?_ | refine blk_alloc ?_ _)); refine blk_far ?_ NB608_620.out _; (with_reducible repeat (first | refine blk_drewN ?_ _ | refine blk_drew ?_ | refine blk_alloc ?_ _)); refine blk_far ?_ NB608_620.out _; (with_reducible repeat (first | refine blk_drewN ?_ _ | refine blk_drew ?_ | refine blk_alloc ?_ _)); refine blk_far ?_ NB608_620.out _; (with_reducible repeat (first | refine blk_drewN ?_ _ | refine blk_drew ?_ | refine blk_alloc ?_ _)); refine blk_far ?_ NB608_619.out _; (with_reducible repeat (first | refine blk_drewN ?_ _ | refine blk_drew ?_ | refine blk_alloc ?_ _)); refine blk_far ?_ NB608_619.out _; (with_reducible repeat (first | refine blk_drewN ?_ _ | refine blk_drew ?_ | refine blk_alloc ?_ _)); refine blk_far ?_ NB608_619.out _; (with_reducible repeat (first | refine blk_drewN ?_ _ | refine blk_drew ?_ | refine blk_alloc ?_ _)); refine blk_far ?_ NB608_619.out _; (with_reducible repeat (first | refine blk_drewN ?_ _ | refine blk_drew ?_ | refine blk_alloc ?_ _)); refine blk_far ?_ NB608_619.out _; (with_reducible repeat (first | refine blk_drewN ?_ _ | refine blk_drew ?_ | refine blk_alloc ?_ _)); exact BK608.out⟩, ⟨by (with_reducible repeat (first | refine blk_drewN ?_ _ | refine blk_drew ?_ | refine blk_alloc ?_ _)); refine blk_far ?_ NB619_620.out _; (with_reducible repeat (first | refine blk_drewN ?_ _ | refine blk_drew ?_ | refine blk_alloc ?_ _)); refine blk_far ?_ NB619_620.out _; (with_reducible repeat (first | refine blk_drewN ?_ _ | refine blk_drew ?_ | refine blk_alloc ?_ _)); refine blk_far ?_ NB619_620.out _; (with_reducible repeat (first | refine blk_drewN ?_ _ | refine blk_drew ?_ | refine blk_alloc ?_ _)); refine blk_far ?_ NB619_620.out _; (with_reducible repeat (first | refine blk_drewN ?_ _ | refine blk_drew ?_ | refine blk_alloc ?_ _)); refine blk_far ?_ NB619_620.out _; (with_reducible repeat (first | refine blk_drewN ?_ _ | refine blk_drew ?_ | refine blk_alloc ?_ _)); refine blk_put (cs := #[.bool t609, .bool true, .bool t611, .int .u64 t612, .int .i64 0]) ?_ 4 _ rfl; (with_reducible repeat (first | refine blk_drewN ?_ _ | refine blk_drew ?_ | refine blk_alloc ?_ _)); refine blk_put (cs := #[.bool t609, .bool true, .bool t611, .int .u64 0, .int .i64 0]) ?_ 3 _ rfl; (with_reducible repeat (first | refine blk_drewN ?_ _ | refine blk_drew ?_ | refine blk_alloc ?_ _)); refine blk_put (cs := #[.bool t609, .bool true, .bool false, .int .u64 0, .int .i64 0]) ?_ 2 _ rfl; (with_reducible repeat (first | refine blk_drewN ?_ _ | refine blk_drew ?_ | refine blk_alloc ?_ _)); refine blk_put (cs := #[.bool t609, .bool false, .bool false, .int .u64 0, .int .i64 0]) ?_ 1 _ rfl; (with_reducible repeat (first | refine blk_drewN ?_ _ | refine blk_drew ?_ | refine blk_alloc ?_ _)); refine blk_put (cs := #[.bool false, .bool false, .bool false, .int .u64 0, .int .i64 0]) ?_ 0 _ rfl; (with_reducible repeat (first | refine blk_drewN ?_ _ | refine blk_drew ?_ | refine blk_alloc ?_ _)); exact BK619.out⟩, ⟨by (with_reducible repeat (first | refine blk_drewN ?_ _ | refine blk_drew ?_ | refine blk_alloc ?_ _)); refine blk_put (cs := #[.bool t614, .bool t615, .bool t616, .int .u64 t617, .int .i64 0]) ?_ 4 _ rfl; (with_reducible repeat (first | refine blk_drewN ?_ _ | refine blk_drew ?_ | refine blk_alloc ?_ _)); refine blk_put (cs := #[.bool t614, .bool t615, .bool t616, .int .u64 0, .int .i64 0]) ?_ 3 _ rfl; (with_reducible repeat (first | refine blk_drewN ?_ _ | refine blk_drew ?_ | refine blk_alloc ?_ _)); refine blk_put (cs := #[.bool t614, .bool t615, .bool false, .int .u64 0, .int .i64 0]) ?_ 2 _ rfl; (with_reducible repeat (first | refine blk_drewN ?_ _ | refine blk_drew ?_ | refine blk_alloc ?_ _)); refine blk_put (cs := #[.bool t614, .bool false, .bool false, .int .u64 0, .int .i64 0]) ?_ 1 _ rfl; (with_reducible repeat (first | refine blk_drewN ?_ _ | refine blk_drew ?_ | refine blk_alloc ?_ _)); refine blk_put (cs := #[.bool false, .bool false, .bool false, .int .u64 0, .int .i64 0]) ?_ 0 _ rfl; (with_reducible repeat (first | refine blk_drewN ?_ _ | refine blk_drew ?_ | refine blk_alloc ?_ _)); refine blk_far ?_ NB620_619.out _; (with_reducible repeat (first | refine blk_drewN ?_ _ | refine blk_drew ?_ | refine blk_alloc ?_ _)); refine blk_far ?_ NB620_619.out _; (with_reducible repeat (first | refine blk_drewN ?_ _ | refine blk_drew ?_ | refine blk_alloc ?_ _)); refine blk_far ?_ NB620_619.out _; (with_reducible repeat (first | refine blk_drewN ?_ _ | refine blk_drew ?_ | refine blk_alloc ?_ _)); refine blk_far ?_ NB620_619.out _; (with_reducible repeat (first | refine blk_drewN ?_ _ | refine blk_drew ?_ | refine blk_alloc ?_ _)); refine blk_far ?_ NB620_619.out _; (with_reducible repeat (first | refine blk_drewN ?_ _ | refine blk_drew ?_ | refine blk_alloc ?_ _)); exact BK620.out⟩, ⟨by repeat (first | (with_reducible first | exact HB.out | apply below_alloc | apply pw_below_drewN | apply below_drew1 | refine below_set ?_ GE608.out | refine below_set ?_ GE619.out | refine below_set ?_ GE620.out) | exact HB.out)⟩⟩
   ·
    replace c29 := Bool.eq_false_iff.mpr c29
    subst c29
    have H1 : (impl_FCompare.j0 k a1 a2 t615 t605 t606 t609 false t611 t612 t613 t614 t615 t616 t617 t618) = some r := by rw [if_neg (show ¬ (false = true) by decide)] at H; exact H
    clear H
    have H := H1
    clear H1
    have H' := Aside0.mk H
    clear H
    have hnb33 := NB619_608.out
    have hnc33 := NB608_619.out
    have hnb34 := NB619_620.out
    have hnc34 := NB620_619.out
    have hcz35_0 : w18.cell? ⟨gb619, 0, none⟩ = some (.bool false) := (blk_cell BK619.out 0).trans rfl
    have hcz35_1 : w18.cell? ⟨gb619, 1, none⟩ = some (.bool false) := (blk_cell BK619.out 1).trans rfl
    have hcz35_2 : w18.cell? ⟨gb619, 2, none⟩ = some (.bool false) := (blk_cell BK619.out 2).trans rfl
    have hcz35_3 : w18.cell? ⟨gb619, 3, none⟩ = some (.int .u64 0) := (blk_cell BK619.out 3).trans rfl
    have hcz35_4 : w18.cell? ⟨gb619, 4, none⟩ = some (.int .i64 0) := (blk_cell BK619.out 4).trans rfl
    have hfz35_0 := blk_frozen BK619.out 0
    have hfz35_1 := blk_frozen BK619.out 1
    have hfz35_2 := blk_frozen BK619.out 2
    have hfz35_3 := blk_frozen BK619.out 3
    have hfz35_4 := blk_frozen BK619.out 4
    have hnb36 := NB620_608.out
    have hnc36 := NB608_620.out
    have hcz37_0 : w18.cell? ⟨gb620, 0, none⟩ = some (.bool false) := (blk_cell BK620.out 0).trans rfl
    have hcz37_1 : w18.cell? ⟨gb620, 1, none⟩ = some (.bool false) := (blk_cell BK620.out 1).trans rfl
    have hcz37_2 : w18.cell? ⟨gb620, 2, none⟩ = some (.bool false) := (blk_cell BK620.out 2).trans rfl
    have hcz37_3 : w18.cell? ⟨gb620, 3, none⟩ = some (.int .u64 0) := (blk_cell BK620.out 3).trans rfl
    have hcz37_4 : w18.cell? ⟨gb620, 4, none⟩ = some (.int .i64 0) := (blk_cell BK620.out 4).trans rfl
    have hfz37_0 := blk_frozen BK620.out 0
    have hfz37_1 := blk_frozen BK620.out 1
    have hfz37_2 := blk_frozen BK620.out 2
    have hfz37_3 := blk_frozen BK620.out 3
    have hfz37_4 := blk_frozen BK620.out 4
    go_wp2
    go_meet
    case rel => exact ⟨_, (t615), (by first | rfl | (simp; done) | (simp [*]; done)), H', ⟨by first | omega | exact Nat.le_refl _⟩, ⟨by (with_reducible repeat (first | refine blk_drewN ?_ _ | refine blk_drew ?_ | refine blk_alloc ?_ _)); refine blk_far ?_ NB608_620.out _; (with_reducible repeat (first | refine blk_drewN ?_ _ | refine blk_drew ?_ | refine blk_alloc ?_ _)); refine blk_far ?_ NB608_620.out _; (with_reducible repeat (first | refine blk_drewN ?_ _ | refine blk_drew ?_ | refine blk_alloc ?_ _)); refine blk_far ?_ NB608_620.out _; (with_reducible repeat (first | refine blk_drewN ?_ _ | refine blk_drew ?_ | refine blk_alloc ?_ _)); refine blk_far ?_ NB608_620.out _; (with_reducible repeat (first | refine blk_drewN ?_ _ | refine blk_drew ?_ | refine blk_alloc ?_ _)); refine blk_far ?_ NB608_620.out _; (with_reducible repeat (first | refine blk_drewN ?_ _ | refine blk_drew ?_ | refine blk_alloc ?_ _)); refine blk_far ?_ NB608_619.out _; (with_reducible repeat (first | refine blk_drewN ?_ _ | refine blk_drew ?_ | refine blk_alloc ?_ _)); refine blk_far ?_ NB608_619.out _; (with_reducible repeat (first | refine blk_drewN ?_ _ | refine blk_drew ?_ | refine blk_alloc ?_ _)); refine blk_far ?_ NB608_619.out _; (with_reducible repeat (first | refine blk_drewN ?_ _ | refine blk_drew ?_ | refine blk_alloc ?_ _)); refine blk_far ?_ NB608_619.out _; (with_reducible repeat (first | refine blk_drewN ?_ _ | refine blk_drew ?_ | refine blk_alloc ?_ _)); refine blk_far ?_ NB608_619.out _; (with_reducible repeat (first | refine blk_drewN ?_ _ | refine blk_drew ?_ | refine blk_alloc ?_ _)); exact BK608.out⟩, ⟨by (with_reducible repeat (first | refine blk_drewN ?_ _ | refine blk_drew ?_ | refine blk_alloc ?_ _)); refine blk_far ?_ NB619_620.out _; (with_reducible repeat (first | refine blk_drewN ?_ _ | refine blk_drew ?_ | refine blk_alloc ?_ _)); refine blk_far ?_ NB619_620.out _; (with_reducible repeat (first | refine blk_drewN ?_ _ | refine blk_drew ?_ | refine blk_alloc ?_ _)); refine blk_far ?_ NB619_620.out _; (with_reducible repeat (first | refine blk_drewN ?_ _ | refine blk_drew ?_ | refine blk_alloc ?_ _)); refine blk_far ?_ NB619_620.out _; (with_reducible repeat (first | refine blk_drewN ?_ _ | refine blk_drew ?_ | refine blk_alloc ?_ _)); refine blk_far ?_ NB619_620.out _; (with_reducible repeat (first | refine blk_drewN ?_ _ | refine blk_drew ?_ | refine blk_alloc ?_ _)); refine blk_put (cs := #[.bool t609, .bool false, .bool t611, .int .u64 t612, .int .i64 0]) ?_ 4 _ rfl; (with_reducible repeat (first | refine blk_drewN ?_ _ | refine blk_drew ?_ | refine blk_alloc ?_ _)); refine blk_put (cs := #[.bool t609, .bool false, .bool t611, .int .u64 0, .int .i64 0]) ?_ 3 _ rfl; (with_reducible repeat (first | refine blk_drewN ?_ _ | refine blk_drew ?_ | refine blk_alloc ?_ _)); refine blk_put (cs := #[.bool t609, .bool false, .bool false, .int .u64 0, .int .i64 0]) ?_ 2 _ rfl; (with_reducible repeat (first | refine blk_drewN ?_ _ | refine blk_drew ?_ | refine blk_alloc ?_ _)); refine blk_put (cs := #[.bool t609, .bool false, .bool false, .int .u64 0, .int .i64 0]) ?_ 1 _ rfl; (with_reducible repeat (first | refine blk_drewN ?_ _ | refine blk_drew ?_ | refine blk_alloc ?_ _)); refine blk_put (cs := #[.bool false, .bool false, .bool false, .int .u64 0, .int .i64 0]) ?_ 0 _ rfl; (with_reducible repeat (first | refine blk_drewN ?_ _ | refine blk_drew ?_ | refine blk_alloc ?_ _)); exact BK619.out⟩, ⟨by (with_reducible repeat (first | refine blk_drewN ?_ _ | refine blk_drew ?_ | refine blk_alloc ?_ _)); refine blk_put (cs := #[.bool t614, .bool t615, .bool t616, .int .u64 t617, .int .i64 0]) ?_ 4 _ rfl; (with_reducible repeat (first | refine blk_drewN ?_ _ | refine blk_drew ?_ | refine blk_alloc ?_ _)); refine blk_put (cs := #[.bool t614, .bool t615, .bool t616, .int .u64 0, .int .i64 0]) ?_ 3 _ rfl; (with_reducible repeat (first | refine blk_drewN ?_ _ | refine blk_drew ?_ | refine blk_alloc ?_ _)); refine blk_put (cs := #[.bool t614, .bool t615, .bool false, .int .u64 0, .int .i64 0]) ?_ 2 _ rfl; (with_reducible repeat (first | refine blk_drewN ?_ _ | refine blk_drew ?_ | refine blk_alloc ?_ _)); refine blk_put (cs := #[.bool t614, .bool false, .bool false, .int .u64 0, .int .i64 0]) ?_ 1 _ rfl; (with_reducible repeat (first | refine blk_drewN ?_ _ | refine blk_drew ?_ | refine blk_alloc ?_ _)); refine blk_put (cs := #[.bool false, .bool false, .bool false, .int .u64 0, .int .i64 0]) ?_ 0 _ rfl; (with_reducible repeat (first | refine blk_drewN ?_ _ | refine blk_drew ?_ | refine blk_alloc ?_ _)); refine blk_far ?_ NB620_619.out _; (with_reducible repeat (first | refine blk_drewN ?_ _ | refine blk_drew ?_ | refine blk_alloc ?_ _)); refine blk_far ?_ NB620_619.out _; (with_reducible repeat (first | refine blk_drewN ?_ _ | refine blk_drew ?_ | refine blk_alloc ?_ _)); refine blk_far ?_ NB620_619.out _; (with_reducible repeat (first | refine blk_drewN ?_ _ | refine blk_drew ?_ | refine blk_alloc ?_ _)); refine blk_far ?_ NB620_619.out _; (with_reducible repeat (first | refine blk_drewN ?_ _ | refine blk_drew ?_ | refine blk_alloc ?_ _)); refine blk_far ?_ NB620_619.out _; (with_reducible repeat (first | refine blk_drewN ?_ _ | refine blk_drew ?_ | refine blk_alloc ?_ _)); exact BK620.out⟩, ⟨by repeat (first | (with_reducible first | exact HB.out | apply below_alloc | apply pw_below_drewN | apply below_drew1 | refine below_set ?_ GE608.out | refine below_set ?_ GE619.out | refine below_set ?_ GE620.out) | exact HB.out)⟩⟩
  case rest =>
   clear HC8
   try clear c2
   try clear p2
   try clear c3
   try clear c5
   try clear c29
   try clear c30
   try clear c31
   try clear c33
   try clear c34
   try clear c36
   try clear hcz32_0 hcz32_1 hcz32_2 hcz32_3 hcz32_4
   try clear hcz35_0 hcz35_1 hcz35_2 hcz35_3 hcz35_4
   try clear hcz37_0 hcz37_1 hcz37_2 hcz37_3 hcz37_4
   try clear hfz32_0 hfz32_1 hfz32_2 hfz32_3 hfz32_4
   try clear hfz35_0 hfz35_1 hfz35_2 hfz35_3 hfz35_4
   try clear hfz37_0 hfz37_1 hfz37_2 hfz37_3 hfz37_4
   obtain ⟨kq, x31_7, rfl, HA, HJ7, BK608, BK619, BK620, HB⟩ := hcut
   cases kq with
   | zero => exact absurd HA.out (by simp [impl_FCompare.j0])
   | succ kj7 =>
    have H := HA.out
    clear HA
    simp only [impl_FCompare.j0] at H
    by_cases c38 : x31_7 = true
    ·
     subst c38
     have H1 : (some 2) = some r := by rw [if_pos rfl] at H; exact H
     clear H
     have H := H1
     clear H1
     obtain rfl := Option.some.inj H
     simp only [Option.some.injEq, Prod.mk.injEq] at H
     obtain ⟨rfl⟩ := H
     go_wp2
     go_ret
     exact ⟨by first | rfl | (simp [errW_none, errW_some] <;> rfl) | (simp [*, errW_none, errW_some] <;> rfl), by repeat (first | (with_reducible first | exact HB.out | apply below_alloc | apply pw_below_drewN | apply below_drew1 | refine below_set ?_ GE608.out | refine below_set ?_ GE619.out | refine below_set ?_ GE620.out) | exact HB.out)⟩
    ·
     replace c38 := Bool.eq_false_iff.mpr c38
     subst c38
     have H1 : (if t611 = true then (impl_FCompare.j1 kj7 a1 a2 false t605 t606) else (if t616 = true then (impl_FCompare.j1 kj7 a1 a2 false t605 t606) else (if t612 = 0 then (impl_FCompare.j1 kj7 a1 a2 (t617 == 0) t605 t606) else (impl_FCompare.j1 kj7 a1 a2 false t605 t606)))) = some r := by rw [if_neg (show ¬ (false = true) by decide)] at H; exact H
     clear H
     have H := H1
     clear H1
     have HC39 := Aside0.mk H
     clear H
     go_upto_region 7 with (fail)
     go_cut [49] (fun v49 wc => ∃ (kq : Nat) (x49_38 : Bool), v49 = .bool x49_38 ∧ Aside0 (impl_FCompare.j1 kq a1 a2 x49_38 t605 t606 = some r) ∧ Aside0 (kq ≤ kj7) ∧ Aside0 (wc.heap[gb608]? = some (.cells #[.int .i64 t605, .int .i64 t606] 62 (0, 0))) ∧ Aside0 (wc.heap[gb619]? = some (.cells #[.bool t609, .bool t610, .bool t611, .int .u64 t612, .int .i64 t613] 66 (0, 0))) ∧ Aside0 (wc.heap[gb620]? = some (.cells #[.bool t614, .bool t615, .bool t616, .int .u64 t617, .int .i64 t618] 66 (0, 0))) ∧ Aside0 (Below w.heap.size w wc))
     case first =>
      have H := HC39.out
      clear HC39
      by_cases c40 : t611 = true
      ·
       subst c40
       have H1 : (impl_FCompare.j1 kj7 a1 a2 false t605 t606) = some r := by rw [if_pos rfl] at H; exact H
       clear H
       have H := H1
       clear H1
       have H' := Aside0.mk H
       clear H
       have hnb41 := NB619_608.out
       have hnc41 := NB608_619.out
       have hnb42 := NB619_620.out
       have hnc42 := NB620_619.out
       have hcz43_0 : wc.cell? ⟨gb619, 0, none⟩ = some (.bool t609) := (blk_cell BK619.out 0).trans rfl
       have hcz43_1 : wc.cell? ⟨gb619, 1, none⟩ = some (.bool t610) := (blk_cell BK619.out 1).trans rfl
       have hcz43_2 : wc.cell? ⟨gb619, 2, none⟩ = some (.bool true) := (blk_cell BK619.out 2).trans rfl
       have hcz43_3 : wc.cell? ⟨gb619, 3, none⟩ = some (.int .u64 t612) := (blk_cell BK619.out 3).trans rfl
       have hcz43_4 : wc.cell? ⟨gb619, 4, none⟩ = some (.int .i64 t613) := (blk_cell BK619.out 4).trans rfl
       have hfz43_0 := blk_frozen BK619.out 0
       have hfz43_1 := blk_frozen BK619.out 1
       have hfz43_2 := blk_frozen BK619.out 2
       have hfz43_3 := blk_frozen BK619.out 3
       have hfz43_4 := blk_frozen BK619.out 4
       go_wp2
       go_meet
       case rel => exact ⟨_, (false), (by first | rfl | (simp; done) | (simp [*]; done)), H', ⟨by have := HJ7.out; first | omega | exact Nat.le_refl _⟩, ⟨by (with_reducible repeat (first | refine blk_drewN ?_ _ | refine blk_drew ?_ | refine blk_alloc ?_ _)); exact BK608.out⟩, ⟨by (with_reducible repeat (first | refine blk_drewN ?_ _ | refine blk_drew ?_ | refine blk_alloc ?_ _)); exact BK619.out⟩, ⟨by (with_reducible repeat (first | refine blk_drewN ?_ _ | refine blk_drew ?_ | refine blk_alloc ?_ _)); exact BK620.out⟩, ⟨by repeat (first | (with_reducible first | exact HB.out | apply below_alloc | apply pw_below_drewN | apply below_drew1 | refine below_set ?_ GE608.out | refine below_set ?_ GE619.out | refine below_set ?_ GE620.out) | exact HB.out)⟩⟩
      ·
       replace c40 := Bool.eq_false_iff.mpr c40
       subst c40
       have H1 : (if t616 = true then (impl_FCompare.j1 kj7 a1 a2 false t605 t606) else (if t612 = 0 then (impl_FCompare.j1 kj7 a1 a2 (t617 == 0) t605 t606) else (impl_FCompare.j1 kj7 a1 a2 false t605 t606))) = some r := by rw [if_neg (show ¬ (false = true) by decide)] at H; exact H
       clear H
       have H := H1
       clear H1
       by_cases c44 : t616 = true
       ·
        subst c44
        have H1 : (impl_FCompare.j1 kj7 a1 a2 false t605 t606) = some r := by rw [if_pos rfl] at H; exact H
        clear H
        have H := H1
        clear H1
        have H' := Aside0.mk H
        clear H
        have hnb45 := NB619_608.out
        have hnc45 := NB608_619.out
        have hnb46 := NB619_620.out
        have hnc46 := NB620_619.out
        have hcz47_0 : wc.cell? ⟨gb619, 0, none⟩ = some (.bool t609) := (blk_cell BK619.out 0).trans rfl
        have hcz47_1 : wc.cell? ⟨gb619, 1, none⟩ = some (.bool t610) := (blk_cell BK619.out 1).trans rfl
        have hcz47_2 : wc.cell? ⟨gb619, 2, none⟩ = some (.bool false) := (blk_cell BK619.out 2).trans rfl
        have hcz47_3 : wc.cell? ⟨gb619, 3, none⟩ = some (.int .u64 t612) := (blk_cell BK619.out 3).trans rfl
        have hcz47_4 : wc.cell? ⟨gb619, 4, none⟩ = some (.int .i64 t613) := (blk_cell BK619.out 4).trans rfl
        have hfz47_0 := blk_frozen BK619.out 0
        have hfz47_1 := blk_frozen BK619.out 1
        have hfz47_2 := blk_frozen BK619.out 2
        have hfz47_3 := blk_frozen BK619.out 3
        have hfz47_4 := blk_frozen BK619.out 4
        have hnb48 := NB620_608.out
        have hnc48 := NB608_620.out
        have hcz49_0 : wc.cell? ⟨gb620, 0, none⟩ = some (.bool t614) := (blk_cell BK620.out 0).trans rfl
        have hcz49_1 : wc.cell? ⟨gb620, 1, none⟩ = some (.bool t615) := (blk_cell BK620.out 1).trans rfl
        have hcz49_2 : wc.cell? ⟨gb620, 2, none⟩ = some (.bool true) := (blk_cell BK620.out 2).trans rfl
        have hcz49_3 : wc.cell? ⟨gb620, 3, none⟩ = some (.int .u64 t617) := (blk_cell BK620.out 3).trans rfl
        have hcz49_4 : wc.cell? ⟨gb620, 4, none⟩ = some (.int .i64 t618) := (blk_cell BK620.out 4).trans rfl
        have hfz49_0 := blk_frozen BK620.out 0
        have hfz49_1 := blk_frozen BK620.out 1
        have hfz49_2 := blk_frozen BK620.out 2
        have hfz49_3 := blk_frozen BK620.out 3
        have hfz49_4 := blk_frozen BK620.out 4
        go_wp2
        go_meet
        case rel => exact ⟨_, (false), (by first | rfl | (simp; done) | (simp [*]; done)), H', ⟨by have := HJ7.out; first | omega | exact Nat.le_refl _⟩, ⟨by (with_reducible repeat (first | refine blk_drewN ?_ _ | refine blk_drew ?_ | refine blk_alloc ?_ _)); exact BK608.out⟩, ⟨by (with_reducible repeat (first | refine blk_drewN ?_ _ | refine blk_drew ?_ | refine blk_alloc ?_ _)); exact BK619.out⟩, ⟨by (with_reducible repeat (first | refine blk_drewN ?_ _ | refine blk_drew ?_ | refine blk_alloc ?_ _)); exact BK620.out⟩, ⟨by repeat (first | (with_reducible first | exact HB.out | apply below_alloc | apply pw_below_drewN | apply below_drew1 | refine below_set ?_ GE608.out | refine below_set ?_ GE619.out | refine below_set ?_ GE620.out) | exact HB.out)⟩⟩
       ·
        replace c44 := Bool.eq_false_iff.mpr c44
        subst c44
        have H1 : (if t612 = 0 then (impl_FCompare.j1 kj7 a1 a2 (t617 == 0) t605 t606) else (impl_FCompare.j1 kj7 a1 a2 false t605 t606)) = some r := by rw [if_neg (show ¬ (false = true) by decide)] at H; exact H
        clear H
        have H := H1
        clear H1
        by_cases c50 : t612 = 0
        ·
         rw [if_pos c50] at H
         have c50b0 : (t612 == 0) = true := beq_iff_eq.mpr c50
         have c50b1 : (t612 != 0) = false := bne_eq_false_iff_eq.mpr c50
         clear c50
         (first | rw [c50b0] | (simp only [i64_w, i32_w]; rw [c50b0]) | skip)
         have H' := Aside0.mk H
         clear H
         have hnb51 := NB619_608.out
         have hnc51 := NB608_619.out
         have hnb52 := NB619_620.out
         have hnc52 := NB620_619.out
         have hcz53_0 : wc.cell? ⟨gb619, 0, none⟩ = some (.bool t609) := (blk_cell BK619.out 0).trans rfl
         have hcz53_1 : wc.cell? ⟨gb619, 1, none⟩ = some (.bool t610) := (blk_cell BK619.out 1).trans rfl
         have hcz53_2 : wc.cell? ⟨gb619, 2, none⟩ = some (.bool false) := (blk_cell BK619.out 2).trans rfl
         have hcz53_3 : wc.cell? ⟨gb619, 3, none⟩ = some (.int .u64 t612) := (blk_cell BK619.out 3).trans rfl
         have hcz53_4 : wc.cell? ⟨gb619, 4, none⟩ = some (.int .i64 t613) := (blk_cell BK619.out 4).trans rfl
         have hfz53_0 := blk_frozen BK619.out 0
         have hfz53_1 := blk_frozen BK619.out 1
         have hfz53_2 := blk_frozen BK619.out 2
         have hfz53_3 := blk_frozen BK619.out 3
         have hfz53_4 := blk_frozen BK619.out 4
         have hnb54 := NB620_608.out
         have hnc54 := NB608_620.out
         have hcz55_0 : wc.cell? ⟨gb620, 0, none⟩ = some (.bool t614) := (blk_cell BK620.out 0).trans rfl
         have hcz55_1 : wc.cell? ⟨gb620, 1, none⟩ = some (.bool t615) := (blk_cell BK620.out 1).trans rfl
         have hcz55_2 : wc.cell? ⟨gb620, 2, none⟩ = some (.bool false) := (blk_cell BK620.out 2).trans rfl
         have hcz55_3 : wc.cell? ⟨gb620, 3, none⟩ = some (.int .u64 t617) := (blk_cell BK620.out 3).trans rfl
         have hcz55_4 : wc.cell? ⟨gb620, 4, none⟩ = some (.int .i64 t618) := (blk_cell BK620.out 4).trans rfl
         have hfz55_0 := blk_frozen BK620.out 0
         have hfz55_1 := blk_frozen BK620.out 1
         have hfz55_2 := blk_frozen BK620.out 2
         have hfz55_3 := blk_frozen BK620.out 3
         have hfz55_4 := blk_frozen BK620.out 4
         go_wp2
         go_meet
         case rel => exact ⟨_, ((t617 == 0)), (by first | rfl | (simp; done) | (simp [*]; done)), H', ⟨by have := HJ7.out; first | omega | exact Nat.le_refl _⟩, ⟨by (with_reducible repeat (first | refine blk_drewN ?_ _ | refine blk_drew ?_ | refine blk_alloc ?_ _)); exact BK608.out⟩, ⟨by (with_reducible repeat (first | refine blk_drewN ?_ _ | refine blk_drew ?_ | refine blk_alloc ?_ _)); exact BK619.out⟩, ⟨by (with_reducible repeat (first | refine blk_drewN ?_ _ | refine blk_drew ?_ | refine blk_alloc ?_ _)); exact BK620.out⟩, ⟨by repeat (first | (with_reducible first | exact HB.out | apply below_alloc | apply pw_below_drewN | apply below_drew1 | refine below_set ?_ GE608.out | refine below_set ?_ GE619.out | refine below_set ?_ GE620.out) | exact HB.out)⟩⟩
        ·
         rw [if_neg c50] at H
         have c50b0 : (t612 == 0) = false := beq_eq_false_iff_ne.mpr c50
         have c50b1 : (t612 != 0) = true := bne_iff_ne.mpr c50
         (first | rw [c50b0] | (simp only [i64_w, i32_w]; rw [c50b0]) | skip)
         have H' := Aside0.mk H
         clear H
         have hnb56 := NB619_608.out
         have hnc56 := NB608_619.out
         have hnb57 := NB619_620.out
         have hnc57 := NB620_619.out
         have hcz58_0 : wc.cell? ⟨gb619, 0, none⟩ = some (.bool t609) := (blk_cell BK619.out 0).trans rfl
         have hcz58_1 : wc.cell? ⟨gb619, 1, none⟩ = some (.bool t610) := (blk_cell BK619.out 1).trans rfl
         have hcz58_2 : wc.cell? ⟨gb619, 2, none⟩ = some (.bool false) := (blk_cell BK619.out 2).trans rfl
         have hcz58_3 : wc.cell? ⟨gb619, 3, none⟩ = some (.int .u64 t612) := (blk_cell BK619.out 3).trans rfl
         have hcz58_4 : wc.cell? ⟨gb619, 4, none⟩ = some (.int .i64 t613) := (blk_cell BK619.out 4).trans rfl
         have hfz58_0 := blk_frozen BK619.out 0
         have hfz58_1 := blk_frozen BK619.out 1
         have hfz58_2 := blk_frozen BK619.out 2
         have hfz58_3 := blk_frozen BK619.out 3
         have hfz58_4 := blk_frozen BK619.out 4
         have hnb59 := NB620_608.out
         have hnc59 := NB608_620.out
         have hcz60_0 : wc.cell? ⟨gb620, 0, none⟩ = some (.bool t614) := (blk_cell BK620.out 0).trans rfl
         have hcz60_1 : wc.cell? ⟨gb620, 1, none⟩ = some (.bool t615) := (blk_cell BK620.out 1).trans rfl
         have hcz60_2 : wc.cell? ⟨gb620, 2, none⟩ = some (.bool false) := (blk_cell BK620.out 2).trans rfl
         have hcz60_3 : wc.cell? ⟨gb620, 3, none⟩ = some (.int .u64 t617) := (blk_cell BK620.out 3).trans rfl
         have hcz60_4 : wc.cell? ⟨gb620, 4, none⟩ = some (.int .i64 t618) := (blk_cell BK620.out 4).trans rfl
         have hfz60_0 := blk_frozen BK620.out 0
         have hfz60_1 := blk_frozen BK620.out 1
         have hfz60_2 := blk_frozen BK620.out 2
         have hfz60_3 := blk_frozen BK620.out 3
         have hfz60_4 := blk_frozen BK620.out 4
         go_wp2
         go_meet
         case rel => exact ⟨_, (false), (by first | rfl | (simp; done) | (simp [*]; done)), H', ⟨by have := HJ7.out; first | omega | exact Nat.le_refl _⟩, ⟨by (with_reducible repeat (first | refine blk_drewN ?_ _ | refine blk_drew ?_ | refine blk_alloc ?_ _)); exact BK608.out⟩, ⟨by (with_reducible repeat (first | refine blk_drewN ?_ _ | refine blk_drew ?_ | refine blk_alloc ?_ _)); exact BK619.out⟩, ⟨by (with_reducible repeat (first | refine blk_drewN ?_ _ | refine blk_drew ?_ | refine blk_alloc ?_ _)); exact BK620.out⟩, ⟨by repeat (first | (with_reducible first | exact HB.out | apply below_alloc | apply pw_below_drewN | apply below_drew1 | refine below_set ?_ GE608.out | refine below_set ?_ GE619.out | refine below_set ?_ GE620.out) | exact HB.out)⟩⟩
     case rest =>
      clear HC39
      try clear c2
      try clear p2
      try clear c3
      try clear c4
      try clear c5
      try clear c29
      try clear c30
      try clear c31
      try clear c33
      try clear c34
      try clear c36
      try clear c38
      try clear c40
      try clear c41
      try clear c42
      try clear c44
      try clear c45
      try clear c46
      try clear c48
      try clear c50
      try clear c50b0
      try clear c50b1
      try clear c51
      try clear c52
      try clear c54
      try clear c56
      try clear c57
      try clear c59
      try clear hcz32_0 hcz32_1 hcz32_2 hcz32_3 hcz32_4
      try clear hcz35_0 hcz35_1 hcz35_2 hcz35_3 hcz35_4
      try clear hcz37_0 hcz37_1 hcz37_2 hcz37_3 hcz37_4
      try clear hcz43_0 hcz43_1 hcz43_2 hcz43_3 hcz43_4
      try clear hcz47_0 hcz47_1 hcz47_2 hcz47_3 hcz47_4
      try clear hcz49_0 hcz49_1 hcz49_2 hcz49_3 hcz49_4
      try clear hcz53_0 hcz53_1 hcz53_2 hcz53_3 hcz53_4
      try clear hcz55_0 hcz55_1 hcz55_2 hcz55_3 hcz55_4
      try clear hcz58_0 hcz58_1 hcz58_2 hcz58_3 hcz58_4
      try clear hcz60_0 hcz60_1 hcz60_2 hcz60_3 hcz60_4
      try clear hfz32_0 hfz32_1 hfz32_2 hfz32_3 hfz32_4
      try clear hfz35_0 hfz35_1 hfz35_2 hfz35_3 hfz35_4
      try clear hfz37_0 hfz37_1 hfz37_2 hfz37_3 hfz37_4
      try clear hfz43_0 hfz43_1 hfz43_2 hfz43_3 hfz43_4
      try clear hfz47_0 hfz47_1 hfz47_2 hfz47_3 hfz47_4
      try clear hfz49_0 hfz49_1 hfz49_2 hfz49_3 hfz49_4
      try clear hfz53_0 hfz53_1 hfz53_2 hfz53_3 hfz53_4
      try clear hfz55_0 hfz55_1 hfz55_2 hfz55_3 hfz55_4
      try clear hfz58_0 hfz58_1 hfz58_2 hfz58_3 hfz58_4
      try clear hfz60_0 hfz60_1 hfz60_2 hfz60_3 hfz60_4
      try clear p2
      obtain ⟨kq, x49_38, rfl, HA, HJ38, BK608, BK619, BK620, HB⟩ := hcut
      cases kq with
      | zero => exact absurd HA.out (by simp [impl_FCompare.j1])
      | succ kj38 =>
       have H := HA.out
       clear HA
       simp only [impl_FCompare.j1] at H
       by_cases c61 : x49_38 = true
       ·
        subst c61
        have H1 : (some 0) = some r := by rw [if_pos rfl] at H; exact H
        clear H
        have H := H1
        clear H1
        obtain rfl := Option.some.inj H
        simp only [Option.some.injEq, Prod.mk.injEq] at H
        obtain ⟨rfl⟩ := H
        go_wp2
        go_ret
        exact ⟨by first | rfl | (simp [errW_none, errW_some] <;> rfl) | (simp [*, errW_none, errW_some] <;> rfl), by repeat (first | (with_reducible first | exact HB.out | apply below_alloc | apply pw_below_drewN | apply below_drew1 | refine below_set ?_ GE608.out | refine below_set ?_ GE619.out | refine below_set ?_ GE620.out) | exact HB.out)⟩
       ·
        replace c61 := Bool.eq_false_iff.mpr c61
        subst c61
        have H1 : ((impl_format_order.f t605 t606 a1).bind fun t621 => ((impl_format_order.f t605 t606 a2).bind fun t622 => (if t621 < t622 then (some (-1)) else (if t621 > t622 then (some 1) else (some 0))))) = some r := by rw [if_neg (show ¬ (false = true) by decide)] at H; exact H
        clear H
        have H := H1
        clear H1
        replace H := Option.bind_eq_some_iff.mp H
        obtain ⟨t621, A620, H⟩ := H
        replace H : ((impl_format_order.f t605 t606 a2).bind fun t622 => (if t621 < t622 then (some (-1)) else (if t621 > t622 then (some 1) else (some 0)))) = some r := H
        have A62 := Aside0.mk A620
        clear A620
        replace H := Option.bind_eq_some_iff.mp H
        obtain ⟨t622, A630, H⟩ := H
        replace H : (if t621 < t622 then (some (-1)) else (if t621 > t622 then (some 1) else (some 0))) = some r := H
        have A63 := Aside0.mk A630
        clear A630
        by_cases c64 : t621 < t622
        ·
         rw [if_pos c64] at H
         have c64b0 : decide (t621 < t622) = true := decide_eq_true c64
         clear c64
         obtain rfl := Option.some.inj H
         simp only [Option.some.injEq, Prod.mk.injEq] at H
         obtain ⟨rfl⟩ := H
         try go_wp2
         have n0_ := Aside0.mk (blk_drew BK608.out)
         have n1_ := Aside0.mk (blk_drew BK619.out)
         have n2_ := Aside0.mk (blk_drew BK620.out)
         have n3_ := Aside0.mk (below_drew1 HB.out)
         clear BK608
         clear BK619
         clear BK620
         clear HB
         have BK608 := n0_
         have BK619 := n1_
         have BK620 := n2_
         have HB := n3_
         clear n0_ n1_ n2_ n3_
         refine start_ (n := 8) (S := fun w' => w'.cell? ⟨gb608, 0, none⟩ = some (.int .i64 t605) ∧ w'.cell? ⟨gb608, 1, none⟩ = some (.int .i64 t606)) (ds := []) #[false, false, false, false, false, false, false, false] (by kernel_rfl) rfl rfl ⟨(blk_cell BK608.out 0).trans rfl, (blk_cell BK608.out 1).trans rfl⟩ (fun hHeld => ?_); refine with_tabW impl_FCompare.tab9 impl_FCompare.bits9 (fun HT_ HW_ => ?_)
         generalize wc.drew = w65 at BK608 BK619 BK620 HB hHeld ⊢
         refine pure_ (i := 1) (N := some 51) (v := ?_) (a' := ?_) #[false, true, false, false, false, false, false, false] rfl rfl (any_of HT_.out (by kernel_rfl)) (fun _ _ _ h => h) (Or.inl ⟨by rfl, ?_⟩) ?_ ?_
         rotate_left
         ·
          intro w'
          go_simp
          with_reducible rfl
         rotate_left
         ·
          simp only [Act.put, List.setIfInBounds_toArray, List.set_cons_zero, List.set_cons_succ, i64_w, i32_w]
          rfl
         refine pure_ (i := 4) (N := some 54) (v := ?_) (a' := ?_) #[false, true, false, false, true, false, false, false] rfl rfl (any_of HT_.out (by kernel_rfl)) (fun _ _ _ h => h) (Or.inl ⟨by rfl, ?_⟩) ?_ ?_
         rotate_left
         ·
          intro w'
          go_simp
          with_reducible rfl
         rotate_left
         ·
          simp only [Act.put, List.setIfInBounds_toArray, List.set_cons_zero, List.set_cons_succ, i64_w, i32_w]
          rfl
         refine take_ (i := 0) (N := some 50) (v := ?_) (a' := ?_) #[true, true, false, false, true, false, false, false] rfl rfl (take_ofW HT_.out HW_.out (by kernel_rfl)) (fun _ _ _ h => h) (Or.inl ⟨by rfl, ?_⟩) hHeld ?_ ?_
         rotate_left
         ·
          rintro w' ⟨s0, s1⟩
          go_simp
          with_reducible rfl
         rotate_left
         ·
          simp only [Act.put, List.setIfInBounds_toArray, List.set_cons_zero, List.set_cons_succ, i64_w, i32_w]
          rfl
         refine take_ (i := 3) (N := some 53) (v := ?_) (a' := ?_) #[true, true, false, true, true, false, false, false] rfl rfl (take_ofW HT_.out HW_.out (by kernel_rfl)) (fun _ _ _ h => h) (Or.inl ⟨by rfl, ?_⟩) hHeld ?_ ?_
         rotate_left
         ·
          rintro w' ⟨s0, s1⟩
          go_simp
          with_reducible rfl
         rotate_left
         ·
          simp only [Act.put, List.setIfInBounds_toArray, List.set_cons_zero, List.set_cons_succ, i64_w, i32_w]
          rfl
         refine one_ (i := 2) (N := some 52) #[true, true, true, true, true, false, false, false] rfl rfl (one_of HT_.out (by kernel_rfl)) (by decide) (fun K hK => ?_)
         refine goes_ Try.func76 (by kernel_rfl) rfl #[.agg #[.int .i64 t605, .int .i64 t606], .int .u32 a1] (by rfl) rfl rfl (by (try simp only [List.map_toArray, List.map_cons, List.map_nil]); first | done | rfl | (simp only [List.length_drop, List.length_take]; rfl)) ?_
         with_reducible refine (impl_format_order.calls t605 t606 a1 t621 _ A62.out).mono ?_
         rintro e w66 ⟨rfl, hb⟩
         refine ⟨_, rfl, ?_⟩
         have n0_ := Aside0.mk (blk_below (g := gb608) (o := .cells #[.int .i64 t605, .int .i64 t606] 62 (0, 0)) (by (with_reducible repeat (first | refine blk_drewN ?_ _ | refine blk_drew ?_ | refine blk_alloc ?_ _)); exact BK608.out) hb)
         have n1_ := Aside0.mk (blk_below (g := gb619) (o := .cells #[.bool t609, .bool t610, .bool t611, .int .u64 t612, .int .i64 t613] 66 (0, 0)) (by (with_reducible repeat (first | refine blk_drewN ?_ _ | refine blk_drew ?_ | refine blk_alloc ?_ _)); exact BK619.out) hb)
         have n2_ := Aside0.mk (blk_below (g := gb620) (o := .cells #[.bool t614, .bool t615, .bool t616, .int .u64 t617, .int .i64 t618] 66 (0, 0)) (by (with_reducible repeat (first | refine blk_drewN ?_ _ | refine blk_drew ?_ | refine blk_alloc ?_ _)); exact BK620.out) hb)
         have n3_ := Aside0.mk (below_step (by repeat (first | (with_reducible first | exact HB.out | apply below_alloc | apply pw_below_drewN | apply below_drew1 | refine below_set ?_ GE608.out | refine below_set ?_ GE619.out | refine below_set ?_ GE620.out) | exact HB.out)) hb)
         clear BK608
         clear BK619
         clear BK620
         clear HB
         have BK608 := n0_
         have BK619 := n1_
         have BK620 := n2_
         have HB := n3_
         clear n0_ n1_ n2_ n3_
         (try clear hb)
         (try clear hb2)
         (try clear hk)
         (try clear hi)
         refine hK.out _ _ ⟨(blk_cell BK608.out 0).trans rfl, (blk_cell BK608.out 1).trans rfl⟩ (fun hHeld => ?_)
         clear hK K
         refine norm_ (a' := ?_) ?_ ?_
         rotate_left
         ·
          show Act.put _ (some 52) _ = _
          simp only [Act.put, List.setIfInBounds_toArray, List.set_cons_zero, List.set_cons_succ, i64_w, i32_w]
          rfl
         refine one_ (i := 5) (N := some 55) #[true, true, true, true, true, true, false, false] rfl rfl (one_of HT_.out (by kernel_rfl)) (by decide) (fun K hK => ?_)
         refine goes_ Try.func76 (by kernel_rfl) rfl #[.agg #[.int .i64 t605, .int .i64 t606], .int .u32 a2] (by rfl) rfl rfl (by (try simp only [List.map_toArray, List.map_cons, List.map_nil]); first | done | rfl | (simp only [List.length_drop, List.length_take]; rfl)) ?_
         with_reducible refine (impl_format_order.calls t605 t606 a2 t622 _ A63.out).mono ?_
         rintro e w67 ⟨rfl, hb⟩
         refine ⟨_, rfl, ?_⟩
         have n0_ := Aside0.mk (blk_below (g := gb608) (o := .cells #[.int .i64 t605, .int .i64 t606] 62 (0, 0)) (by (with_reducible repeat (first | refine blk_drewN ?_ _ | refine blk_drew ?_ | refine blk_alloc ?_ _)); exact BK608.out) hb)
         have n1_ := Aside0.mk (blk_below (g := gb619) (o := .cells #[.bool t609, .bool t610, .bool t611, .int .u64 t612, .int .i64 t613] 66 (0, 0)) (by (with_reducible repeat (first | refine blk_drewN ?_ _ | refine blk_drew ?_ | refine blk_alloc ?_ _)); exact BK619.out) hb)
         have n2_ := Aside0.mk (blk_below (g := gb620) (o := .cells #[.bool t614, .bool t615, .bool t616, .int .u64 t617, .int .i64 t618] 66 (0, 0)) (by (with_reducible repeat (first | refine blk_drewN ?_ _ | refine blk_drew ?_ | refine blk_alloc ?_ _)); exact BK620.out) hb)
         have n3_ := Aside0.mk (below_step (by repeat (first | (with_reducible first | exact HB.out | apply below_alloc | apply pw_below_drewN | apply below_drew1 | refine below_set ?_ GE608.out | refine below_set ?_ GE619.out | refine below_set ?_ GE620.out) | exact HB.out)) hb)
         clear BK608
         clear BK619
         clear BK620
         clear HB
         have BK608 := n0_
         have BK619 := n1_
         have BK620 := n2_
         have HB := n3_
         clear n0_ n1_ n2_ n3_
         (try clear hb)
         (try clear hb2)
         (try clear hk)
         (try clear hi)
         refine hK.out _ _ ⟨(blk_cell BK608.out 0).trans rfl, (blk_cell BK608.out 1).trans rfl⟩ (fun hHeld => ?_)
         clear hK K
         refine norm_ (a' := ?_) ?_ ?_
         rotate_left
         ·
          show Act.put _ (some 55) _ = _
          simp only [Act.put, List.setIfInBounds_toArray, List.set_cons_zero, List.set_cons_succ, i64_w, i32_w]
          rfl
         refine pure_ (i := 6) (N := some 11) (v := ?_) (a' := ?_) #[true, true, true, true, true, true, true, false] rfl rfl (any_of HT_.out (by kernel_rfl)) (fun _ _ _ h => h) (Or.inl ⟨by rfl, ?_⟩) ?_ ?_
         rotate_left
         ·
          intro w'
          go_simp
          with_reducible rfl
         rotate_left
         ·
          simp only [Act.put, List.setIfInBounds_toArray, List.set_cons_zero, List.set_cons_succ, i64_w, i32_w]
          rfl
         refine pure_ (i := 7) (N := some 12) (v := ?_) (a' := ?_) #[true, true, true, true, true, true, true, true] rfl rfl (any_of HT_.out (by kernel_rfl)) (fun _ _ _ h => h) (Or.inl ⟨by rfl, ?_⟩) ?_ ?_
         rotate_left
         ·
          intro w'
          go_simp
          with_reducible rfl
         rotate_left
         ·
          simp only [Act.put, List.setIfInBounds_toArray, List.set_cons_zero, List.set_cons_succ, i64_w, i32_w]
          rfl
         refine done_ (done_of HT_.out (by kernel_rfl)) ?_
         try go_wp2
         go_ret
         exact ⟨by first | rfl | (simp [errW_none, errW_some] <;> rfl) | (simp [*, errW_none, errW_some] <;> rfl), by repeat (first | (with_reducible first | exact HB.out | apply below_alloc | apply pw_below_drewN | apply below_drew1 | refine below_set ?_ GE608.out | refine below_set ?_ GE619.out | refine below_set ?_ GE620.out) | exact HB.out)⟩
        ·
         rw [if_neg c64] at H
         have c64b0 : decide (t621 < t622) = false := decide_eq_false c64
         clear c64
         by_cases c68 : t621 > t622
         ·
          rw [if_pos c68] at H
          have c68b0 : decide (t622 < t621) = true := decide_eq_true c68
          clear c68
          obtain rfl := Option.some.inj H
          simp only [Option.some.injEq, Prod.mk.injEq] at H
          obtain ⟨rfl⟩ := H
          try go_wp2
          have n0_ := Aside0.mk (blk_drew BK608.out)
          have n1_ := Aside0.mk (blk_drew BK619.out)
          have n2_ := Aside0.mk (blk_drew BK620.out)
          have n3_ := Aside0.mk (below_drew1 HB.out)
          clear BK608
          clear BK619
          clear BK620
          clear HB
          have BK608 := n0_
          have BK619 := n1_
          have BK620 := n2_
          have HB := n3_
          clear n0_ n1_ n2_ n3_
          refine start_ (n := 8) (S := fun w' => w'.cell? ⟨gb608, 0, none⟩ = some (.int .i64 t605) ∧ w'.cell? ⟨gb608, 1, none⟩ = some (.int .i64 t606)) (ds := []) #[false, false, false, false, false, false, false, false] (by kernel_rfl) rfl rfl ⟨(blk_cell BK608.out 0).trans rfl, (blk_cell BK608.out 1).trans rfl⟩ (fun hHeld => ?_); refine with_tabW impl_FCompare.tab9 impl_FCompare.bits9 (fun HT_ HW_ => ?_)
          generalize wc.drew = w69 at BK608 BK619 BK620 HB hHeld ⊢
          refine pure_ (i := 1) (N := some 51) (v := ?_) (a' := ?_) #[false, true, false, false, false, false, false, false] rfl rfl (any_of HT_.out (by kernel_rfl)) (fun _ _ _ h => h) (Or.inl ⟨by rfl, ?_⟩) ?_ ?_
          rotate_left
          ·
           intro w'
           go_simp
           with_reducible rfl
          rotate_left
          ·
           simp only [Act.put, List.setIfInBounds_toArray, List.set_cons_zero, List.set_cons_succ, i64_w, i32_w]
           rfl
          refine pure_ (i := 4) (N := some 54) (v := ?_) (a' := ?_) #[false, true, false, false, true, false, false, false] rfl rfl (any_of HT_.out (by kernel_rfl)) (fun _ _ _ h => h) (Or.inl ⟨by rfl, ?_⟩) ?_ ?_
          rotate_left
          ·
           intro w'
           go_simp
           with_reducible rfl
          rotate_left
          ·
           simp only [Act.put, List.setIfInBounds_toArray, List.set_cons_zero, List.set_cons_succ, i64_w, i32_w]
           rfl
          refine take_ (i := 0) (N := some 50) (v := ?_) (a' := ?_) #[true, true, false, false, true, false, false, false] rfl rfl (take_ofW HT_.out HW_.out (by kernel_rfl)) (fun _ _ _ h => h) (Or.inl ⟨by rfl, ?_⟩) hHeld ?_ ?_
          rotate_left
          ·
           rintro w' ⟨s0, s1⟩
           go_simp
           with_reducible rfl
          rotate_left
          ·
           simp only [Act.put, List.setIfInBounds_toArray, List.set_cons_zero, List.set_cons_succ, i64_w, i32_w]
           rfl
          refine take_ (i := 3) (N := some 53) (v := ?_) (a' := ?_) #[true, true, false, true, true, false, false, false] rfl rfl (take_ofW HT_.out HW_.out (by kernel_rfl)) (fun _ _ _ h => h) (Or.inl ⟨by rfl, ?_⟩) hHeld ?_ ?_
          rotate_left
          ·
           rintro w' ⟨s0, s1⟩
           go_simp
           with_reducible rfl
          rotate_left
          ·
           simp only [Act.put, List.setIfInBounds_toArray, List.set_cons_zero, List.set_cons_succ, i64_w, i32_w]
           rfl
          refine one_ (i := 2) (N := some 52) #[true, true, true, true, true, false, false, false] rfl rfl (one_of HT_.out (by kernel_rfl)) (by decide) (fun K hK => ?_)
          refine goes_ Try.func76 (by kernel_rfl) rfl #[.agg #[.int .i64 t605, .int .i64 t606], .int .u32 a1] (by rfl) rfl rfl (by (try simp only [List.map_toArray, List.map_cons, List.map_nil]); first | done | rfl | (simp only [List.length_drop, List.length_take]; rfl)) ?_
          with_reducible refine (impl_format_order.calls t605 t606 a1 t621 _ A62.out).mono ?_
          rintro e w70 ⟨rfl, hb⟩
          refine ⟨_, rfl, ?_⟩
          have n0_ := Aside0.mk (blk_below (g := gb608) (o := .cells #[.int .i64 t605, .int .i64 t606] 62 (0, 0)) (by (with_reducible repeat (first | refine blk_drewN ?_ _ | refine blk_drew ?_ | refine blk_alloc ?_ _)); exact BK608.out) hb)
          have n1_ := Aside0.mk (blk_below (g := gb619) (o := .cells #[.bool t609, .bool t610, .bool t611, .int .u64 t612, .int .i64 t613] 66 (0, 0)) (by (with_reducible repeat (first | refine blk_drewN ?_ _ | refine blk_drew ?_ | refine blk_alloc ?_ _)); exact BK619.out) hb)
          have n2_ := Aside0.mk (blk_below (g := gb620) (o := .cells #[.bool t614, .bool t615, .bool t616, .int .u64 t617, .int .i64 t618] 66 (0, 0)) (by (with_reducible repeat (first | refine blk_drewN ?_ _ | refine blk_drew ?_ | refine blk_alloc ?_ _)); exact BK620.out) hb)
          have n3_ := Aside0.mk (below_step (by repeat (first | (with_reducible first | exact HB.out | apply below_alloc | apply pw_below_drewN | apply below_drew1 | refine below_set ?_ GE608.out | refine below_set ?_ GE619.out | refine below_set ?_ GE620.out) | exact HB.out)) hb)
          clear BK608
          clear BK619
          clear BK620
          clear HB
          have BK608 := n0_
          have BK619 := n1_
          have BK620 := n2_
          have HB := n3_
          clear n0_ n1_ n2_ n3_
          (try clear hb)
          (try clear hb2)
          (try clear hk)
          (try clear hi)
          refine hK.out _ _ ⟨(blk_cell BK608.out 0).trans rfl, (blk_cell BK608.out 1).trans rfl⟩ (fun hHeld => ?_)
          clear hK K
          refine norm_ (a' := ?_) ?_ ?_
          rotate_left
          ·
           show Act.put _ (some 52) _ = _
           simp only [Act.put, List.setIfInBounds_toArray, List.set_cons_zero, List.set_cons_succ, i64_w, i32_w]
           rfl
          refine one_ (i := 5) (N := some 55) #[true, true, true, true, true, true, false, false] rfl rfl (one_of HT_.out (by kernel_rfl)) (by decide) (fun K hK => ?_)
          refine goes_ Try.func76 (by kernel_rfl) rfl #[.agg #[.int .i64 t605, .int .i64 t606], .int .u32 a2] (by rfl) rfl rfl (by (try simp only [List.map_toArray, List.map_cons, List.map_nil]); first | done | rfl | (simp only [List.length_drop, List.length_take]; rfl)) ?_
          with_reducible refine (impl_format_order.calls t605 t606 a2 t622 _ A63.out).mono ?_
          rintro e w71 ⟨rfl, hb⟩
          refine ⟨_, rfl, ?_⟩
          have n0_ := Aside0.mk (blk_below (g := gb608) (o := .cells #[.int .i64 t605, .int .i64 t606] 62 (0, 0)) (by (with_reducible repeat (first | refine blk_drewN ?_ _ | refine blk_drew ?_ | refine blk_alloc ?_ _)); exact BK608.out) hb)
          have n1_ := Aside0.mk (blk_below (g := gb619) (o := .cells #[.bool t609, .bool t610, .bool t611, .int .u64 t612, .int .i64 t613] 66 (0, 0)) (by (with_reducible repeat (first | refine blk_drewN ?_ _ | refine blk_drew ?_ | refine blk_alloc ?_ _)); exact BK619.out) hb)
          have n2_ := Aside0.mk (blk_below (g := gb620) (o := .cells #[.bool t614, .bool t615, .bool t616, .int .u64 t617, .int .i64 t618] 66 (0, 0)) (by (with_reducible repeat (first | refine blk_drewN ?_ _ | refine blk_drew ?_ | refine blk_alloc ?_ _)); exact BK620.out) hb)
          have n3_ := Aside0.mk (below_step (by repeat (first | (with_reducible first | exact HB.out | apply below_alloc | apply pw_below_drewN | apply below_drew1 | refine below_set ?_ GE608.out | refine below_set ?_ GE619.out | refine below_set ?_ GE620.out) | exact HB.out)) hb)
          clear BK608
          clear BK619
          clear BK620
          clear HB
          have BK608 := n0_
          have BK619 := n1_
          have BK620 := n2_
          have HB := n3_
          clear n0_ n1_ n2_ n3_
          (try clear hb)
          (try clear hb2)
          (try clear hk)
          (try clear hi)
          refine hK.out _ _ ⟨(blk_cell BK608.out 0).trans rfl, (blk_cell BK608.out 1).trans rfl⟩ (fun hHeld => ?_)
          clear hK K
          refine norm_ (a' := ?_) ?_ ?_
          rotate_left
          ·
           show Act.put _ (some 55) _ = _
           simp only [Act.put, List.setIfInBounds_toArray, List.set_cons_zero, List.set_cons_succ, i64_w, i32_w]
           rfl
          refine pure_ (i := 6) (N := some 11) (v := ?_) (a' := ?_) #[true, true, true, true, true, true, true, false] rfl rfl (any_of HT_.out (by kernel_rfl)) (fun _ _ _ h => h) (Or.inl ⟨by rfl, ?_⟩) ?_ ?_
          rotate_left
          ·
           intro w'
           go_simp
           with_reducible rfl
          rotate_left
          ·
           simp only [Act.put, List.setIfInBounds_toArray, List.set_cons_zero, List.set_cons_succ, i64_w, i32_w]
           rfl
          refine pure_ (i := 7) (N := some 12) (v := ?_) (a' := ?_) #[true, true, true, true, true, true, true, true] rfl rfl (any_of HT_.out (by kernel_rfl)) (fun _ _ _ h => h) (Or.inl ⟨by rfl, ?_⟩) ?_ ?_
          rotate_left
          ·
           intro w'
           go_simp
           with_reducible rfl
          rotate_left
          ·
           simp only [Act.put, List.setIfInBounds_toArray, List.set_cons_zero, List.set_cons_succ, i64_w, i32_w]
           rfl
          refine done_ (done_of HT_.out (by kernel_rfl)) ?_
          try go_wp2
          go_ret
          exact ⟨by first | rfl | (simp [errW_none, errW_some] <;> rfl) | (simp [*, errW_none, errW_some] <;> rfl), by repeat (first | (with_reducible first | exact HB.out | apply below_alloc | apply pw_below_drewN | apply below_drew1 | refine below_set ?_ GE608.out | refine below_set ?_ GE619.out | refine below_set ?_ GE620.out) | exact HB.out)⟩
         ·
          rw [if_neg c68] at H
          have c68b0 : decide (t622 < t621) = false := decide_eq_false c68
          clear c68
          obtain rfl := Option.some.inj H
          simp only [Option.some.injEq, Prod.mk.injEq] at H
          obtain ⟨rfl⟩ := H
          try go_wp2
          have n0_ := Aside0.mk (blk_drew BK608.out)
          have n1_ := Aside0.mk (blk_drew BK619.out)
          have n2_ := Aside0.mk (blk_drew BK620.out)
          have n3_ := Aside0.mk (below_drew1 HB.out)
          clear BK608
          clear BK619
          clear BK620
          clear HB
          have BK608 := n0_
          have BK619 := n1_
          have BK620 := n2_
          have HB := n3_
          clear n0_ n1_ n2_ n3_
          refine start_ (n := 8) (S := fun w' => w'.cell? ⟨gb608, 0, none⟩ = some (.int .i64 t605) ∧ w'.cell? ⟨gb608, 1, none⟩ = some (.int .i64 t606)) (ds := []) #[false, false, false, false, false, false, false, false] (by kernel_rfl) rfl rfl ⟨(blk_cell BK608.out 0).trans rfl, (blk_cell BK608.out 1).trans rfl⟩ (fun hHeld => ?_); refine with_tabW impl_FCompare.tab9 impl_FCompare.bits9 (fun HT_ HW_ => ?_)
          generalize wc.drew = w72 at BK608 BK619 BK620 HB hHeld ⊢
          refine pure_ (i := 1) (N := some 51) (v := ?_) (a' := ?_) #[false, true, false, false, false, false, false, false] rfl rfl (any_of HT_.out (by kernel_rfl)) (fun _ _ _ h => h) (Or.inl ⟨by rfl, ?_⟩) ?_ ?_
          rotate_left
          ·
           intro w'
           go_simp
           with_reducible rfl
          rotate_left
          ·
           simp only [Act.put, List.setIfInBounds_toArray, List.set_cons_zero, List.set_cons_succ, i64_w, i32_w]
           rfl
          refine pure_ (i := 4) (N := some 54) (v := ?_) (a' := ?_) #[false, true, false, false, true, false, false, false] rfl rfl (any_of HT_.out (by kernel_rfl)) (fun _ _ _ h => h) (Or.inl ⟨by rfl, ?_⟩) ?_ ?_
          rotate_left
          ·
           intro w'
           go_simp
           with_reducible rfl
          rotate_left
          ·
           simp only [Act.put, List.setIfInBounds_toArray, List.set_cons_zero, List.set_cons_succ, i64_w, i32_w]
           rfl
          refine take_ (i := 0) (N := some 50) (v := ?_) (a' := ?_) #[true, true, false, false, true, false, false, false] rfl rfl (take_ofW HT_.out HW_.out (by kernel_rfl)) (fun _ _ _ h => h) (Or.inl ⟨by rfl, ?_⟩) hHeld ?_ ?_
          rotate_left
          ·
           rintro w' ⟨s0, s1⟩
           go_simp
           with_reducible rfl
          rotate_left
          ·
           simp only [Act.put, List.setIfInBounds_toArray, List.set_cons_zero, List.set_cons_succ, i64_w, i32_w]
           rfl
          refine take_ (i := 3) (N := some 53) (v := ?_) (a' := ?_) #[true, true, false, true, true, false, false, false] rfl rfl (take_ofW HT_.out HW_.out (by kernel_rfl)) (fun _ _ _ h => h) (Or.inl ⟨by rfl, ?_⟩) hHeld ?_ ?_
          rotate_left
          ·
           rintro w' ⟨s0, s1⟩
           go_simp
           with_reducible rfl
          rotate_left
          ·
           simp only [Act.put, List.setIfInBounds_toArray, List.set_cons_zero, List.set_cons_succ, i64_w, i32_w]
           rfl
          refine one_ (i := 2) (N := some 52) #[true, true, true, true, true, false, false, false] rfl rfl (one_of HT_.out (by kernel_rfl)) (by decide) (fun K hK => ?_)
          refine goes_ Try.func76 (by kernel_rfl) rfl #[.agg #[.int .i64 t605, .int .i64 t606], .int .u32 a1] (by rfl) rfl rfl (by (try simp only [List.map_toArray, List.map_cons, List.map_nil]); first | done | rfl | (simp only [List.length_drop, List.length_take]; rfl)) ?_
          with_reducible refine (impl_format_order.calls t605 t606 a1 t621 _ A62.out).mono ?_
          rintro e w73 ⟨rfl, hb⟩
          refine ⟨_, rfl, ?_⟩
          have n0_ := Aside0.mk (blk_below (g := gb608) (o := .cells #[.int .i64 t605, .int .i64 t606] 62 (0, 0)) (by (with_reducible repeat (first | refine blk_drewN ?_ _ | refine blk_drew ?_ | refine blk_alloc ?_ _)); exact BK608.out) hb)
          have n1_ := Aside0.mk (blk_below (g := gb619) (o := .cells #[.bool t609, .bool t610, .bool t611, .int .u64 t612, .int .i64 t613] 66 (0, 0)) (by (with_reducible repeat (first | refine blk_drewN ?_ _ | refine blk_drew ?_ | refine blk_alloc ?_ _)); exact BK619.out) hb)
          have n2_ := Aside0.mk (blk_below (g := gb620) (o := .cells #[.bool t614, .bool t615, .bool t616, .int .u64 t617, .int .i64 t618] 66 (0, 0)) (by (with_reducible repeat (first | refine blk_drewN ?_ _ | refine blk_drew ?_ | refine blk_alloc ?_ _)); exact BK620.out) hb)
          have n3_ := Aside0.mk (below_step (by repeat (first | (with_reducible first | exact HB.out | apply below_alloc | apply pw_below_drewN | apply below_drew1 | refine below_set ?_ GE608.out | refine below_set ?_ GE619.out | refine below_set ?_ GE620.out) | exact HB.out)) hb)
          clear BK608
          clear BK619
          clear BK620
          clear HB
          have BK608 := n0_
          have BK619 := n1_
          have BK620 := n2_
          have HB := n3_
          clear n0_ n1_ n2_ n3_
          (try clear hb)
          (try clear hb2)
          (try clear hk)
          (try clear hi)
          refine hK.out _ _ ⟨(blk_cell BK608.out 0).trans rfl, (blk_cell BK608.out 1).trans rfl⟩ (fun hHeld => ?_)
          clear hK K
          refine norm_ (a' := ?_) ?_ ?_
          rotate_left
          ·
           show Act.put _ (some 52) _ = _
           simp only [Act.put, List.setIfInBounds_toArray, List.set_cons_zero, List.set_cons_succ, i64_w, i32_w]
           rfl
          refine one_ (i := 5) (N := some 55) #[true, true, true, true, true, true, false, false] rfl rfl (one_of HT_.out (by kernel_rfl)) (by decide) (fun K hK => ?_)
          refine goes_ Try.func76 (by kernel_rfl) rfl #[.agg #[.int .i64 t605, .int .i64 t606], .int .u32 a2] (by rfl) rfl rfl (by (try simp only [List.map_toArray, List.map_cons, List.map_nil]); first | done | rfl | (simp only [List.length_drop, List.length_take]; rfl)) ?_
          with_reducible refine (impl_format_order.calls t605 t606 a2 t622 _ A63.out).mono ?_
          rintro e w74 ⟨rfl, hb⟩
          refine ⟨_, rfl, ?_⟩
          have n0_ := Aside0.mk (blk_below (g := gb608) (o := .cells #[.int .i64 t605, .int .i64 t606] 62 (0, 0)) (by (with_reducible repeat (first | refine blk_drewN ?_ _ | refine blk_drew ?_ | refine blk_alloc ?_ _)); exact BK608.out) hb)
          have n1_ := Aside0.mk (blk_below (g := gb619) (o := .cells #[.bool t609, .bool t610, .bool t611, .int .u64 t612, .int .i64 t613] 66 (0, 0)) (by (with_reducible repeat (first | refine blk_drewN ?_ _ | refine blk_drew ?_ | refine blk_alloc ?_ _)); exact BK619.out) hb)
          have n2_ := Aside0.mk (blk_below (g := gb620) (o := .cells #[.bool t614, .bool t615, .bool t616, .int .u64 t617, .int .i64 t618] 66 (0, 0)) (by (with_reducible repeat (first | refine blk_drewN ?_ _ | refine blk_drew ?_ | refine blk_alloc ?_ _)); exact BK620.out) hb)
          have n3_ := Aside0.mk (below_step (by repeat (first | (with_reducible first | exact HB.out | apply below_alloc | apply pw_below_drewN | apply below_drew1 | refine below_set ?_ GE608.out | refine below_set ?_ GE619.out | refine below_set ?_ GE620.out) | exact HB.out)) hb)
          clear BK608
          clear BK619
          clear BK620
          clear HB
          have BK608 := n0_
          have BK619 := n1_
          have BK620 := n2_
          have HB := n3_
          clear n0_ n1_ n2_ n3_
          (try clear hb)
          (try clear hb2)
          (try clear hk)
          (try clear hi)
          refine hK.out _ _ ⟨(blk_cell BK608.out 0).trans rfl, (blk_cell BK608.out 1).trans rfl⟩ (fun hHeld => ?_)
          clear hK K
          refine norm_ (a' := ?_) ?_ ?_
          rotate_left
          ·
           show Act.put _ (some 55) _ = _
           simp only [Act.put, List.setIfInBounds_toArray, List.set_cons_zero, List.set_cons_succ, i64_w, i32_w]
           rfl
          refine pure_ (i := 6) (N := some 11) (v := ?_) (a' := ?_) #[true, true, true, true, true, true, true, false] rfl rfl (any_of HT_.out (by kernel_rfl)) (fun _ _ _ h => h) (Or.inl ⟨by rfl, ?_⟩) ?_ ?_
          rotate_left
          ·
           intro w'
           go_simp
           with_reducible rfl
          rotate_left
          ·
           simp only [Act.put, List.setIfInBounds_toArray, List.set_cons_zero, List.set_cons_succ, i64_w, i32_w]
           rfl
          refine pure_ (i := 7) (N := some 12) (v := ?_) (a' := ?_) #[true, true, true, true, true, true, true, true] rfl rfl (any_of HT_.out (by kernel_rfl)) (fun _ _ _ h => h) (Or.inl ⟨by rfl, ?_⟩) ?_ ?_
          rotate_left
          ·
           intro w'
           go_simp
           with_reducible rfl
          rotate_left
          ·
           simp only [Act.put, List.setIfInBounds_toArray, List.set_cons_zero, List.set_cons_succ, i64_w, i32_w]
           rfl
          refine done_ (done_of HT_.out (by kernel_rfl)) ?_
          try go_wp2
          go_ret
          exact ⟨by first | rfl | (simp [errW_none, errW_some] <;> rfl) | (simp [*, errW_none, errW_some] <;> rfl), by repeat (first | (with_reducible first | exact HB.out | apply below_alloc | apply pw_below_drewN | apply below_drew1 | refine below_set ?_ GE608.out | refine below_set ?_ GE619.out | refine below_set ?_ GE620.out) | exact HB.out)⟩
 ·
  replace c5 := Bool.eq_false_iff.mpr c5
  subst c5
  have H1 : (some 0) = some r := by rw [if_neg (show ¬ (false = true) by decide)] at H; exact H
  clear H
  have H := H1
  clear H1
  obtain rfl := Option.some.inj H
  simp only [Option.some.injEq, Prod.mk.injEq] at H
  obtain ⟨rfl⟩ := H
  go_enter Try.func35, Try.ntmps35
  go_wp2_with (first | ((with_reducible refine gate_callee (f := 51) rfl ?_); refine goesL_ (some 15) rfl rfl Try.func51 (by kernel_rfl) rfl #[.int .i64 a0] rfl (by (try simp only [List.map_toArray, List.map_cons, List.map_nil]); first | done | rfl | (simp only [List.length_drop, List.length_take]; rfl)) ?_; (with_reducible refine (impl_formatOf.calls a0 t605 t606 false _ A4.out).mono ?_); rintro e w75 ⟨rfl, hb⟩; refine ⟨_, rfl, ?_⟩; have n0_ := Aside0.mk (below_step (by repeat (first | (with_reducible first | exact HB.out | apply below_alloc | apply pw_below_drewN | apply below_drew1) | exact HB.out)) hb); clear HB; have HB := n0_; clear n0_; (try clear hb); (try clear hb2); (try clear hk); (try clear hi)) | ((with_reducible refine gate_dst (N := 7) rfl ?_); refine box_event ?hg (N := 7) ?hd (cs := #[.int .i64 0, .int .i64 0]) (t := 62) ?hr ?_; (case hd => rfl); (case hg => rfl); (case hr => first | (go_simp; done) | (go_simp; rfl)); intro gb608 hg w76 hbox hb; have n0_ := Aside0.mk (below_step (by repeat (first | (with_reducible first | exact HB.out | apply below_alloc | apply pw_below_drewN | apply below_drew1) | exact HB.out)) hb); have n1_ := Aside0.mk (hbox); have n2_ := Aside0.mk ((by rw [hg]; exact (below_size (by repeat (first | (with_reducible first | exact HB.out | apply below_alloc | apply pw_below_drewN | apply below_drew1) | exact HB.out))) : w.heap.size ≤ gb608)); have n3_ := Aside0.mk ((by rw [hg]; exact (below_size (by repeat (first | (with_reducible first | exact HB.out | apply below_alloc | apply pw_below_drewN | apply below_drew1) | exact HB.out))) : w.heap.size ≤ gb608)); clear HB; have HB := n0_; have BK608 := n1_; have GW608 := n2_; have GE608 := n3_; clear n0_ n1_ n2_ n3_; clear hb hbox hg; have hcz77_0 : w76.cell? ⟨gb608, 0, none⟩ = some (.int .i64 0) := (blk_cell BK608.out 0).trans rfl; have hcz77_1 : w76.cell? ⟨gb608, 1, none⟩ = some (.int .i64 0) := (blk_cell BK608.out 1).trans rfl; have hfz77_0 := blk_frozen BK608.out 0; have hfz77_1 := blk_frozen BK608.out 1))
  go_ret
  exact ⟨by first | rfl | (simp [errW_none, errW_some] <;> rfl) | (simp [*, errW_none, errW_some] <;> rfl), by repeat (first | (with_reducible first | exact HB.out | apply below_alloc | apply pw_below_drewN | apply below_drew1 | refine below_set ?_ GE608.out) | exact HB.out)⟩

end Go.Proofs.Ytdeogandkgiggaa.Q
