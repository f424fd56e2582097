-- Written by a program of this session; it walks the functions that the law reaches.
import Derived.Test.YtdjpbhmkcamkpaaQx0
import Derived.Test.YtdjpbhmkcamkpaaQx1
import Derived.Test.YtdjpbhmkcamkpaaQx6
import Derived.Test.YtdjpbhmkcamkpaaQx7
namespace Go.Proofs.Ytdjpbhmkcamkpaa.Q
open Go.RowKit Go.Proofs.YtdjpbhmkcamkpaaW.PrintWords Go.Proofs.YtdjpbhmkcamkpaaW.PrintLast Go.Proofs.YtdjpbhmkcamkpaaW.PrintMore
attribute [local go_sem] max2_int min2_int max_two min_two max_three min_three max_four min_four   -- for this text's walks alone
set_option linter.unusedVariables false
set_option linter.unusedSimpArgs false

/-! ### spec_DrawCopyWithin: function 51 -/
def spec_DrawCopyWithin.j0 : Nat → Int → Int → Bool → List Int → Int → Int → Int → ByteArray → Option (Int × ByteArray × Int × Int × Int)
 | 0, _, _, _, _, _, _, _, _ => none
 | k + 1, x8, x9, x24, x567000, x567001, x567002, x572000, x572001 => if x24 = true then ((spec_l1Cur_pick.f x567000 x567001 x567002 9).bind fun bt581 => ((spec_l1Cur_pick.f x567000 bt581.2.1 bt581.2.2 30).bind fun bt584 => (some (x572000, x572001, x8, wrap64 ((wrap64 (x8 + bt581.1)) - 4), wrap64 (bt584.1 - 1))))) else ((spec_l1Cur_pick.f x567000 x567001 x567002 30).bind fun bt587 => (some (x572000, x572001, x8, x9, wrap64 (bt587.1 - 1))))
def spec_DrawCopyWithin.f (k : Nat) (l0 : List Int) : Option (Int × ByteArray × Int × Int × Int) := (spec_l1Cur_memory.f k l0 0 0).bind fun bt567 => ((spec_l1Cur_place.f l0 bt567.2.2.1 bt567.2.2.2).bind fun bt572 => ((spec_l1Cur_place.f l0 bt572.2.1 bt572.2.2).bind fun bt575 => ((spec_l1Cur_one.f l0 bt575.2.1 bt575.2.2 2).bind fun bt578 => (if bt578.1 = true then (spec_DrawCopyWithin.j0 k bt572.1 bt575.1 (decide (bt572.1 < 1000)) l0 bt578.2.1 bt578.2.2 bt567.1 bt567.2.1) else (spec_DrawCopyWithin.j0 k bt572.1 bt575.1 false l0 bt578.2.1 bt578.2.2 bt567.1 bt567.2.1)))))
theorem spec_DrawCopyWithin.mono_l : ∀ k, (∀ y0 y1 y2 y3 y4 y5 y6 y7, LeO (spec_DrawCopyWithin.j0 k y0 y1 y2 y3 y4 y5 y6 y7) (spec_DrawCopyWithin.j0 (k + 1) y0 y1 y2 y3 y4 y5 y6 y7))
 | 0 => fun _ _ _ _ _ _ _ _ r h => by simp [spec_DrawCopyWithin.j0] at h
 | k + 1 => by
  have ih0 := spec_DrawCopyWithin.mono_l k
  ·
   intro y0 y1 y2 y3 y4 y5 y6 y7
   unfold spec_DrawCopyWithin.j0
   repeat' first
   | (with_reducible exact ih0 _ _ _ _ _ _ _ _)
   | (with_reducible exact spec_l1Cur_memory.mono _ _ _ _)
   | (with_reducible exact LeO.refl _)
   | (with_reducible exact LeO.none _)
   | (with_reducible refine LeO.ite ?_ ?_)
   | (with_reducible refine LeO.bind ?_ (fun _ => ?_))
   | exact ih0 _ _ _ _ _ _ _ _
   | exact spec_l1Cur_memory.mono _ _ _ _
   | exact LeO.none _
   | refine LeO.ite ?_ ?_
   | refine LeO.bind ?_ (fun _ => ?_)
theorem spec_DrawCopyWithin.mono : ∀ a0 k, LeO (spec_DrawCopyWithin.f k a0) (spec_DrawCopyWithin.f (k + 1) a0) := by
 intro a0 k
 have ih0 := spec_DrawCopyWithin.mono_l k
 unfold spec_DrawCopyWithin.f
 repeat' first
   | (with_reducible exact ih0 _ _ _ _ _ _ _ _)
   | (with_reducible exact spec_l1Cur_memory.mono _ _ _ _)
   | (with_reducible exact LeO.refl _)
   | (with_reducible exact LeO.none _)
   | (with_reducible refine LeO.ite ?_ ?_)
   | (with_reducible refine LeO.bind ?_ (fun _ => ?_))
   | exact ih0 _ _ _ _ _ _ _ _
   | exact spec_l1Cur_memory.mono _ _ _ _
   | exact LeO.none _
   | refine LeO.ite ?_ ?_
   | refine LeO.bind ?_ (fun _ => ?_)
def spec_DrawCopyWithin.T7 : Bool × List (List Nat × List Nat) := (true, [([], []), ([], []), ([], []), ([], []), ([3], [3]), ([4], [4]), ([0, 4, 0], [0]), ([1, 6, 0, 1, 6], [1]), ([2, 7, 0, 1, 2, 6, 7], [2]), ([5, 8, 0, 1, 2, 3, 4, 5, 6, 7, 8], [5])])
def spec_DrawCopyWithin.B7 : List Nat := [0, 0, 0, 0, 8, 24, 25, 91, 223, 511]
theorem spec_DrawCopyWithin.tab7 : rtab .any (opsOf Try.f51 7) = spec_DrawCopyWithin.T7 := by kernel_rfl
theorem spec_DrawCopyWithin.bits7 : waitsOk spec_DrawCopyWithin.T7.2 spec_DrawCopyWithin.B7 = true := by kernel_rfl
set_option maxHeartbeats 8000000 in
set_option maxRecDepth 100000 in
theorem spec_DrawCopyWithin.calls (k : Nat) (A0 : Option Addr) (c0 : Nat) (l0 : List Int) (r1 : Int) (r2 : ByteArray) (r3 : Int) (r4 : Int) (r5 : Int) (w : World) (hr0 : Kd.C (Kd.int .u8) w A0 l0.length l0) (hc0 : l0.length ≤ c0) (h : spec_DrawCopyWithin.f k l0 = some (r1, r2, r3, r4, r5)) :
  Calls Try.prog 51 #[.slice A0 l0.length c0] w fun e w' => e = .returned (.tuple #[.agg #[.int .i64 r1, .string r2], .int .i64 r3, .int .i64 r4, .int .i64 r5]) ∧ Below w.heap.size w w' := by
 have hu28 := Try.underlying28
 have hu101 := Try.underlying101
 have HR0 := Aside0.mk hr0
 have HC0 := Aside0.mk hc0
 clear hr0 hc0
 have HB := Aside0.mk (Below.refl w.heap.size w)
 have H : ((spec_l1Cur_memory.f k l0 0 0).bind fun bt567 => ((spec_l1Cur_place.f l0 bt567.2.2.1 bt567.2.2.2).bind fun bt572 => ((spec_l1Cur_place.f l0 bt572.2.1 bt572.2.2).bind fun bt575 => ((spec_l1Cur_one.f l0 bt575.2.1 bt575.2.2 2).bind fun bt578 => (if bt578.1 = true then (spec_DrawCopyWithin.j0 k bt572.1 bt575.1 (decide (bt572.1 < 1000)) l0 bt578.2.1 bt578.2.2 bt567.1 bt567.2.1) else (spec_DrawCopyWithin.j0 k bt572.1 bt575.1 false l0 bt578.2.1 bt578.2.2 bt567.1 bt567.2.1)))))) = some (r1, r2, r3, r4, r5) := h
 clear h
 replace H := Option.bind_eq_some_iff.mp H
 obtain ⟨⟨t567, t568, t569, t570⟩, A20, H⟩ := H
 replace H : ((spec_l1Cur_place.f l0 t569 t570).bind fun bt572 => ((spec_l1Cur_place.f l0 bt572.2.1 bt572.2.2).bind fun bt575 => ((spec_l1Cur_one.f l0 bt575.2.1 bt575.2.2 2).bind fun bt578 => (if bt578.1 = true then (spec_DrawCopyWithin.j0 k bt572.1 bt575.1 (decide (bt572.1 < 1000)) l0 bt578.2.1 bt578.2.2 t567 t568) else (spec_DrawCopyWithin.j0 k bt572.1 bt575.1 false l0 bt578.2.1 bt578.2.2 t567 t568))))) = some (r1, r2, r3, r4, r5) := H
 have A2 := Aside0.mk A20
 clear A20
 replace H := Option.bind_eq_some_iff.mp H
 obtain ⟨⟨t572, t573, t574⟩, A30, H⟩ := H
 replace H : ((spec_l1Cur_place.f l0 t573 t574).bind fun bt575 => ((spec_l1Cur_one.f l0 bt575.2.1 bt575.2.2 2).bind fun bt578 => (if bt578.1 = true then (spec_DrawCopyWithin.j0 k t572 bt575.1 (decide (t572 < 1000)) l0 bt578.2.1 bt578.2.2 t567 t568) else (spec_DrawCopyWithin.j0 k t572 bt575.1 false l0 bt578.2.1 bt578.2.2 t567 t568)))) = some (r1, r2, r3, r4, r5) := H
 have A3 := Aside0.mk A30
 clear A30
 replace H := Option.bind_eq_some_iff.mp H
 obtain ⟨⟨t575, t576, t577⟩, A40, H⟩ := H
 replace H : ((spec_l1Cur_one.f l0 t576 t577 2).bind fun bt578 => (if bt578.1 = true then (spec_DrawCopyWithin.j0 k t572 t575 (decide (t572 < 1000)) l0 bt578.2.1 bt578.2.2 t567 t568) else (spec_DrawCopyWithin.j0 k t572 t575 false l0 bt578.2.1 bt578.2.2 t567 t568))) = some (r1, r2, r3, r4, r5) := H
 have A4 := Aside0.mk A40
 clear A40
 have HC5 := Aside0.mk H
 clear H
 go_enter Try.func51, Try.ntmps51
 go_upto_region 5 with (first | ((with_reducible refine gate_dst (N := 2) rfl ?_); refine box_event ?hg (N := 2) ?hd (cs := #[.int .i64 0, .string (⟨#[]⟩ : ByteArray)]) (t := 28) ?hr ?_; (case hd => rfl); (case hg => rfl); (case hr => first | (go_simp; done) | (go_simp; rfl)); intro gb565 hg w6 hbox hb; have n0_ := Aside0.mk (below_step (bw HB.out) hb); have n1_ := Aside0.mk (hbox); have n2_ := Aside0.mk ((by rw [hg]; exact (below_size (bw HB.out)) : w.heap.size ≤ gb565)); have n3_ := Aside0.mk ((by rw [hg]; exact (below_size (bw HB.out)) : w.heap.size ≤ gb565)); clear HB; have HB := n0_; have BK565 := n1_; have GW565 := n2_; have GE565 := n3_; clear n0_ n1_ n2_ n3_; clear hb hbox hg) | ((with_reducible refine gate_dst (N := 12) rfl ?_); refine box_event ?hg (N := 12) ?hd (cs := #[.slice A0 l0.length c0, .int .i64 0, .int .u64 0]) (t := 101) ?hr ?_; (case hd => rfl); (case hg => rfl); (case hr => first | (go_simp; done) | (go_simp; rfl)); intro gb566 hg w7 hbox hb; have n0_ := Aside0.mk (blk_below (g := gb565) (o := .cells #[.int .i64 0, .string (⟨#[]⟩ : ByteArray)] 28 (0, 0)) (bk BK565.out) hb); have n1_ := Aside0.mk (below_step (bw HB.out) hb); have n2_ := Aside0.mk ((show IsS101 w w7 gb566 l0 0 0 from ⟨_, _, hbox, (by rw [hg]; exact (below_size (bw HB.out)) : w.heap.size ≤ gb566), HR0.out⟩)); have n3_ := Aside0.mk ((by rw [hg]; exact (below_size (bw HB.out)) : w.heap.size ≤ gb566)); have n4_ := Aside0.mk ((by rw [hg]; exact (below_size (bw HB.out)) : w.heap.size ≤ gb566)); have n5_ := Aside0.mk ((by rw [hg]; exact Nat.ne_of_lt (blk_lt (g := gb565) (o := .cells #[.int .i64 0, .string (⟨#[]⟩ : ByteArray)] 28 (0, 0)) (bk BK565.out)) : gb565 ≠ gb566)); have n6_ := Aside0.mk ((by rw [hg]; exact Nat.ne_of_gt (blk_lt (g := gb565) (o := .cells #[.int .i64 0, .string (⟨#[]⟩ : ByteArray)] 28 (0, 0)) (bk BK565.out)) : gb566 ≠ gb565)); clear BK565; clear HB; have BK565 := n0_; have HB := n1_; have HI566 := n2_; have GW566 := n3_; have GE566 := n4_; have NB565_566 := n5_; have NB566_565 := n6_; clear n0_ n1_ n2_ n3_ n4_ n5_ n6_; clear hb hbox hg) | ((with_reducible refine gate_callee (f := 93) rfl ?_); refine goesL_ (some 14) rfl rfl Try.func93 (by kernel_rfl) rfl #[.pointer (some ⟨gb566, 0, none⟩)] rfl ar ?_; (with_reducible refine (spec_l1Cur_memory.calls k gb566 l0 0 0 t567 t568 t569 t570 w _ ?side1 ?side2 A2.out).mono ?_); (case side1 => repeat (first | (with_reducible first | exact HI566.out | apply IsS101.alloc | apply IsS101.drewN | apply IsS101.drew | apply IsS101.set_1 | apply IsS101.set_2 | refine IsS101.far ?_ NB566_565.out _) | exact HI566.out)); (case side2 => repeat (first | (with_reducible first | exact HB.out | apply below_alloc | apply pw_below_drewN | apply below_drew1 | refine below_set ?_ (IsS101.ge HI566.out) | refine below_set ?_ GE565.out) | exact HB.out)); rintro e w8 ⟨rfl, hi, hb, hk⟩; refine ⟨_, rfl, ?_⟩; have n0_ := Aside0.mk (KeepBut.blk hk (g' := gb565) (o := .cells #[.int .i64 0, .string (⟨#[]⟩ : ByteArray)] 28 (0, 0)) (bk BK565.out) NB565_566.out (by simp)); have n1_ := Aside0.mk (hb); have n2_ := Aside0.mk (hi); clear BK565; clear HB; clear HI566; have BK565 := n0_; have HB := n1_; have HI566 := n2_; clear n0_ n1_ n2_; (try clear hb); (try clear hb2); (try clear hk); (try clear hi)) | ((with_reducible refine gate_dst (N := 7) rfl ?_); refine box_event ?hg (N := 7) ?hd (cs := #[.int .i64 0, .string (⟨#[]⟩ : ByteArray)]) (t := 28) ?hr ?_; (case hd => rfl); (case hg => rfl); (case hr => first | (go_simp; done) | (go_simp; rfl)); intro gb571 hg w9 hbox hb; have n0_ := Aside0.mk (blk_below (g := gb565) (o := .cells #[.int .i64 0, .string (⟨#[]⟩ : ByteArray)] 28 (0, 0)) (bk BK565.out) hb); have n1_ := Aside0.mk (IsS101.below (by repeat (first | (with_reducible first | exact HI566.out | apply IsS101.alloc | apply IsS101.drewN | apply IsS101.drew | apply IsS101.set_1 | apply IsS101.set_2 | refine IsS101.far ?_ NB566_565.out _) | exact HI566.out)) hb); have n2_ := Aside0.mk (below_step (by repeat (first | (with_reducible first | exact HB.out | apply below_alloc | apply pw_below_drewN | apply below_drew1 | refine below_set ?_ (IsS101.ge HI566.out) | refine below_set ?_ GE565.out) | exact HB.out)) hb); have n3_ := Aside0.mk (hbox); have n4_ := Aside0.mk ((by rw [hg]; exact (below_size (by repeat (first | (with_reducible first | exact HB.out | apply below_alloc | apply pw_below_drewN | apply below_drew1 | refine below_set ?_ (IsS101.ge HI566.out) | refine below_set ?_ GE565.out) | exact HB.out))) : w.heap.size ≤ gb571)); have n5_ := Aside0.mk ((by rw [hg]; exact (below_size (by repeat (first | (with_reducible first | exact HB.out | apply below_alloc | apply pw_below_drewN | apply below_drew1 | refine below_set ?_ (IsS101.ge HI566.out) | refine below_set ?_ GE565.out) | exact HB.out))) : w.heap.size ≤ gb571)); have n6_ := Aside0.mk ((by rw [hg]; exact Nat.ne_of_lt (blk_lt (g := gb565) (o := .cells #[.int .i64 0, .string (⟨#[]⟩ : ByteArray)] 28 (0, 0)) (bk BK565.out)) : gb565 ≠ gb571)); have n7_ := Aside0.mk ((by rw [hg]; exact Nat.ne_of_gt (blk_lt (g := gb565) (o := .cells #[.int .i64 0, .string (⟨#[]⟩ : ByteArray)] 28 (0, 0)) (bk BK565.out)) : gb571 ≠ gb565)); have n8_ := Aside0.mk ((by rw [hg]; exact Nat.ne_of_lt (IsS101.lt (show IsS101 w _ gb566 l0 t569 t570 from by repeat (first | (with_reducible first | exact HI566.out | apply IsS101.alloc | apply IsS101.drewN | apply IsS101.drew | apply IsS101.set_1 | apply IsS101.set_2 | refine IsS101.far ?_ NB566_565.out _) | exact HI566.out))) : gb566 ≠ gb571)); have n9_ := Aside0.mk ((by rw [hg]; exact Nat.ne_of_gt (IsS101.lt (show IsS101 w _ gb566 l0 t569 t570 from by repeat (first | (with_reducible first | exact HI566.out | apply IsS101.alloc | apply IsS101.drewN | apply IsS101.drew | apply IsS101.set_1 | apply IsS101.set_2 | refine IsS101.far ?_ NB566_565.out _) | exact HI566.out))) : gb571 ≠ gb566)); clear BK565; clear HI566; clear HB; have BK565 := n0_; have HI566 := n1_; have HB := n2_; have BK571 := n3_; have GW571 := n4_; have GE571 := n5_; have NB565_571 := n6_; have NB571_565 := n7_; have NB566_571 := n8_; have NB571_566 := n9_; clear n0_ n1_ n2_ n3_ n4_ n5_ n6_ n7_ n8_ n9_; clear hb hbox hg; have hnb10 := NB571_565.out; have hnc10 := NB565_571.out; have hnb11 := NB571_566.out; have hnc11 := NB566_571.out; have hcz12_0 : w9.cell? ⟨gb571, 0, none⟩ = some (.int .i64 0) := (blk_cell BK571.out 0).trans rfl; have hcz12_1 : w9.cell? ⟨gb571, 1, none⟩ = some (.string (⟨#[]⟩ : ByteArray)) := (blk_cell BK571.out 1).trans rfl; have hfz12_0 := blk_frozen BK571.out 0; have hfz12_1 := blk_frozen BK571.out 1) | ((with_reducible refine gate_callee (f := 94) rfl ?_); refine goesL_ (some 16) rfl rfl Try.func94 (by kernel_rfl) rfl #[.pointer (some ⟨gb566, 0, none⟩)] rfl ar ?_; (with_reducible refine (spec_l1Cur_place.calls gb566 l0 t569 t570 t572 t573 t574 w _ ?side1 ?side2 A3.out).mono ?_); (case side1 => repeat (first | (with_reducible first | exact HI566.out | apply IsS101.alloc | apply IsS101.drewN | apply IsS101.drew | apply IsS101.set_1 | apply IsS101.set_2 | refine IsS101.far ?_ NB566_565.out _ | refine IsS101.far ?_ NB566_571.out _) | exact HI566.out)); (case side2 => repeat (first | (with_reducible first | exact HB.out | apply below_alloc | apply pw_below_drewN | apply below_drew1 | refine below_set ?_ (IsS101.ge HI566.out) | refine below_set ?_ GE565.out | refine below_set ?_ GE571.out) | exact HB.out)); rintro e w13 ⟨rfl, hi, hb, hk⟩; refine ⟨_, rfl, ?_⟩; have n0_ := Aside0.mk (KeepBut.blk hk (g' := gb565) (o := .cells #[.int .i64 0, .string (⟨#[]⟩ : ByteArray)] 28 (0, 0)) (by (with_reducible repeat (first | refine blk_drewN ?_ _ | refine blk_drew ?_ | refine blk_alloc ?_ _)); refine blk_far ?_ NB565_571.out _; (with_reducible repeat (first | refine blk_drewN ?_ _ | refine blk_drew ?_ | refine blk_alloc ?_ _)); refine blk_far ?_ NB565_571.out _; (with_reducible repeat (first | refine blk_drewN ?_ _ | refine blk_drew ?_ | refine blk_alloc ?_ _)); exact BK565.out) NB565_566.out (by simp)); have n1_ := Aside0.mk (KeepBut.blk hk (g' := gb571) (o := .cells #[.int .i64 t567, .string t568] 28 (0, 0)) (by (with_reducible repeat (first | refine blk_drewN ?_ _ | refine blk_drew ?_ | refine blk_alloc ?_ _)); refine blk_put (cs := #[.int .i64 t567, .string (⟨#[]⟩ : ByteArray)]) ?_ 1 _ rfl; (with_reducible repeat (first | refine blk_drewN ?_ _ | refine blk_drew ?_ | refine blk_alloc ?_ _)); refine blk_put (cs := #[.int .i64 0, .string (⟨#[]⟩ : ByteArray)]) ?_ 0 _ rfl; (with_reducible repeat (first | refine blk_drewN ?_ _ | refine blk_drew ?_ | refine blk_alloc ?_ _)); exact BK571.out) NB571_566.out (by simp)); have n2_ := Aside0.mk (hb); have n3_ := Aside0.mk (hi); clear BK565; clear BK571; clear HB; clear HI566; have BK565 := n0_; have BK571 := n1_; have HB := n2_; have HI566 := n3_; clear n0_ n1_ n2_ n3_; (try clear hb); (try clear hb2); (try clear hk); (try clear hi)) | ((with_reducible refine gate_callee (f := 94) rfl ?_); refine goesL_ (some 18) rfl rfl Try.func94 (by kernel_rfl) rfl #[.pointer (some ⟨gb566, 0, none⟩)] rfl ar ?_; (with_reducible refine (spec_l1Cur_place.calls gb566 l0 t573 t574 t575 t576 t577 w _ ?side1 ?side2 A4.out).mono ?_); (case side1 => repeat (first | (with_reducible first | exact HI566.out | apply IsS101.alloc | apply IsS101.drewN | apply IsS101.drew | apply IsS101.set_1 | apply IsS101.set_2 | refine IsS101.far ?_ NB566_565.out _ | refine IsS101.far ?_ NB566_571.out _) | exact HI566.out)); (case side2 => repeat (first | (with_reducible first | exact HB.out | apply below_alloc | apply pw_below_drewN | apply below_drew1 | refine below_set ?_ (IsS101.ge HI566.out) | refine below_set ?_ GE565.out | refine below_set ?_ GE571.out) | exact HB.out)); rintro e w14 ⟨rfl, hi, hb, hk⟩; refine ⟨_, rfl, ?_⟩; have n0_ := Aside0.mk (KeepBut.blk hk (g' := gb565) (o := .cells #[.int .i64 0, .string (⟨#[]⟩ : ByteArray)] 28 (0, 0)) (bk BK565.out) NB565_566.out (by simp)); have n1_ := Aside0.mk (KeepBut.blk hk (g' := gb571) (o := .cells #[.int .i64 t567, .string t568] 28 (0, 0)) (bk BK571.out) NB571_566.out (by simp)); have n2_ := Aside0.mk (hb); have n3_ := Aside0.mk (hi); clear BK565; clear BK571; clear HB; clear HI566; have BK565 := n0_; have BK571 := n1_; have HB := n2_; have HI566 := n3_; clear n0_ n1_ n2_ n3_; (try clear hb); (try clear hb2); (try clear hk); (try clear hi)))
 (try simp only [Act.put, List.setIfInBounds_toArray, List.set_cons_zero, List.set_cons_succ])
 go_cut [24] (fun v24 wc => ∃ (kq : Nat) (x24_4 : Bool) (x567001_4 : Int) (x567002_4 : Int), v24 = .bool x24_4 ∧ Aside0 (spec_DrawCopyWithin.j0 kq t572 t575 x24_4 l0 x567001_4 x567002_4 t567 t568 = some (r1, r2, r3, r4, r5)) ∧ Aside0 (kq ≤ k) ∧ Aside0 (wc.heap[gb565]? = some (.cells #[.int .i64 0, .string (⟨#[]⟩ : ByteArray)] 28 (0, 0))) ∧ Aside0 (wc.heap[gb571]? = some (.cells #[.int .i64 t567, .string t568] 28 (0, 0))) ∧ Aside0 (IsS101 w wc gb566 l0 x567001_4 x567002_4) ∧ Aside0 (Below w.heap.size w wc))
 case first =>
  have H := HC5.out
  clear HC5
  replace H := Option.bind_eq_some_iff.mp H
  obtain ⟨⟨t578, t579, t580⟩, A150, H⟩ := H
  replace H : (if t578 = true then (spec_DrawCopyWithin.j0 k t572 t575 (decide (t572 < 1000)) l0 t579 t580 t567 t568) else (spec_DrawCopyWithin.j0 k t572 t575 false l0 t579 t580 t567 t568)) = some (r1, r2, r3, r4, r5) := H
  have A15 := Aside0.mk A150
  clear A150
  by_cases c16 : t578 = true
  ·
   subst c16
   have H1 : (spec_DrawCopyWithin.j0 k t572 t575 (decide (t572 < 1000)) l0 t579 t580 t567 t568) = some (r1, r2, r3, r4, r5) := by rw [if_pos rfl] at H; exact H
   clear H
   have H := H1
   clear H1
   have H' := Aside0.mk H
   clear H
   go_wp2_with (first | ((with_reducible refine gate_callee (f := 82) rfl ?_); refine goesL_ (some 20) rfl rfl Try.func82 (by kernel_rfl) rfl #[.pointer (some ⟨gb566, 0, none⟩), .int .i64 2] rfl ar ?_; (with_reducible refine (spec_l1Cur_one.calls gb566 l0 t576 t577 2 true t579 t580 w _ ?side1 ?side2 A15.out).mono ?_); (case side1 => repeat (first | (with_reducible first | exact HI566.out | apply IsS101.alloc | apply IsS101.drewN | apply IsS101.drew | apply IsS101.set_1 | apply IsS101.set_2 | refine IsS101.far ?_ NB566_565.out _ | refine IsS101.far ?_ NB566_571.out _) | exact HI566.out)); (case side2 => repeat (first | (with_reducible first | exact HB.out | apply below_alloc | apply pw_below_drewN | apply below_drew1 | refine below_set ?_ (IsS101.ge HI566.out) | refine below_set ?_ GE565.out | refine below_set ?_ GE571.out) | exact HB.out)); rintro e w17 ⟨rfl, hi, hb, hk⟩; refine ⟨_, rfl, ?_⟩; have n0_ := Aside0.mk (KeepBut.blk hk (g' := gb565) (o := .cells #[.int .i64 0, .string (⟨#[]⟩ : ByteArray)] 28 (0, 0)) (bk BK565.out) NB565_566.out (by simp)); have n1_ := Aside0.mk (KeepBut.blk hk (g' := gb571) (o := .cells #[.int .i64 t567, .string t568] 28 (0, 0)) (bk BK571.out) NB571_566.out (by simp)); have n2_ := Aside0.mk (hb); have n3_ := Aside0.mk (hi); clear BK565; clear BK571; clear HB; clear HI566; have BK565 := n0_; have BK571 := n1_; have HB := n2_; have HI566 := n3_; clear n0_ n1_ n2_ n3_; (try clear hb); (try clear hb2); (try clear hk); (try clear hi)))
   go_meet
   case rel => exact ⟨_, (decide (t572 < 1000)), (t579), (t580), (by first | rfl | (simp; done) | (simp [*]; done)), H', ⟨by first | omega | exact Nat.le_refl _⟩, ⟨bk BK565.out⟩, ⟨bk BK571.out⟩, ⟨by repeat (first | (with_reducible first | exact HI566.out | apply IsS101.alloc | apply IsS101.drewN | apply IsS101.drew | apply IsS101.set_1 | apply IsS101.set_2 | refine IsS101.far ?_ NB566_565.out _ | refine IsS101.far ?_ NB566_571.out _) | exact HI566.out)⟩, ⟨by repeat (first | (with_reducible first | exact HB.out | apply below_alloc | apply pw_below_drewN | apply below_drew1 | refine below_set ?_ (IsS101.ge HI566.out) | refine below_set ?_ GE565.out | refine below_set ?_ GE571.out) | exact HB.out)⟩⟩
  ·
   replace c16 := Bool.eq_false_iff.mpr c16
   subst c16
   have H1 : (spec_DrawCopyWithin.j0 k t572 t575 false l0 t579 t580 t567 t568) = some (r1, r2, r3, r4, r5) := by rw [if_neg (show ¬ (false = true) by decide)] at H; exact H
   clear H
   have H := H1
   clear H1
   have H' := Aside0.mk H
   clear H
   go_wp2_with (first | ((with_reducible refine gate_callee (f := 82) rfl ?_); refine goesL_ (some 20) rfl rfl Try.func82 (by kernel_rfl) rfl #[.pointer (some ⟨gb566, 0, none⟩), .int .i64 2] rfl ar ?_; (with_reducible refine (spec_l1Cur_one.calls gb566 l0 t576 t577 2 false t579 t580 w _ ?side1 ?side2 A15.out).mono ?_); (case side1 => repeat (first | (with_reducible first | exact HI566.out | apply IsS101.alloc | apply IsS101.drewN | apply IsS101.drew | apply IsS101.set_1 | apply IsS101.set_2 | refine IsS101.far ?_ NB566_565.out _ | refine IsS101.far ?_ NB566_571.out _) | exact HI566.out)); (case side2 => repeat (first | (with_reducible first | exact HB.out | apply below_alloc | apply pw_below_drewN | apply below_drew1 | refine below_set ?_ (IsS101.ge HI566.out) | refine below_set ?_ GE565.out | refine below_set ?_ GE571.out) | exact HB.out)); rintro e w18 ⟨rfl, hi, hb, hk⟩; refine ⟨_, rfl, ?_⟩; have n0_ := Aside0.mk (KeepBut.blk hk (g' := gb565) (o := .cells #[.int .i64 0, .string (⟨#[]⟩ : ByteArray)] 28 (0, 0)) (bk BK565.out) NB565_566.out (by simp)); have n1_ := Aside0.mk (KeepBut.blk hk (g' := gb571) (o := .cells #[.int .i64 t567, .string t568] 28 (0, 0)) (bk BK571.out) NB571_566.out (by simp)); have n2_ := Aside0.mk (hb); have n3_ := Aside0.mk (hi); clear BK565; clear BK571; clear HB; clear HI566; have BK565 := n0_; have BK571 := n1_; have HB := n2_; have HI566 := n3_; clear n0_ n1_ n2_ n3_; (try clear hb); (try clear hb2); (try clear hk); (try clear hi)))
   go_meet
   case rel => exact ⟨_, (false), (t579), (t580), (by first | rfl | (simp; done) | (simp [*]; done)), H', ⟨by first | omega | exact Nat.le_refl _⟩, ⟨bk BK565.out⟩, ⟨bk BK571.out⟩, ⟨by repeat (first | (with_reducible first | exact HI566.out | apply IsS101.alloc | apply IsS101.drewN | apply IsS101.drew | apply IsS101.set_1 | apply IsS101.set_2 | refine IsS101.far ?_ NB566_565.out _ | refine IsS101.far ?_ NB566_571.out _) | exact HI566.out)⟩, ⟨by repeat (first | (with_reducible first | exact HB.out | apply below_alloc | apply pw_below_drewN | apply below_drew1 | refine below_set ?_ (IsS101.ge HI566.out) | refine below_set ?_ GE565.out | refine below_set ?_ GE571.out) | exact HB.out)⟩⟩
 case rest =>
  clear HC5
  try clear c1
  try clear p2
  try clear c5
  try clear c8
  try clear c9
  try clear c10
  try clear c11
  try clear c16
  try clear hcz12_0 hcz12_1
  try clear hfz12_0 hfz12_1
  obtain ⟨kq, x24_4, x567001_4, x567002_4, rfl, HA, HJ4, BK565, BK571, HI566, HB⟩ := hcut
  cases kq with
  | zero => exact absurd HA.out (by simp [spec_DrawCopyWithin.j0])
  | succ kj4 =>
   have H := HA.out
   clear HA
   simp only [spec_DrawCopyWithin.j0] at H
   by_cases c19 : x24_4 = true
   ·
    subst c19
    have H1 : ((spec_l1Cur_pick.f l0 x567001_4 x567002_4 9).bind fun bt581 => ((spec_l1Cur_pick.f l0 bt581.2.1 bt581.2.2 30).bind fun bt584 => (some (t567, t568, t572, wrap64 ((wrap64 (t572 + bt581.1)) - 4), wrap64 (bt584.1 - 1))))) = some (r1, r2, r3, r4, r5) := by rw [if_pos rfl] at H; exact H
    clear H
    have H := H1
    clear H1
    replace H := Option.bind_eq_some_iff.mp H
    obtain ⟨⟨t581, t582, t583⟩, A200, H⟩ := H
    replace H : ((spec_l1Cur_pick.f l0 t582 t583 30).bind fun bt584 => (some (t567, t568, t572, wrap64 ((wrap64 (t572 + t581)) - 4), wrap64 (bt584.1 - 1)))) = some (r1, r2, r3, r4, r5) := H
    have A20 := Aside0.mk A200
    clear A200
    replace H := Option.bind_eq_some_iff.mp H
    obtain ⟨⟨t584, t585, t586⟩, A210, H⟩ := H
    replace H : (some (t567, t568, t572, wrap64 ((wrap64 (t572 + t581)) - 4), wrap64 (t584 - 1))) = some (r1, r2, r3, r4, r5) := H
    have A21 := Aside0.mk A210
    clear A210
    simp only [Option.some.injEq, Prod.mk.injEq] at H
    obtain ⟨rfl, rfl, rfl, rfl, rfl⟩ := H
    try go_wp2_with (first | ((with_reducible refine gate_callee (f := 77) rfl ?_); refine goesL_ (some 27) rfl rfl Try.func77 (by kernel_rfl) rfl #[.pointer (some ⟨gb566, 0, none⟩), .int .i64 9] rfl ar ?_; (with_reducible refine (spec_l1Cur_pick.calls gb566 l0 x567001_4 x567002_4 9 t581 t582 t583 w _ ?side1 ?side2 A20.out).mono ?_); (case side1 => repeat (first | (with_reducible first | exact HI566.out | apply IsS101.alloc | apply IsS101.drewN | apply IsS101.drew | apply IsS101.set_1 | apply IsS101.set_2 | refine IsS101.far ?_ NB566_565.out _ | refine IsS101.far ?_ NB566_571.out _) | exact HI566.out)); (case side2 => repeat (first | (with_reducible first | exact HB.out | apply below_alloc | apply pw_below_drewN | apply below_drew1 | refine below_set ?_ (IsS101.ge HI566.out) | refine below_set ?_ GE565.out | refine below_set ?_ GE571.out) | exact HB.out)); rintro e w22 ⟨rfl, hi, hb, hk⟩; refine ⟨_, rfl, ?_⟩; have n0_ := Aside0.mk (KeepBut.blk hk (g' := gb565) (o := .cells #[.int .i64 0, .string (⟨#[]⟩ : ByteArray)] 28 (0, 0)) (bk BK565.out) NB565_566.out (by simp)); have n1_ := Aside0.mk (KeepBut.blk hk (g' := gb571) (o := .cells #[.int .i64 t567, .string t568] 28 (0, 0)) (bk BK571.out) NB571_566.out (by simp)); have n2_ := Aside0.mk (hb); have n3_ := Aside0.mk (hi); clear BK565; clear BK571; clear HB; clear HI566; have BK565 := n0_; have BK571 := n1_; have HB := n2_; have HI566 := n3_; clear n0_ n1_ n2_ n3_; (try clear hb); (try clear hb2); (try clear hk); (try clear hi)))
    have n0_ := Aside0.mk (blk_drew BK565.out)
    have n1_ := Aside0.mk (blk_drew BK571.out)
    have n2_ := Aside0.mk (IsS101.drew HI566.out)
    have n3_ := Aside0.mk (below_drew1 HB.out)
    clear BK565
    clear BK571
    clear HI566
    clear HB
    have BK565 := n0_
    have BK571 := n1_
    have HI566 := n2_
    have HB := n3_
    clear n0_ n1_ n2_ n3_
    refine start_ (n := 10) (S := fun w' => w'.cell? ⟨gb571, 0, none⟩ = some (.int .i64 t567) ∧ w'.cell? ⟨gb571, 1, none⟩ = some (.string t568)) (ds := []) #[false, false, false, false, false, false, false, false, false, false] (by kernel_rfl) rfl rfl ⟨(blk_cell BK571.out 0).trans rfl, (blk_cell BK571.out 1).trans rfl⟩ (fun hHeld => ?_); refine with_tabW spec_DrawCopyWithin.tab7 spec_DrawCopyWithin.bits7 (fun HT_ HW_ => ?_)
    generalize w22.drew = w23 at BK565 BK571 HI566 HB hHeld ⊢
    refine pure_ (i := 1) (N := some 31) (v := ?_) (a' := ?_) #[false, true, false, false, false, false, false, false, false, false] rfl rfl (any_of HT_.out (by kernel_rfl)) (fun _ _ _ h => h) (Or.inl ⟨by rfl, ?_⟩) ?_ ?_
    rotate_left
    ·
     intro w'
     go_simp
     with_reducible rfl
    rotate_left
    ·
     simp only [Act.put, List.setIfInBounds_toArray, List.set_cons_zero, List.set_cons_succ, i64_w, i32_w]
     rfl
    refine pure_ (i := 2) (N := some 32) (v := ?_) (a' := ?_) #[false, true, true, false, false, false, false, false, false, false] rfl rfl (any_of HT_.out (by kernel_rfl)) (fun _ _ _ h => h) (Or.inl ⟨by rfl, ?_⟩) ?_ ?_
    rotate_left
    ·
     intro w'
     go_simp
     with_reducible rfl
    rotate_left
    ·
     simp only [Act.put, List.setIfInBounds_toArray, List.set_cons_zero, List.set_cons_succ, i64_w, i32_w]
     rfl
    refine pure_ (i := 3) (N := some 33) (v := ?_) (a' := ?_) #[false, true, true, true, false, false, false, false, false, false] rfl rfl (any_of HT_.out (by kernel_rfl)) (fun _ _ _ h => h) (Or.inl ⟨by rfl, ?_⟩) ?_ ?_
    rotate_left
    ·
     intro w'
     go_simp
     with_reducible rfl
    rotate_left
    ·
     simp only [Act.put, List.setIfInBounds_toArray, List.set_cons_zero, List.set_cons_succ, i64_w, i32_w]
     rfl
    refine take_ (i := 0) (N := some 30) (v := ?_) (a' := ?_) #[true, true, true, true, false, false, false, false, false, false] rfl rfl (take_ofW HT_.out HW_.out (by kernel_rfl)) (fun _ _ _ h => h) (Or.inl ⟨by rfl, ?_⟩) hHeld ?_ ?_
    rotate_left
    ·
     rintro w' ⟨s0, s1⟩
     go_simp
     with_reducible rfl
    rotate_left
    ·
     simp only [Act.put, List.setIfInBounds_toArray, List.set_cons_zero, List.set_cons_succ, i64_w, i32_w]
     rfl
    refine one_ (i := 4) (N := some 34) #[true, true, true, true, true, false, false, false, false, false] rfl rfl (one_of HT_.out (by kernel_rfl)) (by decide) (fun K hK => ?_)
    refine goes_ Try.func77 (by kernel_rfl) rfl #[.pointer (some ⟨gb566, 0, none⟩), .int .i64 30] (by rfl) rfl rfl ar ?_
    with_reducible refine (spec_l1Cur_pick.calls gb566 l0 t582 t583 30 t584 t585 t586 w _ ?side1 ?side2 A21.out).mono ?_
    (case side1 => repeat (first | (with_reducible first | exact HI566.out | apply IsS101.alloc | apply IsS101.drewN | apply IsS101.drew | apply IsS101.set_1 | apply IsS101.set_2 | refine IsS101.far ?_ NB566_565.out _ | refine IsS101.far ?_ NB566_571.out _) | exact HI566.out))
    (case side2 => repeat (first | (with_reducible first | exact HB.out | apply below_alloc | apply pw_below_drewN | apply below_drew1 | refine below_set ?_ (IsS101.ge HI566.out) | refine below_set ?_ GE565.out | refine below_set ?_ GE571.out) | exact HB.out))
    rintro e w24 ⟨rfl, hi, hb, hk⟩
    refine ⟨_, rfl, ?_⟩
    have n0_ := Aside0.mk (KeepBut.blk hk (g' := gb565) (o := .cells #[.int .i64 0, .string (⟨#[]⟩ : ByteArray)] 28 (0, 0)) (bk BK565.out) NB565_566.out (by simp))
    have n1_ := Aside0.mk (KeepBut.blk hk (g' := gb571) (o := .cells #[.int .i64 t567, .string t568] 28 (0, 0)) (bk BK571.out) NB571_566.out (by simp))
    have n2_ := Aside0.mk (hb)
    have n3_ := Aside0.mk (hi)
    clear BK565
    clear BK571
    clear HB
    clear HI566
    have BK565 := n0_
    have BK571 := n1_
    have HB := n2_
    have HI566 := n3_
    clear n0_ n1_ n2_ n3_
    (try clear hb)
    (try clear hb2)
    (try clear hk)
    (try clear hi)
    refine hK.out _ _ ⟨(blk_cell BK571.out 0).trans rfl, (blk_cell BK571.out 1).trans rfl⟩ (fun hHeld => ?_)
    clear hK K
    refine norm_ (a' := ?_) ?_ ?_
    rotate_left
    ·
     show Act.put _ (some 34) _ = _
     simp only [Act.put, List.setIfInBounds_toArray, List.set_cons_zero, List.set_cons_succ, i64_w, i32_w]
     rfl
    refine pure_ (i := 5) (N := some 35) (v := ?_) (a' := ?_) #[true, true, true, true, true, true, false, false, false, false] rfl rfl (any_of HT_.out (by kernel_rfl)) (fun _ _ _ h => h) (Or.inl ⟨by rfl, ?_⟩) ?_ ?_
    rotate_left
    ·
     intro w'
     go_simp
     with_reducible rfl
    rotate_left
    ·
     simp only [Act.put, List.setIfInBounds_toArray, List.set_cons_zero, List.set_cons_succ, i64_w, i32_w]
     rfl
    refine one_ (i := 6) (N := none) #[true, true, true, true, true, true, true, false, false, false] rfl rfl (one_of HT_.out (by kernel_rfl)) (by decide) (fun K hK => ?_)
    have hs25 : w24.cell? ⟨gb565, 0, none⟩ = some (.int .i64 0) := (blk_cell BK565.out 0).trans rfl
    have hfs25 := blk_frozen BK565.out 0
    have hns25_1 := NB571_565.out
    have hms25_1 := NB565_571.out
    have hs26 : w24.cell? ⟨gb565, 1, none⟩ = some (.string (⟨#[]⟩ : ByteArray)) := (blk_cell BK565.out 1).trans rfl
    have hfs26 := blk_frozen BK565.out 1
    have hns26_1 := NB571_565.out
    have hms26_1 := NB565_571.out
    refine skip_ (w1 := ?_) (by rfl) rfl ?_ ?_
    rotate_left
    ·
     go_simp
     rfl
    refine hK.out _ _ ⟨((cell_far (p := ⟨gb565, _, none⟩) NB571_565.out _).trans (((cell_far (p := ⟨gb565, _, none⟩) NB571_565.out _).trans (hHeld.1)))), ((cell_far (p := ⟨gb565, _, none⟩) NB571_565.out _).trans (((cell_far (p := ⟨gb565, _, none⟩) NB571_565.out _).trans (hHeld.2))))⟩ (fun hHeld => ?_)
    clear hK K
    refine pure_ (i := 7) (N := some 3) (v := ?_) (a' := ?_) #[true, true, true, true, true, true, true, true, false, false] rfl rfl (any_of HT_.out (by kernel_rfl)) (fun _ _ _ h => h) (Or.inl ⟨by rfl, ?_⟩) ?_ ?_
    rotate_left
    ·
     intro w'
     go_simp
     with_reducible rfl
    rotate_left
    ·
     simp only [Act.put, List.setIfInBounds_toArray, List.set_cons_zero, List.set_cons_succ, i64_w, i32_w]
     rfl
    refine pure_ (i := 8) (N := some 4) (v := ?_) (a' := ?_) #[true, true, true, true, true, true, true, true, true, false] rfl rfl (any_of HT_.out (by kernel_rfl)) (fun _ _ _ h => h) (Or.inl ⟨by rfl, ?_⟩) ?_ ?_
    rotate_left
    ·
     intro w'
     go_simp
     with_reducible rfl
    rotate_left
    ·
     simp only [Act.put, List.setIfInBounds_toArray, List.set_cons_zero, List.set_cons_succ, i64_w, i32_w]
     rfl
    refine pure_ (i := 9) (N := some 5) (v := ?_) (a' := ?_) #[true, true, true, true, true, true, true, true, true, true] rfl rfl (any_of HT_.out (by kernel_rfl)) (fun _ _ _ h => h) (Or.inl ⟨by rfl, ?_⟩) ?_ ?_
    rotate_left
    ·
     intro w'
     go_simp
     with_reducible rfl
    rotate_left
    ·
     simp only [Act.put, List.setIfInBounds_toArray, List.set_cons_zero, List.set_cons_succ, i64_w, i32_w]
     rfl
    refine done_ (done_of HT_.out (by kernel_rfl)) ?_
    try go_wp2
    refine bodyPost_ret (results_list (rs := [.cell 2 28, .tmp 3, .tmp 4, .tmp 5]) rfl (by simp) (.cell gb565 28 #[.int .i64 t567, .string t568] (0, 0) _ rfl (by (with_reducible repeat (first | refine blk_drewN ?_ _ | refine blk_drew ?_ | refine blk_alloc ?_ _)); refine blk_put (cs := #[.int .i64 t567, .string (⟨#[]⟩ : ByteArray)]) ?_ 1 _ rfl; (with_reducible repeat (first | refine blk_drewN ?_ _ | refine blk_drew ?_ | refine blk_alloc ?_ _)); refine blk_put (cs := #[.int .i64 0, .string (⟨#[]⟩ : ByteArray)]) ?_ 0 _ rfl; (with_reducible repeat (first | refine blk_drewN ?_ _ | refine blk_drew ?_ | refine blk_alloc ?_ _)); exact BK565.out) Try.underlying28 rfl (by kernel_rfl) (.tmp (.tmp (.tmp .nil))))) rfl ?_
    exact ⟨by first | rfl | (simp [errW_none, errW_some] <;> rfl) | (simp [*, errW_none, errW_some] <;> rfl), by repeat (first | (with_reducible first | exact HB.out | apply below_alloc | apply pw_below_drewN | apply below_drew1 | refine below_set ?_ (IsS101.ge HI566.out) | refine below_set ?_ GE565.out | refine below_set ?_ GE571.out) | exact HB.out)⟩
   ·
    replace c19 := Bool.eq_false_iff.mpr c19
    subst c19
    have H1 : ((spec_l1Cur_pick.f l0 x567001_4 x567002_4 30).bind fun bt587 => (some (t567, t568, t572, t575, wrap64 (bt587.1 - 1)))) = some (r1, r2, r3, r4, r5) := by rw [if_neg (show ¬ (false = true) by decide)] at H; exact H
    clear H
    have H := H1
    clear H1
    replace H := Option.bind_eq_some_iff.mp H
    obtain ⟨⟨t587, t588, t589⟩, A270, H⟩ := H
    replace H : (some (t567, t568, t572, t575, wrap64 (t587 - 1))) = some (r1, r2, r3, r4, r5) := H
    have A27 := Aside0.mk A270
    clear A270
    simp only [Option.some.injEq, Prod.mk.injEq] at H
    obtain ⟨rfl, rfl, rfl, rfl, rfl⟩ := H
    try go_wp2
    have n0_ := Aside0.mk (blk_drew BK565.out)
    have n1_ := Aside0.mk (blk_drew BK571.out)
    have n2_ := Aside0.mk (IsS101.drew HI566.out)
    have n3_ := Aside0.mk (below_drew1 HB.out)
    clear BK565
    clear BK571
    clear HI566
    clear HB
    have BK565 := n0_
    have BK571 := n1_
    have HI566 := n2_
    have HB := n3_
    clear n0_ n1_ n2_ n3_
    refine start_ (n := 10) (S := fun w' => w'.cell? ⟨gb571, 0, none⟩ = some (.int .i64 t567) ∧ w'.cell? ⟨gb571, 1, none⟩ = some (.string t568)) (ds := []) #[false, false, false, false, false, false, false, false, false, false] (by kernel_rfl) rfl rfl ⟨(blk_cell BK571.out 0).trans rfl, (blk_cell BK571.out 1).trans rfl⟩ (fun hHeld => ?_); refine with_tabW spec_DrawCopyWithin.tab7 spec_DrawCopyWithin.bits7 (fun HT_ HW_ => ?_)
    generalize wc.drew = w28 at BK565 BK571 HI566 HB hHeld ⊢
    refine pure_ (i := 1) (N := some 31) (v := ?_) (a' := ?_) #[false, true, false, false, false, false, false, false, false, false] rfl rfl (any_of HT_.out (by kernel_rfl)) (fun _ _ _ h => h) (Or.inl ⟨by rfl, ?_⟩) ?_ ?_
    rotate_left
    ·
     intro w'
     go_simp
     with_reducible rfl
    rotate_left
    ·
     simp only [Act.put, List.setIfInBounds_toArray, List.set_cons_zero, List.set_cons_succ, i64_w, i32_w]
     rfl
    refine pure_ (i := 2) (N := some 32) (v := ?_) (a' := ?_) #[false, true, true, false, false, false, false, false, false, false] rfl rfl (any_of HT_.out (by kernel_rfl)) (fun _ _ _ h => h) (Or.inl ⟨by rfl, ?_⟩) ?_ ?_
    rotate_left
    ·
     intro w'
     go_simp
     with_reducible rfl
    rotate_left
    ·
     simp only [Act.put, List.setIfInBounds_toArray, List.set_cons_zero, List.set_cons_succ, i64_w, i32_w]
     rfl
    refine pure_ (i := 3) (N := some 33) (v := ?_) (a' := ?_) #[false, true, true, true, false, false, false, false, false, false] rfl rfl (any_of HT_.out (by kernel_rfl)) (fun _ _ _ h => h) (Or.inl ⟨by rfl, ?_⟩) ?_ ?_
    rotate_left
    ·
     intro w'
     go_simp
     with_reducible rfl
    rotate_left
    ·
     simp only [Act.put, List.setIfInBounds_toArray, List.set_cons_zero, List.set_cons_succ, i64_w, i32_w]
     rfl
    refine take_ (i := 0) (N := some 30) (v := ?_) (a' := ?_) #[true, true, true, true, false, false, false, false, false, false] rfl rfl (take_ofW HT_.out HW_.out (by kernel_rfl)) (fun _ _ _ h => h) (Or.inl ⟨by rfl, ?_⟩) hHeld ?_ ?_
    rotate_left
    ·
     rintro w' ⟨s0, s1⟩
     go_simp
     with_reducible rfl
    rotate_left
    ·
     simp only [Act.put, List.setIfInBounds_toArray, List.set_cons_zero, List.set_cons_succ, i64_w, i32_w]
     rfl
    refine one_ (i := 4) (N := some 34) #[true, true, true, true, true, false, false, false, false, false] rfl rfl (one_of HT_.out (by kernel_rfl)) (by decide) (fun K hK => ?_)
    refine goes_ Try.func77 (by kernel_rfl) rfl #[.pointer (some ⟨gb566, 0, none⟩), .int .i64 30] (by rfl) rfl rfl ar ?_
    with_reducible refine (spec_l1Cur_pick.calls gb566 l0 x567001_4 x567002_4 30 t587 t588 t589 w _ ?side1 ?side2 A27.out).mono ?_
    (case side1 => repeat (first | (with_reducible first | exact HI566.out | apply IsS101.alloc | apply IsS101.drewN | apply IsS101.drew | apply IsS101.set_1 | apply IsS101.set_2 | refine IsS101.far ?_ NB566_565.out _ | refine IsS101.far ?_ NB566_571.out _) | exact HI566.out))
    (case side2 => repeat (first | (with_reducible first | exact HB.out | apply below_alloc | apply pw_below_drewN | apply below_drew1 | refine below_set ?_ (IsS101.ge HI566.out) | refine below_set ?_ GE565.out | refine below_set ?_ GE571.out) | exact HB.out))
    rintro e w29 ⟨rfl, hi, hb, hk⟩
    refine ⟨_, rfl, ?_⟩
    have n0_ := Aside0.mk (KeepBut.blk hk (g' := gb565) (o := .cells #[.int .i64 0, .string (⟨#[]⟩ : ByteArray)] 28 (0, 0)) (bk BK565.out) NB565_566.out (by simp))
    have n1_ := Aside0.mk (KeepBut.blk hk (g' := gb571) (o := .cells #[.int .i64 t567, .string t568] 28 (0, 0)) (bk BK571.out) NB571_566.out (by simp))
    have n2_ := Aside0.mk (hb)
    have n3_ := Aside0.mk (hi)
    clear BK565
    clear BK571
    clear HB
    clear HI566
    have BK565 := n0_
    have BK571 := n1_
    have HB := n2_
    have HI566 := n3_
    clear n0_ n1_ n2_ n3_
    (try clear hb)
    (try clear hb2)
    (try clear hk)
    (try clear hi)
    refine hK.out _ _ ⟨(blk_cell BK571.out 0).trans rfl, (blk_cell BK571.out 1).trans rfl⟩ (fun hHeld => ?_)
    clear hK K
    refine norm_ (a' := ?_) ?_ ?_
    rotate_left
    ·
     show Act.put _ (some 34) _ = _
     simp only [Act.put, List.setIfInBounds_toArray, List.set_cons_zero, List.set_cons_succ, i64_w, i32_w]
     rfl
    refine pure_ (i := 5) (N := some 35) (v := ?_) (a' := ?_) #[true, true, true, true, true, true, false, false, false, false] rfl rfl (any_of HT_.out (by kernel_rfl)) (fun _ _ _ h => h) (Or.inl ⟨by rfl, ?_⟩) ?_ ?_
    rotate_left
    ·
     intro w'
     go_simp
     with_reducible rfl
    rotate_left
    ·
     simp only [Act.put, List.setIfInBounds_toArray, List.set_cons_zero, List.set_cons_succ, i64_w, i32_w]
     rfl
    refine one_ (i := 6) (N := none) #[true, true, true, true, true, true, true, false, false, false] rfl rfl (one_of HT_.out (by kernel_rfl)) (by decide) (fun K hK => ?_)
    have hs30 : w29.cell? ⟨gb565, 0, none⟩ = some (.int .i64 0) := (blk_cell BK565.out 0).trans rfl
    have hfs30 := blk_frozen BK565.out 0
    have hns30_1 := NB571_565.out
    have hms30_1 := NB565_571.out
    have hs31 : w29.cell? ⟨gb565, 1, none⟩ = some (.string (⟨#[]⟩ : ByteArray)) := (blk_cell BK565.out 1).trans rfl
    have hfs31 := blk_frozen BK565.out 1
    have hns31_1 := NB571_565.out
    have hms31_1 := NB565_571.out
    refine skip_ (w1 := ?_) (by rfl) rfl ?_ ?_
    rotate_left
    ·
     go_simp
     rfl
    refine hK.out _ _ ⟨((cell_far (p := ⟨gb565, _, none⟩) NB571_565.out _).trans (((cell_far (p := ⟨gb565, _, none⟩) NB571_565.out _).trans (hHeld.1)))), ((cell_far (p := ⟨gb565, _, none⟩) NB571_565.out _).trans (((cell_far (p := ⟨gb565, _, none⟩) NB571_565.out _).trans (hHeld.2))))⟩ (fun hHeld => ?_)
    clear hK K
    refine pure_ (i := 7) (N := some 3) (v := ?_) (a' := ?_) #[true, true, true, true, true, true, true, true, false, false] rfl rfl (any_of HT_.out (by kernel_rfl)) (fun _ _ _ h => h) (Or.inl ⟨by rfl, ?_⟩) ?_ ?_
    rotate_left
    ·
     intro w'
     go_simp
     with_reducible rfl
    rotate_left
    ·
     simp only [Act.put, List.setIfInBounds_toArray, List.set_cons_zero, List.set_cons_succ, i64_w, i32_w]
     rfl
    refine pure_ (i := 8) (N := some 4) (v := ?_) (a' := ?_) #[true, true, true, true, true, true, true, true, true, false] rfl rfl (any_of HT_.out (by kernel_rfl)) (fun _ _ _ h => h) (Or.inl ⟨by rfl, ?_⟩) ?_ ?_
    rotate_left
    ·
     intro w'
     go_simp
     with_reducible rfl
    rotate_left
    ·
     simp only [Act.put, List.setIfInBounds_toArray, List.set_cons_zero, List.set_cons_succ, i64_w, i32_w]
     rfl
    refine pure_ (i := 9) (N := some 5) (v := ?_) (a' := ?_) #[true, true, true, true, true, true, true, true, true, true] rfl rfl (any_of HT_.out (by kernel_rfl)) (fun _ _ _ h => h) (Or.inl ⟨by rfl, ?_⟩) ?_ ?_
    rotate_left
    ·
     intro w'
     go_simp
     with_reducible rfl
    rotate_left
    ·
     simp only [Act.put, List.setIfInBounds_toArray, List.set_cons_zero, List.set_cons_succ, i64_w, i32_w]
     rfl
    refine done_ (done_of HT_.out (by kernel_rfl)) ?_
    try go_wp2
    refine bodyPost_ret (results_list (rs := [.cell 2 28, .tmp 3, .tmp 4, .tmp 5]) rfl (by simp) (.cell gb565 28 #[.int .i64 t567, .string t568] (0, 0) _ rfl (by (with_reducible repeat (first | refine blk_drewN ?_ _ | refine blk_drew ?_ | refine blk_alloc ?_ _)); refine blk_put (cs := #[.int .i64 t567, .string (⟨#[]⟩ : ByteArray)]) ?_ 1 _ rfl; (with_reducible repeat (first | refine blk_drewN ?_ _ | refine blk_drew ?_ | refine blk_alloc ?_ _)); refine blk_put (cs := #[.int .i64 0, .string (⟨#[]⟩ : ByteArray)]) ?_ 0 _ rfl; (with_reducible repeat (first | refine blk_drewN ?_ _ | refine blk_drew ?_ | refine blk_alloc ?_ _)); exact BK565.out) Try.underlying28 rfl (by kernel_rfl) (.tmp (.tmp (.tmp .nil))))) rfl ?_
    exact ⟨by first | rfl | (simp [errW_none, errW_some] <;> rfl) | (simp [*, errW_none, errW_some] <;> rfl), by repeat (first | (with_reducible first | exact HB.out | apply below_alloc | apply pw_below_drewN | apply below_drew1 | refine below_set ?_ (IsS101.ge HI566.out) | refine below_set ?_ GE565.out | refine below_set ?_ GE571.out) | exact HB.out)⟩

/-! ### impl_CopyWithin: function 52 -/
def impl_CopyWithin.j0 : Nat → Int → Int → Int → Bool → Int → ByteArray → Option (Int × ByteArray × Int)
 | 0, _, _, _, _, _, _ => none
 | k + 1, x1, x2, x3, x24, x591000, x591001 => if x24 = true then ((impl_orZero.f x591000 x591001).bind fun bt593 => (some (bt593.1, bt593.2, 1))) else ((impl_Memory_within.f x591000 x591001 x1 x3).bind fun t595 => (if t595 = true then ((impl_Memory_within.f x591000 x591001 x2 x3).bind fun t596 => (if t596 = true then (if 0 ≤ x2 then (if x2 ≤ (wrap64 (x2 + x3)) then (if (wrap64 (x2 + x3)) ≤ (x591001.size : Int) then ((impl_Memory_with.f x591000 x591001 x1 (x591001.extract (x2 : Int).toNat ((wrap64 (x2 + x3)) : Int).toNat)).bind fun bt597 => (some (bt597.1, bt597.2, 0))) else (none)) else (none)) else (none)) else (some (x591000, x591001, 2)))) else (some (x591000, x591001, 2))))
def impl_CopyWithin.f (k : Nat) (a0_0 : Int) (a0_1 : ByteArray) (a1 : Int) (a2 : Int) (a3 : Int) : Option (Int × ByteArray × Int) := (impl_GoodMemory.f a0_0 a0_1).bind fun t592 => (if t592 = true then (if a1 < 0 then (impl_CopyWithin.j0 k a1 a2 a3 true a0_0 a0_1) else (if a2 < 0 then (impl_CopyWithin.j0 k a1 a2 a3 true a0_0 a0_1) else (impl_CopyWithin.j0 k a1 a2 a3 (decide (a3 < 0)) a0_0 a0_1))) else (impl_CopyWithin.j0 k a1 a2 a3 true a0_0 a0_1))
theorem impl_CopyWithin.mono_l : ∀ k, (∀ y0 y1 y2 y3 y4 y5, LeO (impl_CopyWithin.j0 k y0 y1 y2 y3 y4 y5) (impl_CopyWithin.j0 (k + 1) y0 y1 y2 y3 y4 y5))
 | 0 => fun _ _ _ _ _ _ r h => by simp [impl_CopyWithin.j0] at h
 | k + 1 => by
  have ih0 := impl_CopyWithin.mono_l k
  ·
   intro y0 y1 y2 y3 y4 y5
   unfold impl_CopyWithin.j0
   repeat' first
   | (with_reducible exact ih0 _ _ _ _ _ _)
   | (with_reducible exact LeO.refl _)
   | (with_reducible exact LeO.none _)
   | (with_reducible refine LeO.ite ?_ ?_)
   | (with_reducible refine LeO.bind ?_ (fun _ => ?_))
   | exact ih0 _ _ _ _ _ _
   | exact LeO.none _
   | refine LeO.ite ?_ ?_
   | refine LeO.bind ?_ (fun _ => ?_)
theorem impl_CopyWithin.mono : ∀ a0 a1 a2 a3 a4 k, LeO (impl_CopyWithin.f k a0 a1 a2 a3 a4) (impl_CopyWithin.f (k + 1) a0 a1 a2 a3 a4) := by
 intro a0 a1 a2 a3 a4 k
 have ih0 := impl_CopyWithin.mono_l k
 unfold impl_CopyWithin.f
 repeat' first
   | (with_reducible exact ih0 _ _ _ _ _ _)
   | (with_reducible exact LeO.refl _)
   | (with_reducible exact LeO.none _)
   | (with_reducible refine LeO.ite ?_ ?_)
   | (with_reducible refine LeO.bind ?_ (fun _ => ?_))
   | exact ih0 _ _ _ _ _ _
   | exact LeO.none _
   | refine LeO.ite ?_ ?_
   | refine LeO.bind ?_ (fun _ => ?_)
def impl_CopyWithin.T5 : Bool × List (List Nat × List Nat) := (true, [([], []), ([], []), ([], []), ([2], [2]), ([], []), ([], []), ([], []), ([5, 6], [5, 6]), ([3, 4, 7], [3, 4, 7]), ([0, 1, 8], [0, 1, 8]), ([9, 9, 0, 1, 2, 3, 4, 5, 6, 7, 8, 9], [9]), ([10, 0, 1, 2, 3, 4, 5, 6, 7, 8, 9, 10], [])])
def impl_CopyWithin.B5 : List Nat := [0, 0, 0, 4, 0, 0, 0, 96, 252, 511, 1023, 2047]
theorem impl_CopyWithin.tab5 : rtab .any (opsOf Try.f52 5) = impl_CopyWithin.T5 := by kernel_rfl
theorem impl_CopyWithin.bits5 : waitsOk impl_CopyWithin.T5.2 impl_CopyWithin.B5 = true := by kernel_rfl
set_option maxHeartbeats 8000000 in
set_option maxRecDepth 100000 in
theorem impl_CopyWithin.calls (k : Nat) (a0_0 : Int) (a0_1 : ByteArray) (a1 : Int) (a2 : Int) (a3 : Int) (r1 : Int) (r2 : ByteArray) (r3 : Int) (w : World) (h : impl_CopyWithin.f k a0_0 a0_1 a1 a2 a3 = some (r1, r2, r3)) :
  Calls Try.prog 52 #[.agg #[.int .i64 a0_0, .string a0_1], .int .i64 a1, .int .i64 a2, .int .i64 a3] w fun e w' => e = .returned (.tuple #[.agg #[.int .i64 r1, .string r2], .int .i64 r3]) ∧ Below w.heap.size w w' := by
 have hu28 := Try.underlying28
 have HB := Aside0.mk (Below.refl w.heap.size w)
 have H : ((impl_GoodMemory.f a0_0 a0_1).bind fun t592 => (if t592 = true then (if a1 < 0 then (impl_CopyWithin.j0 k a1 a2 a3 true a0_0 a0_1) else (if a2 < 0 then (impl_CopyWithin.j0 k a1 a2 a3 true a0_0 a0_1) else (impl_CopyWithin.j0 k a1 a2 a3 (decide (a3 < 0)) a0_0 a0_1))) else (impl_CopyWithin.j0 k a1 a2 a3 true a0_0 a0_1))) = some (r1, r2, r3) := h
 clear h
 have HC5 := Aside0.mk H
 clear H
 go_enter Try.func52, Try.ntmps52
 go_upto_region 1 with (first | ((with_reducible refine gate_dst (N := 4) rfl ?_); refine box_event ?hg (N := 4) ?hd (cs := #[.int .i64 a0_0, .string a0_1]) (t := 28) ?hr ?_; (case hd => rfl); (case hg => rfl); (case hr => first | (go_simp; done) | (go_simp; rfl)); intro gb590 hg w6 hbox hb; have n0_ := Aside0.mk (below_step (bw HB.out) hb); have n1_ := Aside0.mk (hbox); have n2_ := Aside0.mk ((by rw [hg]; exact (below_size (bw HB.out)) : w.heap.size ≤ gb590)); have n3_ := Aside0.mk ((by rw [hg]; exact (below_size (bw HB.out)) : w.heap.size ≤ gb590)); clear HB; have HB := n0_; have BK590 := n1_; have GW590 := n2_; have GE590 := n3_; clear n0_ n1_ n2_ n3_; clear hb hbox hg) | ((with_reducible refine gate_dst (N := 8) rfl ?_); refine box_event ?hg (N := 8) ?hd (cs := #[.int .i64 0, .string (⟨#[]⟩ : ByteArray)]) (t := 28) ?hr ?_; (case hd => rfl); (case hg => rfl); (case hr => first | (go_simp; done) | (go_simp; rfl)); intro gb591 hg w7 hbox hb; have n0_ := Aside0.mk (blk_below (g := gb590) (o := .cells #[.int .i64 a0_0, .string a0_1] 28 (0, 0)) (bk BK590.out) hb); have n1_ := Aside0.mk (below_step (bw HB.out) hb); have n2_ := Aside0.mk (hbox); have n3_ := Aside0.mk ((by rw [hg]; exact (below_size (bw HB.out)) : w.heap.size ≤ gb591)); have n4_ := Aside0.mk ((by rw [hg]; exact (below_size (bw HB.out)) : w.heap.size ≤ gb591)); have n5_ := Aside0.mk ((by rw [hg]; exact Nat.ne_of_lt (blk_lt (g := gb590) (o := .cells #[.int .i64 a0_0, .string a0_1] 28 (0, 0)) (bk BK590.out)) : gb590 ≠ gb591)); have n6_ := Aside0.mk ((by rw [hg]; exact Nat.ne_of_gt (blk_lt (g := gb590) (o := .cells #[.int .i64 a0_0, .string a0_1] 28 (0, 0)) (bk BK590.out)) : gb591 ≠ gb590)); clear BK590; clear HB; have BK590 := n0_; have HB := n1_; have BK591 := n2_; have GW591 := n3_; have GE591 := n4_; have NB590_591 := n5_; have NB591_590 := n6_; clear n0_ n1_ n2_ n3_ n4_ n5_ n6_; clear hb hbox hg))
 (try simp only [Act.put, List.setIfInBounds_toArray, List.set_cons_zero, List.set_cons_succ])
 go_cut [24] (fun v24 wc => ∃ (kq : Nat) (x24_4 : Bool), v24 = .bool x24_4 ∧ Aside0 (impl_CopyWithin.j0 kq a1 a2 a3 x24_4 a0_0 a0_1 = some (r1, r2, r3)) ∧ Aside0 (kq ≤ k) ∧ Aside0 (wc.heap[gb590]? = some (.cells #[.int .i64 a0_0, .string a0_1] 28 (0, 0))) ∧ Aside0 (wc.heap[gb591]? = some (.cells #[.int .i64 0, .string (⟨#[]⟩ : ByteArray)] 28 (0, 0))) ∧ Aside0 (Below w.heap.size w wc))
 case first =>
  have H := HC5.out
  clear HC5
  replace H := Option.bind_eq_some_iff.mp H
  obtain ⟨t592, A80, H⟩ := H
  replace H : (if t592 = true then (if a1 < 0 then (impl_CopyWithin.j0 k a1 a2 a3 true a0_0 a0_1) else (if a2 < 0 then (impl_CopyWithin.j0 k a1 a2 a3 true a0_0 a0_1) else (impl_CopyWithin.j0 k a1 a2 a3 (decide (a3 < 0)) a0_0 a0_1))) else (impl_CopyWithin.j0 k a1 a2 a3 true a0_0 a0_1)) = some (r1, r2, r3) := H
  have A8 := Aside0.mk A80
  clear A80
  by_cases c9 : t592 = true
  ·
   subst c9
   have H1 : (if a1 < 0 then (impl_CopyWithin.j0 k a1 a2 a3 true a0_0 a0_1) else (if a2 < 0 then (impl_CopyWithin.j0 k a1 a2 a3 true a0_0 a0_1) else (impl_CopyWithin.j0 k a1 a2 a3 (decide (a3 < 0)) a0_0 a0_1))) = some (r1, r2, r3) := by rw [if_pos rfl] at H; exact H
   clear H
   have H := H1
   clear H1
   by_cases c10 : a1 < 0
   ·
    rw [if_pos c10] at H
    have c10b0 : decide (a1 < 0) = true := decide_eq_true c10
    clear c10
    (first | rw [c10b0] | (simp only [i64_w, i32_w]; rw [c10b0]) | skip)
    have H' := Aside0.mk H
    clear H
    have hnb11 := NB590_591.out
    have hnc11 := NB591_590.out
    have hcz12_0 : w7.cell? ⟨gb590, 0, none⟩ = some (.int .i64 a0_0) := (blk_cell BK590.out 0).trans rfl
    have hcz12_1 : w7.cell? ⟨gb590, 1, none⟩ = some (.string a0_1) := (blk_cell BK590.out 1).trans rfl
    have hfz12_0 := blk_frozen BK590.out 0
    have hfz12_1 := blk_frozen BK590.out 1
    go_wp2_with (first | ((with_reducible refine gate_callee (f := 59) rfl ?_); refine goesL_ (some 11) rfl rfl Try.func59 (by kernel_rfl) rfl #[.agg #[.int .i64 a0_0, .string a0_1]] rfl ar ?_; (with_reducible refine (impl_GoodMemory.calls a0_0 a0_1 true _ A8.out).mono ?_); rintro e w13 ⟨rfl, hb⟩; refine ⟨_, rfl, ?_⟩; have n0_ := Aside0.mk (blk_below (g := gb590) (o := .cells #[.int .i64 a0_0, .string a0_1] 28 (0, 0)) (bk BK590.out) hb); have n1_ := Aside0.mk (blk_below (g := gb591) (o := .cells #[.int .i64 0, .string (⟨#[]⟩ : ByteArray)] 28 (0, 0)) (bk BK591.out) hb); have n2_ := Aside0.mk (below_step (bw HB.out) hb); clear BK590; clear BK591; clear HB; have BK590 := n0_; have BK591 := n1_; have HB := n2_; clear n0_ n1_ n2_; (try clear hb)))
    go_meet
    case rel => exact ⟨_, (true), (by first | rfl | (simp; done) | (simp [*]; done)), H', ⟨by first | omega | exact Nat.le_refl _⟩, ⟨bk BK590.out⟩, ⟨bk BK591.out⟩, ⟨bw HB.out⟩⟩
   ·
    rw [if_neg c10] at H
    have c10b0 : decide (a1 < 0) = false := decide_eq_false c10
    clear c10
    (first | rw [c10b0] | (simp only [i64_w, i32_w]; rw [c10b0]) | skip)
    by_cases c14 : a2 < 0
    ·
     rw [if_pos c14] at H
     have c14b0 : decide (a2 < 0) = true := decide_eq_true c14
     clear c14
     have H' := Aside0.mk H
     clear H
     have hnb15 := NB590_591.out
     have hnc15 := NB591_590.out
     have hcz16_0 : w7.cell? ⟨gb590, 0, none⟩ = some (.int .i64 a0_0) := (blk_cell BK590.out 0).trans rfl
     have hcz16_1 : w7.cell? ⟨gb590, 1, none⟩ = some (.string a0_1) := (blk_cell BK590.out 1).trans rfl
     have hfz16_0 := blk_frozen BK590.out 0
     have hfz16_1 := blk_frozen BK590.out 1
     go_wp2_with (first | ((with_reducible refine gate_callee (f := 59) rfl ?_); refine goesL_ (some 11) rfl rfl Try.func59 (by kernel_rfl) rfl #[.agg #[.int .i64 a0_0, .string a0_1]] rfl ar ?_; (with_reducible refine (impl_GoodMemory.calls a0_0 a0_1 true _ A8.out).mono ?_); rintro e w17 ⟨rfl, hb⟩; refine ⟨_, rfl, ?_⟩; have n0_ := Aside0.mk (blk_below (g := gb590) (o := .cells #[.int .i64 a0_0, .string a0_1] 28 (0, 0)) (bk BK590.out) hb); have n1_ := Aside0.mk (blk_below (g := gb591) (o := .cells #[.int .i64 0, .string (⟨#[]⟩ : ByteArray)] 28 (0, 0)) (bk BK591.out) hb); have n2_ := Aside0.mk (below_step (bw HB.out) hb); clear BK590; clear BK591; clear HB; have BK590 := n0_; have BK591 := n1_; have HB := n2_; clear n0_ n1_ n2_; (try clear hb)))
     go_meet
     case rel => exact ⟨_, (true), (by first | rfl | (simp; done) | (simp [*]; done)), H', ⟨by first | omega | exact Nat.le_refl _⟩, ⟨bk BK590.out⟩, ⟨bk BK591.out⟩, ⟨bw HB.out⟩⟩
    ·
     rw [if_neg c14] at H
     have c14b0 : decide (a2 < 0) = false := decide_eq_false c14
     clear c14
     have H' := Aside0.mk H
     clear H
     have hnb18 := NB590_591.out
     have hnc18 := NB591_590.out
     have hcz19_0 : w7.cell? ⟨gb590, 0, none⟩ = some (.int .i64 a0_0) := (blk_cell BK590.out 0).trans rfl
     have hcz19_1 : w7.cell? ⟨gb590, 1, none⟩ = some (.string a0_1) := (blk_cell BK590.out 1).trans rfl
     have hfz19_0 := blk_frozen BK590.out 0
     have hfz19_1 := blk_frozen BK590.out 1
     go_wp2_with (first | ((with_reducible refine gate_callee (f := 59) rfl ?_); refine goesL_ (some 11) rfl rfl Try.func59 (by kernel_rfl) rfl #[.agg #[.int .i64 a0_0, .string a0_1]] rfl ar ?_; (with_reducible refine (impl_GoodMemory.calls a0_0 a0_1 true _ A8.out).mono ?_); rintro e w20 ⟨rfl, hb⟩; refine ⟨_, rfl, ?_⟩; have n0_ := Aside0.mk (blk_below (g := gb590) (o := .cells #[.int .i64 a0_0, .string a0_1] 28 (0, 0)) (bk BK590.out) hb); have n1_ := Aside0.mk (blk_below (g := gb591) (o := .cells #[.int .i64 0, .string (⟨#[]⟩ : ByteArray)] 28 (0, 0)) (bk BK591.out) hb); have n2_ := Aside0.mk (below_step (bw HB.out) hb); clear BK590; clear BK591; clear HB; have BK590 := n0_; have BK591 := n1_; have HB := n2_; clear n0_ n1_ n2_; (try clear hb)))
     go_meet
     case rel => exact ⟨_, (decide (a3 < 0)), (by first | rfl | (simp; done) | (simp [*]; done)), H', ⟨by first | omega | exact Nat.le_refl _⟩, ⟨bk BK590.out⟩, ⟨bk BK591.out⟩, ⟨bw HB.out⟩⟩
  ·
   replace c9 := Bool.eq_false_iff.mpr c9
   subst c9
   have H1 : (impl_CopyWithin.j0 k a1 a2 a3 true a0_0 a0_1) = some (r1, r2, r3) := by rw [if_neg (show ¬ (false = true) by decide)] at H; exact H
   clear H
   have H := H1
   clear H1
   have H' := Aside0.mk H
   clear H
   have hnb21 := NB590_591.out
   have hnc21 := NB591_590.out
   have hcz22_0 : w7.cell? ⟨gb590, 0, none⟩ = some (.int .i64 a0_0) := (blk_cell BK590.out 0).trans rfl
   have hcz22_1 : w7.cell? ⟨gb590, 1, none⟩ = some (.string a0_1) := (blk_cell BK590.out 1).trans rfl
   have hfz22_0 := blk_frozen BK590.out 0
   have hfz22_1 := blk_frozen BK590.out 1
   go_wp2_with (first | ((with_reducible refine gate_callee (f := 59) rfl ?_); refine goesL_ (some 11) rfl rfl Try.func59 (by kernel_rfl) rfl #[.agg #[.int .i64 a0_0, .string a0_1]] rfl ar ?_; (with_reducible refine (impl_GoodMemory.calls a0_0 a0_1 false _ A8.out).mono ?_); rintro e w23 ⟨rfl, hb⟩; refine ⟨_, rfl, ?_⟩; have n0_ := Aside0.mk (blk_below (g := gb590) (o := .cells #[.int .i64 a0_0, .string a0_1] 28 (0, 0)) (bk BK590.out) hb); have n1_ := Aside0.mk (blk_below (g := gb591) (o := .cells #[.int .i64 0, .string (⟨#[]⟩ : ByteArray)] 28 (0, 0)) (bk BK591.out) hb); have n2_ := Aside0.mk (below_step (bw HB.out) hb); clear BK590; clear BK591; clear HB; have BK590 := n0_; have BK591 := n1_; have HB := n2_; clear n0_ n1_ n2_; (try clear hb)))
   go_meet
   case rel => exact ⟨_, (true), (by first | rfl | (simp; done) | (simp [*]; done)), H', ⟨by first | omega | exact Nat.le_refl _⟩, ⟨bk BK590.out⟩, ⟨bk BK591.out⟩, ⟨bw HB.out⟩⟩
 case rest =>
  clear HC5
  try clear c1
  try clear c2
  try clear p2
  try clear c5
  try clear c9
  try clear c10
  try clear c10b0
  try clear c11
  try clear c14
  try clear c14b0
  try clear c15
  try clear c18
  try clear c21
  try clear hcz12_0 hcz12_1
  try clear hcz16_0 hcz16_1
  try clear hcz19_0 hcz19_1
  try clear hcz22_0 hcz22_1
  try clear hfz12_0 hfz12_1
  try clear hfz16_0 hfz16_1
  try clear hfz19_0 hfz19_1
  try clear hfz22_0 hfz22_1
  obtain ⟨kq, x24_4, rfl, HA, HJ4, BK590, BK591, HB⟩ := hcut
  cases kq with
  | zero => exact absurd HA.out (by simp [impl_CopyWithin.j0])
  | succ kj4 =>
   have H := HA.out
   clear HA
   simp only [impl_CopyWithin.j0] at H
   by_cases c24 : x24_4 = true
   ·
    subst c24
    have H1 : ((impl_orZero.f a0_0 a0_1).bind fun bt593 => (some (bt593.1, bt593.2, 1))) = some (r1, r2, r3) := by rw [if_pos rfl] at H; exact H
    clear H
    have H := H1
    clear H1
    replace H := Option.bind_eq_some_iff.mp H
    obtain ⟨⟨t593, t594⟩, A250, H⟩ := H
    replace H : (some (t593, t594, 1)) = some (r1, r2, r3) := H
    have A25 := Aside0.mk A250
    clear A250
    simp only [Option.some.injEq, Prod.mk.injEq] at H
    obtain ⟨rfl, rfl, rfl⟩ := H
    have hnb26 := NB590_591.out
    have hnc26 := NB591_590.out
    have hcz27_0 : wc.cell? ⟨gb590, 0, none⟩ = some (.int .i64 a0_0) := (blk_cell BK590.out 0).trans rfl
    have hcz27_1 : wc.cell? ⟨gb590, 1, none⟩ = some (.string a0_1) := (blk_cell BK590.out 1).trans rfl
    have hfz27_0 := blk_frozen BK590.out 0
    have hfz27_1 := blk_frozen BK590.out 1
    go_wp2_with (first | ((with_reducible refine gate_callee (f := 96) rfl ?_); refine goesL_ (some 26) rfl rfl Try.func96 (by kernel_rfl) rfl #[.agg #[.int .i64 a0_0, .string a0_1]] rfl ar ?_; (with_reducible refine (impl_orZero.calls a0_0 a0_1 t593 t594 _ A25.out).mono ?_); rintro e w28 ⟨rfl, hb⟩; refine ⟨_, rfl, ?_⟩; have n0_ := Aside0.mk (blk_below (g := gb590) (o := .cells #[.int .i64 a0_0, .string a0_1] 28 (0, 0)) (bk BK590.out) hb); have n1_ := Aside0.mk (blk_below (g := gb591) (o := .cells #[.int .i64 0, .string (⟨#[]⟩ : ByteArray)] 28 (0, 0)) (bk BK591.out) hb); have n2_ := Aside0.mk (below_step (bw HB.out) hb); clear BK590; clear BK591; clear HB; have BK590 := n0_; have BK591 := n1_; have HB := n2_; clear n0_ n1_ n2_; (try clear hb); have hcz29_0 : w28.cell? ⟨gb591, 0, none⟩ = some (.int .i64 0) := (blk_cell BK591.out 0).trans rfl; have hcz29_1 : w28.cell? ⟨gb591, 1, none⟩ = some (.string (⟨#[]⟩ : ByteArray)) := (blk_cell BK591.out 1).trans rfl; have hfz29_0 := blk_frozen BK591.out 0; have hfz29_1 := blk_frozen BK591.out 1))
    refine bodyPost_ret (results_ct rfl _ _ gb591 28 #[.int .i64 t593, .string t594] (0, 0) _ rfl (by (with_reducible repeat (first | refine blk_drewN ?_ _ | refine blk_drew ?_ | refine blk_alloc ?_ _)); refine blk_put (cs := #[.int .i64 t593, .string (⟨#[]⟩ : ByteArray)]) ?_ 1 _ rfl; (with_reducible repeat (first | refine blk_drewN ?_ _ | refine blk_drew ?_ | refine blk_alloc ?_ _)); refine blk_put (cs := #[.int .i64 0, .string (⟨#[]⟩ : ByteArray)]) ?_ 0 _ rfl; (with_reducible repeat (first | refine blk_drewN ?_ _ | refine blk_drew ?_ | refine blk_alloc ?_ _)); exact BK591.out) Try.underlying28 rfl (by kernel_rfl)) rfl ?_
    exact ⟨by first | rfl | (simp [errW_none, errW_some] <;> rfl) | (simp [*, errW_none, errW_some] <;> rfl), bw HB.out⟩
   ·
    replace c24 := Bool.eq_false_iff.mpr c24
    subst c24
    have H1 : ((impl_Memory_within.f a0_0 a0_1 a1 a3).bind fun t595 => (if t595 = true then ((impl_Memory_within.f a0_0 a0_1 a2 a3).bind fun t596 => (if t596 = true then (if 0 ≤ a2 then (if a2 ≤ (wrap64 (a2 + a3)) then (if (wrap64 (a2 + a3)) ≤ (a0_1.size : Int) then ((impl_Memory_with.f a0_0 a0_1 a1 (a0_1.extract (a2 : Int).toNat ((wrap64 (a2 + a3)) : Int).toNat)).bind fun bt597 => (some (bt597.1, bt597.2, 0))) else (none)) else (none)) else (none)) else (some (a0_0, a0_1, 2)))) else (some (a0_0, a0_1, 2)))) = some (r1, r2, r3) := by rw [if_neg (show ¬ (false = true) by decide)] at H; exact H
    clear H
    have H := H1
    clear H1
    replace H := Option.bind_eq_some_iff.mp H
    obtain ⟨t595, A300, H⟩ := H
    replace H : (if t595 = true then ((impl_Memory_within.f a0_0 a0_1 a2 a3).bind fun t596 => (if t596 = true then (if 0 ≤ a2 then (if a2 ≤ (wrap64 (a2 + a3)) then (if (wrap64 (a2 + a3)) ≤ (a0_1.size : Int) then ((impl_Memory_with.f a0_0 a0_1 a1 (a0_1.extract (a2 : Int).toNat ((wrap64 (a2 + a3)) : Int).toNat)).bind fun bt597 => (some (bt597.1, bt597.2, 0))) else (none)) else (none)) else (none)) else (some (a0_0, a0_1, 2)))) else (some (a0_0, a0_1, 2))) = some (r1, r2, r3) := H
    have A30 := Aside0.mk A300
    clear A300
    by_cases c31 : t595 = true
    ·
     subst c31
     have H1 : ((impl_Memory_within.f a0_0 a0_1 a2 a3).bind fun t596 => (if t596 = true then (if 0 ≤ a2 then (if a2 ≤ (wrap64 (a2 + a3)) then (if (wrap64 (a2 + a3)) ≤ (a0_1.size : Int) then ((impl_Memory_with.f a0_0 a0_1 a1 (a0_1.extract (a2 : Int).toNat ((wrap64 (a2 + a3)) : Int).toNat)).bind fun bt597 => (some (bt597.1, bt597.2, 0))) else (none)) else (none)) else (none)) else (some (a0_0, a0_1, 2)))) = some (r1, r2, r3) := by rw [if_pos rfl] at H; exact H
     clear H
     have H := H1
     clear H1
     replace H := Option.bind_eq_some_iff.mp H
     obtain ⟨t596, A320, H⟩ := H
     replace H : (if t596 = true then (if 0 ≤ a2 then (if a2 ≤ (wrap64 (a2 + a3)) then (if (wrap64 (a2 + a3)) ≤ (a0_1.size : Int) then ((impl_Memory_with.f a0_0 a0_1 a1 (a0_1.extract (a2 : Int).toNat ((wrap64 (a2 + a3)) : Int).toNat)).bind fun bt597 => (some (bt597.1, bt597.2, 0))) else (none)) else (none)) else (none)) else (some (a0_0, a0_1, 2))) = some (r1, r2, r3) := H
     have A32 := Aside0.mk A320
     clear A320
     by_cases c33 : t596 = true
     ·
      subst c33
      have H1 : (if 0 ≤ a2 then (if a2 ≤ (wrap64 (a2 + a3)) then (if (wrap64 (a2 + a3)) ≤ (a0_1.size : Int) then ((impl_Memory_with.f a0_0 a0_1 a1 (a0_1.extract (a2 : Int).toNat ((wrap64 (a2 + a3)) : Int).toNat)).bind fun bt597 => (some (bt597.1, bt597.2, 0))) else (none)) else (none)) else (none)) = some (r1, r2, r3) := by rw [if_pos rfl] at H; exact H
      clear H
      have H := H1
      clear H1
      by_cases c34 : 0 ≤ a2
      ·
       rw [if_pos c34] at H
       have c34b0 := eq_true c34
       have c34b1 : decide (0 ≤ a2) = true := decide_eq_true c34
       clear c34
       by_cases c35 : a2 ≤ (wrap64 (a2 + a3))
       ·
        rw [if_pos c35] at H
        have c35b0 := eq_true c35
        have c35b1 : decide (a2 ≤ (wrap64 (a2 + a3))) = true := decide_eq_true c35
        by_cases c36 : (wrap64 (a2 + a3)) ≤ (a0_1.size : Int)
        ·
         rw [if_pos c36] at H
         have c36b0 := eq_true c36
         have c36b1 : decide ((wrap64 (a2 + a3)) ≤ (a0_1.size : Int)) = true := decide_eq_true c36
         replace H := Option.bind_eq_some_iff.mp H
         obtain ⟨⟨t597, t598⟩, A370, H⟩ := H
         replace H : (some (t597, t598, 0)) = some (r1, r2, r3) := H
         have A37 := Aside0.mk A370
         clear A370
         simp only [Option.some.injEq, Prod.mk.injEq] at H
         obtain ⟨rfl, rfl, rfl⟩ := H
         have hnb38 := NB590_591.out
         have hnc38 := NB591_590.out
         have hcz39_0 : wc.cell? ⟨gb590, 0, none⟩ = some (.int .i64 a0_0) := (blk_cell BK590.out 0).trans rfl
         have hcz39_1 : wc.cell? ⟨gb590, 1, none⟩ = some (.string a0_1) := (blk_cell BK590.out 1).trans rfl
         have hfz39_0 := blk_frozen BK590.out 0
         have hfz39_1 := blk_frozen BK590.out 1
         try go_wp2_with (first | ((with_reducible refine gate_callee (f := 97) rfl ?_); refine goesL_ (some 30) rfl rfl Try.func97 (by kernel_rfl) rfl #[.agg #[.int .i64 a0_0, .string a0_1], .int .i64 a1, .int .i64 a3] rfl ar ?_; (with_reducible refine (impl_Memory_within.calls a0_0 a0_1 a1 a3 true _ A30.out).mono ?_); rintro e w40 ⟨rfl, hb⟩; refine ⟨_, rfl, ?_⟩; have n0_ := Aside0.mk (blk_below (g := gb590) (o := .cells #[.int .i64 a0_0, .string a0_1] 28 (0, 0)) (bk BK590.out) hb); have n1_ := Aside0.mk (blk_below (g := gb591) (o := .cells #[.int .i64 0, .string (⟨#[]⟩ : ByteArray)] 28 (0, 0)) (bk BK591.out) hb); have n2_ := Aside0.mk (below_step (bw HB.out) hb); clear BK590; clear BK591; clear HB; have BK590 := n0_; have BK591 := n1_; have HB := n2_; clear n0_ n1_ n2_; (try clear hb); have hcz41_0 : w40.cell? ⟨gb590, 0, none⟩ = some (.int .i64 a0_0) := (blk_cell BK590.out 0).trans rfl; have hcz41_1 : w40.cell? ⟨gb590, 1, none⟩ = some (.string a0_1) := (blk_cell BK590.out 1).trans rfl; have hfz41_0 := blk_frozen BK590.out 0; have hfz41_1 := blk_frozen BK590.out 1) | (go_at_call 97; (with_reducible refine (impl_Memory_within.calls a0_0 a0_1 a2 a3 true _ A32.out).mono ?_); rintro e w42 ⟨rfl, hb⟩; have n0_ := Aside0.mk (blk_below (g := gb590) (o := .cells #[.int .i64 a0_0, .string a0_1] 28 (0, 0)) (bk BK590.out) hb); have n1_ := Aside0.mk (blk_below (g := gb591) (o := .cells #[.int .i64 0, .string (⟨#[]⟩ : ByteArray)] 28 (0, 0)) (bk BK591.out) hb); have n2_ := Aside0.mk (below_step (bw HB.out) hb); clear BK590; clear BK591; clear HB; have BK590 := n0_; have BK591 := n1_; have HB := n2_; clear n0_ n1_ n2_; (try clear hb); (try clear hb2); (try clear hk); (try clear hi)))
         have n0_ := Aside0.mk (blk_drew BK590.out)
         have n1_ := Aside0.mk (blk_drew BK591.out)
         have n2_ := Aside0.mk (below_drew1 HB.out)
         clear BK590
         clear BK591
         clear HB
         have BK590 := n0_
         have BK591 := n1_
         have HB := n2_
         clear n0_ n1_ n2_
         refine start_ (n := 12) (S := fun w' => w'.cell? ⟨gb590, 0, none⟩ = some (.int .i64 a0_0) ∧ w'.cell? ⟨gb590, 1, none⟩ = some (.string a0_1)) (ds := []) #[false, false, false, false, false, false, false, false, false, false, false, false] (by kernel_rfl) rfl rfl ⟨(blk_cell BK590.out 0).trans rfl, (blk_cell BK590.out 1).trans rfl⟩ (fun hHeld => ?_); refine with_tabW impl_CopyWithin.tab5 impl_CopyWithin.bits5 (fun HT_ HW_ => ?_)
         generalize w42.drew = w43 at BK590 BK591 HB hHeld ⊢
         refine pure_ (i := 1) (N := some 41) (v := ?_) (a' := ?_) #[false, true, false, false, false, false, false, false, false, false, false, false] rfl rfl (any_of HT_.out (by kernel_rfl)) (fun _ _ _ h => h) (Or.inl ⟨by rfl, ?_⟩) ?_ ?_
         rotate_left
         ·
          intro w'
          go_simp
          with_reducible rfl
         rotate_left
         ·
          simp only [Act.put, List.setIfInBounds_toArray, List.set_cons_zero, List.set_cons_succ, i64_w, i32_w]
          rfl
         refine pure_ (i := 2) (N := some 42) (v := ?_) (a' := ?_) #[false, true, true, false, false, false, false, false, false, false, false, false] rfl rfl (any_of HT_.out (by kernel_rfl)) (fun _ _ _ h => h) (Or.inl ⟨by rfl, ?_⟩) ?_ ?_
         rotate_left
         ·
          intro w'
          go_simp
          with_reducible rfl
         rotate_left
         ·
          simp only [Act.put, List.setIfInBounds_toArray, List.set_cons_zero, List.set_cons_succ, i64_w, i32_w]
          rfl
         refine pure_ (i := 4) (N := some 44) (v := ?_) (a' := ?_) #[false, true, true, false, true, false, false, false, false, false, false, false] rfl rfl (any_of HT_.out (by kernel_rfl)) (fun _ _ _ h => h) (Or.inl ⟨by rfl, ?_⟩) ?_ ?_
         rotate_left
         ·
          intro w'
          go_simp
          with_reducible rfl
         rotate_left
         ·
          simp only [Act.put, List.setIfInBounds_toArray, List.set_cons_zero, List.set_cons_succ, i64_w, i32_w]
          rfl
         refine pure_ (i := 5) (N := some 45) (v := ?_) (a' := ?_) #[false, true, true, false, true, true, false, false, false, false, false, false] rfl rfl (any_of HT_.out (by kernel_rfl)) (fun _ _ _ h => h) (Or.inl ⟨by rfl, ?_⟩) ?_ ?_
         rotate_left
         ·
          intro w'
          go_simp
          with_reducible rfl
         rotate_left
         ·
          simp only [Act.put, List.setIfInBounds_toArray, List.set_cons_zero, List.set_cons_succ, i64_w, i32_w]
          rfl
         refine pure_ (i := 6) (N := some 46) (v := ?_) (a' := ?_) #[false, true, true, false, true, true, true, false, false, false, false, false] rfl rfl (any_of HT_.out (by kernel_rfl)) (fun _ _ _ h => h) (Or.inl ⟨by rfl, ?_⟩) ?_ ?_
         rotate_left
         ·
          intro w'
          go_simp
          with_reducible rfl
         rotate_left
         ·
          simp only [Act.put, List.setIfInBounds_toArray, List.set_cons_zero, List.set_cons_succ, i64_w, i32_w]
          rfl
         refine pure_ (i := 7) (N := some 47) (v := ?_) (a' := ?_) #[false, true, true, false, true, true, true, true, false, false, false, false] rfl rfl (any_of HT_.out (by kernel_rfl)) (fun _ _ _ h => h) (Or.inl ⟨by rfl, ?_⟩) ?_ ?_
         rotate_left
         ·
          intro w'
          go_simp
          with_reducible rfl
         rotate_left
         ·
          simp only [Act.put, List.setIfInBounds_toArray, List.set_cons_zero, List.set_cons_succ, i64_w, i32_w]
          rfl
         refine take_ (i := 0) (N := some 40) (v := ?_) (a' := ?_) #[true, true, true, false, true, true, true, true, false, false, false, false] rfl rfl (take_ofW HT_.out HW_.out (by kernel_rfl)) (fun _ _ _ h => h) (Or.inl ⟨by rfl, ?_⟩) hHeld ?_ ?_
         rotate_left
         ·
          rintro w' ⟨s0, s1⟩
          go_simp
          with_reducible rfl
         rotate_left
         ·
          simp only [Act.put, List.setIfInBounds_toArray, List.set_cons_zero, List.set_cons_succ, i64_w, i32_w]
          rfl
         refine take_ (i := 3) (N := some 43) (v := ?_) (a' := ?_) #[true, true, true, true, true, true, true, true, false, false, false, false] rfl rfl (take_ofW HT_.out HW_.out (by kernel_rfl)) (fun _ _ _ h => h) (Or.inl ⟨by rfl, ?_⟩) hHeld ?_ ?_
         rotate_left
         ·
          rintro w' ⟨s0, s1⟩
          go_simp
          with_reducible rfl
         rotate_left
         ·
          simp only [Act.put, List.setIfInBounds_toArray, List.set_cons_zero, List.set_cons_succ, i64_w, i32_w]
          rfl
         refine pure_ (i := 8) (N := some 48) (v := ?_) (a' := ?_) #[true, true, true, true, true, true, true, true, true, false, false, false] rfl rfl (any_of HT_.out (by kernel_rfl)) (fun _ _ _ h => h) (Or.inl ⟨by rfl, ?_⟩) ?_ ?_
         rotate_left
         ·
          intro w'
          go_simp
          with_reducible rfl
         rotate_left
         ·
          simp only [Act.put, List.setIfInBounds_toArray, List.set_cons_zero, List.set_cons_succ, i64_w, i32_w]
          rfl
         refine one_ (i := 9) (N := some 49) #[true, true, true, true, true, true, true, true, true, true, false, false] rfl rfl (one_of HT_.out (by kernel_rfl)) (by decide) (fun K hK => ?_)
         refine goes_ Try.func98 (by kernel_rfl) rfl #[.agg #[.int .i64 a0_0, .string a0_1], .int .i64 a1, .string (a0_1.extract (a2 : Int).toNat ((wrap64 (a2 + a3)) : Int).toNat)] (by rfl) rfl rfl ar ?_
         with_reducible refine (impl_Memory_with.calls a0_0 a0_1 a1 (a0_1.extract (a2 : Int).toNat ((wrap64 (a2 + a3)) : Int).toNat) t597 t598 _ A37.out).mono ?_
         rintro e w44 ⟨rfl, hb⟩
         refine ⟨_, rfl, ?_⟩
         have n0_ := Aside0.mk (blk_below (g := gb590) (o := .cells #[.int .i64 a0_0, .string a0_1] 28 (0, 0)) (bk BK590.out) hb)
         have n1_ := Aside0.mk (blk_below (g := gb591) (o := .cells #[.int .i64 0, .string (⟨#[]⟩ : ByteArray)] 28 (0, 0)) (bk BK591.out) hb)
         have n2_ := Aside0.mk (below_step (bw HB.out) hb)
         clear BK590
         clear BK591
         clear HB
         have BK590 := n0_
         have BK591 := n1_
         have HB := n2_
         clear n0_ n1_ n2_
         (try clear hb)
         (try clear hb2)
         (try clear hk)
         (try clear hi)
         refine hK.out _ _ ⟨(blk_cell BK590.out 0).trans rfl, (blk_cell BK590.out 1).trans rfl⟩ (fun hHeld => ?_)
         clear hK K
         refine norm_ (a' := ?_) ?_ ?_
         rotate_left
         ·
          show Act.put _ (some 49) _ = _
          simp only [Act.put, List.setIfInBounds_toArray, List.set_cons_zero, List.set_cons_succ, i64_w, i32_w]
          rfl
         refine one_ (i := 10) (N := none) #[true, true, true, true, true, true, true, true, true, true, true, false] rfl rfl (one_of HT_.out (by kernel_rfl)) (by decide) (fun K hK => ?_)
         have hs45 : w44.cell? ⟨gb591, 0, none⟩ = some (.int .i64 0) := (blk_cell BK591.out 0).trans rfl
         have hfs45 := blk_frozen BK591.out 0
         have hns45_0 := NB590_591.out
         have hms45_0 := NB591_590.out
         have hs46 : w44.cell? ⟨gb591, 1, none⟩ = some (.string (⟨#[]⟩ : ByteArray)) := (blk_cell BK591.out 1).trans rfl
         have hfs46 := blk_frozen BK591.out 1
         have hns46_0 := NB590_591.out
         have hms46_0 := NB591_590.out
         refine skip_ (w1 := ?_) (by rfl) rfl ?_ ?_
         rotate_left
         ·
          go_simp
          rfl
         refine hK.out _ _ ⟨((cell_far (p := ⟨gb591, _, none⟩) NB590_591.out _).trans (((cell_far (p := ⟨gb591, _, none⟩) NB590_591.out _).trans (hHeld.1)))), ((cell_far (p := ⟨gb591, _, none⟩) NB590_591.out _).trans (((cell_far (p := ⟨gb591, _, none⟩) NB590_591.out _).trans (hHeld.2))))⟩ (fun hHeld => ?_)
         clear hK K
         refine pure_ (i := 11) (N := some 9) (v := ?_) (a' := ?_) #[true, true, true, true, true, true, true, true, true, true, true, true] rfl rfl (any_of HT_.out (by kernel_rfl)) (fun _ _ _ h => h) (Or.inl ⟨by rfl, ?_⟩) ?_ ?_
         rotate_left
         ·
          intro w'
          go_simp
          with_reducible rfl
         rotate_left
         ·
          simp only [Act.put, List.setIfInBounds_toArray, List.set_cons_zero, List.set_cons_succ, i64_w, i32_w]
          rfl
         refine done_ (done_of HT_.out (by kernel_rfl)) ?_
         try go_wp2
         refine bodyPost_ret (results_ct rfl _ _ gb591 28 #[.int .i64 t597, .string t598] (0, 0) _ rfl (by (with_reducible repeat (first | refine blk_drewN ?_ _ | refine blk_drew ?_ | refine blk_alloc ?_ _)); refine blk_put (cs := #[.int .i64 t597, .string (⟨#[]⟩ : ByteArray)]) ?_ 1 _ rfl; (with_reducible repeat (first | refine blk_drewN ?_ _ | refine blk_drew ?_ | refine blk_alloc ?_ _)); refine blk_put (cs := #[.int .i64 0, .string (⟨#[]⟩ : ByteArray)]) ?_ 0 _ rfl; (with_reducible repeat (first | refine blk_drewN ?_ _ | refine blk_drew ?_ | refine blk_alloc ?_ _)); exact BK591.out) Try.underlying28 rfl (by kernel_rfl)) rfl ?_
         exact ⟨by first | rfl | (simp [errW_none, errW_some] <;> rfl) | (simp [*, errW_none, errW_some] <;> rfl), bw HB.out⟩
        ·
         rw [if_neg c36] at H
         exact absurd H (by simp)
       ·
        rw [if_neg c35] at H
        exact absurd H (by simp)
      ·
       rw [if_neg c34] at H
       exact absurd H (by simp)
     ·
      replace c33 := Bool.eq_false_iff.mpr c33
      subst c33
      have H1 : (some (a0_0, a0_1, 2)) = some (r1, r2, r3) := by rw [if_neg (show ¬ (false = true) by decide)] at H; exact H
      clear H
      have H := H1
      clear H1
      simp only [Option.some.injEq, Prod.mk.injEq] at H
      obtain ⟨rfl, rfl, rfl⟩ := H
      have hnb47 := NB590_591.out
      have hnc47 := NB591_590.out
      have hcz48_0 : wc.cell? ⟨gb590, 0, none⟩ = some (.int .i64 a0_0) := (blk_cell BK590.out 0).trans rfl
      have hcz48_1 : wc.cell? ⟨gb590, 1, none⟩ = some (.string a0_1) := (blk_cell BK590.out 1).trans rfl
      have hfz48_0 := blk_frozen BK590.out 0
      have hfz48_1 := blk_frozen BK590.out 1
      go_wp2_with (first | ((with_reducible refine gate_callee (f := 97) rfl ?_); refine goesL_ (some 30) rfl rfl Try.func97 (by kernel_rfl) rfl #[.agg #[.int .i64 a0_0, .string a0_1], .int .i64 a1, .int .i64 a3] rfl ar ?_; (with_reducible refine (impl_Memory_within.calls a0_0 a0_1 a1 a3 true _ A30.out).mono ?_); rintro e w49 ⟨rfl, hb⟩; refine ⟨_, rfl, ?_⟩; have n0_ := Aside0.mk (blk_below (g := gb590) (o := .cells #[.int .i64 a0_0, .string a0_1] 28 (0, 0)) (bk BK590.out) hb); have n1_ := Aside0.mk (blk_below (g := gb591) (o := .cells #[.int .i64 0, .string (⟨#[]⟩ : ByteArray)] 28 (0, 0)) (bk BK591.out) hb); have n2_ := Aside0.mk (below_step (bw HB.out) hb); clear BK590; clear BK591; clear HB; have BK590 := n0_; have BK591 := n1_; have HB := n2_; clear n0_ n1_ n2_; (try clear hb); have hcz50_0 : w49.cell? ⟨gb590, 0, none⟩ = some (.int .i64 a0_0) := (blk_cell BK590.out 0).trans rfl; have hcz50_1 : w49.cell? ⟨gb590, 1, none⟩ = some (.string a0_1) := (blk_cell BK590.out 1).trans rfl; have hfz50_0 := blk_frozen BK590.out 0; have hfz50_1 := blk_frozen BK590.out 1) | (go_at_call 97; (with_reducible refine (impl_Memory_within.calls a0_0 a0_1 a2 a3 false _ A32.out).mono ?_); rintro e w51 ⟨rfl, hb⟩; have n0_ := Aside0.mk (blk_below (g := gb590) (o := .cells #[.int .i64 a0_0, .string a0_1] 28 (0, 0)) (bk BK590.out) hb); have n1_ := Aside0.mk (blk_below (g := gb591) (o := .cells #[.int .i64 0, .string (⟨#[]⟩ : ByteArray)] 28 (0, 0)) (bk BK591.out) hb); have n2_ := Aside0.mk (below_step (bw HB.out) hb); clear BK590; clear BK591; clear HB; have BK590 := n0_; have BK591 := n1_; have HB := n2_; clear n0_ n1_ n2_; (try clear hb); (try clear hb2); (try clear hk); (try clear hi); have hcz52_0 : w51.cell? ⟨gb590, 0, none⟩ = some (.int .i64 a0_0) := (blk_cell BK590.out 0).trans rfl; have hcz52_1 : w51.cell? ⟨gb590, 1, none⟩ = some (.string a0_1) := (blk_cell BK590.out 1).trans rfl; have hfz52_0 := blk_frozen BK590.out 0; have hfz52_1 := blk_frozen BK590.out 1; have hcz53_0 : w51.cell? ⟨gb591, 0, none⟩ = some (.int .i64 0) := (blk_cell BK591.out 0).trans rfl; have hcz53_1 : w51.cell? ⟨gb591, 1, none⟩ = some (.string (⟨#[]⟩ : ByteArray)) := (blk_cell BK591.out 1).trans rfl; have hfz53_0 := blk_frozen BK591.out 0; have hfz53_1 := blk_frozen BK591.out 1))
      refine bodyPost_ret (results_ct rfl _ _ gb591 28 #[.int .i64 a0_0, .string a0_1] (0, 0) _ rfl (by (with_reducible repeat (first | refine blk_drewN ?_ _ | refine blk_drew ?_ | refine blk_alloc ?_ _)); refine blk_put (cs := #[.int .i64 a0_0, .string (⟨#[]⟩ : ByteArray)]) ?_ 1 _ rfl; (with_reducible repeat (first | refine blk_drewN ?_ _ | refine blk_drew ?_ | refine blk_alloc ?_ _)); refine blk_put (cs := #[.int .i64 0, .string (⟨#[]⟩ : ByteArray)]) ?_ 0 _ rfl; (with_reducible repeat (first | refine blk_drewN ?_ _ | refine blk_drew ?_ | refine blk_alloc ?_ _)); exact BK591.out) Try.underlying28 rfl (by kernel_rfl)) rfl ?_
      exact ⟨by first | rfl | (simp [errW_none, errW_some] <;> rfl) | (simp [*, errW_none, errW_some] <;> rfl), bw HB.out⟩
    ·
     replace c31 := Bool.eq_false_iff.mpr c31
     subst c31
     have H1 : (some (a0_0, a0_1, 2)) = some (r1, r2, r3) := by rw [if_neg (show ¬ (false = true) by decide)] at H; exact H
     clear H
     have H := H1
     clear H1
     simp only [Option.some.injEq, Prod.mk.injEq] at H
     obtain ⟨rfl, rfl, rfl⟩ := H
     have hnb54 := NB590_591.out
     have hnc54 := NB591_590.out
     have hcz55_0 : wc.cell? ⟨gb590, 0, none⟩ = some (.int .i64 a0_0) := (blk_cell BK590.out 0).trans rfl
     have hcz55_1 : wc.cell? ⟨gb590, 1, none⟩ = some (.string a0_1) := (blk_cell BK590.out 1).trans rfl
     have hfz55_0 := blk_frozen BK590.out 0
     have hfz55_1 := blk_frozen BK590.out 1
     go_wp2_with (first | ((with_reducible refine gate_callee (f := 97) rfl ?_); refine goesL_ (some 30) rfl rfl Try.func97 (by kernel_rfl) rfl #[.agg #[.int .i64 a0_0, .string a0_1], .int .i64 a1, .int .i64 a3] rfl ar ?_; (with_reducible refine (impl_Memory_within.calls a0_0 a0_1 a1 a3 false _ A30.out).mono ?_); rintro e w56 ⟨rfl, hb⟩; refine ⟨_, rfl, ?_⟩; have n0_ := Aside0.mk (blk_below (g := gb590) (o := .cells #[.int .i64 a0_0, .string a0_1] 28 (0, 0)) (bk BK590.out) hb); have n1_ := Aside0.mk (blk_below (g := gb591) (o := .cells #[.int .i64 0, .string (⟨#[]⟩ : ByteArray)] 28 (0, 0)) (bk BK591.out) hb); have n2_ := Aside0.mk (below_step (bw HB.out) hb); clear BK590; clear BK591; clear HB; have BK590 := n0_; have BK591 := n1_; have HB := n2_; clear n0_ n1_ n2_; (try clear hb); have hcz57_0 : w56.cell? ⟨gb590, 0, none⟩ = some (.int .i64 a0_0) := (blk_cell BK590.out 0).trans rfl; have hcz57_1 : w56.cell? ⟨gb590, 1, none⟩ = some (.string a0_1) := (blk_cell BK590.out 1).trans rfl; have hfz57_0 := blk_frozen BK590.out 0; have hfz57_1 := blk_frozen BK590.out 1; have hcz58_0 : w56.cell? ⟨gb591, 0, none⟩ = some (.int .i64 0) := (blk_cell BK591.out 0).trans rfl; have hcz58_1 : w56.cell? ⟨gb591, 1, none⟩ = some (.string (⟨#[]⟩ : ByteArray)) := (blk_cell BK591.out 1).trans rfl; have hfz58_0 := blk_frozen BK591.out 0; have hfz58_1 := blk_frozen BK591.out 1))
     refine bodyPost_ret (results_ct rfl _ _ gb591 28 #[.int .i64 a0_0, .string a0_1] (0, 0) _ rfl (by (with_reducible repeat (first | refine blk_drewN ?_ _ | refine blk_drew ?_ | refine blk_alloc ?_ _)); refine blk_put (cs := #[.int .i64 a0_0, .string (⟨#[]⟩ : ByteArray)]) ?_ 1 _ rfl; (with_reducible repeat (first | refine blk_drewN ?_ _ | refine blk_drew ?_ | refine blk_alloc ?_ _)); refine blk_put (cs := #[.int .i64 0, .string (⟨#[]⟩ : ByteArray)]) ?_ 0 _ rfl; (with_reducible repeat (first | refine blk_drewN ?_ _ | refine blk_drew ?_ | refine blk_alloc ?_ _)); exact BK591.out) Try.underlying28 rfl (by kernel_rfl)) rfl ?_
     exact ⟨by first | rfl | (simp [errW_none, errW_some] <;> rfl) | (simp [*, errW_none, errW_some] <;> rfl), bw HB.out⟩

/-! ### spec_CopyWithin: function 53 -/
def spec_CopyWithin.j0 : Nat → Int → Int → Int → Bool → Int → ByteArray → Option (Int × ByteArray × Int)
 | 0, _, _, _, _, _, _ => none
 | k + 1, x1, x2, x3, x23, x600000, x600001 => if x23 = true then (some (x600000, x600001, 1)) else ((spec_l5Inside.f x600000 x600001 x1 x3).bind fun t602 => (if t602 = true then ((spec_l5Inside.f x600000 x600001 x2 x3).bind fun t603 => (if t603 = true then (if 0 ≤ x2 then (if x2 ≤ (wrap64 (x2 + x3)) then (if (wrap64 (x2 + x3)) ≤ (x600001.size : Int) then ((spec_l5Store.f x600000 x600001 x1 (x600001.extract (x2 : Int).toNat ((wrap64 (x2 + x3)) : Int).toNat)).bind fun bt604 => (some (bt604.1, bt604.2, 0))) else (none)) else (none)) else (none)) else (some (x600000, x600001, 2)))) else (some (x600000, x600001, 2))))
def spec_CopyWithin.f (k : Nat) (a0_0 : Int) (a0_1 : ByteArray) (a1 : Int) (a2 : Int) (a3 : Int) : Option (Int × ByteArray × Int) := (spec_GoodMemory.f a0_0 a0_1).bind fun t601 => (if t601 = true then (if a1 < 0 then (spec_CopyWithin.j0 k a1 a2 a3 true a0_0 a0_1) else (if a2 < 0 then (spec_CopyWithin.j0 k a1 a2 a3 true a0_0 a0_1) else (spec_CopyWithin.j0 k a1 a2 a3 (decide (a3 < 0)) a0_0 a0_1))) else (some (0, (⟨#[]⟩ : ByteArray), 1)))
theorem spec_CopyWithin.mono_l : ∀ k, (∀ y0 y1 y2 y3 y4 y5, LeO (spec_CopyWithin.j0 k y0 y1 y2 y3 y4 y5) (spec_CopyWithin.j0 (k + 1) y0 y1 y2 y3 y4 y5))
 | 0 => fun _ _ _ _ _ _ r h => by simp [spec_CopyWithin.j0] at h
 | k + 1 => by
  have ih0 := spec_CopyWithin.mono_l k
  ·
   intro y0 y1 y2 y3 y4 y5
   unfold spec_CopyWithin.j0
   repeat' first
   | (with_reducible exact ih0 _ _ _ _ _ _)
   | (with_reducible exact LeO.refl _)
   | (with_reducible exact LeO.none _)
   | (with_reducible refine LeO.ite ?_ ?_)
   | (with_reducible refine LeO.bind ?_ (fun _ => ?_))
   | exact ih0 _ _ _ _ _ _
   | exact LeO.none _
   | refine LeO.ite ?_ ?_
   | refine LeO.bind ?_ (fun _ => ?_)
theorem spec_CopyWithin.mono : ∀ a0 a1 a2 a3 a4 k, LeO (spec_CopyWithin.f k a0 a1 a2 a3 a4) (spec_CopyWithin.f (k + 1) a0 a1 a2 a3 a4) := by
 intro a0 a1 a2 a3 a4 k
 have ih0 := spec_CopyWithin.mono_l k
 unfold spec_CopyWithin.f
 repeat' first
   | (with_reducible exact ih0 _ _ _ _ _ _)
   | (with_reducible exact LeO.refl _)
   | (with_reducible exact LeO.none _)
   | (with_reducible refine LeO.ite ?_ ?_)
   | (with_reducible refine LeO.bind ?_ (fun _ => ?_))
   | exact ih0 _ _ _ _ _ _
   | exact LeO.none _
   | refine LeO.ite ?_ ?_
   | refine LeO.bind ?_ (fun _ => ?_)
def spec_CopyWithin.T7 : Bool × List (List Nat × List Nat) := (true, [([], []), ([], []), ([], []), ([2], [2]), ([], []), ([], []), ([], []), ([5, 6], [5, 6]), ([3, 4, 7], [3, 4, 7]), ([0, 1, 8], [0, 1, 8]), ([9, 9, 0, 1, 2, 3, 4, 5, 6, 7, 8, 9], [9]), ([10, 0, 1, 2, 3, 4, 5, 6, 7, 8, 9, 10], [])])
def spec_CopyWithin.B7 : List Nat := [0, 0, 0, 4, 0, 0, 0, 96, 252, 511, 1023, 2047]
theorem spec_CopyWithin.tab7 : rtab .any (opsOf Try.f53 7) = spec_CopyWithin.T7 := by kernel_rfl
theorem spec_CopyWithin.bits7 : waitsOk spec_CopyWithin.T7.2 spec_CopyWithin.B7 = true := by kernel_rfl
set_option maxHeartbeats 8000000 in
set_option maxRecDepth 100000 in
theorem spec_CopyWithin.calls (k : Nat) (a0_0 : Int) (a0_1 : ByteArray) (a1 : Int) (a2 : Int) (a3 : Int) (r1 : Int) (r2 : ByteArray) (r3 : Int) (w : World) (h : spec_CopyWithin.f k a0_0 a0_1 a1 a2 a3 = some (r1, r2, r3)) :
  Calls Try.prog 53 #[.agg #[.int .i64 a0_0, .string a0_1], .int .i64 a1, .int .i64 a2, .int .i64 a3] w fun e w' => e = .returned (.tuple #[.agg #[.int .i64 r1, .string r2], .int .i64 r3]) ∧ Below w.heap.size w w' := by
 have hu28 := Try.underlying28
 have HB := Aside0.mk (Below.refl w.heap.size w)
 have H : ((spec_GoodMemory.f a0_0 a0_1).bind fun t601 => (if t601 = true then (if a1 < 0 then (spec_CopyWithin.j0 k a1 a2 a3 true a0_0 a0_1) else (if a2 < 0 then (spec_CopyWithin.j0 k a1 a2 a3 true a0_0 a0_1) else (spec_CopyWithin.j0 k a1 a2 a3 (decide (a3 < 0)) a0_0 a0_1))) else (some (0, (⟨#[]⟩ : ByteArray), 1)))) = some (r1, r2, r3) := h
 clear h
 replace H := Option.bind_eq_some_iff.mp H
 obtain ⟨t601, A50, H⟩ := H
 replace H : (if t601 = true then (if a1 < 0 then (spec_CopyWithin.j0 k a1 a2 a3 true a0_0 a0_1) else (if a2 < 0 then (spec_CopyWithin.j0 k a1 a2 a3 true a0_0 a0_1) else (spec_CopyWithin.j0 k a1 a2 a3 (decide (a3 < 0)) a0_0 a0_1))) else (some (0, (⟨#[]⟩ : ByteArray), 1))) = some (r1, r2, r3) := H
 have A5 := Aside0.mk A50
 clear A50
 by_cases c6 : t601 = true
 ·
  subst c6
  have H1 : (if a1 < 0 then (spec_CopyWithin.j0 k a1 a2 a3 true a0_0 a0_1) else (if a2 < 0 then (spec_CopyWithin.j0 k a1 a2 a3 true a0_0 a0_1) else (spec_CopyWithin.j0 k a1 a2 a3 (decide (a3 < 0)) a0_0 a0_1))) = some (r1, r2, r3) := by rw [if_pos rfl] at H; exact H
  clear H
  have H := H1
  clear H1
  have HC7 := Aside0.mk H
  clear H
  go_enter Try.func53, Try.ntmps53
  go_upto_region 3 with (first | ((with_reducible refine gate_dst (N := 4) rfl ?_); refine box_event ?hg (N := 4) ?hd (cs := #[.int .i64 a0_0, .string a0_1]) (t := 28) ?hr ?_; (case hd => rfl); (case hg => rfl); (case hr => first | (go_simp; done) | (go_simp; rfl)); intro gb599 hg w8 hbox hb; have n0_ := Aside0.mk (below_step (bw HB.out) hb); have n1_ := Aside0.mk (hbox); have n2_ := Aside0.mk ((by rw [hg]; exact (below_size (bw HB.out)) : w.heap.size ≤ gb599)); have n3_ := Aside0.mk ((by rw [hg]; exact (below_size (bw HB.out)) : w.heap.size ≤ gb599)); clear HB; have HB := n0_; have BK599 := n1_; have GW599 := n2_; have GE599 := n3_; clear n0_ n1_ n2_ n3_; clear hb hbox hg) | ((with_reducible refine gate_dst (N := 8) rfl ?_); refine box_event ?hg (N := 8) ?hd (cs := #[.int .i64 0, .string (⟨#[]⟩ : ByteArray)]) (t := 28) ?hr ?_; (case hd => rfl); (case hg => rfl); (case hr => first | (go_simp; done) | (go_simp; rfl)); intro gb600 hg w9 hbox hb; have n0_ := Aside0.mk (blk_below (g := gb599) (o := .cells #[.int .i64 a0_0, .string a0_1] 28 (0, 0)) (bk BK599.out) hb); have n1_ := Aside0.mk (below_step (bw HB.out) hb); have n2_ := Aside0.mk (hbox); have n3_ := Aside0.mk ((by rw [hg]; exact (below_size (bw HB.out)) : w.heap.size ≤ gb600)); have n4_ := Aside0.mk ((by rw [hg]; exact (below_size (bw HB.out)) : w.heap.size ≤ gb600)); have n5_ := Aside0.mk ((by rw [hg]; exact Nat.ne_of_lt (blk_lt (g := gb599) (o := .cells #[.int .i64 a0_0, .string a0_1] 28 (0, 0)) (bk BK599.out)) : gb599 ≠ gb600)); have n6_ := Aside0.mk ((by rw [hg]; exact Nat.ne_of_gt (blk_lt (g := gb599) (o := .cells #[.int .i64 a0_0, .string a0_1] 28 (0, 0)) (bk BK599.out)) : gb600 ≠ gb599)); clear BK599; clear HB; have BK599 := n0_; have HB := n1_; have BK600 := n2_; have GW600 := n3_; have GE600 := n4_; have NB599_600 := n5_; have NB600_599 := n6_; clear n0_ n1_ n2_ n3_ n4_ n5_ n6_; clear hb hbox hg; have hnb10 := NB599_600.out; have hnc10 := NB600_599.out; have hcz11_0 : w9.cell? ⟨gb599, 0, none⟩ = some (.int .i64 a0_0) := (blk_cell BK599.out 0).trans rfl; have hcz11_1 : w9.cell? ⟨gb599, 1, none⟩ = some (.string a0_1) := (blk_cell BK599.out 1).trans rfl; have hfz11_0 := blk_frozen BK599.out 0; have hfz11_1 := blk_frozen BK599.out 1) | ((with_reducible refine gate_callee (f := 57) rfl ?_); refine goesL_ (some 11) rfl rfl Try.func57 (by kernel_rfl) rfl #[.agg #[.int .i64 a0_0, .string a0_1]] rfl ar ?_; (with_reducible refine (spec_GoodMemory.calls a0_0 a0_1 true _ A5.out).mono ?_); rintro e w12 ⟨rfl, hb⟩; refine ⟨_, rfl, ?_⟩; have n0_ := Aside0.mk (blk_below (g := gb599) (o := .cells #[.int .i64 a0_0, .string a0_1] 28 (0, 0)) (bk BK599.out) hb); have n1_ := Aside0.mk (blk_below (g := gb600) (o := .cells #[.int .i64 0, .string (⟨#[]⟩ : ByteArray)] 28 (0, 0)) (bk BK600.out) hb); have n2_ := Aside0.mk (below_step (bw HB.out) hb); clear BK599; clear BK600; clear HB; have BK599 := n0_; have BK600 := n1_; have HB := n2_; clear n0_ n1_ n2_; (try clear hb)))
  (try simp only [Act.put, List.setIfInBounds_toArray, List.set_cons_zero, List.set_cons_succ])
  go_cut [23] (fun v23 wc => ∃ (kq : Nat) (x23_6 : Bool), v23 = .bool x23_6 ∧ Aside0 (spec_CopyWithin.j0 kq a1 a2 a3 x23_6 a0_0 a0_1 = some (r1, r2, r3)) ∧ Aside0 (kq ≤ k) ∧ Aside0 (wc.heap[gb599]? = some (.cells #[.int .i64 a0_0, .string a0_1] 28 (0, 0))) ∧ Aside0 (wc.heap[gb600]? = some (.cells #[.int .i64 0, .string (⟨#[]⟩ : ByteArray)] 28 (0, 0))) ∧ Aside0 (Below w.heap.size w wc))
  case first =>
   have H := HC7.out
   clear HC7
   by_cases c13 : a1 < 0
   ·
    rw [if_pos c13] at H
    have c13b0 : decide (a1 < 0) = true := decide_eq_true c13
    clear c13
    (first | rw [c13b0] | (simp only [i64_w, i32_w]; rw [c13b0]) | skip)
    have H' := Aside0.mk H
    clear H
    go_wp2
    go_meet
    case rel => exact ⟨_, (true), (by first | rfl | (simp; done) | (simp [*]; done)), H', ⟨by first | omega | exact Nat.le_refl _⟩, ⟨bk BK599.out⟩, ⟨bk BK600.out⟩, ⟨bw HB.out⟩⟩
   ·
    rw [if_neg c13] at H
    have c13b0 : decide (a1 < 0) = false := decide_eq_false c13
    clear c13
    (first | rw [c13b0] | (simp only [i64_w, i32_w]; rw [c13b0]) | skip)
    by_cases c14 : a2 < 0
    ·
     rw [if_pos c14] at H
     have c14b0 : decide (a2 < 0) = true := decide_eq_true c14
     clear c14
     have H' := Aside0.mk H
     clear H
     go_wp2
     go_meet
     case rel => exact ⟨_, (true), (by first | rfl | (simp; done) | (simp [*]; done)), H', ⟨by first | omega | exact Nat.le_refl _⟩, ⟨bk BK599.out⟩, ⟨bk BK600.out⟩, ⟨bw HB.out⟩⟩
    ·
     rw [if_neg c14] at H
     have c14b0 : decide (a2 < 0) = false := decide_eq_false c14
     clear c14
     have H' := Aside0.mk H
     clear H
     go_wp2
     go_meet
     case rel => exact ⟨_, (decide (a3 < 0)), (by first | rfl | (simp; done) | (simp [*]; done)), H', ⟨by first | omega | exact Nat.le_refl _⟩, ⟨bk BK599.out⟩, ⟨bk BK600.out⟩, ⟨bw HB.out⟩⟩
  case rest =>
   clear HC7
   try clear c1
   try clear p2
   try clear c5
   try clear c6
   try clear c10
   try clear c13
   try clear c13b0
   try clear c14
   try clear c14b0
   try clear hcz11_0 hcz11_1
   try clear hfz11_0 hfz11_1
   obtain ⟨kq, x23_6, rfl, HA, HJ6, BK599, BK600, HB⟩ := hcut
   cases kq with
   | zero => exact absurd HA.out (by simp [spec_CopyWithin.j0])
   | succ kj6 =>
    have H := HA.out
    clear HA
    simp only [spec_CopyWithin.j0] at H
    by_cases c15 : x23_6 = true
    ·
     subst c15
     have H1 : (some (a0_0, a0_1, 1)) = some (r1, r2, r3) := by rw [if_pos rfl] at H; exact H
     clear H
     have H := H1
     clear H1
     simp only [Option.some.injEq, Prod.mk.injEq] at H
     obtain ⟨rfl, rfl, rfl⟩ := H
     have hnb16 := NB599_600.out
     have hnc16 := NB600_599.out
     have hcz17_0 : wc.cell? ⟨gb599, 0, none⟩ = some (.int .i64 a0_0) := (blk_cell BK599.out 0).trans rfl
     have hcz17_1 : wc.cell? ⟨gb599, 1, none⟩ = some (.string a0_1) := (blk_cell BK599.out 1).trans rfl
     have hfz17_0 := blk_frozen BK599.out 0
     have hfz17_1 := blk_frozen BK599.out 1
     have hcz18_0 : wc.cell? ⟨gb600, 0, none⟩ = some (.int .i64 0) := (blk_cell BK600.out 0).trans rfl
     have hcz18_1 : wc.cell? ⟨gb600, 1, none⟩ = some (.string (⟨#[]⟩ : ByteArray)) := (blk_cell BK600.out 1).trans rfl
     have hfz18_0 := blk_frozen BK600.out 0
     have hfz18_1 := blk_frozen BK600.out 1
     go_wp2
     refine bodyPost_ret (results_ct rfl _ _ gb600 28 #[.int .i64 a0_0, .string a0_1] (0, 0) _ rfl (by (with_reducible repeat (first | refine blk_drewN ?_ _ | refine blk_drew ?_ | refine blk_alloc ?_ _)); refine blk_put (cs := #[.int .i64 a0_0, .string (⟨#[]⟩ : ByteArray)]) ?_ 1 _ rfl; (with_reducible repeat (first | refine blk_drewN ?_ _ | refine blk_drew ?_ | refine blk_alloc ?_ _)); refine blk_put (cs := #[.int .i64 0, .string (⟨#[]⟩ : ByteArray)]) ?_ 0 _ rfl; (with_reducible repeat (first | refine blk_drewN ?_ _ | refine blk_drew ?_ | refine blk_alloc ?_ _)); exact BK600.out) Try.underlying28 rfl (by kernel_rfl)) rfl ?_
     exact ⟨by first | rfl | (simp [errW_none, errW_some] <;> rfl) | (simp [*, errW_none, errW_some] <;> rfl), bw HB.out⟩
    ·
     replace c15 := Bool.eq_false_iff.mpr c15
     subst c15
     have H1 : ((spec_l5Inside.f a0_0 a0_1 a1 a3).bind fun t602 => (if t602 = true then ((spec_l5Inside.f a0_0 a0_1 a2 a3).bind fun t603 => (if t603 = true then (if 0 ≤ a2 then (if a2 ≤ (wrap64 (a2 + a3)) then (if (wrap64 (a2 + a3)) ≤ (a0_1.size : Int) then ((spec_l5Store.f a0_0 a0_1 a1 (a0_1.extract (a2 : Int).toNat ((wrap64 (a2 + a3)) : Int).toNat)).bind fun bt604 => (some (bt604.1, bt604.2, 0))) else (none)) else (none)) else (none)) else (some (a0_0, a0_1, 2)))) else (some (a0_0, a0_1, 2)))) = some (r1, r2, r3) := by rw [if_neg (show ¬ (false = true) by decide)] at H; exact H
     clear H
     have H := H1
     clear H1
     replace H := Option.bind_eq_some_iff.mp H
     obtain ⟨t602, A190, H⟩ := H
     replace H : (if t602 = true then ((spec_l5Inside.f a0_0 a0_1 a2 a3).bind fun t603 => (if t603 = true then (if 0 ≤ a2 then (if a2 ≤ (wrap64 (a2 + a3)) then (if (wrap64 (a2 + a3)) ≤ (a0_1.size : Int) then ((spec_l5Store.f a0_0 a0_1 a1 (a0_1.extract (a2 : Int).toNat ((wrap64 (a2 + a3)) : Int).toNat)).bind fun bt604 => (some (bt604.1, bt604.2, 0))) else (none)) else (none)) else (none)) else (some (a0_0, a0_1, 2)))) else (some (a0_0, a0_1, 2))) = some (r1, r2, r3) := H
     have A19 := Aside0.mk A190
     clear A190
     by_cases c20 : t602 = true
     ·
      subst c20
      have H1 : ((spec_l5Inside.f a0_0 a0_1 a2 a3).bind fun t603 => (if t603 = true then (if 0 ≤ a2 then (if a2 ≤ (wrap64 (a2 + a3)) then (if (wrap64 (a2 + a3)) ≤ (a0_1.size : Int) then ((spec_l5Store.f a0_0 a0_1 a1 (a0_1.extract (a2 : Int).toNat ((wrap64 (a2 + a3)) : Int).toNat)).bind fun bt604 => (some (bt604.1, bt604.2, 0))) else (none)) else (none)) else (none)) else (some (a0_0, a0_1, 2)))) = some (r1, r2, r3) := by rw [if_pos rfl] at H; exact H
      clear H
      have H := H1
      clear H1
      replace H := Option.bind_eq_some_iff.mp H
      obtain ⟨t603, A210, H⟩ := H
      replace H : (if t603 = true then (if 0 ≤ a2 then (if a2 ≤ (wrap64 (a2 + a3)) then (if (wrap64 (a2 + a3)) ≤ (a0_1.size : Int) then ((spec_l5Store.f a0_0 a0_1 a1 (a0_1.extract (a2 : Int).toNat ((wrap64 (a2 + a3)) : Int).toNat)).bind fun bt604 => (some (bt604.1, bt604.2, 0))) else (none)) else (none)) else (none)) else (some (a0_0, a0_1, 2))) = some (r1, r2, r3) := H
      have A21 := Aside0.mk A210
      clear A210
      by_cases c22 : t603 = true
      ·
       subst c22
       have H1 : (if 0 ≤ a2 then (if a2 ≤ (wrap64 (a2 + a3)) then (if (wrap64 (a2 + a3)) ≤ (a0_1.size : Int) then ((spec_l5Store.f a0_0 a0_1 a1 (a0_1.extract (a2 : Int).toNat ((wrap64 (a2 + a3)) : Int).toNat)).bind fun bt604 => (some (bt604.1, bt604.2, 0))) else (none)) else (none)) else (none)) = some (r1, r2, r3) := by rw [if_pos rfl] at H; exact H
       clear H
       have H := H1
       clear H1
       by_cases c23 : 0 ≤ a2
       ·
        rw [if_pos c23] at H
        have c23b0 := eq_true c23
        have c23b1 : decide (0 ≤ a2) = true := decide_eq_true c23
        clear c23
        by_cases c24 : a2 ≤ (wrap64 (a2 + a3))
        ·
         rw [if_pos c24] at H
         have c24b0 := eq_true c24
         have c24b1 : decide (a2 ≤ (wrap64 (a2 + a3))) = true := decide_eq_true c24
         by_cases c25 : (wrap64 (a2 + a3)) ≤ (a0_1.size : Int)
         ·
          rw [if_pos c25] at H
          have c25b0 := eq_true c25
          have c25b1 : decide ((wrap64 (a2 + a3)) ≤ (a0_1.size : Int)) = true := decide_eq_true c25
          replace H := Option.bind_eq_some_iff.mp H
          obtain ⟨⟨t604, t605⟩, A260, H⟩ := H
          replace H : (some (t604, t605, 0)) = some (r1, r2, r3) := H
          have A26 := Aside0.mk A260
          clear A260
          simp only [Option.some.injEq, Prod.mk.injEq] at H
          obtain ⟨rfl, rfl, rfl⟩ := H
          have hnb27 := NB599_600.out
          have hnc27 := NB600_599.out
          have hcz28_0 : wc.cell? ⟨gb599, 0, none⟩ = some (.int .i64 a0_0) := (blk_cell BK599.out 0).trans rfl
          have hcz28_1 : wc.cell? ⟨gb599, 1, none⟩ = some (.string a0_1) := (blk_cell BK599.out 1).trans rfl
          have hfz28_0 := blk_frozen BK599.out 0
          have hfz28_1 := blk_frozen BK599.out 1
          try go_wp2_with (first | ((with_reducible refine gate_callee (f := 99) rfl ?_); refine goesL_ (some 28) rfl rfl Try.func99 (by kernel_rfl) rfl #[.agg #[.int .i64 a0_0, .string a0_1], .int .i64 a1, .int .i64 a3] rfl ar ?_; (with_reducible refine (spec_l5Inside.calls a0_0 a0_1 a1 a3 true _ A19.out).mono ?_); rintro e w29 ⟨rfl, hb⟩; refine ⟨_, rfl, ?_⟩; have n0_ := Aside0.mk (blk_below (g := gb599) (o := .cells #[.int .i64 a0_0, .string a0_1] 28 (0, 0)) (bk BK599.out) hb); have n1_ := Aside0.mk (blk_below (g := gb600) (o := .cells #[.int .i64 0, .string (⟨#[]⟩ : ByteArray)] 28 (0, 0)) (bk BK600.out) hb); have n2_ := Aside0.mk (below_step (bw HB.out) hb); clear BK599; clear BK600; clear HB; have BK599 := n0_; have BK600 := n1_; have HB := n2_; clear n0_ n1_ n2_; (try clear hb); have hcz30_0 : w29.cell? ⟨gb599, 0, none⟩ = some (.int .i64 a0_0) := (blk_cell BK599.out 0).trans rfl; have hcz30_1 : w29.cell? ⟨gb599, 1, none⟩ = some (.string a0_1) := (blk_cell BK599.out 1).trans rfl; have hfz30_0 := blk_frozen BK599.out 0; have hfz30_1 := blk_frozen BK599.out 1) | (go_at_call 99; (with_reducible refine (spec_l5Inside.calls a0_0 a0_1 a2 a3 true _ A21.out).mono ?_); rintro e w31 ⟨rfl, hb⟩; have n0_ := Aside0.mk (blk_below (g := gb599) (o := .cells #[.int .i64 a0_0, .string a0_1] 28 (0, 0)) (bk BK599.out) hb); have n1_ := Aside0.mk (blk_below (g := gb600) (o := .cells #[.int .i64 0, .string (⟨#[]⟩ : ByteArray)] 28 (0, 0)) (bk BK600.out) hb); have n2_ := Aside0.mk (below_step (bw HB.out) hb); clear BK599; clear BK600; clear HB; have BK599 := n0_; have BK600 := n1_; have HB := n2_; clear n0_ n1_ n2_; (try clear hb); (try clear hb2); (try clear hk); (try clear hi)))
          have n0_ := Aside0.mk (blk_drew BK599.out)
          have n1_ := Aside0.mk (blk_drew BK600.out)
          have n2_ := Aside0.mk (below_drew1 HB.out)
          clear BK599
          clear BK600
          clear HB
          have BK599 := n0_
          have BK600 := n1_
          have HB := n2_
          clear n0_ n1_ n2_
          refine start_ (n := 12) (S := fun w' => w'.cell? ⟨gb599, 0, none⟩ = some (.int .i64 a0_0) ∧ w'.cell? ⟨gb599, 1, none⟩ = some (.string a0_1)) (ds := []) #[false, false, false, false, false, false, false, false, false, false, false, false] (by kernel_rfl) rfl rfl ⟨(blk_cell BK599.out 0).trans rfl, (blk_cell BK599.out 1).trans rfl⟩ (fun hHeld => ?_); refine with_tabW spec_CopyWithin.tab7 spec_CopyWithin.bits7 (fun HT_ HW_ => ?_)
          generalize w31.drew = w32 at BK599 BK600 HB hHeld ⊢
          refine pure_ (i := 1) (N := some 39) (v := ?_) (a' := ?_) #[false, true, false, false, false, false, false, false, false, false, false, false] rfl rfl (any_of HT_.out (by kernel_rfl)) (fun _ _ _ h => h) (Or.inl ⟨by rfl, ?_⟩) ?_ ?_
          rotate_left
          ·
           intro w'
           go_simp
           with_reducible rfl
          rotate_left
          ·
           simp only [Act.put, List.setIfInBounds_toArray, List.set_cons_zero, List.set_cons_succ, i64_w, i32_w]
           rfl
          refine pure_ (i := 2) (N := some 40) (v := ?_) (a' := ?_) #[false, true, true, false, false, false, false, false, false, false, false, false] rfl rfl (any_of HT_.out (by kernel_rfl)) (fun _ _ _ h => h) (Or.inl ⟨by rfl, ?_⟩) ?_ ?_
          rotate_left
          ·
           intro w'
           go_simp
           with_reducible rfl
          rotate_left
          ·
           simp only [Act.put, List.setIfInBounds_toArray, List.set_cons_zero, List.set_cons_succ, i64_w, i32_w]
           rfl
          refine pure_ (i := 4) (N := some 42) (v := ?_) (a' := ?_) #[false, true, true, false, true, false, false, false, false, false, false, false] rfl rfl (any_of HT_.out (by kernel_rfl)) (fun _ _ _ h => h) (Or.inl ⟨by rfl, ?_⟩) ?_ ?_
          rotate_left
          ·
           intro w'
           go_simp
           with_reducible rfl
          rotate_left
          ·
           simp only [Act.put, List.setIfInBounds_toArray, List.set_cons_zero, List.set_cons_succ, i64_w, i32_w]
           rfl
          refine pure_ (i := 5) (N := some 43) (v := ?_) (a' := ?_) #[false, true, true, false, true, true, false, false, false, false, false, false] rfl rfl (any_of HT_.out (by kernel_rfl)) (fun _ _ _ h => h) (Or.inl ⟨by rfl, ?_⟩) ?_ ?_
          rotate_left
          ·
           intro w'
           go_simp
           with_reducible rfl
          rotate_left
          ·
           simp only [Act.put, List.setIfInBounds_toArray, List.set_cons_zero, List.set_cons_succ, i64_w, i32_w]
           rfl
          refine pure_ (i := 6) (N := some 44) (v := ?_) (a' := ?_) #[false, true, true, false, true, true, true, false, false, false, false, false] rfl rfl (any_of HT_.out (by kernel_rfl)) (fun _ _ _ h => h) (Or.inl ⟨by rfl, ?_⟩) ?_ ?_
          rotate_left
          ·
           intro w'
           go_simp
           with_reducible rfl
          rotate_left
          ·
           simp only [Act.put, List.setIfInBounds_toArray, List.set_cons_zero, List.set_cons_succ, i64_w, i32_w]
           rfl
          refine pure_ (i := 7) (N := some 45) (v := ?_) (a' := ?_) #[false, true, true, false, true, true, true, true, false, false, false, false] rfl rfl (any_of HT_.out (by kernel_rfl)) (fun _ _ _ h => h) (Or.inl ⟨by rfl, ?_⟩) ?_ ?_
          rotate_left
          ·
           intro w'
           go_simp
           with_reducible rfl
          rotate_left
          ·
           simp only [Act.put, List.setIfInBounds_toArray, List.set_cons_zero, List.set_cons_succ, i64_w, i32_w]
           rfl
          refine take_ (i := 0) (N := some 38) (v := ?_) (a' := ?_) #[true, true, true, false, true, true, true, true, false, false, false, false] rfl rfl (take_ofW HT_.out HW_.out (by kernel_rfl)) (fun _ _ _ h => h) (Or.inl ⟨by rfl, ?_⟩) hHeld ?_ ?_
          rotate_left
          ·
           rintro w' ⟨s0, s1⟩
           go_simp
           with_reducible rfl
          rotate_left
          ·
           simp only [Act.put, List.setIfInBounds_toArray, List.set_cons_zero, List.set_cons_succ, i64_w, i32_w]
           rfl
          refine take_ (i := 3) (N := some 41) (v := ?_) (a' := ?_) #[true, true, true, true, true, true, true, true, false, false, false, false] rfl rfl (take_ofW HT_.out HW_.out (by kernel_rfl)) (fun _ _ _ h => h) (Or.inl ⟨by rfl, ?_⟩) hHeld ?_ ?_
          rotate_left
          ·
           rintro w' ⟨s0, s1⟩
           go_simp
           with_reducible rfl
          rotate_left
          ·
           simp only [Act.put, List.setIfInBounds_toArray, List.set_cons_zero, List.set_cons_succ, i64_w, i32_w]
           rfl
          refine pure_ (i := 8) (N := some 46) (v := ?_) (a' := ?_) #[true, true, true, true, true, true, true, true, true, false, false, false] rfl rfl (any_of HT_.out (by kernel_rfl)) (fun _ _ _ h => h) (Or.inl ⟨by rfl, ?_⟩) ?_ ?_
          rotate_left
          ·
           intro w'
           go_simp
           with_reducible rfl
          rotate_left
          ·
           simp only [Act.put, List.setIfInBounds_toArray, List.set_cons_zero, List.set_cons_succ, i64_w, i32_w]
           rfl
          refine one_ (i := 9) (N := some 47) #[true, true, true, true, true, true, true, true, true, true, false, false] rfl rfl (one_of HT_.out (by kernel_rfl)) (by decide) (fun K hK => ?_)
          refine goes_ Try.func100 (by kernel_rfl) rfl #[.agg #[.int .i64 a0_0, .string a0_1], .int .i64 a1, .string (a0_1.extract (a2 : Int).toNat ((wrap64 (a2 + a3)) : Int).toNat)] (by rfl) rfl rfl ar ?_
          with_reducible refine (spec_l5Store.calls a0_0 a0_1 a1 (a0_1.extract (a2 : Int).toNat ((wrap64 (a2 + a3)) : Int).toNat) t604 t605 _ A26.out).mono ?_
          rintro e w33 ⟨rfl, hb⟩
          refine ⟨_, rfl, ?_⟩
          have n0_ := Aside0.mk (blk_below (g := gb599) (o := .cells #[.int .i64 a0_0, .string a0_1] 28 (0, 0)) (bk BK599.out) hb)
          have n1_ := Aside0.mk (blk_below (g := gb600) (o := .cells #[.int .i64 0, .string (⟨#[]⟩ : ByteArray)] 28 (0, 0)) (bk BK600.out) hb)
          have n2_ := Aside0.mk (below_step (bw HB.out) hb)
          clear BK599
          clear BK600
          clear HB
          have BK599 := n0_
          have BK600 := n1_
          have HB := n2_
          clear n0_ n1_ n2_
          (try clear hb)
          (try clear hb2)
          (try clear hk)
          (try clear hi)
          refine hK.out _ _ ⟨(blk_cell BK599.out 0).trans rfl, (blk_cell BK599.out 1).trans rfl⟩ (fun hHeld => ?_)
          clear hK K
          refine norm_ (a' := ?_) ?_ ?_
          rotate_left
          ·
           show Act.put _ (some 47) _ = _
           simp only [Act.put, List.setIfInBounds_toArray, List.set_cons_zero, List.set_cons_succ, i64_w, i32_w]
           rfl
          refine one_ (i := 10) (N := none) #[true, true, true, true, true, true, true, true, true, true, true, false] rfl rfl (one_of HT_.out (by kernel_rfl)) (by decide) (fun K hK => ?_)
          have hs34 : w33.cell? ⟨gb600, 0, none⟩ = some (.int .i64 0) := (blk_cell BK600.out 0).trans rfl
          have hfs34 := blk_frozen BK600.out 0
          have hns34_0 := NB599_600.out
          have hms34_0 := NB600_599.out
          have hs35 : w33.cell? ⟨gb600, 1, none⟩ = some (.string (⟨#[]⟩ : ByteArray)) := (blk_cell BK600.out 1).trans rfl
          have hfs35 := blk_frozen BK600.out 1
          have hns35_0 := NB599_600.out
          have hms35_0 := NB600_599.out
          refine skip_ (w1 := ?_) (by rfl) rfl ?_ ?_
          rotate_left
          ·
           go_simp
           rfl
          refine hK.out _ _ ⟨((cell_far (p := ⟨gb600, _, none⟩) NB599_600.out _).trans (((cell_far (p := ⟨gb600, _, none⟩) NB599_600.out _).trans (hHeld.1)))), ((cell_far (p := ⟨gb600, _, none⟩) NB599_600.out _).trans (((cell_far (p := ⟨gb600, _, none⟩) NB599_600.out _).trans (hHeld.2))))⟩ (fun hHeld => ?_)
          clear hK K
          refine pure_ (i := 11) (N := some 9) (v := ?_) (a' := ?_) #[true, true, true, true, true, true, true, true, true, true, true, true] rfl rfl (any_of HT_.out (by kernel_rfl)) (fun _ _ _ h => h) (Or.inl ⟨by rfl, ?_⟩) ?_ ?_
          rotate_left
          ·
           intro w'
           go_simp
           with_reducible rfl
          rotate_left
          ·
           simp only [Act.put, List.setIfInBounds_toArray, List.set_cons_zero, List.set_cons_succ, i64_w, i32_w]
           rfl
          refine done_ (done_of HT_.out (by kernel_rfl)) ?_
          try go_wp2
          refine bodyPost_ret (results_ct rfl _ _ gb600 28 #[.int .i64 t604, .string t605] (0, 0) _ rfl (by (with_reducible repeat (first | refine blk_drewN ?_ _ | refine blk_drew ?_ | refine blk_alloc ?_ _)); refine blk_put (cs := #[.int .i64 t604, .string (⟨#[]⟩ : ByteArray)]) ?_ 1 _ rfl; (with_reducible repeat (first | refine blk_drewN ?_ _ | refine blk_drew ?_ | refine blk_alloc ?_ _)); refine blk_put (cs := #[.int .i64 0, .string (⟨#[]⟩ : ByteArray)]) ?_ 0 _ rfl; (with_reducible repeat (first | refine blk_drewN ?_ _ | refine blk_drew ?_ | refine blk_alloc ?_ _)); exact BK600.out) Try.underlying28 rfl (by kernel_rfl)) rfl ?_
          exact ⟨by first | rfl | (simp [errW_none, errW_some] <;> rfl) | (simp [*, errW_none, errW_some] <;> rfl), bw HB.out⟩
         ·
          rw [if_neg c25] at H
          exact absurd H (by simp)
        ·
         rw [if_neg c24] at H
         exact absurd H (by simp)
       ·
        rw [if_neg c23] at H
        exact absurd H (by simp)
      ·
       replace c22 := Bool.eq_false_iff.mpr c22
       subst c22
       have H1 : (some (a0_0, a0_1, 2)) = some (r1, r2, r3) := by rw [if_neg (show ¬ (false = true) by decide)] at H; exact H
       clear H
       have H := H1
       clear H1
       simp only [Option.some.injEq, Prod.mk.injEq] at H
       obtain ⟨rfl, rfl, rfl⟩ := H
       have hnb36 := NB599_600.out
       have hnc36 := NB600_599.out
       have hcz37_0 : wc.cell? ⟨gb599, 0, none⟩ = some (.int .i64 a0_0) := (blk_cell BK599.out 0).trans rfl
       have hcz37_1 : wc.cell? ⟨gb599, 1, none⟩ = some (.string a0_1) := (blk_cell BK599.out 1).trans rfl
       have hfz37_0 := blk_frozen BK599.out 0
       have hfz37_1 := blk_frozen BK599.out 1
       go_wp2_with (first | ((with_reducible refine gate_callee (f := 99) rfl ?_); refine goesL_ (some 28) rfl rfl Try.func99 (by kernel_rfl) rfl #[.agg #[.int .i64 a0_0, .string a0_1], .int .i64 a1, .int .i64 a3] rfl ar ?_; (with_reducible refine (spec_l5Inside.calls a0_0 a0_1 a1 a3 true _ A19.out).mono ?_); rintro e w38 ⟨rfl, hb⟩; refine ⟨_, rfl, ?_⟩; have n0_ := Aside0.mk (blk_below (g := gb599) (o := .cells #[.int .i64 a0_0, .string a0_1] 28 (0, 0)) (bk BK599.out) hb); have n1_ := Aside0.mk (blk_below (g := gb600) (o := .cells #[.int .i64 0, .string (⟨#[]⟩ : ByteArray)] 28 (0, 0)) (bk BK600.out) hb); have n2_ := Aside0.mk (below_step (bw HB.out) hb); clear BK599; clear BK600; clear HB; have BK599 := n0_; have BK600 := n1_; have HB := n2_; clear n0_ n1_ n2_; (try clear hb); have hcz39_0 : w38.cell? ⟨gb599, 0, none⟩ = some (.int .i64 a0_0) := (blk_cell BK599.out 0).trans rfl; have hcz39_1 : w38.cell? ⟨gb599, 1, none⟩ = some (.string a0_1) := (blk_cell BK599.out 1).trans rfl; have hfz39_0 := blk_frozen BK599.out 0; have hfz39_1 := blk_frozen BK599.out 1) | (go_at_call 99; (with_reducible refine (spec_l5Inside.calls a0_0 a0_1 a2 a3 false _ A21.out).mono ?_); rintro e w40 ⟨rfl, hb⟩; have n0_ := Aside0.mk (blk_below (g := gb599) (o := .cells #[.int .i64 a0_0, .string a0_1] 28 (0, 0)) (bk BK599.out) hb); have n1_ := Aside0.mk (blk_below (g := gb600) (o := .cells #[.int .i64 0, .string (⟨#[]⟩ : ByteArray)] 28 (0, 0)) (bk BK600.out) hb); have n2_ := Aside0.mk (below_step (bw HB.out) hb); clear BK599; clear BK600; clear HB; have BK599 := n0_; have BK600 := n1_; have HB := n2_; clear n0_ n1_ n2_; (try clear hb); (try clear hb2); (try clear hk); (try clear hi); have hcz41_0 : w40.cell? ⟨gb599, 0, none⟩ = some (.int .i64 a0_0) := (blk_cell BK599.out 0).trans rfl; have hcz41_1 : w40.cell? ⟨gb599, 1, none⟩ = some (.string a0_1) := (blk_cell BK599.out 1).trans rfl; have hfz41_0 := blk_frozen BK599.out 0; have hfz41_1 := blk_frozen BK599.out 1; have hcz42_0 : w40.cell? ⟨gb600, 0, none⟩ = some (.int .i64 0) := (blk_cell BK600.out 0).trans rfl; have hcz42_1 : w40.cell? ⟨gb600, 1, none⟩ = some (.string (⟨#[]⟩ : ByteArray)) := (blk_cell BK600.out 1).trans rfl; have hfz42_0 := blk_frozen BK600.out 0; have hfz42_1 := blk_frozen BK600.out 1))
       refine bodyPost_ret (results_ct rfl _ _ gb600 28 #[.int .i64 a0_0, .string a0_1] (0, 0) _ rfl (by (with_reducible repeat (first | refine blk_drewN ?_ _ | refine blk_drew ?_ | refine blk_alloc ?_ _)); refine blk_put (cs := #[.int .i64 a0_0, .string (⟨#[]⟩ : ByteArray)]) ?_ 1 _ rfl; (with_reducible repeat (first | refine blk_drewN ?_ _ | refine blk_drew ?_ | refine blk_alloc ?_ _)); refine blk_put (cs := #[.int .i64 0, .string (⟨#[]⟩ : ByteArray)]) ?_ 0 _ rfl; (with_reducible repeat (first | refine blk_drewN ?_ _ | refine blk_drew ?_ | refine blk_alloc ?_ _)); exact BK600.out) Try.underlying28 rfl (by kernel_rfl)) rfl ?_
       exact ⟨by first | rfl | (simp [errW_none, errW_some] <;> rfl) | (simp [*, errW_none, errW_some] <;> rfl), bw HB.out⟩
     ·
      replace c20 := Bool.eq_false_iff.mpr c20
      subst c20
      have H1 : (some (a0_0, a0_1, 2)) = some (r1, r2, r3) := by rw [if_neg (show ¬ (false = true) by decide)] at H; exact H
      clear H
      have H := H1
      clear H1
      simp only [Option.some.injEq, Prod.mk.injEq] at H
      obtain ⟨rfl, rfl, rfl⟩ := H
      have hnb43 := NB599_600.out
      have hnc43 := NB600_599.out
      have hcz44_0 : wc.cell? ⟨gb599, 0, none⟩ = some (.int .i64 a0_0) := (blk_cell BK599.out 0).trans rfl
      have hcz44_1 : wc.cell? ⟨gb599, 1, none⟩ = some (.string a0_1) := (blk_cell BK599.out 1).trans rfl
      have hfz44_0 := blk_frozen BK599.out 0
      have hfz44_1 := blk_frozen BK599.out 1
      go_wp2_with (first | ((with_reducible refine gate_callee (f := 99) rfl ?_); refine goesL_ (some 28) rfl rfl Try.func99 (by kernel_rfl) rfl #[.agg #[.int .i64 a0_0, .string a0_1], .int .i64 a1, .int .i64 a3] rfl ar ?_; (with_reducible refine (spec_l5Inside.calls a0_0 a0_1 a1 a3 false _ A19.out).mono ?_); rintro e w45 ⟨rfl, hb⟩; refine ⟨_, rfl, ?_⟩; have n0_ := Aside0.mk (blk_below (g := gb599) (o := .cells #[.int .i64 a0_0, .string a0_1] 28 (0, 0)) (bk BK599.out) hb); have n1_ := Aside0.mk (blk_below (g := gb600) (o := .cells #[.int .i64 0, .string (⟨#[]⟩ : ByteArray)] 28 (0, 0)) (bk BK600.out) hb); have n2_ := Aside0.mk (below_step (bw HB.out) hb); clear BK599; clear BK600; clear HB; have BK599 := n0_; have BK600 := n1_; have HB := n2_; clear n0_ n1_ n2_; (try clear hb); have hcz46_0 : w45.cell? ⟨gb599, 0, none⟩ = some (.int .i64 a0_0) := (blk_cell BK599.out 0).trans rfl; have hcz46_1 : w45.cell? ⟨gb599, 1, none⟩ = some (.string a0_1) := (blk_cell BK599.out 1).trans rfl; have hfz46_0 := blk_frozen BK599.out 0; have hfz46_1 := blk_frozen BK599.out 1; have hcz47_0 : w45.cell? ⟨gb600, 0, none⟩ = some (.int .i64 0) := (blk_cell BK600.out 0).trans rfl; have hcz47_1 : w45.cell? ⟨gb600, 1, none⟩ = some (.string (⟨#[]⟩ : ByteArray)) := (blk_cell BK600.out 1).trans rfl; have hfz47_0 := blk_frozen BK600.out 0; have hfz47_1 := blk_frozen BK600.out 1))
      refine bodyPost_ret (results_ct rfl _ _ gb600 28 #[.int .i64 a0_0, .string a0_1] (0, 0) _ rfl (by (with_reducible repeat (first | refine blk_drewN ?_ _ | refine blk_drew ?_ | refine blk_alloc ?_ _)); refine blk_put (cs := #[.int .i64 a0_0, .string (⟨#[]⟩ : ByteArray)]) ?_ 1 _ rfl; (with_reducible repeat (first | refine blk_drewN ?_ _ | refine blk_drew ?_ | refine blk_alloc ?_ _)); refine blk_put (cs := #[.int .i64 0, .string (⟨#[]⟩ : ByteArray)]) ?_ 0 _ rfl; (with_reducible repeat (first | refine blk_drewN ?_ _ | refine blk_drew ?_ | refine blk_alloc ?_ _)); exact BK600.out) Try.underlying28 rfl (by kernel_rfl)) rfl ?_
      exact ⟨by first | rfl | (simp [errW_none, errW_some] <;> rfl) | (simp [*, errW_none, errW_some] <;> rfl), bw HB.out⟩
 ·
  replace c6 := Bool.eq_false_iff.mpr c6
  subst c6
  have H1 : (some (0, (⟨#[]⟩ : ByteArray), 1)) = some (r1, r2, r3) := by rw [if_neg (show ¬ (false = true) by decide)] at H; exact H
  clear H
  have H := H1
  clear H1
  simp only [Option.some.injEq, Prod.mk.injEq] at H
  obtain ⟨rfl, rfl, rfl⟩ := H
  go_enter Try.func53, Try.ntmps53
  go_wp2_with (first | ((with_reducible refine gate_dst (N := 4) rfl ?_); refine box_event ?hg (N := 4) ?hd (cs := #[.int .i64 a0_0, .string a0_1]) (t := 28) ?hr ?_; (case hd => rfl); (case hg => rfl); (case hr => first | (go_simp; done) | (go_simp; rfl)); intro gb599 hg w48 hbox hb; have n0_ := Aside0.mk (below_step (bw HB.out) hb); have n1_ := Aside0.mk (hbox); have n2_ := Aside0.mk ((by rw [hg]; exact (below_size (bw HB.out)) : w.heap.size ≤ gb599)); have n3_ := Aside0.mk ((by rw [hg]; exact (below_size (bw HB.out)) : w.heap.size ≤ gb599)); clear HB; have HB := n0_; have BK599 := n1_; have GW599 := n2_; have GE599 := n3_; clear n0_ n1_ n2_ n3_; clear hb hbox hg) | ((with_reducible refine gate_dst (N := 8) rfl ?_); refine box_event ?hg (N := 8) ?hd (cs := #[.int .i64 0, .string (⟨#[]⟩ : ByteArray)]) (t := 28) ?hr ?_; (case hd => rfl); (case hg => rfl); (case hr => first | (go_simp; done) | (go_simp; rfl)); intro gb600 hg w49 hbox hb; have n0_ := Aside0.mk (blk_below (g := gb599) (o := .cells #[.int .i64 a0_0, .string a0_1] 28 (0, 0)) (bk BK599.out) hb); have n1_ := Aside0.mk (below_step (bw HB.out) hb); have n2_ := Aside0.mk (hbox); have n3_ := Aside0.mk ((by rw [hg]; exact (below_size (bw HB.out)) : w.heap.size ≤ gb600)); have n4_ := Aside0.mk ((by rw [hg]; exact (below_size (bw HB.out)) : w.heap.size ≤ gb600)); have n5_ := Aside0.mk ((by rw [hg]; exact Nat.ne_of_lt (blk_lt (g := gb599) (o := .cells #[.int .i64 a0_0, .string a0_1] 28 (0, 0)) (bk BK599.out)) : gb599 ≠ gb600)); have n6_ := Aside0.mk ((by rw [hg]; exact Nat.ne_of_gt (blk_lt (g := gb599) (o := .cells #[.int .i64 a0_0, .string a0_1] 28 (0, 0)) (bk BK599.out)) : gb600 ≠ gb599)); clear BK599; clear HB; have BK599 := n0_; have HB := n1_; have BK600 := n2_; have GW600 := n3_; have GE600 := n4_; have NB599_600 := n5_; have NB600_599 := n6_; clear n0_ n1_ n2_ n3_ n4_ n5_ n6_; clear hb hbox hg; have hnb50 := NB599_600.out; have hnc50 := NB600_599.out; have hcz51_0 : w49.cell? ⟨gb599, 0, none⟩ = some (.int .i64 a0_0) := (blk_cell BK599.out 0).trans rfl; have hcz51_1 : w49.cell? ⟨gb599, 1, none⟩ = some (.string a0_1) := (blk_cell BK599.out 1).trans rfl; have hfz51_0 := blk_frozen BK599.out 0; have hfz51_1 := blk_frozen BK599.out 1) | ((with_reducible refine gate_callee (f := 57) rfl ?_); refine goesL_ (some 11) rfl rfl Try.func57 (by kernel_rfl) rfl #[.agg #[.int .i64 a0_0, .string a0_1]] rfl ar ?_; (with_reducible refine (spec_GoodMemory.calls a0_0 a0_1 false _ A5.out).mono ?_); rintro e w52 ⟨rfl, hb⟩; refine ⟨_, rfl, ?_⟩; have n0_ := Aside0.mk (blk_below (g := gb599) (o := .cells #[.int .i64 a0_0, .string a0_1] 28 (0, 0)) (bk BK599.out) hb); have n1_ := Aside0.mk (blk_below (g := gb600) (o := .cells #[.int .i64 0, .string (⟨#[]⟩ : ByteArray)] 28 (0, 0)) (bk BK600.out) hb); have n2_ := Aside0.mk (below_step (bw HB.out) hb); clear BK599; clear BK600; clear HB; have BK599 := n0_; have BK600 := n1_; have HB := n2_; clear n0_ n1_ n2_; (try clear hb); have hcz53_0 : w52.cell? ⟨gb600, 0, none⟩ = some (.int .i64 0) := (blk_cell BK600.out 0).trans rfl; have hcz53_1 : w52.cell? ⟨gb600, 1, none⟩ = some (.string (⟨#[]⟩ : ByteArray)) := (blk_cell BK600.out 1).trans rfl; have hfz53_0 := blk_frozen BK600.out 0; have hfz53_1 := blk_frozen BK600.out 1))
  refine bodyPost_ret (results_ct rfl _ _ gb600 28 #[.int .i64 0, .string (⟨#[]⟩ : ByteArray)] (0, 0) _ rfl (by (with_reducible repeat (first | refine blk_drewN ?_ _ | refine blk_drew ?_ | refine blk_alloc ?_ _)); refine blk_put (cs := #[.int .i64 0, .string (⟨#[]⟩ : ByteArray)]) ?_ 1 _ rfl; (with_reducible repeat (first | refine blk_drewN ?_ _ | refine blk_drew ?_ | refine blk_alloc ?_ _)); refine blk_put (cs := #[.int .i64 0, .string (⟨#[]⟩ : ByteArray)]) ?_ 0 _ rfl; (with_reducible repeat (first | refine blk_drewN ?_ _ | refine blk_drew ?_ | refine blk_alloc ?_ _)); exact BK600.out) Try.underlying28 rfl (by kernel_rfl)) rfl ?_
  exact ⟨by first | rfl | (simp [errW_none, errW_some] <;> rfl) | (simp [*, errW_none, errW_some] <;> rfl), bw HB.out⟩

/-! ### spec_DrawGrowMemory: function 54 -/
def spec_DrawGrowMemory.f (k : Nat) (l0 : List Int) : Option (Int × ByteArray × Int) := (spec_l1Cur_memory.f k l0 0 0).bind fun bt608 => ((spec_l1Cur_pick.f l0 bt608.2.2.1 bt608.2.2.2 6).bind fun bt612 => (some (bt608.1, bt608.2.1, wrap64 (bt612.1 - 1))))
theorem spec_DrawGrowMemory.mono : ∀ a0 k, LeO (spec_DrawGrowMemory.f k a0) (spec_DrawGrowMemory.f (k + 1) a0) := by
 intro a0 k
 unfold spec_DrawGrowMemory.f
 repeat' first
   | (with_reducible exact spec_l1Cur_memory.mono _ _ _ _)
   | (with_reducible exact LeO.refl _)
   | (with_reducible exact LeO.none _)
   | (with_reducible refine LeO.ite ?_ ?_)
   | (with_reducible refine LeO.bind ?_ (fun _ => ?_))
   | exact spec_l1Cur_memory.mono _ _ _ _
   | exact LeO.none _
   | refine LeO.ite ?_ ?_
   | refine LeO.bind ?_ (fun _ => ?_)
set_option maxHeartbeats 8000000 in
set_option maxRecDepth 100000 in
theorem spec_DrawGrowMemory.calls (k : Nat) (A0 : Option Addr) (c0 : Nat) (l0 : List Int) (r1 : Int) (r2 : ByteArray) (r3 : Int) (w : World) (hr0 : Kd.C (Kd.int .u8) w A0 l0.length l0) (hc0 : l0.length ≤ c0) (h : spec_DrawGrowMemory.f k l0 = some (r1, r2, r3)) :
  Calls Try.prog 54 #[.slice A0 l0.length c0] w fun e w' => e = .returned (.tuple #[.agg #[.int .i64 r1, .string r2], .int .i64 r3]) ∧ Below w.heap.size w w' := by
 have hu28 := Try.underlying28
 have hu101 := Try.underlying101
 have HR0 := Aside0.mk hr0
 have HC0 := Aside0.mk hc0
 clear hr0 hc0
 have HB := Aside0.mk (Below.refl w.heap.size w)
 have H : ((spec_l1Cur_memory.f k l0 0 0).bind fun bt608 => ((spec_l1Cur_pick.f l0 bt608.2.2.1 bt608.2.2.2 6).bind fun bt612 => (some (bt608.1, bt608.2.1, wrap64 (bt612.1 - 1))))) = some (r1, r2, r3) := h
 clear h
 replace H := Option.bind_eq_some_iff.mp H
 obtain ⟨⟨t608, t609, t610, t611⟩, A20, H⟩ := H
 replace H : ((spec_l1Cur_pick.f l0 t610 t611 6).bind fun bt612 => (some (t608, t609, wrap64 (bt612.1 - 1)))) = some (r1, r2, r3) := H
 have A2 := Aside0.mk A20
 clear A20
 replace H := Option.bind_eq_some_iff.mp H
 obtain ⟨⟨t612, t613, t614⟩, A30, H⟩ := H
 replace H : (some (t608, t609, wrap64 (t612 - 1))) = some (r1, r2, r3) := H
 have A3 := Aside0.mk A30
 clear A30
 simp only [Option.some.injEq, Prod.mk.injEq] at H
 obtain ⟨rfl, rfl, rfl⟩ := H
 go_enter Try.func54, Try.ntmps54
 go_wp2_with (first | ((with_reducible refine gate_dst (N := 2) rfl ?_); refine box_event ?hg (N := 2) ?hd (cs := #[.int .i64 0, .string (⟨#[]⟩ : ByteArray)]) (t := 28) ?hr ?_; (case hd => rfl); (case hg => rfl); (case hr => first | (go_simp; done) | (go_simp; rfl)); intro gb606 hg w4 hbox hb; have n0_ := Aside0.mk (below_step (bw HB.out) hb); have n1_ := Aside0.mk (hbox); have n2_ := Aside0.mk ((by rw [hg]; exact (below_size (bw HB.out)) : w.heap.size ≤ gb606)); have n3_ := Aside0.mk ((by rw [hg]; exact (below_size (bw HB.out)) : w.heap.size ≤ gb606)); clear HB; have HB := n0_; have BK606 := n1_; have GW606 := n2_; have GE606 := n3_; clear n0_ n1_ n2_ n3_; clear hb hbox hg) | ((with_reducible refine gate_dst (N := 7) rfl ?_); refine box_event ?hg (N := 7) ?hd (cs := #[.slice A0 l0.length c0, .int .i64 0, .int .u64 0]) (t := 101) ?hr ?_; (case hd => rfl); (case hg => rfl); (case hr => first | (go_simp; done) | (go_simp; rfl)); intro gb607 hg w5 hbox hb; have n0_ := Aside0.mk (blk_below (g := gb606) (o := .cells #[.int .i64 0, .string (⟨#[]⟩ : ByteArray)] 28 (0, 0)) (bk BK606.out) hb); have n1_ := Aside0.mk (below_step (bw HB.out) hb); have n2_ := Aside0.mk ((show IsS101 w w5 gb607 l0 0 0 from ⟨_, _, hbox, (by rw [hg]; exact (below_size (bw HB.out)) : w.heap.size ≤ gb607), HR0.out⟩)); have n3_ := Aside0.mk ((by rw [hg]; exact (below_size (bw HB.out)) : w.heap.size ≤ gb607)); have n4_ := Aside0.mk ((by rw [hg]; exact (below_size (bw HB.out)) : w.heap.size ≤ gb607)); have n5_ := Aside0.mk ((by rw [hg]; exact Nat.ne_of_lt (blk_lt (g := gb606) (o := .cells #[.int .i64 0, .string (⟨#[]⟩ : ByteArray)] 28 (0, 0)) (bk BK606.out)) : gb606 ≠ gb607)); have n6_ := Aside0.mk ((by rw [hg]; exact Nat.ne_of_gt (blk_lt (g := gb606) (o := .cells #[.int .i64 0, .string (⟨#[]⟩ : ByteArray)] 28 (0, 0)) (bk BK606.out)) : gb607 ≠ gb606)); clear BK606; clear HB; have BK606 := n0_; have HB := n1_; have HI607 := n2_; have GW607 := n3_; have GE607 := n4_; have NB606_607 := n5_; have NB607_606 := n6_; clear n0_ n1_ n2_ n3_ n4_ n5_ n6_; clear hb hbox hg) | ((with_reducible refine gate_callee (f := 93) rfl ?_); refine goesL_ (some 9) rfl rfl Try.func93 (by kernel_rfl) rfl #[.pointer (some ⟨gb607, 0, none⟩)] rfl ar ?_; (with_reducible refine (spec_l1Cur_memory.calls k gb607 l0 0 0 t608 t609 t610 t611 w _ ?side1 ?side2 A2.out).mono ?_); (case side1 => repeat (first | (with_reducible first | exact HI607.out | apply IsS101.alloc | apply IsS101.drewN | apply IsS101.drew | apply IsS101.set_1 | apply IsS101.set_2 | refine IsS101.far ?_ NB607_606.out _) | exact HI607.out)); (case side2 => repeat (first | (with_reducible first | exact HB.out | apply below_alloc | apply pw_below_drewN | apply below_drew1 | refine below_set ?_ (IsS101.ge HI607.out) | refine below_set ?_ GE606.out) | exact HB.out)); rintro e w6 ⟨rfl, hi, hb, hk⟩; refine ⟨_, rfl, ?_⟩; have n0_ := Aside0.mk (KeepBut.blk hk (g' := gb606) (o := .cells #[.int .i64 0, .string (⟨#[]⟩ : ByteArray)] 28 (0, 0)) (bk BK606.out) NB606_607.out (by simp)); have n1_ := Aside0.mk (hb); have n2_ := Aside0.mk (hi); clear BK606; clear HB; clear HI607; have BK606 := n0_; have HB := n1_; have HI607 := n2_; clear n0_ n1_ n2_; (try clear hb); (try clear hb2); (try clear hk); (try clear hi)) | ((with_reducible refine gate_callee (f := 77) rfl ?_); refine goesL_ (some 11) rfl rfl Try.func77 (by kernel_rfl) rfl #[.pointer (some ⟨gb607, 0, none⟩), .int .i64 6] rfl ar ?_; (with_reducible refine (spec_l1Cur_pick.calls gb607 l0 t610 t611 6 t612 t613 t614 w _ ?side1 ?side2 A3.out).mono ?_); (case side1 => repeat (first | (with_reducible first | exact HI607.out | apply IsS101.alloc | apply IsS101.drewN | apply IsS101.drew | apply IsS101.set_1 | apply IsS101.set_2 | refine IsS101.far ?_ NB607_606.out _) | exact HI607.out)); (case side2 => repeat (first | (with_reducible first | exact HB.out | apply below_alloc | apply pw_below_drewN | apply below_drew1 | refine below_set ?_ (IsS101.ge HI607.out) | refine below_set ?_ GE606.out) | exact HB.out)); rintro e w7 ⟨rfl, hi, hb, hk⟩; refine ⟨_, rfl, ?_⟩; have n0_ := Aside0.mk (KeepBut.blk hk (g' := gb606) (o := .cells #[.int .i64 0, .string (⟨#[]⟩ : ByteArray)] 28 (0, 0)) (bk BK606.out) NB606_607.out (by simp)); have n1_ := Aside0.mk (hb); have n2_ := Aside0.mk (hi); clear BK606; clear HB; clear HI607; have BK606 := n0_; have HB := n1_; have HI607 := n2_; clear n0_ n1_ n2_; (try clear hb); (try clear hb2); (try clear hk); (try clear hi); have hnb8 := NB606_607.out; have hnc8 := NB607_606.out; have hcz9_0 : w7.cell? ⟨gb606, 0, none⟩ = some (.int .i64 0) := (blk_cell BK606.out 0).trans rfl; have hcz9_1 : w7.cell? ⟨gb606, 1, none⟩ = some (.string (⟨#[]⟩ : ByteArray)) := (blk_cell BK606.out 1).trans rfl; have hfz9_0 := blk_frozen BK606.out 0; have hfz9_1 := blk_frozen BK606.out 1))
 refine bodyPost_ret (results_ct rfl _ _ gb606 28 #[.int .i64 t608, .string t609] (0, 0) _ rfl (by (with_reducible repeat (first | refine blk_drewN ?_ _ | refine blk_drew ?_ | refine blk_alloc ?_ _)); refine blk_put (cs := #[.int .i64 t608, .string (⟨#[]⟩ : ByteArray)]) ?_ 1 _ rfl; (with_reducible repeat (first | refine blk_drewN ?_ _ | refine blk_drew ?_ | refine blk_alloc ?_ _)); refine blk_put (cs := #[.int .i64 0, .string (⟨#[]⟩ : ByteArray)]) ?_ 0 _ rfl; (with_reducible repeat (first | refine blk_drewN ?_ _ | refine blk_drew ?_ | refine blk_alloc ?_ _)); exact BK606.out) Try.underlying28 rfl (by kernel_rfl)) rfl ?_
 exact ⟨by first | rfl | (simp [errW_none, errW_some] <;> rfl) | (simp [*, errW_none, errW_some] <;> rfl), by repeat (first | (with_reducible first | exact HB.out | apply below_alloc | apply pw_below_drewN | apply below_drew1 | refine below_set ?_ (IsS101.ge HI607.out) | refine below_set ?_ GE606.out) | exact HB.out)⟩

/-! ### spec_GrowMemory: function 56 -/
def spec_GrowMemory.f (a0_0 : Int) (a0_1 : ByteArray) (a1 : Int) : Option (Int × ByteArray × Int × Bool) := (spec_GoodMemory.f a0_0 a0_1).bind fun t632 => (if t632 = true then ((spec_l1In.f a1 0 8).bind fun t633 => (if t633 = true then (if (wrap64 ((wrap64 ((a0_1.size : Int) / 256)) + a1)) > a0_0 then (some (a0_0, a0_1, (-1), true)) else (if 0 ≤ (wrap64 (a1 * 256)) then (if (wrap64 (a1 * 256) : Int).toNat ≤ 281474976710656 then ((some (List.replicate (wrap64 (a1 * 256) : Int).toNat 0 : List Int)).bind fun y634 => (if a0_1.size + (strOfNums y634).size ≤ 9223372036854775807 then (some (a0_0, a0_1 ++ (strOfNums y634), wrap64 ((a0_1.size : Int) / 256), true)) else (none))) else (none)) else (none))) else (some (a0_0, a0_1, 0, false)))) else (some (0, (⟨#[]⟩ : ByteArray), 0, false)))
def spec_GrowMemory.T8 : Bool × List (List Nat × List Nat) := (true, [([], []), ([0], [0]), ([], []), ([2], [2]), ([3, 3], [3]), ([4], [4]), ([1, 5], [1, 5]), ([0, 1, 2, 3, 4, 5, 6], []), ([7, 6, 0, 1, 2, 3, 4, 5, 6], [6, 7])])
def spec_GrowMemory.B8 : List Nat := [0, 1, 0, 4, 12, 28, 63, 127, 255]
theorem spec_GrowMemory.tab8 : rtab .any (opsOf Try.f56 8) = spec_GrowMemory.T8 := by kernel_rfl
theorem spec_GrowMemory.bits8 : waitsOk spec_GrowMemory.T8.2 spec_GrowMemory.B8 = true := by kernel_rfl
set_option maxHeartbeats 8000000 in
set_option maxRecDepth 100000 in
theorem spec_GrowMemory.calls (a0_0 : Int) (a0_1 : ByteArray) (a1 : Int) (r1 : Int) (r2 : ByteArray) (r3 : Int) (r4 : Bool) (w : World) (h : spec_GrowMemory.f a0_0 a0_1 a1 = some (r1, r2, r3, r4)) :
  Calls Try.prog 56 #[.agg #[.int .i64 a0_0, .string a0_1], .int .i64 a1] w fun e w' => e = .returned (.tuple #[.agg #[.int .i64 r1, .string r2], .int .i64 r3, .bool r4]) ∧ Below w.heap.size w w' := by
 have hu28 := Try.underlying28
 have HB := Aside0.mk (Below.refl w.heap.size w)
 have H : ((spec_GoodMemory.f a0_0 a0_1).bind fun t632 => (if t632 = true then ((spec_l1In.f a1 0 8).bind fun t633 => (if t633 = true then (if (wrap64 ((wrap64 ((a0_1.size : Int) / 256)) + a1)) > a0_0 then (some (a0_0, a0_1, (-1), true)) else (if 0 ≤ (wrap64 (a1 * 256)) then (if (wrap64 (a1 * 256) : Int).toNat ≤ 281474976710656 then ((some (List.replicate (wrap64 (a1 * 256) : Int).toNat 0 : List Int)).bind fun y634 => (if a0_1.size + (strOfNums y634).size ≤ 9223372036854775807 then (some (a0_0, a0_1 ++ (strOfNums y634), wrap64 ((a0_1.size : Int) / 256), true)) else (none))) else (none)) else (none))) else (some (a0_0, a0_1, 0, false)))) else (some (0, (⟨#[]⟩ : ByteArray), 0, false)))) = some (r1, r2, r3, r4) := h
 clear h
 replace H := Option.bind_eq_some_iff.mp H
 obtain ⟨t632, A30, H⟩ := H
 replace H : (if t632 = true then ((spec_l1In.f a1 0 8).bind fun t633 => (if t633 = true then (if (wrap64 ((wrap64 ((a0_1.size : Int) / 256)) + a1)) > a0_0 then (some (a0_0, a0_1, (-1), true)) else (if 0 ≤ (wrap64 (a1 * 256)) then (if (wrap64 (a1 * 256) : Int).toNat ≤ 281474976710656 then ((some (List.replicate (wrap64 (a1 * 256) : Int).toNat 0 : List Int)).bind fun y634 => (if a0_1.size + (strOfNums y634).size ≤ 9223372036854775807 then (some (a0_0, a0_1 ++ (strOfNums y634), wrap64 ((a0_1.size : Int) / 256), true)) else (none))) else (none)) else (none))) else (some (a0_0, a0_1, 0, false)))) else (some (0, (⟨#[]⟩ : ByteArray), 0, false))) = some (r1, r2, r3, r4) := H
 have A3 := Aside0.mk A30
 clear A30
 by_cases c4 : t632 = true
 ·
  subst c4
  have H1 : ((spec_l1In.f a1 0 8).bind fun t633 => (if t633 = true then (if (wrap64 ((wrap64 ((a0_1.size : Int) / 256)) + a1)) > a0_0 then (some (a0_0, a0_1, (-1), true)) else (if 0 ≤ (wrap64 (a1 * 256)) then (if (wrap64 (a1 * 256) : Int).toNat ≤ 281474976710656 then ((some (List.replicate (wrap64 (a1 * 256) : Int).toNat 0 : List Int)).bind fun y634 => (if a0_1.size + (strOfNums y634).size ≤ 9223372036854775807 then (some (a0_0, a0_1 ++ (strOfNums y634), wrap64 ((a0_1.size : Int) / 256), true)) else (none))) else (none)) else (none))) else (some (a0_0, a0_1, 0, false)))) = some (r1, r2, r3, r4) := by rw [if_pos rfl] at H; exact H
  clear H
  have H := H1
  clear H1
  replace H := Option.bind_eq_some_iff.mp H
  obtain ⟨t633, A50, H⟩ := H
  replace H : (if t633 = true then (if (wrap64 ((wrap64 ((a0_1.size : Int) / 256)) + a1)) > a0_0 then (some (a0_0, a0_1, (-1), true)) else (if 0 ≤ (wrap64 (a1 * 256)) then (if (wrap64 (a1 * 256) : Int).toNat ≤ 281474976710656 then ((some (List.replicate (wrap64 (a1 * 256) : Int).toNat 0 : List Int)).bind fun y634 => (if a0_1.size + (strOfNums y634).size ≤ 9223372036854775807 then (some (a0_0, a0_1 ++ (strOfNums y634), wrap64 ((a0_1.size : Int) / 256), true)) else (none))) else (none)) else (none))) else (some (a0_0, a0_1, 0, false))) = some (r1, r2, r3, r4) := H
  have A5 := Aside0.mk A50
  clear A50
  by_cases c6 : t633 = true
  ·
   subst c6
   have H1 : (if (wrap64 ((wrap64 ((a0_1.size : Int) / 256)) + a1)) > a0_0 then (some (a0_0, a0_1, (-1), true)) else (if 0 ≤ (wrap64 (a1 * 256)) then (if (wrap64 (a1 * 256) : Int).toNat ≤ 281474976710656 then ((some (List.replicate (wrap64 (a1 * 256) : Int).toNat 0 : List Int)).bind fun y634 => (if a0_1.size + (strOfNums y634).size ≤ 9223372036854775807 then (some (a0_0, a0_1 ++ (strOfNums y634), wrap64 ((a0_1.size : Int) / 256), true)) else (none))) else (none)) else (none))) = some (r1, r2, r3, r4) := by rw [if_pos rfl] at H; exact H
   clear H
   have H := H1
   clear H1
   by_cases c7 : (wrap64 ((wrap64 ((a0_1.size : Int) / 256)) + a1)) > a0_0
   ·
    rw [if_pos c7] at H
    have c7b0 : decide (a0_0 < (wrap64 ((wrap64 ((a0_1.size : Int) / 256)) + a1))) = true := decide_eq_true c7
    clear c7
    simp only [Option.some.injEq, Prod.mk.injEq] at H
    obtain ⟨rfl, rfl, rfl, rfl⟩ := H
    (try (have c7b9 := c7b0; rw [show wrap64 ((a0_1.size : Int) / 256) = (a0_1.size : Int) / 256 from by unfold wrap64; omega] at c7b9)); (try rw [show wrap64 ((a0_1.size : Int) / 256) = (a0_1.size : Int) / 256 from by unfold wrap64; omega])
    go_enter Try.func56, Try.ntmps56
    go_wp2_with (first | ((with_reducible refine gate_dst (N := 2) rfl ?_); refine box_event ?hg (N := 2) ?hd (cs := #[.int .i64 a0_0, .string a0_1]) (t := 28) ?hr ?_; (case hd => rfl); (case hg => rfl); (case hr => first | (go_simp; done) | (go_simp; rfl)); intro gb630 hg w8 hbox hb; have n0_ := Aside0.mk (below_step (bw HB.out) hb); have n1_ := Aside0.mk (hbox); have n2_ := Aside0.mk ((by rw [hg]; exact (below_size (bw HB.out)) : w.heap.size ≤ gb630)); have n3_ := Aside0.mk ((by rw [hg]; exact (below_size (bw HB.out)) : w.heap.size ≤ gb630)); clear HB; have HB := n0_; have BK630 := n1_; have GW630 := n2_; have GE630 := n3_; clear n0_ n1_ n2_ n3_; clear hb hbox hg) | ((with_reducible refine gate_dst (N := 4) rfl ?_); refine box_event ?hg (N := 4) ?hd (cs := #[.int .i64 0, .string (⟨#[]⟩ : ByteArray)]) (t := 28) ?hr ?_; (case hd => rfl); (case hg => rfl); (case hr => first | (go_simp; done) | (go_simp; rfl)); intro gb631 hg w9 hbox hb; have n0_ := Aside0.mk (blk_below (g := gb630) (o := .cells #[.int .i64 a0_0, .string a0_1] 28 (0, 0)) (bk BK630.out) hb); have n1_ := Aside0.mk (below_step (bw HB.out) hb); have n2_ := Aside0.mk (hbox); have n3_ := Aside0.mk ((by rw [hg]; exact (below_size (bw HB.out)) : w.heap.size ≤ gb631)); have n4_ := Aside0.mk ((by rw [hg]; exact (below_size (bw HB.out)) : w.heap.size ≤ gb631)); have n5_ := Aside0.mk ((by rw [hg]; exact Nat.ne_of_lt (blk_lt (g := gb630) (o := .cells #[.int .i64 a0_0, .string a0_1] 28 (0, 0)) (bk BK630.out)) : gb630 ≠ gb631)); have n6_ := Aside0.mk ((by rw [hg]; exact Nat.ne_of_gt (blk_lt (g := gb630) (o := .cells #[.int .i64 a0_0, .string a0_1] 28 (0, 0)) (bk BK630.out)) : gb631 ≠ gb630)); clear BK630; clear HB; have BK630 := n0_; have HB := n1_; have BK631 := n2_; have GW631 := n3_; have GE631 := n4_; have NB630_631 := n5_; have NB631_630 := n6_; clear n0_ n1_ n2_ n3_ n4_ n5_ n6_; clear hb hbox hg; have hnb10 := NB630_631.out; have hnc10 := NB631_630.out; have hcz11_0 : w9.cell? ⟨gb630, 0, none⟩ = some (.int .i64 a0_0) := (blk_cell BK630.out 0).trans rfl; have hcz11_1 : w9.cell? ⟨gb630, 1, none⟩ = some (.string a0_1) := (blk_cell BK630.out 1).trans rfl; have hfz11_0 := blk_frozen BK630.out 0; have hfz11_1 := blk_frozen BK630.out 1) | ((with_reducible refine gate_callee (f := 57) rfl ?_); refine goesL_ (some 9) rfl rfl Try.func57 (by kernel_rfl) rfl #[.agg #[.int .i64 a0_0, .string a0_1]] rfl ar ?_; (with_reducible refine (spec_GoodMemory.calls a0_0 a0_1 true _ A3.out).mono ?_); rintro e w12 ⟨rfl, hb⟩; refine ⟨_, rfl, ?_⟩; have n0_ := Aside0.mk (blk_below (g := gb630) (o := .cells #[.int .i64 a0_0, .string a0_1] 28 (0, 0)) (bk BK630.out) hb); have n1_ := Aside0.mk (blk_below (g := gb631) (o := .cells #[.int .i64 0, .string (⟨#[]⟩ : ByteArray)] 28 (0, 0)) (bk BK631.out) hb); have n2_ := Aside0.mk (below_step (bw HB.out) hb); clear BK630; clear BK631; clear HB; have BK630 := n0_; have BK631 := n1_; have HB := n2_; clear n0_ n1_ n2_; (try clear hb)) | ((with_reducible refine gate_callee (f := 58) rfl ?_); refine goesL_ (some 13) rfl rfl Try.func58 (by kernel_rfl) rfl #[.int .i64 a1, .int .i64 0, .int .i64 8] rfl ar ?_; (with_reducible refine (spec_l1In.calls a1 0 8 true _ A5.out).mono ?_); rintro e w' ⟨rfl, ⟨nd, rfl⟩⟩; refine ⟨_, rfl, ?_⟩; (try (rw [drewN_self w12]; generalize hq_ : World.drewN w12 _ = w12; have n0_ : Aside0 (w12.heap[gb630]? = some (.cells #[.int .i64 a0_0, .string a0_1] 28 (0, 0))) := ⟨by rw [← hq_]; exact (bk BK630.out)⟩; have n1_ : Aside0 (w12.heap[gb631]? = some (.cells #[.int .i64 0, .string (⟨#[]⟩ : ByteArray)] 28 (0, 0))) := ⟨by rw [← hq_]; exact (bk BK631.out)⟩; have n2_ : Aside0 (Below w.heap.size w w12) := ⟨by rw [← hq_]; exact (bw HB.out)⟩; clear BK630 BK631 HB hq_; have BK630 := n0_; have BK631 := n1_; have HB := n2_; clear n0_ n1_ n2_)); have hcz13_0 : w12.cell? ⟨gb630, 0, none⟩ = some (.int .i64 a0_0) := (blk_cell BK630.out 0).trans rfl; have hcz13_1 : w12.cell? ⟨gb630, 1, none⟩ = some (.string a0_1) := (blk_cell BK630.out 1).trans rfl; have hfz13_0 := blk_frozen BK630.out 0; have hfz13_1 := blk_frozen BK630.out 1; have hcz14_0 : w12.cell? ⟨gb631, 0, none⟩ = some (.int .i64 0) := (blk_cell BK631.out 0).trans rfl; have hcz14_1 : w12.cell? ⟨gb631, 1, none⟩ = some (.string (⟨#[]⟩ : ByteArray)) := (blk_cell BK631.out 1).trans rfl; have hfz14_0 := blk_frozen BK631.out 0; have hfz14_1 := blk_frozen BK631.out 1))
    refine bodyPost_ret (results_ctt rfl _ _ gb631 28 #[.int .i64 a0_0, .string a0_1] (0, 0) _ rfl (by (with_reducible repeat (first | refine blk_drewN ?_ _ | refine blk_drew ?_ | refine blk_alloc ?_ _)); refine blk_put (cs := #[.int .i64 a0_0, .string (⟨#[]⟩ : ByteArray)]) ?_ 1 _ rfl; (with_reducible repeat (first | refine blk_drewN ?_ _ | refine blk_drew ?_ | refine blk_alloc ?_ _)); refine blk_put (cs := #[.int .i64 0, .string (⟨#[]⟩ : ByteArray)]) ?_ 0 _ rfl; (with_reducible repeat (first | refine blk_drewN ?_ _ | refine blk_drew ?_ | refine blk_alloc ?_ _)); exact BK631.out) Try.underlying28 rfl (by kernel_rfl)) rfl ?_
    exact ⟨by first | rfl | (simp [errW_none, errW_some] <;> rfl) | (simp [*, errW_none, errW_some] <;> rfl), bw HB.out⟩
   ·
    rw [if_neg c7] at H
    have c7b0 : decide (a0_0 < (wrap64 ((wrap64 ((a0_1.size : Int) / 256)) + a1))) = false := decide_eq_false c7
    clear c7
    obtain ⟨ji15, hji15⟩ : ∃ j_ : Int, (wrap64 (a1 * 256)) = j_ := ⟨_, rfl⟩
    replace H : (if 0 ≤ (ji15) then (if (ji15 : Int).toNat ≤ 281474976710656 then ((some (List.replicate (ji15 : Int).toNat 0 : List Int)).bind fun y634 => (if a0_1.size + (strOfNums y634).size ≤ 9223372036854775807 then (some (a0_0, a0_1 ++ (strOfNums y634), wrap64 ((a0_1.size : Int) / 256), true)) else (none))) else (none)) else (none)) = some (r1, r2, r3, r4) := by first | (rw [hji15] at H; exact H) | (simp only [hji15] at H ⊢; exact H)
    (try rw [hji15] at A3)
    (try rw [hji15] at A5)
    have hji15w : (IntKind.i64.wrap (a1 * 256)) = ji15 := (i64_w _).trans hji15
    by_cases c16 : 0 ≤ (ji15)
    ·
     rw [if_pos c16] at H
     have c16b0 := eq_true c16
     have c16b1 : decide (0 ≤ (ji15)) = true := decide_eq_true c16
     clear c16
     by_cases c17 : (ji15 : Int).toNat ≤ 281474976710656
     ·
      rw [if_pos c17] at H
      have c17b0 := eq_true c17
      have c17b1 : decide ((ji15 : Int).toNat ≤ 281474976710656) = true := decide_eq_true c17
      clear c17
      obtain ⟨y634, hy634⟩ : ∃ y_ : List Int, y_ = (List.replicate (ji15 : Int).toNat 0) := ⟨_, rfl⟩
      replace H : (if a0_1.size + (strOfNums y634).size ≤ 9223372036854775807 then (some (a0_0, a0_1 ++ (strOfNums y634), wrap64 ((a0_1.size : Int) / 256), true)) else (none)) = some (r1, r2, r3, r4) := by first | (rw [hy634]; with_reducible exact H) | (have H2_ := (Option.bind_some _ _).symm.trans H; rw [hy634]; with_reducible exact H2_) | (have H2_ := (Option.bind_some _ _).symm.trans H; with_reducible exact H2_) | with_reducible exact H | (rw [hy634]; exact H) | exact H
      have Ny634 := Aside0.mk hy634
      clear hy634
      by_cases c18 : a0_1.size + (strOfNums y634).size ≤ 9223372036854775807
      ·
       rw [if_pos c18] at H
       have c18b0 := eq_true c18
       have c18b1 : decide (a0_1.size + (strOfNums y634).size ≤ 9223372036854775807) = true := decide_eq_true c18
       try have c18b2 : (9223372036854775807 < a0_1.size + (strOfNums y634).size) = False := eq_false (Nat.not_lt.2 c18)
       simp only [Option.some.injEq, Prod.mk.injEq] at H
       obtain ⟨rfl, rfl, rfl, rfl⟩ := H
       (try (have c7b9 := c7b0; rw [show wrap64 ((a0_1.size : Int) / 256) = (a0_1.size : Int) / 256 from by unfold wrap64; omega] at c7b9)); (try rw [show wrap64 ((a0_1.size : Int) / 256) = (a0_1.size : Int) / 256 from by unfold wrap64; omega])
       go_enter Try.func56, Try.ntmps56
       try go_wp2_with (first | ((with_reducible refine gate_dst (N := 2) rfl ?_); refine box_event ?hg (N := 2) ?hd (cs := #[.int .i64 a0_0, .string a0_1]) (t := 28) ?hr ?_; (case hd => rfl); (case hg => rfl); (case hr => first | (go_simp; done) | (go_simp; rfl)); intro gb630 hg w19 hbox hb; have n0_ := Aside0.mk (below_step (bw HB.out) hb); have n1_ := Aside0.mk (hbox); have n2_ := Aside0.mk ((by rw [hg]; exact (below_size (bw HB.out)) : w.heap.size ≤ gb630)); have n3_ := Aside0.mk ((by rw [hg]; exact (below_size (bw HB.out)) : w.heap.size ≤ gb630)); clear HB; have HB := n0_; have BK630 := n1_; have GW630 := n2_; have GE630 := n3_; clear n0_ n1_ n2_ n3_; clear hb hbox hg) | ((with_reducible refine gate_dst (N := 4) rfl ?_); refine box_event ?hg (N := 4) ?hd (cs := #[.int .i64 0, .string (⟨#[]⟩ : ByteArray)]) (t := 28) ?hr ?_; (case hd => rfl); (case hg => rfl); (case hr => first | (go_simp; done) | (go_simp; rfl)); intro gb631 hg w20 hbox hb; have n0_ := Aside0.mk (blk_below (g := gb630) (o := .cells #[.int .i64 a0_0, .string a0_1] 28 (0, 0)) (bk BK630.out) hb); have n1_ := Aside0.mk (below_step (bw HB.out) hb); have n2_ := Aside0.mk (hbox); have n3_ := Aside0.mk ((by rw [hg]; exact (below_size (bw HB.out)) : w.heap.size ≤ gb631)); have n4_ := Aside0.mk ((by rw [hg]; exact (below_size (bw HB.out)) : w.heap.size ≤ gb631)); have n5_ := Aside0.mk ((by rw [hg]; exact Nat.ne_of_lt (blk_lt (g := gb630) (o := .cells #[.int .i64 a0_0, .string a0_1] 28 (0, 0)) (bk BK630.out)) : gb630 ≠ gb631)); have n6_ := Aside0.mk ((by rw [hg]; exact Nat.ne_of_gt (blk_lt (g := gb630) (o := .cells #[.int .i64 a0_0, .string a0_1] 28 (0, 0)) (bk BK630.out)) : gb631 ≠ gb630)); clear BK630; clear HB; have BK630 := n0_; have HB := n1_; have BK631 := n2_; have GW631 := n3_; have GE631 := n4_; have NB630_631 := n5_; have NB631_630 := n6_; clear n0_ n1_ n2_ n3_ n4_ n5_ n6_; clear hb hbox hg; have hnb21 := NB630_631.out; have hnc21 := NB631_630.out; have hcz22_0 : w20.cell? ⟨gb630, 0, none⟩ = some (.int .i64 a0_0) := (blk_cell BK630.out 0).trans rfl; have hcz22_1 : w20.cell? ⟨gb630, 1, none⟩ = some (.string a0_1) := (blk_cell BK630.out 1).trans rfl; have hfz22_0 := blk_frozen BK630.out 0; have hfz22_1 := blk_frozen BK630.out 1) | ((with_reducible refine gate_callee (f := 57) rfl ?_); refine goesL_ (some 9) rfl rfl Try.func57 (by kernel_rfl) rfl #[.agg #[.int .i64 a0_0, .string a0_1]] rfl ar ?_; (with_reducible refine (spec_GoodMemory.calls a0_0 a0_1 true _ A3.out).mono ?_); rintro e w23 ⟨rfl, hb⟩; refine ⟨_, rfl, ?_⟩; have n0_ := Aside0.mk (blk_below (g := gb630) (o := .cells #[.int .i64 a0_0, .string a0_1] 28 (0, 0)) (bk BK630.out) hb); have n1_ := Aside0.mk (blk_below (g := gb631) (o := .cells #[.int .i64 0, .string (⟨#[]⟩ : ByteArray)] 28 (0, 0)) (bk BK631.out) hb); have n2_ := Aside0.mk (below_step (bw HB.out) hb); clear BK630; clear BK631; clear HB; have BK630 := n0_; have BK631 := n1_; have HB := n2_; clear n0_ n1_ n2_; (try clear hb)) | ((with_reducible refine gate_callee (f := 58) rfl ?_); refine goesL_ (some 13) rfl rfl Try.func58 (by kernel_rfl) rfl #[.int .i64 a1, .int .i64 0, .int .i64 8] rfl ar ?_; (with_reducible refine (spec_l1In.calls a1 0 8 true _ A5.out).mono ?_); rintro e w' ⟨rfl, ⟨nd, rfl⟩⟩; refine ⟨_, rfl, ?_⟩; (try (rw [drewN_self w23]; generalize hq_ : World.drewN w23 _ = w23; have n0_ : Aside0 (w23.heap[gb630]? = some (.cells #[.int .i64 a0_0, .string a0_1] 28 (0, 0))) := ⟨by rw [← hq_]; exact (bk BK630.out)⟩; have n1_ : Aside0 (w23.heap[gb631]? = some (.cells #[.int .i64 0, .string (⟨#[]⟩ : ByteArray)] 28 (0, 0))) := ⟨by rw [← hq_]; exact (bk BK631.out)⟩; have n2_ : Aside0 (Below w.heap.size w w23) := ⟨by rw [← hq_]; exact (bw HB.out)⟩; clear BK630 BK631 HB hq_; have BK630 := n0_; have BK631 := n1_; have HB := n2_; clear n0_ n1_ n2_)); have hcz24_0 : w23.cell? ⟨gb630, 0, none⟩ = some (.int .i64 a0_0) := (blk_cell BK630.out 0).trans rfl; have hcz24_1 : w23.cell? ⟨gb630, 1, none⟩ = some (.string a0_1) := (blk_cell BK630.out 1).trans rfl; have hfz24_0 := blk_frozen BK630.out 0; have hfz24_1 := blk_frozen BK630.out 1))
       have n0_ := Aside0.mk (blk_drew BK630.out)
       have n1_ := Aside0.mk (blk_drew BK631.out)
       have n2_ := Aside0.mk (below_drew1 HB.out)
       clear BK630
       clear BK631
       clear HB
       have BK630 := n0_
       have BK631 := n1_
       have HB := n2_
       clear n0_ n1_ n2_
       refine start_ (n := 9) (S := fun w' => w'.cell? ⟨gb630, 0, none⟩ = some (.int .i64 a0_0) ∧ w'.cell? ⟨gb630, 1, none⟩ = some (.string a0_1)) (ds := [8]) #[false, false, false, false, false, false, false, false, false] (by kernel_rfl) rfl rfl ⟨(blk_cell BK630.out 0).trans rfl, (blk_cell BK630.out 1).trans rfl⟩ (fun hHeld => ?_); refine with_tabW spec_GrowMemory.tab8 spec_GrowMemory.bits8 (fun HT_ HW_ => ?_)
       generalize w23.drew = w25 at BK630 BK631 HB hHeld ⊢
       refine pure_ (i := 0) (N := some 27) (v := ?_) (a' := ?_) #[true, false, false, false, false, false, false, false, false] rfl rfl (any_of HT_.out (by kernel_rfl)) (fun _ _ _ h => h) (Or.inl ⟨by rfl, ?_⟩) ?_ ?_
       rotate_left
       ·
        intro w'
        go_simp
        with_reducible rfl
       rotate_left
       ·
        simp only [Act.put, List.setIfInBounds_toArray, List.set_cons_zero, List.set_cons_succ, i64_w, i32_w]
        rfl
       refine pure_ (i := 2) (N := some 29) (v := ?_) (a' := ?_) #[true, false, true, false, false, false, false, false, false] rfl rfl (any_of HT_.out (by kernel_rfl)) (fun _ _ _ h => h) (Or.inl ⟨by rfl, ?_⟩) ?_ ?_
       rotate_left
       ·
        intro w'
        go_simp
        with_reducible rfl
       rotate_left
       ·
        simp only [Act.put, List.setIfInBounds_toArray, List.set_cons_zero, List.set_cons_succ, i64_w, i32_w]
        rfl
       refine pure_ (i := 3) (N := some 30) (v := ?_) (a' := ?_) #[true, false, true, true, false, false, false, false, false] rfl rfl (any_of HT_.out (by kernel_rfl)) (fun _ _ _ h => h) (Or.inl ⟨by rfl, ?_⟩) ?_ ?_
       rotate_left
       ·
        intro w'
        go_simp
        with_reducible rfl
       rotate_left
       ·
        simp only [Act.put, List.setIfInBounds_toArray, List.set_cons_zero, List.set_cons_succ, i64_w, i32_w]
        rfl
       refine take_ (i := 1) (N := some 28) (v := ?_) (a' := ?_) #[true, true, true, true, false, false, false, false, false] rfl rfl (take_ofW HT_.out HW_.out (by kernel_rfl)) (fun _ _ _ h => h) (Or.inl ⟨by rfl, ?_⟩) hHeld ?_ ?_
       rotate_left
       ·
        rintro w' ⟨s0, s1⟩
        go_simp
        with_reducible rfl
       rotate_left
       ·
        simp only [Act.put, List.setIfInBounds_toArray, List.set_cons_zero, List.set_cons_succ, i64_w, i32_w]
        rfl
       refine one_ (i := 4) (N := some 31) #[true, true, true, true, true, false, false, false, false] rfl rfl (one_of HT_.out (by kernel_rfl)) (by decide) (fun K hK => ?_)
       refine Kd.R_make_step (Kd.int .u8) _ 5 (by rfl) (N := 31) rfl 51 _ _ rfl ji15 rfl rfl Try.underlying51 (.int .u8 0) 1 info5 rfl (by decide) (by omega) 0 (ok := fun _ => True) (okp := fun _ => True) rfl (fun _ hk => hk) trivial (of_decide_eq_true (by first | (with_reducible assumption) | assumption)) (Nat.le_trans (Nat.mul_le_mul_right _ (of_decide_eq_true (by first | (with_reducible assumption) | assumption) : ji15.toNat ≤ 281474976710656)) (by omega)) (Below.refl _ _) (Nat.le_refl _) ?_
       intro v635 w26 ho27 hb hg_ hnew_
       clear hg_ hnew_
       (first | rw [← Ny634.out] at ho27 | (simp only [Int.reduceToNat] at ho27; rw [← Ny634.out] at ho27))
       have n0_ := Aside0.mk (Kd.R_lower ho27 (below_size (bw HB.out)))
       have n1_ := Aside0.mk (blk_below (g := gb630) (o := .cells #[.int .i64 a0_0, .string a0_1] 28 (0, 0)) (bk BK630.out) hb)
       have n2_ := Aside0.mk (blk_below (g := gb631) (o := .cells #[.int .i64 0, .string (⟨#[]⟩ : ByteArray)] 28 (0, 0)) (bk BK631.out) hb)
       have n3_ := Aside0.mk (below_step (bw HB.out) hb)
       clear BK630
       clear BK631
       clear HB
       have HO636 := n0_
       have BK630 := n1_
       have BK631 := n2_
       have HB := n3_
       clear n0_ n1_ n2_ n3_
       clear hb ho27
       refine hK.out _ _ ⟨(blk_cell BK630.out 0).trans rfl, (blk_cell BK630.out 1).trans rfl⟩ (fun hHeld => ?_)
       clear hK K
       refine norm_ (a' := ?_) ?_ ?_
       rotate_left
       ·
        show Act.put _ (some 31) _ = _
        simp only [Act.put, List.setIfInBounds_toArray, List.set_cons_zero, List.set_cons_succ, i64_w, i32_w]
        rfl
       refine one_ (i := 5) (N := some 32) #[true, true, true, true, true, true, false, false, false] rfl rfl (one_of HT_.out (by kernel_rfl)) (by decide) (fun K hK => ?_)
       have hcv28 := own_string (P := Try.prog) Try.underlying51 Try.underlying5 Try.underlying9 (Kd.own_of_R HO636.out)
       refine value_ (w1 := ?_) (v := ?_) (by rfl) rfl ?_ ?_
       rotate_left 2
       ·
        go_simp
        constructor
        ·
         rfl
        ·
         rfl
       clear hcv28
       refine hK.out _ _ ⟨(blk_cell BK630.out 0).trans rfl, (blk_cell BK630.out 1).trans rfl⟩ (fun hHeld => ?_)
       clear hK K
       refine norm_ (a' := ?_) ?_ ?_
       rotate_left
       ·
        show Act.put _ (some 32) _ = _
        simp only [Act.put, List.setIfInBounds_toArray, List.set_cons_zero, List.set_cons_succ, i64_w, i32_w]
        rfl
       refine pure_ (i := 6) (N := some 33) (v := ?_) (a' := ?_) #[true, true, true, true, true, true, true, false, false] rfl rfl (any_of HT_.out (by kernel_rfl)) (fun _ _ _ h => h) (Or.inl ⟨by rfl, ?_⟩) ?_ ?_
       rotate_left
       ·
        intro w'
        go_simp
        with_reducible rfl
       rotate_left
       ·
        simp only [Act.put, List.setIfInBounds_toArray, List.set_cons_zero, List.set_cons_succ, i64_w, i32_w]
        rfl
       refine pure_ (i := 7) (N := some 34) (v := ?_) (a' := ?_) #[true, true, true, true, true, true, true, true, false] rfl rfl (any_of HT_.out (by kernel_rfl)) (fun _ _ _ h => h) (Or.inl ⟨by rfl, ?_⟩) ?_ ?_
       rotate_left
       ·
        intro w'
        go_simp
        with_reducible rfl
       rotate_left
       ·
        simp only [Act.put, List.setIfInBounds_toArray, List.set_cons_zero, List.set_cons_succ, i64_w, i32_w]
        rfl
       refine last_ (i := 8) (N := none) #[true, true, true, true, true, true, true, true, true] rfl rfl (one_of HT_.out (by kernel_rfl)) (by decide) (fun K hK => ?_)
       have hs29 : w26.cell? ⟨gb630, 1, none⟩ = some (.string a0_1) := (blk_cell BK630.out 1).trans rfl
       have hfs29 := blk_frozen BK630.out 1
       have hns29_1 := NB631_630.out
       have hms29_1 := NB630_631.out
       refine skip_ (w1 := ?_) (by rfl) rfl ?_ ?_
       rotate_left
       ·
        go_simp
        rfl
       refine hK.out _ _ ?_
       clear hK K
       refine done_ (done_of HT_.out (by kernel_rfl)) ?_
       have hcz30_0 : w26.cell? ⟨gb630, 0, none⟩ = some (.int .i64 a0_0) := (blk_cell BK630.out 0).trans rfl
       have hcz30_1 : w26.cell? ⟨gb630, 1, none⟩ = some (.string a0_1) := (blk_cell BK630.out 1).trans rfl
       have hfz30_0 := blk_frozen BK630.out 0
       have hfz30_1 := blk_frozen BK630.out 1
       have hcz31_0 : w26.cell? ⟨gb631, 0, none⟩ = some (.int .i64 0) := (blk_cell BK631.out 0).trans rfl
       have hcz31_1 : w26.cell? ⟨gb631, 1, none⟩ = some (.string (⟨#[]⟩ : ByteArray)) := (blk_cell BK631.out 1).trans rfl
       have hfz31_0 := blk_frozen BK631.out 0
       have hfz31_1 := blk_frozen BK631.out 1
       try go_wp2
       refine bodyPost_ret (results_ctt rfl _ _ gb631 28 #[.int .i64 a0_0, .string (a0_1 ++ (strOfNums y634))] (0, 0) _ rfl (by (with_reducible repeat (first | refine blk_drewN ?_ _ | refine blk_drew ?_ | refine blk_alloc ?_ _)); refine blk_put (cs := #[.int .i64 a0_0, .string (⟨#[]⟩ : ByteArray)]) ?_ 1 _ rfl; (with_reducible repeat (first | refine blk_drewN ?_ _ | refine blk_drew ?_ | refine blk_alloc ?_ _)); refine blk_put (cs := #[.int .i64 0, .string (⟨#[]⟩ : ByteArray)]) ?_ 0 _ rfl; (with_reducible repeat (first | refine blk_drewN ?_ _ | refine blk_drew ?_ | refine blk_alloc ?_ _)); refine blk_far ?_ NB631_630.out _; (with_reducible repeat (first | refine blk_drewN ?_ _ | refine blk_drew ?_ | refine blk_alloc ?_ _)); exact BK631.out) Try.underlying28 rfl (by kernel_rfl)) rfl ?_
       exact ⟨by first | rfl | (simp [errW_none, errW_some] <;> rfl) | (simp only [← hji15]; first | rfl | (simp [errW_none, errW_some] <;> rfl)) | (simp [*, errW_none, errW_some] <;> rfl), bw HB.out⟩
      ·
       rw [if_neg c18] at H
       exact absurd H (by simp)
     ·
      rw [if_neg c17] at H
      exact absurd H (by simp)
    ·
     rw [if_neg c16] at H
     exact absurd H (by simp)
  ·
   replace c6 := Bool.eq_false_iff.mpr c6
   subst c6
   have H1 : (some (a0_0, a0_1, 0, false)) = some (r1, r2, r3, r4) := by rw [if_neg (show ¬ (false = true) by decide)] at H; exact H
   clear H
   have H := H1
   clear H1
   simp only [Option.some.injEq, Prod.mk.injEq] at H
   obtain ⟨rfl, rfl, rfl, rfl⟩ := H
   (try (have c7b9 := c7b0; rw [show wrap64 ((a0_1.size : Int) / 256) = (a0_1.size : Int) / 256 from by unfold wrap64; omega] at c7b9)); (try rw [show wrap64 ((a0_1.size : Int) / 256) = (a0_1.size : Int) / 256 from by unfold wrap64; omega])
   go_enter Try.func56, Try.ntmps56
   go_wp2_with (first | ((with_reducible refine gate_dst (N := 2) rfl ?_); refine box_event ?hg (N := 2) ?hd (cs := #[.int .i64 a0_0, .string a0_1]) (t := 28) ?hr ?_; (case hd => rfl); (case hg => rfl); (case hr => first | (go_simp; done) | (go_simp; rfl)); intro gb630 hg w32 hbox hb; have n0_ := Aside0.mk (below_step (bw HB.out) hb); have n1_ := Aside0.mk (hbox); have n2_ := Aside0.mk ((by rw [hg]; exact (below_size (bw HB.out)) : w.heap.size ≤ gb630)); have n3_ := Aside0.mk ((by rw [hg]; exact (below_size (bw HB.out)) : w.heap.size ≤ gb630)); clear HB; have HB := n0_; have BK630 := n1_; have GW630 := n2_; have GE630 := n3_; clear n0_ n1_ n2_ n3_; clear hb hbox hg) | ((with_reducible refine gate_dst (N := 4) rfl ?_); refine box_event ?hg (N := 4) ?hd (cs := #[.int .i64 0, .string (⟨#[]⟩ : ByteArray)]) (t := 28) ?hr ?_; (case hd => rfl); (case hg => rfl); (case hr => first | (go_simp; done) | (go_simp; rfl)); intro gb631 hg w33 hbox hb; have n0_ := Aside0.mk (blk_below (g := gb630) (o := .cells #[.int .i64 a0_0, .string a0_1] 28 (0, 0)) (bk BK630.out) hb); have n1_ := Aside0.mk (below_step (bw HB.out) hb); have n2_ := Aside0.mk (hbox); have n3_ := Aside0.mk ((by rw [hg]; exact (below_size (bw HB.out)) : w.heap.size ≤ gb631)); have n4_ := Aside0.mk ((by rw [hg]; exact (below_size (bw HB.out)) : w.heap.size ≤ gb631)); have n5_ := Aside0.mk ((by rw [hg]; exact Nat.ne_of_lt (blk_lt (g := gb630) (o := .cells #[.int .i64 a0_0, .string a0_1] 28 (0, 0)) (bk BK630.out)) : gb630 ≠ gb631)); have n6_ := Aside0.mk ((by rw [hg]; exact Nat.ne_of_gt (blk_lt (g := gb630) (o := .cells #[.int .i64 a0_0, .string a0_1] 28 (0, 0)) (bk BK630.out)) : gb631 ≠ gb630)); clear BK630; clear HB; have BK630 := n0_; have HB := n1_; have BK631 := n2_; have GW631 := n3_; have GE631 := n4_; have NB630_631 := n5_; have NB631_630 := n6_; clear n0_ n1_ n2_ n3_ n4_ n5_ n6_; clear hb hbox hg; have hnb34 := NB630_631.out; have hnc34 := NB631_630.out; have hcz35_0 : w33.cell? ⟨gb630, 0, none⟩ = some (.int .i64 a0_0) := (blk_cell BK630.out 0).trans rfl; have hcz35_1 : w33.cell? ⟨gb630, 1, none⟩ = some (.string a0_1) := (blk_cell BK630.out 1).trans rfl; have hfz35_0 := blk_frozen BK630.out 0; have hfz35_1 := blk_frozen BK630.out 1) | ((with_reducible refine gate_callee (f := 57) rfl ?_); refine goesL_ (some 9) rfl rfl Try.func57 (by kernel_rfl) rfl #[.agg #[.int .i64 a0_0, .string a0_1]] rfl ar ?_; (with_reducible refine (spec_GoodMemory.calls a0_0 a0_1 true _ A3.out).mono ?_); rintro e w36 ⟨rfl, hb⟩; refine ⟨_, rfl, ?_⟩; have n0_ := Aside0.mk (blk_below (g := gb630) (o := .cells #[.int .i64 a0_0, .string a0_1] 28 (0, 0)) (bk BK630.out) hb); have n1_ := Aside0.mk (blk_below (g := gb631) (o := .cells #[.int .i64 0, .string (⟨#[]⟩ : ByteArray)] 28 (0, 0)) (bk BK631.out) hb); have n2_ := Aside0.mk (below_step (bw HB.out) hb); clear BK630; clear BK631; clear HB; have BK630 := n0_; have BK631 := n1_; have HB := n2_; clear n0_ n1_ n2_; (try clear hb)) | ((with_reducible refine gate_callee (f := 58) rfl ?_); refine goesL_ (some 13) rfl rfl Try.func58 (by kernel_rfl) rfl #[.int .i64 a1, .int .i64 0, .int .i64 8] rfl ar ?_; (with_reducible refine (spec_l1In.calls a1 0 8 false _ A5.out).mono ?_); rintro e w' ⟨rfl, ⟨nd, rfl⟩⟩; refine ⟨_, rfl, ?_⟩; (try (rw [drewN_self w36]; generalize hq_ : World.drewN w36 _ = w36; have n0_ : Aside0 (w36.heap[gb630]? = some (.cells #[.int .i64 a0_0, .string a0_1] 28 (0, 0))) := ⟨by rw [← hq_]; exact (bk BK630.out)⟩; have n1_ : Aside0 (w36.heap[gb631]? = some (.cells #[.int .i64 0, .string (⟨#[]⟩ : ByteArray)] 28 (0, 0))) := ⟨by rw [← hq_]; exact (bk BK631.out)⟩; have n2_ : Aside0 (Below w.heap.size w w36) := ⟨by rw [← hq_]; exact (bw HB.out)⟩; clear BK630 BK631 HB hq_; have BK630 := n0_; have BK631 := n1_; have HB := n2_; clear n0_ n1_ n2_)); have hcz37_0 : w36.cell? ⟨gb630, 0, none⟩ = some (.int .i64 a0_0) := (blk_cell BK630.out 0).trans rfl; have hcz37_1 : w36.cell? ⟨gb630, 1, none⟩ = some (.string a0_1) := (blk_cell BK630.out 1).trans rfl; have hfz37_0 := blk_frozen BK630.out 0; have hfz37_1 := blk_frozen BK630.out 1; have hcz38_0 : w36.cell? ⟨gb631, 0, none⟩ = some (.int .i64 0) := (blk_cell BK631.out 0).trans rfl; have hcz38_1 : w36.cell? ⟨gb631, 1, none⟩ = some (.string (⟨#[]⟩ : ByteArray)) := (blk_cell BK631.out 1).trans rfl; have hfz38_0 := blk_frozen BK631.out 0; have hfz38_1 := blk_frozen BK631.out 1))
   refine bodyPost_ret (results_ctt rfl _ _ gb631 28 #[.int .i64 a0_0, .string a0_1] (0, 0) _ rfl (by (with_reducible repeat (first | refine blk_drewN ?_ _ | refine blk_drew ?_ | refine blk_alloc ?_ _)); refine blk_put (cs := #[.int .i64 a0_0, .string (⟨#[]⟩ : ByteArray)]) ?_ 1 _ rfl; (with_reducible repeat (first | refine blk_drewN ?_ _ | refine blk_drew ?_ | refine blk_alloc ?_ _)); refine blk_put (cs := #[.int .i64 0, .string (⟨#[]⟩ : ByteArray)]) ?_ 0 _ rfl; (with_reducible repeat (first | refine blk_drewN ?_ _ | refine blk_drew ?_ | refine blk_alloc ?_ _)); exact BK631.out) Try.underlying28 rfl (by kernel_rfl)) rfl ?_
   exact ⟨by first | rfl | (simp [errW_none, errW_some] <;> rfl) | (simp [*, errW_none, errW_some] <;> rfl), bw HB.out⟩
 ·
  replace c4 := Bool.eq_false_iff.mpr c4
  subst c4
  have H1 : (some (0, (⟨#[]⟩ : ByteArray), 0, false)) = some (r1, r2, r3, r4) := by rw [if_neg (show ¬ (false = true) by decide)] at H; exact H
  clear H
  have H := H1
  clear H1
  simp only [Option.some.injEq, Prod.mk.injEq] at H
  obtain ⟨rfl, rfl, rfl, rfl⟩ := H
  (try (have c7b9 := c7b0; rw [show wrap64 ((a0_1.size : Int) / 256) = (a0_1.size : Int) / 256 from by unfold wrap64; omega] at c7b9)); (try rw [show wrap64 ((a0_1.size : Int) / 256) = (a0_1.size : Int) / 256 from by unfold wrap64; omega])
  go_enter Try.func56, Try.ntmps56
  go_wp2_with (first | ((with_reducible refine gate_dst (N := 2) rfl ?_); refine box_event ?hg (N := 2) ?hd (cs := #[.int .i64 a0_0, .string a0_1]) (t := 28) ?hr ?_; (case hd => rfl); (case hg => rfl); (case hr => first | (go_simp; done) | (go_simp; rfl)); intro gb630 hg w39 hbox hb; have n0_ := Aside0.mk (below_step (bw HB.out) hb); have n1_ := Aside0.mk (hbox); have n2_ := Aside0.mk ((by rw [hg]; exact (below_size (bw HB.out)) : w.heap.size ≤ gb630)); have n3_ := Aside0.mk ((by rw [hg]; exact (below_size (bw HB.out)) : w.heap.size ≤ gb630)); clear HB; have HB := n0_; have BK630 := n1_; have GW630 := n2_; have GE630 := n3_; clear n0_ n1_ n2_ n3_; clear hb hbox hg) | ((with_reducible refine gate_dst (N := 4) rfl ?_); refine box_event ?hg (N := 4) ?hd (cs := #[.int .i64 0, .string (⟨#[]⟩ : ByteArray)]) (t := 28) ?hr ?_; (case hd => rfl); (case hg => rfl); (case hr => first | (go_simp; done) | (go_simp; rfl)); intro gb631 hg w40 hbox hb; have n0_ := Aside0.mk (blk_below (g := gb630) (o := .cells #[.int .i64 a0_0, .string a0_1] 28 (0, 0)) (bk BK630.out) hb); have n1_ := Aside0.mk (below_step (bw HB.out) hb); have n2_ := Aside0.mk (hbox); have n3_ := Aside0.mk ((by rw [hg]; exact (below_size (bw HB.out)) : w.heap.size ≤ gb631)); have n4_ := Aside0.mk ((by rw [hg]; exact (below_size (bw HB.out)) : w.heap.size ≤ gb631)); have n5_ := Aside0.mk ((by rw [hg]; exact Nat.ne_of_lt (blk_lt (g := gb630) (o := .cells #[.int .i64 a0_0, .string a0_1] 28 (0, 0)) (bk BK630.out)) : gb630 ≠ gb631)); have n6_ := Aside0.mk ((by rw [hg]; exact Nat.ne_of_gt (blk_lt (g := gb630) (o := .cells #[.int .i64 a0_0, .string a0_1] 28 (0, 0)) (bk BK630.out)) : gb631 ≠ gb630)); clear BK630; clear HB; have BK630 := n0_; have HB := n1_; have BK631 := n2_; have GW631 := n3_; have GE631 := n4_; have NB630_631 := n5_; have NB631_630 := n6_; clear n0_ n1_ n2_ n3_ n4_ n5_ n6_; clear hb hbox hg; have hnb41 := NB630_631.out; have hnc41 := NB631_630.out; have hcz42_0 : w40.cell? ⟨gb630, 0, none⟩ = some (.int .i64 a0_0) := (blk_cell BK630.out 0).trans rfl; have hcz42_1 : w40.cell? ⟨gb630, 1, none⟩ = some (.string a0_1) := (blk_cell BK630.out 1).trans rfl; have hfz42_0 := blk_frozen BK630.out 0; have hfz42_1 := blk_frozen BK630.out 1) | ((with_reducible refine gate_callee (f := 57) rfl ?_); refine goesL_ (some 9) rfl rfl Try.func57 (by kernel_rfl) rfl #[.agg #[.int .i64 a0_0, .string a0_1]] rfl ar ?_; (with_reducible refine (spec_GoodMemory.calls a0_0 a0_1 false _ A3.out).mono ?_); rintro e w43 ⟨rfl, hb⟩; refine ⟨_, rfl, ?_⟩; have n0_ := Aside0.mk (blk_below (g := gb630) (o := .cells #[.int .i64 a0_0, .string a0_1] 28 (0, 0)) (bk BK630.out) hb); have n1_ := Aside0.mk (blk_below (g := gb631) (o := .cells #[.int .i64 0, .string (⟨#[]⟩ : ByteArray)] 28 (0, 0)) (bk BK631.out) hb); have n2_ := Aside0.mk (below_step (bw HB.out) hb); clear BK630; clear BK631; clear HB; have BK630 := n0_; have BK631 := n1_; have HB := n2_; clear n0_ n1_ n2_; (try clear hb); have hcz44_0 : w43.cell? ⟨gb631, 0, none⟩ = some (.int .i64 0) := (blk_cell BK631.out 0).trans rfl; have hcz44_1 : w43.cell? ⟨gb631, 1, none⟩ = some (.string (⟨#[]⟩ : ByteArray)) := (blk_cell BK631.out 1).trans rfl; have hfz44_0 := blk_frozen BK631.out 0; have hfz44_1 := blk_frozen BK631.out 1))
  refine bodyPost_ret (results_ctt rfl _ _ gb631 28 #[.int .i64 0, .string (⟨#[]⟩ : ByteArray)] (0, 0) _ rfl (by (with_reducible repeat (first | refine blk_drewN ?_ _ | refine blk_drew ?_ | refine blk_alloc ?_ _)); refine blk_put (cs := #[.int .i64 0, .string (⟨#[]⟩ : ByteArray)]) ?_ 1 _ rfl; (with_reducible repeat (first | refine blk_drewN ?_ _ | refine blk_drew ?_ | refine blk_alloc ?_ _)); refine blk_put (cs := #[.int .i64 0, .string (⟨#[]⟩ : ByteArray)]) ?_ 0 _ rfl; (with_reducible repeat (first | refine blk_drewN ?_ _ | refine blk_drew ?_ | refine blk_alloc ?_ _)); exact BK631.out) Try.underlying28 rfl (by kernel_rfl)) rfl ?_
  exact ⟨by first | rfl | (simp [errW_none, errW_some] <;> rfl) | (simp [*, errW_none, errW_some] <;> rfl), bw HB.out⟩

end Go.Proofs.Ytdjpbhmkcamkpaa.Q
