-- Written by a program of this session; it walks the functions that the law reaches.
import Derived.Test.YtmmlgkepnjelnaaQx0
import Derived.Test.YtmmlgkepnjelnaaQx1
import Derived.Test.YtmmlgkepnjelnaaQx2
namespace Go.Proofs.Ytmmlgkepnjelnaa.Q
open Go.RowKit Go.Proofs.YtmmlgkepnjelnaaW.PrintWords Go.Proofs.YtmmlgkepnjelnaaW.PrintLast Go.Proofs.YtmmlgkepnjelnaaW.PrintMore
attribute [local go_sem] max2_int min2_int max_two min_two max_three min_three max_four min_four   -- for this text's walks alone
set_option linter.unusedVariables false
set_option linter.unusedSimpArgs false

/-! ### spec_l9R_function: function 19 -/
def spec_l9R_function.j0 : Nat → Int → ByteArray → Int → Bool → List Int → Int → List Int → Option (List Int × Int × List Int × (List (S44)) × ByteArray × Int × Bool)
 | 0, _, _, _, _, _, _, _ => none
 | k + 1, x4, x1000, x1001, x1002, x211000, x211001, x211002 => if x1002 = true then (some (x211000, x211001, x211002, ([] : List (S44)), x1000, x1001, x1002)) else (if 0 ≤ x1001 then (if x1001 ≤ (wrap64 (x1001 + (wrap64 (x4)))) then (if (wrap64 (x1001 + (wrap64 (x4)))) ≤ (x1000.size : Int) then ((spec_l6Read.f k (x1000.extract (x1001 : Int).toNat ((wrap64 (x1001 + (wrap64 (x4)))) : Int).toNat)).bind fun bt225 => (if bt225.2 = true then ((spec_l7Func.f k x211000 x211001 x211002 bt225.1).bind fun t229 => (some (x211000, x211001, x211002, bt225.1, x1000, wrap64 (x1001 + (wrap64 (x4))), !t229))) else (some (x211000, x211001, x211002, bt225.1, x1000, wrap64 (x1001 + (wrap64 (x4))), true)))) else (none)) else (none)) else (none))
def spec_l9R_function.f (k : Nat) (s0_0 : ByteArray) (s0_1 : Int) (s0_2 : Bool) : Option (List Int × Int × List Int × (List (S44)) × ByteArray × Int × Bool) := (spec_l9R_types.f k s0_0 s0_1 s0_2).bind fun bt204 => ((spec_l9R_byte.f bt204.2.1 bt204.2.2.1 bt204.2.2.2).bind fun bt211 => ((spec_l9R_types.f k bt211.2.1 bt211.2.2.1 bt211.2.2.2).bind fun bt215 => ((spec_l9R_num.f k bt215.2.1 bt215.2.2.1 bt215.2.2.2 32).bind fun bt221 => (if bt221.1 > (IntKind.u64.wrap (wrap64 ((bt221.2.1.size : Int) - bt221.2.2.1))) then (spec_l9R_function.j0 k bt221.1 bt221.2.1 bt221.2.2.1 true bt204.1 bt211.1 bt215.1) else (spec_l9R_function.j0 k bt221.1 bt221.2.1 bt221.2.2.1 bt221.2.2.2 bt204.1 bt211.1 bt215.1)))))
def spec_l9R_function.T5 : Bool × List (List Nat × List Nat) := (true, [([], []), ([], []), ([1], [1]), ([2], [2]), ([3], [3]), ([4], [4]), ([], []), ([6], [6]), ([7], [7]), ([8], [8]), ([5, 9], [5, 9]), ([10], [10]), ([0, 11], [0, 11])])
def spec_l9R_function.B5 : List Nat := [0, 0, 2, 6, 14, 30, 0, 64, 192, 448, 1022, 2046, 4095]
theorem spec_l9R_function.tab5 : rtab .any (opsOf Try.f19 5) = spec_l9R_function.T5 := by kernel_rfl
theorem spec_l9R_function.bits5 : waitsOk spec_l9R_function.T5.2 spec_l9R_function.B5 = true := by kernel_rfl
def spec_l9R_function.T10 : Bool × List (List Nat × List Nat) := (true, [([], []), ([0], [0]), ([1], [1]), ([2], [2]), ([], []), ([4], [4]), ([5], [5]), ([6], [6]), ([], []), ([3, 7, 8], [3, 7, 8]), ([9], [9]), ([10], [10]), ([11], [11]), ([11], [11]), ([12, 10, 0, 1, 2, 3, 4, 5, 6, 7, 8, 9, 10, 11, 12], [12]), ([13, 14, 0, 1, 2, 3, 4, 5, 6, 7, 8, 9, 10, 11, 12, 13, 14], [13])])
def spec_l9R_function.B10 : List Nat := [0, 1, 3, 7, 0, 16, 48, 112, 0, 511, 1023, 2047, 4095, 4095, 8191, 32767]
theorem spec_l9R_function.tab10 : rtab .any (opsOf Try.f19 10) = spec_l9R_function.T10 := by kernel_rfl
theorem spec_l9R_function.bits10 : waitsOk spec_l9R_function.T10.2 spec_l9R_function.B10 = true := by kernel_rfl
set_option maxHeartbeats 8000000 in
set_option maxRecDepth 100000 in
theorem spec_l9R_function.calls (k : Nat) (g : Nat) (s0_0 : ByteArray) (s0_1 : Int) (s0_2 : Bool) (r1 : List Int) (r2 : Int) (r3 : List Int) (r4 : List (S44)) (r5 : ByteArray) (r6 : Int) (r7 : Bool) (w0 w : World) (hI : IsS48 w0 w g s0_0 s0_1 s0_2) (hB : Below w0.heap.size w0 w) (h : spec_l9R_function.f k s0_0 s0_1 s0_2 = some (r1, r2, r3, r4, r5, r6, r7)) :
  Calls Try.prog 19 #[.pointer (some ⟨g, 0, none⟩)] w fun e w' => ∃ v0_ v2_ v3_ : Value, e = .returned (.agg #[v0_, .int .i64 r2, v2_, v3_]) ∧ Kd.R (Kd.int .i64) 3 w' w.heap.size (fun k_ => some k_ ≠ (v2_ : Value).ownBlock) v0_ r1 ∧ Kd.R (Kd.int .i64) 3 w' w.heap.size (fun k_ => some k_ ≠ (v0_ : Value).ownBlock) v2_ r3 ∧ Kd.R k44 44 w' w.heap.size (fun _ => True) v3_ r4 ∧ IsS48 w0 w' g r5 r6 r7 ∧ Below w0.heap.size w0 w' ∧ KeepBut w w' g none := by
 have hu25 := Try.underlying25
 have HI0 := Aside0.mk hI
 have HK := Aside0.mk (KeepBut.refl w g none)
 have HL := Aside0.mk hB.size
 clear hI
 have HW0 := Aside0.mk hB.size
 have HB := Aside0.mk hB
 clear hB
 have H : ((spec_l9R_types.f k s0_0 s0_1 s0_2).bind fun bt204 => ((spec_l9R_byte.f bt204.2.1 bt204.2.2.1 bt204.2.2.2).bind fun bt211 => ((spec_l9R_types.f k bt211.2.1 bt211.2.2.1 bt211.2.2.2).bind fun bt215 => ((spec_l9R_num.f k bt215.2.1 bt215.2.2.1 bt215.2.2.2 32).bind fun bt221 => (if bt221.1 > (IntKind.u64.wrap (wrap64 ((bt221.2.1.size : Int) - bt221.2.2.1))) then (spec_l9R_function.j0 k bt221.1 bt221.2.1 bt221.2.2.1 true bt204.1 bt211.1 bt215.1) else (spec_l9R_function.j0 k bt221.1 bt221.2.1 bt221.2.2.1 bt221.2.2.2 bt204.1 bt211.1 bt215.1)))))) = some (r1, r2, r3, r4, r5, r6, r7) := h
 clear h
 replace H := Option.bind_eq_some_iff.mp H
 obtain ⟨⟨t204, t207, t208, t209⟩, A20, H⟩ := H
 replace H : ((spec_l9R_byte.f t207 t208 t209).bind fun bt211 => ((spec_l9R_types.f k bt211.2.1 bt211.2.2.1 bt211.2.2.2).bind fun bt215 => ((spec_l9R_num.f k bt215.2.1 bt215.2.2.1 bt215.2.2.2 32).bind fun bt221 => (if bt221.1 > (IntKind.u64.wrap (wrap64 ((bt221.2.1.size : Int) - bt221.2.2.1))) then (spec_l9R_function.j0 k bt221.1 bt221.2.1 bt221.2.2.1 true t204 bt211.1 bt215.1) else (spec_l9R_function.j0 k bt221.1 bt221.2.1 bt221.2.2.1 bt221.2.2.2 t204 bt211.1 bt215.1))))) = some (r1, r2, r3, r4, r5, r6, r7) := H
 have A2 := Aside0.mk A20
 clear A20
 replace H := Option.bind_eq_some_iff.mp H
 obtain ⟨⟨t211, t212, t213, t214⟩, A30, H⟩ := H
 replace H : ((spec_l9R_types.f k t212 t213 t214).bind fun bt215 => ((spec_l9R_num.f k bt215.2.1 bt215.2.2.1 bt215.2.2.2 32).bind fun bt221 => (if bt221.1 > (IntKind.u64.wrap (wrap64 ((bt221.2.1.size : Int) - bt221.2.2.1))) then (spec_l9R_function.j0 k bt221.1 bt221.2.1 bt221.2.2.1 true t204 t211 bt215.1) else (spec_l9R_function.j0 k bt221.1 bt221.2.1 bt221.2.2.1 bt221.2.2.2 t204 t211 bt215.1)))) = some (r1, r2, r3, r4, r5, r6, r7) := H
 have A3 := Aside0.mk A30
 clear A30
 replace H := Option.bind_eq_some_iff.mp H
 obtain ⟨⟨t215, t218, t219, t220⟩, A40, H⟩ := H
 replace H : ((spec_l9R_num.f k t218 t219 t220 32).bind fun bt221 => (if bt221.1 > (IntKind.u64.wrap (wrap64 ((bt221.2.1.size : Int) - bt221.2.2.1))) then (spec_l9R_function.j0 k bt221.1 bt221.2.1 bt221.2.2.1 true t204 t211 t215) else (spec_l9R_function.j0 k bt221.1 bt221.2.1 bt221.2.2.1 bt221.2.2.2 t204 t211 t215))) = some (r1, r2, r3, r4, r5, r6, r7) := H
 have A4 := Aside0.mk A40
 clear A40
 replace H := Option.bind_eq_some_iff.mp H
 obtain ⟨⟨t221, t222, t223, t224⟩, A50, H⟩ := H
 replace H : (if t221 > (IntKind.u64.wrap (wrap64 ((t222.size : Int) - t223))) then (spec_l9R_function.j0 k t221 t222 t223 true t204 t211 t215) else (spec_l9R_function.j0 k t221 t222 t223 t224 t204 t211 t215)) = some (r1, r2, r3, r4, r5, r6, r7) := H
 have A5 := Aside0.mk A50
 clear A50
 have HC6 := Aside0.mk H
 clear H
 go_enter Try.func19, Try.ntmps19
 try go_wp2_with (first | ((with_reducible refine gate_dst (N := 2) rfl ?_); refine box_event ?hg (N := 2) ?hd (cs := #[.slice none 0 0, .int .i64 0, .slice none 0 0, .slice none 0 0]) (t := 25) ?hr ?_; (case hd => rfl); (case hg => rfl); (case hr => first | (go_simp; done) | (go_simp; rfl)); intro gb203 hg w7 hbox hb; have n0_ := Aside0.mk (IsS48.below (y0 HI0.out) hb); have n1_ := Aside0.mk (KeepBut.trans (y2 HK.out) (KeepBut.of_below hb g none) (.inl rfl)); have n2_ := Aside0.mk (below_step (y1 HB.out) hb); have n3_ := Aside0.mk (hbox); have n4_ := Aside0.mk ((by rw [hg]; exact (keep_size (w := w) (g := g) (row := none) (y2 HK.out)) : w.heap.size ≤ gb203)); have n5_ := Aside0.mk ((Nat.le_trans HW0.out (by rw [hg]; exact (keep_size (w := w) (g := g) (row := none) (y2 HK.out)) : w.heap.size ≤ gb203) : w0.heap.size ≤ gb203)); have n6_ := Aside0.mk ((by rw [hg]; exact Nat.ne_of_lt (IsS48.lt (show IsS48 w0 _ g s0_0 s0_1 s0_2 from y0 HI0.out)) : g ≠ gb203)); have n7_ := Aside0.mk ((by rw [hg]; exact Nat.ne_of_gt (IsS48.lt (show IsS48 w0 _ g s0_0 s0_1 s0_2 from y0 HI0.out)) : gb203 ≠ g)); clear HI0; clear HK; clear HB; have HI0 := n0_; have HK := n1_; have HB := n2_; have BK203 := n3_; have GW203 := n4_; have GE203 := n5_; have NB0_203 := n6_; have NB203_0 := n7_; clear n0_ n1_ n2_ n3_ n4_ n5_ n6_ n7_; clear hb hbox hg) | ((with_reducible refine gate_callee (f := 42) rfl ?_); refine goesL_ (some 9) rfl rfl Try.func42 (by kernel_rfl) rfl #[.pointer (some ⟨g, 0, none⟩)] rfl ar ?_; (with_reducible refine (spec_l9R_types.calls k g s0_0 s0_1 s0_2 t204 t207 t208 t209 w0 _ ?side1 ?side2 A2.out).mono ?_); (case side1 => repeat (first | (with_reducible first | exact HI0.out | apply IsS48.alloc | apply IsS48.drewN | apply IsS48.drew | apply IsS48.set_0 | apply IsS48.set_1 | apply IsS48.set_2 | apply IsS48.far (hne := NB0_203.out)) | exact HI0.out)); (case side2 => repeat (first | (with_reducible first | exact HB.out | apply below_alloc | apply pw_below_drewN | apply below_drew1 | refine below_set ?_ (IsS48.ge HI0.out) | refine below_set ?_ GE203.out) | exact HB.out)); rintro e w8 ⟨v205, rfl, ho0, hi, hb, hk⟩; refine ⟨_, rfl, ?_⟩; have n0_ := Aside0.mk (KeepBut.blk hk (g' := gb203) (o := .cells #[.slice none 0 0, .int .i64 0, .slice none 0 0, .slice none 0 0] 25 (0, 0)) (bk BK203.out) NB203_0.out (by simp)); have n1_ := Aside0.mk (Kd.R_lower ho0 (keep_size (w := w) (g := g) (row := none) (y3 HK.out))); have n2_ := Aside0.mk (KeepBut.trans (y3 HK.out) hk (.inl rfl)); have n3_ := Aside0.mk (hb); have n4_ := Aside0.mk (hi); clear BK203; clear HK; clear HB; clear HI0; have BK203 := n0_; have HO206 := n1_; have HK := n2_; have HB := n3_; have HI0 := n4_; clear n0_ n1_ n2_ n3_ n4_; (try clear hb); (try clear hb2); (try clear hk); (try clear hi); (try clear ho0); obtain ⟨Ao9, co9, eo9⟩ := Kd.R_slice HO206.out; subst eo9) | ((with_reducible refine gate_dst (N := 3) rfl ?_); refine box_event ?hg (N := 3) ?hd (cs := #[.slice none 0 0, .int .i64 0, .slice none 0 0, .slice none 0 0]) (t := 25) ?hr ?_; (case hd => rfl); (case hg => rfl); (case hr => first | (go_simp; done) | (go_simp; rfl)); intro gb210 hg w10 hbox hb; have n0_ := Aside0.mk (Kd.R_below (kr_ HO206.out) hb); have n1_ := Aside0.mk (IsS48.below (y4 HI0.out) hb); have n2_ := Aside0.mk (blk_below (g := gb203) (o := .cells #[.slice none 0 0, .int .i64 0, .slice none 0 0, .slice none 0 0] 25 (0, 0)) (bk BK203.out) hb); have n3_ := Aside0.mk (KeepBut.trans (y3 HK.out) (KeepBut.of_below hb g none) (.inl rfl)); have n4_ := Aside0.mk (below_step (y5 HB.out) hb); have n5_ := Aside0.mk (hbox); have n6_ := Aside0.mk ((by rw [hg]; exact (keep_size (w := w) (g := g) (row := none) (y3 HK.out)) : w.heap.size ≤ gb210)); have n7_ := Aside0.mk ((Nat.le_trans HW0.out (by rw [hg]; exact (keep_size (w := w) (g := g) (row := none) (y3 HK.out)) : w.heap.size ≤ gb210) : w0.heap.size ≤ gb210)); have n8_ := Aside0.mk ((by rw [hg]; exact Nat.ne_of_lt (blk_lt (g := gb203) (o := .cells #[.slice none 0 0, .int .i64 0, .slice none 0 0, .slice none 0 0] 25 (0, 0)) (bk BK203.out)) : gb203 ≠ gb210)); have n9_ := Aside0.mk ((by rw [hg]; exact Nat.ne_of_gt (blk_lt (g := gb203) (o := .cells #[.slice none 0 0, .int .i64 0, .slice none 0 0, .slice none 0 0] 25 (0, 0)) (bk BK203.out)) : gb210 ≠ gb203)); have n10_ := Aside0.mk ((by rw [hg]; exact Nat.ne_of_lt (IsS48.lt (show IsS48 w0 _ g t207 t208 t209 from y4 HI0.out)) : g ≠ gb210)); have n11_ := Aside0.mk ((by rw [hg]; exact Nat.ne_of_gt (IsS48.lt (show IsS48 w0 _ g t207 t208 t209 from y4 HI0.out)) : gb210 ≠ g)); clear HO206; clear HI0; clear BK203; clear HK; clear HB; have HO206 := n0_; have HI0 := n1_; have BK203 := n2_; have HK := n3_; have HB := n4_; have BK210 := n5_; have GW210 := n6_; have GE210 := n7_; have NB203_210 := n8_; have NB210_203 := n9_; have NB0_210 := n10_; have NB210_0 := n11_; clear n0_ n1_ n2_ n3_ n4_ n5_ n6_ n7_ n8_ n9_ n10_ n11_; clear hb hbox hg; have hnb11 := NB210_203.out; have hnc11 := NB203_210.out; have hnb12 := NB210_0.out; have hnc12 := NB0_210.out; obtain ⟨hcz13_0, hcz13_1, hcz13_2, hcz13_3⟩ := cs4_ BK210.out; obtain ⟨hfz13_0, hfz13_1, hfz13_2, hfz13_3⟩ := fz4_ BK210.out) | ((with_reducible refine gate_callee (f := 43) rfl ?_); refine goesL_ (some 12) rfl rfl Try.func43 (by kernel_rfl) rfl #[.pointer (some ⟨g, 0, none⟩)] rfl ar ?_; (with_reducible refine (spec_l9R_byte.calls g t207 t208 t209 t211 t212 t213 t214 w0 _ ?side1 ?side2 A3.out).mono ?_); (case side1 => repeat (first | (with_reducible first | exact HI0.out | apply IsS48.alloc | apply IsS48.drewN | apply IsS48.drew | apply IsS48.set_0 | apply IsS48.set_1 | apply IsS48.set_2 | apply IsS48.far (hne := NB0_203.out) | apply IsS48.far (hne := NB0_210.out)) | exact HI0.out)); (case side2 => repeat (first | (with_reducible first | exact HB.out | apply below_alloc | apply pw_below_drewN | apply below_drew1 | refine below_set ?_ (IsS48.ge HI0.out) | refine below_set ?_ GE203.out | refine below_set ?_ GE210.out) | exact HB.out)); rintro e w14 ⟨rfl, hi, hb, hk⟩; refine ⟨_, rfl, ?_⟩; have n0_ := Aside0.mk (KeepBut.blk hk (g' := gb203) (o := .cells #[.slice none 0 0, .int .i64 0, .slice none 0 0, .slice none 0 0] 25 (0, 0)) (by refine blk_far ?_ NB203_210.out _; refine blk_far ?_ NB203_210.out _; refine blk_far ?_ NB203_210.out _; refine blk_far ?_ NB203_210.out _; (with_reducible repeat (first | refine blk_drewN ?_ _ | refine blk_drew ?_ | refine blk_alloc ?_ _)); exact BK203.out) NB203_0.out (by simp)); have n1_ := Aside0.mk (Kd.R_mono (Kd.R_keep (IsS48.apart (show IsS48 w0 _ g t207 t208 t209 from y4 HI0.out) (by (with_reducible repeat (first | apply Kd.R_alloc | apply Kd.R_drewN | apply Kd.R_drew)); exact (Kd.R_mono (Kd.R_far (p := ⟨gb210, 3, none⟩) (Kd.R_far (p := ⟨gb210, 2, none⟩) (Kd.R_far (p := ⟨gb210, 1, none⟩) (Kd.R_far (p := ⟨gb210, 0, none⟩) (Kd.R_types HO206.out BK210.out (by decide)) (fun _ hk => hk.2) (.slice Ao9 t204.length co9)) (fun _ hk => hk.2) (.int .i64 0)) (fun _ hk => hk.2) (.slice none 0 0)) (fun _ hk => hk.2) (.slice none 0 0)) (fun _ h_ => h_.1))) (by decide)) hk (fun _ h => h.2)) (fun _ h => h.1)); have n2_ := Aside0.mk (KeepBut.blk hk (g' := gb210) (o := .cells #[.slice Ao9 t204.length co9, .int .i64 0, .slice none 0 0, .slice none 0 0] 25 (0, 0)) (by refine blk_put (cs := #[.slice Ao9 t204.length co9, .int .i64 0, .slice none 0 0, .slice none 0 0]) ?_ 3 _ rfl; refine blk_put (cs := #[.slice Ao9 t204.length co9, .int .i64 0, .slice none 0 0, .slice none 0 0]) ?_ 2 _ rfl; refine blk_put (cs := #[.slice Ao9 t204.length co9, .int .i64 0, .slice none 0 0, .slice none 0 0]) ?_ 1 _ rfl; refine blk_put (cs := #[.slice none 0 0, .int .i64 0, .slice none 0 0, .slice none 0 0]) ?_ 0 _ rfl; (with_reducible repeat (first | refine blk_drewN ?_ _ | refine blk_drew ?_ | refine blk_alloc ?_ _)); exact BK210.out) NB210_0.out (by simp)); have n3_ := Aside0.mk (KeepBut.trans (y3 HK.out) hk (.inl rfl)); have n4_ := Aside0.mk (hb); have n5_ := Aside0.mk (hi); clear BK203; clear HO206; clear BK210; clear HK; clear HB; clear HI0; have BK203 := n0_; have HO206 := n1_; have BK210 := n2_; have HK := n3_; have HB := n4_; have HI0 := n5_; clear n0_ n1_ n2_ n3_ n4_ n5_; (try clear hb); (try clear hb2); (try clear hk); (try clear hi); obtain ⟨hcz15_0, hcz15_1, hcz15_2, hcz15_3⟩ := cs4_ BK210.out; obtain ⟨hfz15_0, hfz15_1, hfz15_2, hfz15_3⟩ := fz4_ BK210.out) | ((with_reducible refine gate_callee (f := 42) rfl ?_); refine goesL_ (some 15) rfl rfl Try.func42 (by kernel_rfl) rfl #[.pointer (some ⟨g, 0, none⟩)] rfl ar ?_; (with_reducible refine (spec_l9R_types.calls k g t212 t213 t214 t215 t218 t219 t220 w0 _ ?side1 ?side2 A4.out).mono ?_); (case side1 => repeat (first | (with_reducible first | exact HI0.out | apply IsS48.alloc | apply IsS48.drewN | apply IsS48.drew | apply IsS48.set_0 | apply IsS48.set_1 | apply IsS48.set_2 | apply IsS48.far (hne := NB0_203.out) | apply IsS48.far (hne := NB0_210.out)) | exact HI0.out)); (case side2 => repeat (first | (with_reducible first | exact HB.out | apply below_alloc | apply pw_below_drewN | apply below_drew1 | refine below_set ?_ (IsS48.ge HI0.out) | refine below_set ?_ GE203.out | refine below_set ?_ GE210.out) | exact HB.out)); rintro e w16 ⟨v216, rfl, ho0, hi, hb, hk⟩; refine ⟨_, rfl, ?_⟩; have n0_ := Aside0.mk (KeepBut.blk hk (g' := gb203) (o := .cells #[.slice none 0 0, .int .i64 0, .slice none 0 0, .slice none 0 0] 25 (0, 0)) (by refine blk_far ?_ NB203_210.out _; (with_reducible repeat (first | refine blk_drewN ?_ _ | refine blk_drew ?_ | refine blk_alloc ?_ _)); exact BK203.out) NB203_0.out (by simp)); have n1_ := Aside0.mk (Kd.R_mono (Kd.R_told (Kd.R_oldK (IsS48.apart (show IsS48 w0 _ g t212 t213 t214 from y4 HI0.out) (by (with_reducible repeat (first | apply Kd.R_alloc | apply Kd.R_drewN | apply Kd.R_drew)); exact (Kd.R_mono (Kd.R_far (p := ⟨gb210, 1, none⟩) (Kd.R_types HO206.out BK210.out (by decide)) (fun _ hk => hk.2) (.int .i64 t211)) (fun _ h_ => h_.1))) (by decide)) hk) (Kd.R_base ho0)) (fun _ h_ => h_.1)); have n2_ := Aside0.mk (KeepBut.blk hk (g' := gb210) (o := .cells #[.slice Ao9 t204.length co9, .int .i64 t211, .slice none 0 0, .slice none 0 0] 25 (0, 0)) (by refine blk_put (cs := #[.slice Ao9 t204.length co9, .int .i64 0, .slice none 0 0, .slice none 0 0]) ?_ 1 _ rfl; (with_reducible repeat (first | refine blk_drewN ?_ _ | refine blk_drew ?_ | refine blk_alloc ?_ _)); exact BK210.out) NB210_0.out (by simp)); have n3_ := Aside0.mk (Kd.R_lower (Kd.R_new' ho0 (Kd.R_lt (by (with_reducible repeat (first | apply Kd.R_alloc | apply Kd.R_drewN | apply Kd.R_drew)); exact (Kd.R_mono (Kd.R_far (p := ⟨gb210, 1, none⟩) (Kd.R_types HO206.out BK210.out (by decide)) (fun _ hk => hk.2) (.int .i64 t211)) (fun _ h_ => h_.1))))) (keep_size (w := w) (g := g) (row := none) (y3 HK.out))); have n4_ := Aside0.mk (KeepBut.trans (y3 HK.out) hk (.inl rfl)); have n5_ := Aside0.mk (hb); have n6_ := Aside0.mk (hi); clear BK203; clear HO206; clear BK210; clear HK; clear HB; clear HI0; have BK203 := n0_; have HO206 := n1_; have BK210 := n2_; have HO217 := n3_; have HK := n4_; have HB := n5_; have HI0 := n6_; clear n0_ n1_ n2_ n3_ n4_ n5_ n6_; (try clear hb); (try clear hb2); (try clear hk); (try clear hi); (try clear ho0); obtain ⟨Ao17, co17, eo17⟩ := Kd.R_slice HO217.out; subst eo17; obtain ⟨hcz18_0, hcz18_1, hcz18_2, hcz18_3⟩ := cs4_ BK210.out; obtain ⟨hfz18_0, hfz18_1, hfz18_2, hfz18_3⟩ := fz4_ BK210.out) | ((with_reducible refine gate_callee (f := 44) rfl ?_); refine goesL_ (some 18) rfl rfl Try.func44 (by kernel_rfl) rfl #[.pointer (some ⟨g, 0, none⟩), .int .i64 32] rfl ar ?_; (with_reducible refine (spec_l9R_num.calls k g t218 t219 t220 32 t221 t222 t223 t224 w0 _ ?side1 ?side2 A5.out).mono ?_); (case side1 => repeat (first | (with_reducible first | exact HI0.out | apply IsS48.alloc | apply IsS48.drewN | apply IsS48.drew | apply IsS48.set_0 | apply IsS48.set_1 | apply IsS48.set_2 | apply IsS48.far (hne := NB0_203.out) | apply IsS48.far (hne := NB0_210.out)) | exact HI0.out)); (case side2 => repeat (first | (with_reducible first | exact HB.out | apply below_alloc | apply pw_below_drewN | apply below_drew1 | refine below_set ?_ (IsS48.ge HI0.out) | refine below_set ?_ GE203.out | refine below_set ?_ GE210.out) | exact HB.out)); rintro e w19 ⟨rfl, hi, hb, hk⟩; refine ⟨_, rfl, ?_⟩; have n0_ := Aside0.mk (KeepBut.blk hk (g' := gb203) (o := .cells #[.slice none 0 0, .int .i64 0, .slice none 0 0, .slice none 0 0] 25 (0, 0)) (by refine blk_far ?_ NB203_210.out _; (with_reducible repeat (first | refine blk_drewN ?_ _ | refine blk_drew ?_ | refine blk_alloc ?_ _)); exact BK203.out) NB203_0.out (by simp)); have n1_ := Aside0.mk (Kd.R_mono (Kd.R_keep (IsS48.apart (show IsS48 w0 _ g t218 t219 t220 from y4 HI0.out) (by (with_reducible repeat (first | apply Kd.R_alloc | apply Kd.R_drewN | apply Kd.R_drew)); exact (Kd.R_mono (Kd.R_far (p := ⟨gb210, 2, none⟩) (Kd.R_types HO206.out BK210.out (by decide)) (fun _ hk => hk.2) (.slice Ao17 t215.length co17)) (fun _ h_ => h_.1))) (by decide)) hk (fun _ h => h.2)) (fun _ h => h.1)); have n2_ := Aside0.mk (KeepBut.blk hk (g' := gb210) (o := .cells #[.slice Ao9 t204.length co9, .int .i64 t211, .slice Ao17 t215.length co17, .slice none 0 0] 25 (0, 0)) (by refine blk_put (cs := #[.slice Ao9 t204.length co9, .int .i64 t211, .slice none 0 0, .slice none 0 0]) ?_ 2 _ rfl; (with_reducible repeat (first | refine blk_drewN ?_ _ | refine blk_drew ?_ | refine blk_alloc ?_ _)); exact BK210.out) NB210_0.out (by simp)); have n3_ := Aside0.mk (Kd.R_mono (Kd.R_keep (IsS48.apart (show IsS48 w0 _ g t218 t219 t220 from y4 HI0.out) (by (with_reducible repeat (first | apply Kd.R_alloc | apply Kd.R_drewN | apply Kd.R_drew)); exact (Kd.R_mono (Kd.R_far (p := ⟨gb210, 2, none⟩) (Kd.R_types HO217.out BK210.out (by decide)) (fun _ hk => hk.2) (.slice Ao17 t215.length co17)) (fun _ h_ => h_.1))) (by decide)) hk (fun _ h => h.2)) (fun _ h => h.1)); have n4_ := Aside0.mk (KeepBut.trans (y3 HK.out) hk (.inl rfl)); have n5_ := Aside0.mk (hb); have n6_ := Aside0.mk (hi); clear BK203; clear HO206; clear BK210; clear HO217; clear HK; clear HB; clear HI0; have BK203 := n0_; have HO206 := n1_; have BK210 := n2_; have HO217 := n3_; have HK := n4_; have HB := n5_; have HI0 := n6_; clear n0_ n1_ n2_ n3_ n4_ n5_ n6_; (try clear hb); (try clear hb2); (try clear hk); (try clear hi)))
 have n0_ := Aside0.mk (Kd.R_drew HO206.out)
 have n1_ := Aside0.mk (Kd.R_drew HO217.out)
 have n2_ := Aside0.mk (blk_drew BK203.out)
 have n3_ := Aside0.mk (blk_drew BK210.out)
 have n4_ := Aside0.mk (IsS48.drew HI0.out)
 have n5_ := Aside0.mk (keep_drew HK.out)
 have n6_ := Aside0.mk (below_drew1 HB.out)
 clear HO206
 clear HO217
 clear BK203
 clear BK210
 clear HI0
 clear HK
 clear HB
 have HO206 := n0_
 have HO217 := n1_
 have BK203 := n2_
 have BK210 := n3_
 have HI0 := n4_
 have HK := n5_
 have HB := n6_
 clear n0_ n1_ n2_ n3_ n4_ n5_ n6_
 refine start_ (n := 13) (S := fun w' => w'.cell? ⟨g, 0, none⟩ = some (.string t222) ∧ w'.cell? ⟨g, 1, none⟩ = some (.int .i64 t223) ∧ w'.cell? ⟨g, 2, none⟩ = some (.bool t224)) (ds := []) #[false, false, false, false, false, false, false, false, false, false, false, false, false] (by kernel_rfl) rfl rfl ⟨cellS48_0 (HI0.out).1, cellS48_1 (HI0.out).1, cellS48_2 (HI0.out).1⟩ (fun hHeld => ?_); refine with_tabW spec_l9R_function.tab5 spec_l9R_function.bits5 (fun HT_ HW_ => ?_)
 generalize w19.drew = w20 at HO206 HO217 BK203 BK210 HI0 HK HB hHeld ⊢
 refine pure_ (i := 0) (N := some 19) (v := ?_) (a' := ?_) #[true, false, false, false, false, false, false, false, false, false, false, false, false] rfl rfl (any_of HT_.out (by kernel_rfl)) (fun _ _ _ h => h) (Or.inl ⟨by rfl, ?_⟩) ?_ ?_
 rotate_left
 ·
  intro w'
  go_simp
  with_reducible rfl
 rotate_left
 ·
  simp only [Act.put, List.setIfInBounds_toArray, List.set_cons_zero, List.set_cons_succ, i64_w, i32_w]
  rfl
 refine pure_ (i := 1) (N := some 20) (v := ?_) (a' := ?_) #[true, true, false, false, false, false, false, false, false, false, false, false, false] rfl rfl (any_of HT_.out (by kernel_rfl)) (fun _ _ _ h => h) (Or.inl ⟨by rfl, ?_⟩) ?_ ?_
 rotate_left
 ·
  intro w'
  go_simp
  with_reducible rfl
 rotate_left
 ·
  simp only [Act.put, List.setIfInBounds_toArray, List.set_cons_zero, List.set_cons_succ, i64_w, i32_w]
  rfl
 refine pure_ (i := 2) (N := some 21) (v := ?_) (a' := ?_) #[true, true, true, false, false, false, false, false, false, false, false, false, false] rfl rfl (any_of HT_.out (by kernel_rfl)) (fun _ _ _ h => h) (Or.inl ⟨by rfl, ?_⟩) ?_ ?_
 rotate_left
 ·
  intro w'
  go_simp
  with_reducible rfl
 rotate_left
 ·
  simp only [Act.put, List.setIfInBounds_toArray, List.set_cons_zero, List.set_cons_succ, i64_w, i32_w]
  rfl
 refine pure_ (i := 3) (N := some 22) (v := ?_) (a' := ?_) #[true, true, true, true, false, false, false, false, false, false, false, false, false] rfl rfl (any_of HT_.out (by kernel_rfl)) (fun _ _ _ h => h) (Or.inl ⟨by rfl, ?_⟩) ?_ ?_
 rotate_left
 ·
  intro w'
  go_simp
  with_reducible rfl
 rotate_left
 ·
  simp only [Act.put, List.setIfInBounds_toArray, List.set_cons_zero, List.set_cons_succ, i64_w, i32_w]
  rfl
 refine pure_ (i := 6) (N := some 25) (v := ?_) (a' := ?_) #[true, true, true, true, false, false, true, false, false, false, false, false, false] rfl rfl (any_of HT_.out (by kernel_rfl)) (fun _ _ _ h => h) (Or.inl ⟨by rfl, ?_⟩) ?_ ?_
 rotate_left
 ·
  intro w'
  go_simp
  with_reducible rfl
 rotate_left
 ·
  simp only [Act.put, List.setIfInBounds_toArray, List.set_cons_zero, List.set_cons_succ, i64_w, i32_w]
  rfl
 refine pure_ (i := 7) (N := some 26) (v := ?_) (a' := ?_) #[true, true, true, true, false, false, true, true, false, false, false, false, false] rfl rfl (any_of HT_.out (by kernel_rfl)) (fun _ _ _ h => h) (Or.inl ⟨by rfl, ?_⟩) ?_ ?_
 rotate_left
 ·
  intro w'
  go_simp
  with_reducible rfl
 rotate_left
 ·
  simp only [Act.put, List.setIfInBounds_toArray, List.set_cons_zero, List.set_cons_succ, i64_w, i32_w]
  rfl
 refine pure_ (i := 8) (N := some 27) (v := ?_) (a' := ?_) #[true, true, true, true, false, false, true, true, true, false, false, false, false] rfl rfl (any_of HT_.out (by kernel_rfl)) (fun _ _ _ h => h) (Or.inl ⟨by rfl, ?_⟩) ?_ ?_
 rotate_left
 ·
  intro w'
  go_simp
  with_reducible rfl
 rotate_left
 ·
  simp only [Act.put, List.setIfInBounds_toArray, List.set_cons_zero, List.set_cons_succ, i64_w, i32_w]
  rfl
 refine take_ (i := 4) (N := some 23) (v := ?_) (a' := ?_) #[true, true, true, true, true, false, true, true, true, false, false, false, false] rfl rfl (take_ofW HT_.out HW_.out (by kernel_rfl)) (fun _ _ _ h => h) (Or.inl ⟨by rfl, ?_⟩) hHeld ?_ ?_
 rotate_left
 ·
  rintro w' ⟨s0, s1, s2⟩
  go_simp
  with_reducible rfl
 rotate_left
 ·
  simp only [Act.put, List.setIfInBounds_toArray, List.set_cons_zero, List.set_cons_succ, i64_w, i32_w]
  rfl
 refine pure_ (i := 5) (N := some 24) (v := ?_) (a' := ?_) #[true, true, true, true, true, true, true, true, true, false, false, false, false] rfl rfl (any_of HT_.out (by kernel_rfl)) (fun _ _ _ h => h) (Or.inl ⟨by rfl, ?_⟩) ?_ ?_
 rotate_left
 ·
  intro w'
  go_simp
  with_reducible rfl
 rotate_left
 ·
  simp only [Act.put, List.setIfInBounds_toArray, List.set_cons_zero, List.set_cons_succ, i64_w, i32_w]
  rfl
 refine take_ (i := 9) (N := some 28) (v := ?_) (a' := ?_) #[true, true, true, true, true, true, true, true, true, true, false, false, false] rfl rfl (take_ofW HT_.out HW_.out (by kernel_rfl)) (fun _ _ _ h => h) (Or.inl ⟨by rfl, ?_⟩) hHeld ?_ ?_
 rotate_left
 ·
  rintro w' ⟨s0, s1, s2⟩
  go_simp
  with_reducible rfl
 rotate_left
 ·
  simp only [Act.put, List.setIfInBounds_toArray, List.set_cons_zero, List.set_cons_succ, i64_w, i32_w]
  rfl
 refine pure_ (i := 10) (N := some 29) (v := ?_) (a' := ?_) #[true, true, true, true, true, true, true, true, true, true, true, false, false] rfl rfl (any_of HT_.out (by kernel_rfl)) (fun _ _ _ h => h) (Or.inl ⟨by rfl, ?_⟩) ?_ ?_
 rotate_left
 ·
  intro w'
  go_simp
  with_reducible rfl
 rotate_left
 ·
  simp only [Act.put, List.setIfInBounds_toArray, List.set_cons_zero, List.set_cons_succ, i64_w, i32_w]
  rfl
 refine pure_ (i := 11) (N := some 30) (v := ?_) (a' := ?_) #[true, true, true, true, true, true, true, true, true, true, true, true, false] rfl rfl (any_of HT_.out (by kernel_rfl)) (fun _ _ _ h => h) (Or.inl ⟨by rfl, ?_⟩) ?_ ?_
 rotate_left
 ·
  intro w'
  go_simp
  with_reducible rfl
 rotate_left
 ·
  simp only [Act.put, List.setIfInBounds_toArray, List.set_cons_zero, List.set_cons_succ, i64_w, i32_w]
  rfl
 refine pure_ (i := 12) (N := some 31) (v := ?_) (a' := ?_) #[true, true, true, true, true, true, true, true, true, true, true, true, true] rfl rfl (any_of HT_.out (by kernel_rfl)) (fun _ _ _ h => h) (Or.inl ⟨by rfl, ?_⟩) ?_ ?_
 rotate_left
 ·
  intro w'
  go_simp
  with_reducible rfl
 rotate_left
 ·
  simp only [Act.put, List.setIfInBounds_toArray, List.set_cons_zero, List.set_cons_succ, i64_w, i32_w]
  rfl
 refine done_ (done_of HT_.out (by kernel_rfl)) ?_
 go_upto_if 31 with (fail)
 go_cut [] (fun wc => ∃ (kq : Nat) (x1002_5 : Bool), Aside0 (spec_l9R_function.j0 kq t221 t222 t223 x1002_5 t204 t211 t215 = some (r1, r2, r3, r4, r5, r6, r7)) ∧ Aside0 (kq ≤ k) ∧ Aside0 (Kd.R (Kd.int .i64) 3 wc w.heap.size (fun k_ => some k_ ≠ ((.slice Ao17 t215.length co17) : Value).ownBlock) (.slice Ao9 t204.length co9) t204) ∧ Aside0 (Kd.R (Kd.int .i64) 3 wc w.heap.size (fun k_ => some k_ ≠ ((.slice Ao9 t204.length co9) : Value).ownBlock) (.slice Ao17 t215.length co17) t215) ∧ Aside0 (wc.heap[gb203]? = some (.cells #[(.slice none 0 0), .int .i64 0, (.slice none 0 0), (.slice none 0 0)] 25 (0, 0))) ∧ Aside0 (wc.heap[gb210]? = some (.cells #[(.slice Ao9 t204.length co9), .int .i64 t211, (.slice Ao17 t215.length co17), (.slice none 0 0)] 25 (0, 0))) ∧ Aside0 (IsS48 w0 wc g t222 t223 x1002_5) ∧ Aside0 (KeepBut w wc g none) ∧ Aside0 (Below w0.heap.size w0 wc))
 case first =>
  have H := HC6.out
  clear HC6
  by_cases c21 : t221 > (IntKind.u64.wrap (wrap64 ((t222.size : Int) - t223)))
  ·
   rw [if_pos c21] at H
   have c21b0 : decide ((IntKind.u64.wrap (wrap64 ((t222.size : Int) - t223))) < t221) = true := decide_eq_true c21
   clear c21
   (first | rw [c21b0] | (simp only [i64_w, i32_w]; rw [c21b0]) | skip)
   have H' := Aside0.mk H
   clear H
   obtain ⟨HGz22, hgz22⟩ := HI0.out
   have hcz22_0 := cellS48_0 HGz22
   have hcz22_1 := cellS48_1 HGz22
   have hcz22_2 := cellS48_2 HGz22
   have hfz22_0 := blk_frozen HGz22 0
   have hfz22_1 := blk_frozen HGz22 1
   have hfz22_2 := blk_frozen HGz22 2
   clear HGz22 hgz22
   go_wp2
   go_meet
   case rel => exact ⟨_, (true), H', ⟨by first | omega | exact Nat.le_refl _⟩, ⟨by (with_reducible repeat (first | apply Kd.R_alloc | apply Kd.R_drewN | apply Kd.R_drew)); exact Kd.R_mono (Kd.R_far (p := ⟨g, 2, none⟩) (IsS48.apart HI0.out HO206.out (by decide)) (fun _ hk => hk.2) (.bool true)) (fun _ hk => hk.1.2)⟩, ⟨by (with_reducible repeat (first | apply Kd.R_alloc | apply Kd.R_drewN | apply Kd.R_drew)); exact Kd.R_mono (Kd.R_far (p := ⟨g, 2, none⟩) (IsS48.apart HI0.out HO217.out (by decide)) (fun _ hk => hk.2) (.bool true)) (fun _ hk => hk.1.2)⟩, ⟨by refine blk_far ?_ NB203_0.out _; (with_reducible repeat (first | refine blk_drewN ?_ _ | refine blk_drew ?_ | refine blk_alloc ?_ _)); exact BK203.out⟩, ⟨by refine blk_far ?_ NB210_0.out _; (with_reducible repeat (first | refine blk_drewN ?_ _ | refine blk_drew ?_ | refine blk_alloc ?_ _)); exact BK210.out⟩, ⟨y4 HI0.out⟩, ⟨y3 HK.out⟩, ⟨y5 HB.out⟩⟩
  ·
   rw [if_neg c21] at H
   have c21b0 : decide ((IntKind.u64.wrap (wrap64 ((t222.size : Int) - t223))) < t221) = false := decide_eq_false c21
   clear c21
   (first | rw [c21b0] | (simp only [i64_w, i32_w]; rw [c21b0]) | skip)
   have H' := Aside0.mk H
   clear H
   go_wp2
   go_meet
   case rel => exact ⟨_, (t224), H', ⟨by first | omega | exact Nat.le_refl _⟩, ⟨by (with_reducible repeat (first | apply Kd.R_alloc | apply Kd.R_drewN | apply Kd.R_drew)); exact Kd.R_mono HO206.out (fun _ hk => hk.2)⟩, ⟨by (with_reducible repeat (first | apply Kd.R_alloc | apply Kd.R_drewN | apply Kd.R_drew)); exact Kd.R_mono HO217.out (fun _ hk => hk.2)⟩, ⟨bk BK203.out⟩, ⟨bk BK210.out⟩, ⟨y4 HI0.out⟩, ⟨y3 HK.out⟩, ⟨y5 HB.out⟩⟩
 case rest =>
  clear HC6
  try clear hcz13_0 hcz13_1 hcz13_2 hcz13_3
  try clear hcz15_0 hcz15_1 hcz15_2 hcz15_3
  try clear hcz18_0 hcz18_1 hcz18_2 hcz18_3
  try clear hfz13_0 hfz13_1 hfz13_2 hfz13_3
  try clear hfz15_0 hfz15_1 hfz15_2 hfz15_3
  try clear hfz18_0 hfz18_1 hfz18_2 hfz18_3
  obtain ⟨kq, x1002_5, HA, HJ5, HO_211000, HO_211002, BK203, BK210, HI0, HK, HB⟩ := hcut
  cases kq with
  | zero => exact absurd HA.out (by simp [spec_l9R_function.j0])
  | succ kj5 =>
   have H := HA.out
   clear HA
   simp only [spec_l9R_function.j0] at H
   by_cases c23 : x1002_5 = true
   ·
    subst c23
    have H1 : (some (t204, t211, t215, ([] : List (S44)), t222, t223, true)) = some (r1, r2, r3, r4, r5, r6, r7) := by rw [if_pos rfl] at H; exact H
    clear H
    have H := H1
    clear H1
    simp only [Option.some.injEq, Prod.mk.injEq] at H
    obtain ⟨rfl, rfl, rfl, rfl, rfl, rfl, rfl⟩ := H
    obtain ⟨HGz24, hgz24⟩ := HI0.out
    have hcz24_0 := cellS48_0 HGz24
    have hcz24_1 := cellS48_1 HGz24
    have hcz24_2 := cellS48_2 HGz24
    have hfz24_0 := blk_frozen HGz24 0
    have hfz24_1 := blk_frozen HGz24 1
    have hfz24_2 := blk_frozen HGz24 2
    clear HGz24 hgz24
    have hnb25 := NB210_203.out
    have hnc25 := NB203_210.out
    have hnb26 := NB210_0.out
    have hnc26 := NB0_210.out
    obtain ⟨hcz27_0, hcz27_1, hcz27_2, hcz27_3⟩ := cs4_ BK210.out
    obtain ⟨hfz27_0, hfz27_1, hfz27_2, hfz27_3⟩ := fz4_ BK210.out
    have hnb28 := NB203_0.out
    have hnc28 := NB0_203.out
    obtain ⟨hcz29_0, hcz29_1, hcz29_2, hcz29_3⟩ := cs4_ BK203.out
    obtain ⟨hfz29_0, hfz29_1, hfz29_2, hfz29_3⟩ := fz4_ BK203.out
    go_wp2
    refine bodyPost_ret (results_cell_row rfl _ _ gb203 25 #[.slice Ao9 t204.length co9, .int .i64 t211, .slice Ao17 t215.length co17, .slice none 0 0] (0, 0) _ rfl (by refine blk_put (cs := #[.slice Ao9 t204.length co9, .int .i64 t211, .slice Ao17 t215.length co17, .slice none 0 0]) ?_ 3 _ rfl; refine blk_put (cs := #[.slice Ao9 t204.length co9, .int .i64 t211, .slice none 0 0, .slice none 0 0]) ?_ 2 _ rfl; refine blk_put (cs := #[.slice Ao9 t204.length co9, .int .i64 0, .slice none 0 0, .slice none 0 0]) ?_ 1 _ rfl; refine blk_put (cs := #[.slice none 0 0, .int .i64 0, .slice none 0 0, .slice none 0 0]) ?_ 0 _ rfl; (with_reducible repeat (first | refine blk_drewN ?_ _ | refine blk_drew ?_ | refine blk_alloc ?_ _)); exact BK203.out) Try.underlying25 rfl (by kernel_rfl)) rfl ?_
    exact ⟨_, _, _, rr_, by (with_reducible repeat (first | apply Kd.R_alloc | apply Kd.R_drewN | apply Kd.R_drew)); exact Kd.R_mono (Kd.R_far (p := ⟨gb203, 3, none⟩) (Kd.R_far (p := ⟨gb203, 2, none⟩) (Kd.R_far (p := ⟨gb203, 1, none⟩) (Kd.R_far (p := ⟨gb203, 0, none⟩) (Kd.R_types HO_211000.out BK203.out (by decide)) (fun _ hk => hk.2) (.slice Ao9 t204.length co9)) (fun _ hk => hk.2) (.int .i64 t211)) (fun _ hk => hk.2) (.slice Ao17 t215.length co17)) (fun _ hk => hk.2) (.slice none 0 0)) (fun _ hk => hk.1), by (with_reducible repeat (first | apply Kd.R_alloc | apply Kd.R_drewN | apply Kd.R_drew)); exact Kd.R_mono (Kd.R_far (p := ⟨gb203, 3, none⟩) (Kd.R_far (p := ⟨gb203, 2, none⟩) (Kd.R_far (p := ⟨gb203, 1, none⟩) (Kd.R_far (p := ⟨gb203, 0, none⟩) (Kd.R_types HO_211002.out BK203.out (by decide)) (fun _ hk => hk.2) (.slice Ao9 t204.length co9)) (fun _ hk => hk.2) (.int .i64 t211)) (fun _ hk => hk.2) (.slice Ao17 t215.length co17)) (fun _ hk => hk.2) (.slice none 0 0)) (fun _ hk => hk.1), by first | exact Kd.R_nil _ _ _ _ _ | exact Kd.N_nil _ _ _ _ _ | exact Kd.V_nil _ _ _ _ _ | exact Kd.Q_nil _ _ _ _ _ | exact Kd.S_nil _ _ _ _ _, y4 HI0.out, y5 HB.out, y3 HK.out⟩
   ·
    replace c23 := Bool.eq_false_iff.mpr c23
    subst c23
    have H1 : (if 0 ≤ t223 then (if t223 ≤ (wrap64 (t223 + (wrap64 (t221)))) then (if (wrap64 (t223 + (wrap64 (t221)))) ≤ (t222.size : Int) then ((spec_l6Read.f kj5 (t222.extract (t223 : Int).toNat ((wrap64 (t223 + (wrap64 (t221)))) : Int).toNat)).bind fun bt225 => (if bt225.2 = true then ((spec_l7Func.f kj5 t204 t211 t215 bt225.1).bind fun t229 => (some (t204, t211, t215, bt225.1, t222, wrap64 (t223 + (wrap64 (t221))), !t229))) else (some (t204, t211, t215, bt225.1, t222, wrap64 (t223 + (wrap64 (t221))), true)))) else (none)) else (none)) else (none)) = some (r1, r2, r3, r4, r5, r6, r7) := by rw [if_neg (show ¬ (false = true) by decide)] at H; exact H
    clear H
    have H := H1
    clear H1
    by_cases c30 : 0 ≤ t223
    ·
     rw [if_pos c30] at H
     have c30b0 := eq_true c30
     have c30b1 : decide (0 ≤ t223) = true := decide_eq_true c30
     clear c30
     by_cases c31 : t223 ≤ (wrap64 (t223 + (wrap64 (t221))))
     ·
      rw [if_pos c31] at H
      have c31b0 := eq_true c31
      have c31b1 : decide (t223 ≤ (wrap64 (t223 + (wrap64 (t221))))) = true := decide_eq_true c31
      by_cases c32 : (wrap64 (t223 + (wrap64 (t221)))) ≤ (t222.size : Int)
      ·
       rw [if_pos c32] at H
       have c32b0 := eq_true c32
       have c32b1 : decide ((wrap64 (t223 + (wrap64 (t221)))) ≤ (t222.size : Int)) = true := decide_eq_true c32
       replace H := Option.bind_eq_some_iff.mp H
       obtain ⟨⟨t225, t226⟩, A330, H⟩ := H
       replace H : (if t226 = true then ((spec_l7Func.f kj5 t204 t211 t215 t225).bind fun t229 => (some (t204, t211, t215, t225, t222, wrap64 (t223 + (wrap64 (t221))), !t229))) else (some (t204, t211, t215, t225, t222, wrap64 (t223 + (wrap64 (t221))), true))) = some (r1, r2, r3, r4, r5, r6, r7) := H
       have A33 := Aside0.mk A330
       clear A330
       by_cases c34 : t226 = true
       ·
        subst c34
        have H1 : ((spec_l7Func.f kj5 t204 t211 t215 t225).bind fun t229 => (some (t204, t211, t215, t225, t222, wrap64 (t223 + (wrap64 (t221))), !t229))) = some (r1, r2, r3, r4, r5, r6, r7) := by rw [if_pos rfl] at H; exact H
        clear H
        have H := H1
        clear H1
        replace H := Option.bind_eq_some_iff.mp H
        obtain ⟨t229, A350, H⟩ := H
        replace H : (some (t204, t211, t215, t225, t222, wrap64 (t223 + (wrap64 (t221))), !t229)) = some (r1, r2, r3, r4, r5, r6, r7) := H
        have A35 := Aside0.mk A350
        clear A350
        simp only [Option.some.injEq, Prod.mk.injEq] at H
        obtain ⟨rfl, rfl, rfl, rfl, rfl, rfl, rfl⟩ := H
        obtain ⟨HGz36, hgz36⟩ := HI0.out
        have hcz36_0 := cellS48_0 HGz36
        have hcz36_1 := cellS48_1 HGz36
        have hcz36_2 := cellS48_2 HGz36
        have hfz36_0 := blk_frozen HGz36 0
        have hfz36_1 := blk_frozen HGz36 1
        have hfz36_2 := blk_frozen HGz36 2
        clear HGz36 hgz36
        try go_wp2
        have n0_ := Aside0.mk (Kd.R_drew HO_211000.out)
        have n1_ := Aside0.mk (Kd.R_drew HO_211002.out)
        have n2_ := Aside0.mk (blk_drew BK203.out)
        have n3_ := Aside0.mk (blk_drew BK210.out)
        have n4_ := Aside0.mk (IsS48.drew HI0.out)
        have n5_ := Aside0.mk (keep_drew HK.out)
        have n6_ := Aside0.mk (below_drew1 HB.out)
        clear HO_211000
        clear HO_211002
        clear BK203
        clear BK210
        clear HI0
        clear HK
        clear HB
        have HO_211000 := n0_
        have HO_211002 := n1_
        have BK203 := n2_
        have BK210 := n3_
        have HI0 := n4_
        have HK := n5_
        have HB := n6_
        clear n0_ n1_ n2_ n3_ n4_ n5_ n6_
        refine start_ (n := 16) (S := fun w' => w'.cell? ⟨g, 0, none⟩ = some (.string t222) ∧ w'.cell? ⟨g, 1, none⟩ = some (.int .i64 t223) ∧ w'.cell? ⟨g, 2, none⟩ = some (.bool false)) (ds := []) #[false, false, false, false, false, false, false, false, false, false, false, false, false, false, false, false] (by kernel_rfl) rfl rfl ⟨cellS48_0 (HI0.out).1, cellS48_1 (HI0.out).1, cellS48_2 (HI0.out).1⟩ (fun hHeld => ?_); refine with_tabW spec_l9R_function.tab10 spec_l9R_function.bits10 (fun HT_ HW_ => ?_)
        generalize wc.drew = w37 at HO_211000 HO_211002 BK203 BK210 HI0 HK HB hHeld ⊢
        refine pure_ (i := 0) (N := some 48) (v := ?_) (a' := ?_) #[true, false, false, false, false, false, false, false, false, false, false, false, false, false, false, false] rfl rfl (any_of HT_.out (by kernel_rfl)) (fun _ _ _ h => h) (Or.inl ⟨by rfl, ?_⟩) ?_ ?_
        rotate_left
        ·
         intro w'
         go_simp
         with_reducible rfl
        rotate_left
        ·
         simp only [Act.put, List.setIfInBounds_toArray, List.set_cons_zero, List.set_cons_succ, i64_w, i32_w]
         rfl
        refine pure_ (i := 1) (N := some 49) (v := ?_) (a' := ?_) #[true, true, false, false, false, false, false, false, false, false, false, false, false, false, false, false] rfl rfl (any_of HT_.out (by kernel_rfl)) (fun _ _ _ h => h) (Or.inl ⟨by rfl, ?_⟩) ?_ ?_
        rotate_left
        ·
         intro w'
         go_simp
         with_reducible rfl
        rotate_left
        ·
         simp only [Act.put, List.setIfInBounds_toArray, List.set_cons_zero, List.set_cons_succ, i64_w, i32_w]
         rfl
        refine pure_ (i := 2) (N := some 50) (v := ?_) (a' := ?_) #[true, true, true, false, false, false, false, false, false, false, false, false, false, false, false, false] rfl rfl (any_of HT_.out (by kernel_rfl)) (fun _ _ _ h => h) (Or.inl ⟨by rfl, ?_⟩) ?_ ?_
        rotate_left
        ·
         intro w'
         go_simp
         with_reducible rfl
        rotate_left
        ·
         simp only [Act.put, List.setIfInBounds_toArray, List.set_cons_zero, List.set_cons_succ, i64_w, i32_w]
         rfl
        refine pure_ (i := 4) (N := some 52) (v := ?_) (a' := ?_) #[true, true, true, false, true, false, false, false, false, false, false, false, false, false, false, false] rfl rfl (any_of HT_.out (by kernel_rfl)) (fun _ _ _ h => h) (Or.inl ⟨by rfl, ?_⟩) ?_ ?_
        rotate_left
        ·
         intro w'
         go_simp
         with_reducible rfl
        rotate_left
        ·
         simp only [Act.put, List.setIfInBounds_toArray, List.set_cons_zero, List.set_cons_succ, i64_w, i32_w]
         rfl
        refine pure_ (i := 5) (N := some 53) (v := ?_) (a' := ?_) #[true, true, true, false, true, true, false, false, false, false, false, false, false, false, false, false] rfl rfl (any_of HT_.out (by kernel_rfl)) (fun _ _ _ h => h) (Or.inl ⟨by rfl, ?_⟩) ?_ ?_
        rotate_left
        ·
         intro w'
         go_simp
         with_reducible rfl
        rotate_left
        ·
         simp only [Act.put, List.setIfInBounds_toArray, List.set_cons_zero, List.set_cons_succ, i64_w, i32_w]
         rfl
        refine pure_ (i := 6) (N := some 54) (v := ?_) (a' := ?_) #[true, true, true, false, true, true, true, false, false, false, false, false, false, false, false, false] rfl rfl (any_of HT_.out (by kernel_rfl)) (fun _ _ _ h => h) (Or.inl ⟨by rfl, ?_⟩) ?_ ?_
        rotate_left
        ·
         intro w'
         go_simp
         with_reducible rfl
        rotate_left
        ·
         simp only [Act.put, List.setIfInBounds_toArray, List.set_cons_zero, List.set_cons_succ, i64_w, i32_w]
         rfl
        refine pure_ (i := 8) (N := some 56) (v := ?_) (a' := ?_) #[true, true, true, false, true, true, true, false, true, false, false, false, false, false, false, false] rfl rfl (any_of HT_.out (by kernel_rfl)) (fun _ _ _ h => h) (Or.inl ⟨by rfl, ?_⟩) ?_ ?_
        rotate_left
        ·
         intro w'
         go_simp
         with_reducible rfl
        rotate_left
        ·
         simp only [Act.put, List.setIfInBounds_toArray, List.set_cons_zero, List.set_cons_succ, i64_w, i32_w]
         rfl
        refine take_ (i := 3) (N := some 51) (v := ?_) (a' := ?_) #[true, true, true, true, true, true, true, false, true, false, false, false, false, false, false, false] rfl rfl (take_ofW HT_.out HW_.out (by kernel_rfl)) (fun _ _ _ h => h) (Or.inl ⟨by rfl, ?_⟩) hHeld ?_ ?_
        rotate_left
        ·
         rintro w' ⟨s0, s1, s2⟩
         go_simp
         with_reducible rfl
        rotate_left
        ·
         simp only [Act.put, List.setIfInBounds_toArray, List.set_cons_zero, List.set_cons_succ, i64_w, i32_w]
         rfl
        refine take_ (i := 7) (N := some 55) (v := ?_) (a' := ?_) #[true, true, true, true, true, true, true, true, true, false, false, false, false, false, false, false] rfl rfl (take_ofW HT_.out HW_.out (by kernel_rfl)) (fun _ _ _ h => h) (Or.inl ⟨by rfl, ?_⟩) hHeld ?_ ?_
        rotate_left
        ·
         rintro w' ⟨s0, s1, s2⟩
         go_simp
         with_reducible rfl
        rotate_left
        ·
         simp only [Act.put, List.setIfInBounds_toArray, List.set_cons_zero, List.set_cons_succ, i64_w, i32_w]
         rfl
        refine pure_ (i := 9) (N := some 57) (v := ?_) (a' := ?_) #[true, true, true, true, true, true, true, true, true, true, false, false, false, false, false, false] rfl rfl (any_of HT_.out (by kernel_rfl)) (fun _ _ _ h => h) (Or.inl ⟨by rfl, ?_⟩) ?_ ?_
        rotate_left
        ·
         intro w'
         go_simp
         with_reducible rfl
        rotate_left
        ·
         simp only [Act.put, List.setIfInBounds_toArray, List.set_cons_zero, List.set_cons_succ, i64_w, i32_w]
         rfl
        refine one_ (i := 10) (N := some 58) #[true, true, true, true, true, true, true, true, true, true, true, false, false, false, false, false] rfl rfl (one_of HT_.out (by kernel_rfl)) (by decide) (fun K hK => ?_)
        refine goes_ Try.func45 (by kernel_rfl) rfl #[.string (t222.extract (t223 : Int).toNat ((wrap64 (t223 + (wrap64 (t221)))) : Int).toNat)] (by rfl) rfl rfl ar ?_
        with_reducible refine (spec_l6Read.calls kj5 (t222.extract (t223 : Int).toNat ((wrap64 (t223 + (wrap64 (t221)))) : Int).toNat) t225 true _ A33.out).mono ?_
        rintro e w38 ⟨v227, rfl, ho0, hb⟩
        refine ⟨_, rfl, ?_⟩
        have n0_ := Aside0.mk (Kd.R_below (kr_ HO_211000.out) hb)
        have n1_ := Aside0.mk (Kd.R_below (kr_ HO_211002.out) hb)
        have n2_ := Aside0.mk (Kd.R_lower ho0 (keep_size (w := w) (g := g) (row := none) (y3 HK.out)))
        have n3_ := Aside0.mk (blk_below (g := gb203) (o := .cells #[.slice none 0 0, .int .i64 0, .slice none 0 0, .slice none 0 0] 25 (0, 0)) (bk BK203.out) hb)
        have n4_ := Aside0.mk (blk_below (g := gb210) (o := .cells #[.slice Ao9 t204.length co9, .int .i64 t211, .slice Ao17 t215.length co17, .slice none 0 0] 25 (0, 0)) (bk BK210.out) hb)
        have n5_ := Aside0.mk (IsS48.below (y4 HI0.out) hb)
        have n6_ := Aside0.mk (KeepBut.trans (y3 HK.out) (KeepBut.of_below hb g none) (.inl rfl))
        have n7_ := Aside0.mk (below_step (y5 HB.out) hb)
        clear HO_211000
        clear HO_211002
        clear BK203
        clear BK210
        clear HI0
        clear HK
        clear HB
        have HO_211000 := n0_
        have HO_211002 := n1_
        have HO228 := n2_
        have BK203 := n3_
        have BK210 := n4_
        have HI0 := n5_
        have HK := n6_
        have HB := n7_
        clear n0_ n1_ n2_ n3_ n4_ n5_ n6_ n7_
        (try clear hb)
        (try clear hb2)
        (try clear hk)
        (try clear hi)
        (try clear ho0)
        refine hK.out _ _ ⟨cellS48_0 (HI0.out).1, cellS48_1 (HI0.out).1, cellS48_2 (HI0.out).1⟩ (fun hHeld => ?_)
        clear hK K
        refine norm_ (a' := ?_) ?_ ?_
        rotate_left
        ·
         show Act.put _ (some 58) _ = _
         simp only [Act.put, List.setIfInBounds_toArray, List.set_cons_zero, List.set_cons_succ, i64_w, i32_w]
         rfl
        refine pure_ (i := 11) (N := some 47) (v := ?_) (a' := ?_) #[true, true, true, true, true, true, true, true, true, true, true, true, false, false, false, false] rfl rfl (any_of HT_.out (by kernel_rfl)) (fun _ _ _ h => h) (Or.inl ⟨by rfl, ?_⟩) ?_ ?_
        rotate_left
        ·
         intro w'
         go_simp
         with_reducible rfl
        rotate_left
        ·
         simp only [Act.put, List.setIfInBounds_toArray, List.set_cons_zero, List.set_cons_succ, i64_w, i32_w]
         rfl
        refine pure_ (i := 12) (N := some 59) (v := ?_) (a' := ?_) #[true, true, true, true, true, true, true, true, true, true, true, true, true, false, false, false] rfl rfl (any_of HT_.out (by kernel_rfl)) (fun _ _ _ h => h) (Or.inl ⟨by rfl, ?_⟩) ?_ ?_
        rotate_left
        ·
         intro w'
         go_simp
         with_reducible rfl
        rotate_left
        ·
         simp only [Act.put, List.setIfInBounds_toArray, List.set_cons_zero, List.set_cons_succ, i64_w, i32_w]
         rfl
        refine pure_ (i := 13) (N := some 60) (v := ?_) (a' := ?_) #[true, true, true, true, true, true, true, true, true, true, true, true, true, true, false, false] rfl rfl (any_of HT_.out (by kernel_rfl)) (fun _ _ _ h => h) (Or.inl ⟨by rfl, ?_⟩) ?_ ?_
        rotate_left
        ·
         intro w'
         go_simp
         with_reducible rfl
        rotate_left
        ·
         simp only [Act.put, List.setIfInBounds_toArray, List.set_cons_zero, List.set_cons_succ, i64_w, i32_w]
         rfl
        refine pure_ (i := 14) (N := some 6) (v := ?_) (a' := ?_) #[true, true, true, true, true, true, true, true, true, true, true, true, true, true, true, false] rfl rfl (any_of HT_.out (by kernel_rfl)) (fun _ _ _ h => h) (Or.inl ⟨by rfl, ?_⟩) ?_ ?_
        rotate_left
        ·
         intro w'
         go_simp
         with_reducible rfl
        rotate_left
        ·
         simp only [Act.put, List.setIfInBounds_toArray, List.set_cons_zero, List.set_cons_succ, i64_w, i32_w]
         rfl
        refine pure_ (i := 15) (N := some 7) (v := ?_) (a' := ?_) #[true, true, true, true, true, true, true, true, true, true, true, true, true, true, true, true] rfl rfl (any_of HT_.out (by kernel_rfl)) (fun _ _ _ h => h) (Or.inl ⟨by rfl, ?_⟩) ?_ ?_
        rotate_left
        ·
         intro w'
         go_simp
         with_reducible rfl
        rotate_left
        ·
         simp only [Act.put, List.setIfInBounds_toArray, List.set_cons_zero, List.set_cons_succ, i64_w, i32_w]
         rfl
        refine done_ (done_of HT_.out (by kernel_rfl)) ?_
        obtain ⟨Ao39, co39, eo39⟩ := Kd.R_slice HO228.out
        subst eo39
        have hnb40 := NB210_203.out
        have hnc40 := NB203_210.out
        have hnb41 := NB210_0.out
        have hnc41 := NB0_210.out
        obtain ⟨hcz42_0, hcz42_1, hcz42_2, hcz42_3⟩ := cs4_ BK210.out
        obtain ⟨hfz42_0, hfz42_1, hfz42_2, hfz42_3⟩ := fz4_ BK210.out
        obtain ⟨HGz43, hgz43⟩ := HI0.out
        have hcz43_0 := cellS48_0 HGz43
        have hcz43_1 := cellS48_1 HGz43
        have hcz43_2 := cellS48_2 HGz43
        have hfz43_0 := blk_frozen HGz43 0
        have hfz43_1 := blk_frozen HGz43 1
        have hfz43_2 := blk_frozen HGz43 2
        clear HGz43 hgz43
        try go_wp2_with (first | (go_at_call 46; (with_reducible refine (spec_l7Func.calls kj5 _ _ t204 t211 _ _ t215 _ _ t225 t229 _ ?side1 ?side2 ?side3 ?side4 ?side5 ?side6 A35.out).mono ?_); (case side1 => refine (Kd.R_reads' (e := 3) (base := w.heap.size) (ok := fun k_ => some k_ ≠ (.slice Ao17 t215.length co17 : Value).ownBlock) (n := t204.length) (c := co9) ?_).2.2; exact (by (with_reducible repeat (first | apply Kd.R_alloc | apply Kd.R_drewN | apply Kd.R_drew)); exact (Kd.R_mono (Kd.R_mono (Kd.R_far (p := ⟨g, 1, none⟩) (Kd.R_far (p := ⟨gb210, 3, none⟩) (IsS48.apart HI0.out (Kd.R_types HO_211000.out BK210.out (by decide)) (by decide)) (fun _ hk => hk.1.2) (.slice Ao39 t225.length co39)) (fun _ hk => hk.2) (.int .i64 (wrap64 (t223 + (wrap64 (t221)))))) (fun _ h_ => h_.1)) (fun _ h_ => h_.1)))); (case side2 => exact (Kd.R_reads' HO_211000.out).2.1); (case side3 => refine (Kd.R_reads' (e := 3) (base := w.heap.size) (ok := fun k_ => some k_ ≠ (.slice Ao9 t204.length co9 : Value).ownBlock) (n := t215.length) (c := co17) ?_).2.2; exact (by (with_reducible repeat (first | apply Kd.R_alloc | apply Kd.R_drewN | apply Kd.R_drew)); exact (Kd.R_mono (Kd.R_mono (Kd.R_far (p := ⟨g, 1, none⟩) (Kd.R_far (p := ⟨gb210, 3, none⟩) (IsS48.apart HI0.out (Kd.R_types HO_211002.out BK210.out (by decide)) (by decide)) (fun _ hk => hk.1.2) (.slice Ao39 t225.length co39)) (fun _ hk => hk.2) (.int .i64 (wrap64 (t223 + (wrap64 (t221)))))) (fun _ h_ => h_.1)) (fun _ h_ => h_.1)))); (case side4 => exact (Kd.R_reads' HO_211002.out).2.1); (case side5 => refine (Kd.R_reads' (e := 44) (base := w.heap.size) (ok := fun k_ => True) (n := t225.length) (c := co39) ?_).2.2; exact (by (with_reducible repeat (first | apply Kd.R_alloc | apply Kd.R_drewN | apply Kd.R_drew)); exact (Kd.R_mono (Kd.R_mono (Kd.R_far (p := ⟨g, 1, none⟩) (Kd.R_far (p := ⟨gb210, 3, none⟩) (IsS48.apart HI0.out (Kd.R_types HO228.out BK210.out (by decide)) (by decide)) (fun _ hk => hk.1.2) (.slice Ao39 t225.length co39)) (fun _ hk => hk.2) (.int .i64 (wrap64 (t223 + (wrap64 (t221)))))) (fun _ h_ => h_.1)) (fun _ h_ => h_.1)))); (case side6 => exact (Kd.R_reads' HO228.out).2.1); rintro e w44 ⟨rfl, hb⟩; have n0_ := Aside0.mk (Kd.R_below (by (with_reducible repeat (first | apply Kd.R_alloc | apply Kd.R_drewN | apply Kd.R_drew)); exact (Kd.R_mono (Kd.R_mono (Kd.R_far (p := ⟨g, 1, none⟩) (Kd.R_far (p := ⟨gb210, 3, none⟩) (IsS48.apart HI0.out (Kd.R_types HO_211000.out BK210.out (by decide)) (by decide)) (fun _ hk => hk.1.2) (.slice Ao39 t225.length co39)) (fun _ hk => hk.2) (.int .i64 (wrap64 (t223 + (wrap64 (t221)))))) (fun _ h_ => h_.1)) (fun _ h_ => h_.1))) hb); have n1_ := Aside0.mk (Kd.R_below (by (with_reducible repeat (first | apply Kd.R_alloc | apply Kd.R_drewN | apply Kd.R_drew)); exact (Kd.R_mono (Kd.R_mono (Kd.R_far (p := ⟨g, 1, none⟩) (Kd.R_far (p := ⟨gb210, 3, none⟩) (IsS48.apart HI0.out (Kd.R_types HO_211002.out BK210.out (by decide)) (by decide)) (fun _ hk => hk.1.2) (.slice Ao39 t225.length co39)) (fun _ hk => hk.2) (.int .i64 (wrap64 (t223 + (wrap64 (t221)))))) (fun _ h_ => h_.1)) (fun _ h_ => h_.1))) hb); have n2_ := Aside0.mk (Kd.R_below (by (with_reducible repeat (first | apply Kd.R_alloc | apply Kd.R_drewN | apply Kd.R_drew)); exact (Kd.R_mono (Kd.R_mono (Kd.R_far (p := ⟨g, 1, none⟩) (Kd.R_far (p := ⟨gb210, 3, none⟩) (IsS48.apart HI0.out (Kd.R_types HO228.out BK210.out (by decide)) (by decide)) (fun _ hk => hk.1.2) (.slice Ao39 t225.length co39)) (fun _ hk => hk.2) (.int .i64 (wrap64 (t223 + (wrap64 (t221)))))) (fun _ h_ => h_.1)) (fun _ h_ => h_.1))) hb); have n3_ := Aside0.mk (blk_below (g := gb203) (o := .cells #[.slice none 0 0, .int .i64 0, .slice none 0 0, .slice none 0 0] 25 (0, 0)) (by refine blk_far ?_ NB203_0.out _; refine blk_far ?_ NB203_210.out _; (with_reducible repeat (first | refine blk_drewN ?_ _ | refine blk_drew ?_ | refine blk_alloc ?_ _)); exact BK203.out) hb); have n4_ := Aside0.mk (blk_below (g := gb210) (o := .cells #[.slice Ao9 t204.length co9, .int .i64 t211, .slice Ao17 t215.length co17, .slice Ao39 t225.length co39] 25 (0, 0)) (by refine blk_far ?_ NB210_0.out _; refine blk_put (cs := #[.slice Ao9 t204.length co9, .int .i64 t211, .slice Ao17 t215.length co17, .slice none 0 0]) ?_ 3 _ rfl; (with_reducible repeat (first | refine blk_drewN ?_ _ | refine blk_drew ?_ | refine blk_alloc ?_ _)); exact BK210.out) hb); have n5_ := Aside0.mk (IsS48.below (show IsS48 w0 ((w38.setCell ⟨gb210, 3, none⟩ (.slice Ao39 t225.length co39)).setCell ⟨g, 1, none⟩ (.int .i64 (wrap64 (t223 + (wrap64 (t221)))))) g t222 (wrap64 (t223 + (wrap64 (t221)))) false from y4 HI0.out) hb); have n6_ := Aside0.mk (KeepBut.trans (y3 HK.out) (KeepBut.of_below hb g none) (.inl rfl)); have n7_ := Aside0.mk (below_step (y5 HB.out) hb); clear HO_211000; clear HO_211002; clear HO228; clear BK203; clear BK210; clear HI0; clear HK; clear HB; have HO_211000 := n0_; have HO_211002 := n1_; have HO228 := n2_; have BK203 := n3_; have BK210 := n4_; have HI0 := n5_; have HK := n6_; have HB := n7_; clear n0_ n1_ n2_ n3_ n4_ n5_ n6_ n7_; (try clear hb); (try clear hb2); (try clear hk); (try clear hi); obtain ⟨HGz45, hgz45⟩ := HI0.out; have hcz45_0 := cellS48_0 HGz45; have hcz45_1 := cellS48_1 HGz45; have hcz45_2 := cellS48_2 HGz45; have hfz45_0 := blk_frozen HGz45 0; have hfz45_1 := blk_frozen HGz45 1; have hfz45_2 := blk_frozen HGz45 2; clear HGz45 hgz45; obtain ⟨hcz46_0, hcz46_1, hcz46_2, hcz46_3⟩ := cs4_ BK210.out; obtain ⟨hfz46_0, hfz46_1, hfz46_2, hfz46_3⟩ := fz4_ BK210.out; have hnb47 := NB203_0.out; have hnc47 := NB0_203.out; obtain ⟨hcz48_0, hcz48_1, hcz48_2, hcz48_3⟩ := cs4_ BK203.out; obtain ⟨hfz48_0, hfz48_1, hfz48_2, hfz48_3⟩ := fz4_ BK203.out))
        refine bodyPost_ret (results_cell_row rfl _ _ gb203 25 #[.slice Ao9 t204.length co9, .int .i64 t211, .slice Ao17 t215.length co17, .slice Ao39 t225.length co39] (0, 0) _ rfl (by refine blk_put (cs := #[.slice Ao9 t204.length co9, .int .i64 t211, .slice Ao17 t215.length co17, .slice none 0 0]) ?_ 3 _ rfl; refine blk_put (cs := #[.slice Ao9 t204.length co9, .int .i64 t211, .slice none 0 0, .slice none 0 0]) ?_ 2 _ rfl; refine blk_put (cs := #[.slice Ao9 t204.length co9, .int .i64 0, .slice none 0 0, .slice none 0 0]) ?_ 1 _ rfl; refine blk_put (cs := #[.slice none 0 0, .int .i64 0, .slice none 0 0, .slice none 0 0]) ?_ 0 _ rfl; refine blk_far ?_ NB203_0.out _; (with_reducible repeat (first | refine blk_drewN ?_ _ | refine blk_drew ?_ | refine blk_alloc ?_ _)); exact BK203.out) Try.underlying25 rfl (by kernel_rfl)) rfl ?_
        exact ⟨_, _, _, rr_, by (with_reducible repeat (first | apply Kd.R_alloc | apply Kd.R_drewN | apply Kd.R_drew)); exact Kd.R_mono (Kd.R_far (p := ⟨gb203, 3, none⟩) (Kd.R_far (p := ⟨gb203, 2, none⟩) (Kd.R_far (p := ⟨gb203, 1, none⟩) (Kd.R_far (p := ⟨gb203, 0, none⟩) (Kd.R_far (p := ⟨g, 2, none⟩) (Kd.R_types (IsS48.apart HI0.out HO_211000.out (by decide)) BK203.out (by decide)) (fun _ hk => hk.1.2) (.bool (!t229))) (fun _ hk => hk.2) (.slice Ao9 t204.length co9)) (fun _ hk => hk.2) (.int .i64 t211)) (fun _ hk => hk.2) (.slice Ao17 t215.length co17)) (fun _ hk => hk.2) (.slice Ao39 t225.length co39)) (fun _ hk => hk.1.1), by (with_reducible repeat (first | apply Kd.R_alloc | apply Kd.R_drewN | apply Kd.R_drew)); exact Kd.R_mono (Kd.R_far (p := ⟨gb203, 3, none⟩) (Kd.R_far (p := ⟨gb203, 2, none⟩) (Kd.R_far (p := ⟨gb203, 1, none⟩) (Kd.R_far (p := ⟨gb203, 0, none⟩) (Kd.R_far (p := ⟨g, 2, none⟩) (Kd.R_types (IsS48.apart HI0.out HO_211002.out (by decide)) BK203.out (by decide)) (fun _ hk => hk.1.2) (.bool (!t229))) (fun _ hk => hk.2) (.slice Ao9 t204.length co9)) (fun _ hk => hk.2) (.int .i64 t211)) (fun _ hk => hk.2) (.slice Ao17 t215.length co17)) (fun _ hk => hk.2) (.slice Ao39 t225.length co39)) (fun _ hk => hk.1.1), by (with_reducible repeat (first | apply Kd.R_alloc | apply Kd.R_drewN | apply Kd.R_drew)); exact Kd.R_mono (Kd.R_far (p := ⟨gb203, 3, none⟩) (Kd.R_far (p := ⟨gb203, 2, none⟩) (Kd.R_far (p := ⟨gb203, 1, none⟩) (Kd.R_far (p := ⟨gb203, 0, none⟩) (Kd.R_far (p := ⟨g, 2, none⟩) (Kd.R_types (IsS48.apart HI0.out HO228.out (by decide)) BK203.out (by decide)) (fun _ hk => hk.1.2) (.bool (!t229))) (fun _ hk => hk.2) (.slice Ao9 t204.length co9)) (fun _ hk => hk.2) (.int .i64 t211)) (fun _ hk => hk.2) (.slice Ao17 t215.length co17)) (fun _ hk => hk.2) (.slice Ao39 t225.length co39)) (fun _ hk => trivial), y4 HI0.out, y5 HB.out, y3 HK.out⟩
       ·
        replace c34 := Bool.eq_false_iff.mpr c34
        subst c34
        have H1 : (some (t204, t211, t215, t225, t222, wrap64 (t223 + (wrap64 (t221))), true)) = some (r1, r2, r3, r4, r5, r6, r7) := by rw [if_neg (show ¬ (false = true) by decide)] at H; exact H
        clear H
        have H := H1
        clear H1
        simp only [Option.some.injEq, Prod.mk.injEq] at H
        obtain ⟨rfl, rfl, rfl, rfl, rfl, rfl, rfl⟩ := H
        obtain ⟨HGz49, hgz49⟩ := HI0.out
        have hcz49_0 := cellS48_0 HGz49
        have hcz49_1 := cellS48_1 HGz49
        have hcz49_2 := cellS48_2 HGz49
        have hfz49_0 := blk_frozen HGz49 0
        have hfz49_1 := blk_frozen HGz49 1
        have hfz49_2 := blk_frozen HGz49 2
        clear HGz49 hgz49
        try go_wp2
        have n0_ := Aside0.mk (Kd.R_drew HO_211000.out)
        have n1_ := Aside0.mk (Kd.R_drew HO_211002.out)
        have n2_ := Aside0.mk (blk_drew BK203.out)
        have n3_ := Aside0.mk (blk_drew BK210.out)
        have n4_ := Aside0.mk (IsS48.drew HI0.out)
        have n5_ := Aside0.mk (keep_drew HK.out)
        have n6_ := Aside0.mk (below_drew1 HB.out)
        clear HO_211000
        clear HO_211002
        clear BK203
        clear BK210
        clear HI0
        clear HK
        clear HB
        have HO_211000 := n0_
        have HO_211002 := n1_
        have BK203 := n2_
        have BK210 := n3_
        have HI0 := n4_
        have HK := n5_
        have HB := n6_
        clear n0_ n1_ n2_ n3_ n4_ n5_ n6_
        refine start_ (n := 16) (S := fun w' => w'.cell? ⟨g, 0, none⟩ = some (.string t222) ∧ w'.cell? ⟨g, 1, none⟩ = some (.int .i64 t223) ∧ w'.cell? ⟨g, 2, none⟩ = some (.bool false)) (ds := []) #[false, false, false, false, false, false, false, false, false, false, false, false, false, false, false, false] (by kernel_rfl) rfl rfl ⟨cellS48_0 (HI0.out).1, cellS48_1 (HI0.out).1, cellS48_2 (HI0.out).1⟩ (fun hHeld => ?_); refine with_tabW spec_l9R_function.tab10 spec_l9R_function.bits10 (fun HT_ HW_ => ?_)
        generalize wc.drew = w50 at HO_211000 HO_211002 BK203 BK210 HI0 HK HB hHeld ⊢
        refine pure_ (i := 0) (N := some 48) (v := ?_) (a' := ?_) #[true, false, false, false, false, false, false, false, false, false, false, false, false, false, false, false] rfl rfl (any_of HT_.out (by kernel_rfl)) (fun _ _ _ h => h) (Or.inl ⟨by rfl, ?_⟩) ?_ ?_
        rotate_left
        ·
         intro w'
         go_simp
         with_reducible rfl
        rotate_left
        ·
         simp only [Act.put, List.setIfInBounds_toArray, List.set_cons_zero, List.set_cons_succ, i64_w, i32_w]
         rfl
        refine pure_ (i := 1) (N := some 49) (v := ?_) (a' := ?_) #[true, true, false, false, false, false, false, false, false, false, false, false, false, false, false, false] rfl rfl (any_of HT_.out (by kernel_rfl)) (fun _ _ _ h => h) (Or.inl ⟨by rfl, ?_⟩) ?_ ?_
        rotate_left
        ·
         intro w'
         go_simp
         with_reducible rfl
        rotate_left
        ·
         simp only [Act.put, List.setIfInBounds_toArray, List.set_cons_zero, List.set_cons_succ, i64_w, i32_w]
         rfl
        refine pure_ (i := 2) (N := some 50) (v := ?_) (a' := ?_) #[true, true, true, false, false, false, false, false, false, false, false, false, false, false, false, false] rfl rfl (any_of HT_.out (by kernel_rfl)) (fun _ _ _ h => h) (Or.inl ⟨by rfl, ?_⟩) ?_ ?_
        rotate_left
        ·
         intro w'
         go_simp
         with_reducible rfl
        rotate_left
        ·
         simp only [Act.put, List.setIfInBounds_toArray, List.set_cons_zero, List.set_cons_succ, i64_w, i32_w]
         rfl
        refine pure_ (i := 4) (N := some 52) (v := ?_) (a' := ?_) #[true, true, true, false, true, false, false, false, false, false, false, false, false, false, false, false] rfl rfl (any_of HT_.out (by kernel_rfl)) (fun _ _ _ h => h) (Or.inl ⟨by rfl, ?_⟩) ?_ ?_
        rotate_left
        ·
         intro w'
         go_simp
         with_reducible rfl
        rotate_left
        ·
         simp only [Act.put, List.setIfInBounds_toArray, List.set_cons_zero, List.set_cons_succ, i64_w, i32_w]
         rfl
        refine pure_ (i := 5) (N := some 53) (v := ?_) (a' := ?_) #[true, true, true, false, true, true, false, false, false, false, false, false, false, false, false, false] rfl rfl (any_of HT_.out (by kernel_rfl)) (fun _ _ _ h => h) (Or.inl ⟨by rfl, ?_⟩) ?_ ?_
        rotate_left
        ·
         intro w'
         go_simp
         with_reducible rfl
        rotate_left
        ·
         simp only [Act.put, List.setIfInBounds_toArray, List.set_cons_zero, List.set_cons_succ, i64_w, i32_w]
         rfl
        refine pure_ (i := 6) (N := some 54) (v := ?_) (a' := ?_) #[true, true, true, false, true, true, true, false, false, false, false, false, false, false, false, false] rfl rfl (any_of HT_.out (by kernel_rfl)) (fun _ _ _ h => h) (Or.inl ⟨by rfl, ?_⟩) ?_ ?_
        rotate_left
        ·
         intro w'
         go_simp
         with_reducible rfl
        rotate_left
        ·
         simp only [Act.put, List.setIfInBounds_toArray, List.set_cons_zero, List.set_cons_succ, i64_w, i32_w]
         rfl
        refine pure_ (i := 8) (N := some 56) (v := ?_) (a' := ?_) #[true, true, true, false, true, true, true, false, true, false, false, false, false, false, false, false] rfl rfl (any_of HT_.out (by kernel_rfl)) (fun _ _ _ h => h) (Or.inl ⟨by rfl, ?_⟩) ?_ ?_
        rotate_left
        ·
         intro w'
         go_simp
         with_reducible rfl
        rotate_left
        ·
         simp only [Act.put, List.setIfInBounds_toArray, List.set_cons_zero, List.set_cons_succ, i64_w, i32_w]
         rfl
        refine take_ (i := 3) (N := some 51) (v := ?_) (a' := ?_) #[true, true, true, true, true, true, true, false, true, false, false, false, false, false, false, false] rfl rfl (take_ofW HT_.out HW_.out (by kernel_rfl)) (fun _ _ _ h => h) (Or.inl ⟨by rfl, ?_⟩) hHeld ?_ ?_
        rotate_left
        ·
         rintro w' ⟨s0, s1, s2⟩
         go_simp
         with_reducible rfl
        rotate_left
        ·
         simp only [Act.put, List.setIfInBounds_toArray, List.set_cons_zero, List.set_cons_succ, i64_w, i32_w]
         rfl
        refine take_ (i := 7) (N := some 55) (v := ?_) (a' := ?_) #[true, true, true, true, true, true, true, true, true, false, false, false, false, false, false, false] rfl rfl (take_ofW HT_.out HW_.out (by kernel_rfl)) (fun _ _ _ h => h) (Or.inl ⟨by rfl, ?_⟩) hHeld ?_ ?_
        rotate_left
        ·
         rintro w' ⟨s0, s1, s2⟩
         go_simp
         with_reducible rfl
        rotate_left
        ·
         simp only [Act.put, List.setIfInBounds_toArray, List.set_cons_zero, List.set_cons_succ, i64_w, i32_w]
         rfl
        refine pure_ (i := 9) (N := some 57) (v := ?_) (a' := ?_) #[true, true, true, true, true, true, true, true, true, true, false, false, false, false, false, false] rfl rfl (any_of HT_.out (by kernel_rfl)) (fun _ _ _ h => h) (Or.inl ⟨by rfl, ?_⟩) ?_ ?_
        rotate_left
        ·
         intro w'
         go_simp
         with_reducible rfl
        rotate_left
        ·
         simp only [Act.put, List.setIfInBounds_toArray, List.set_cons_zero, List.set_cons_succ, i64_w, i32_w]
         rfl
        refine one_ (i := 10) (N := some 58) #[true, true, true, true, true, true, true, true, true, true, true, false, false, false, false, false] rfl rfl (one_of HT_.out (by kernel_rfl)) (by decide) (fun K hK => ?_)
        refine goes_ Try.func45 (by kernel_rfl) rfl #[.string (t222.extract (t223 : Int).toNat ((wrap64 (t223 + (wrap64 (t221)))) : Int).toNat)] (by rfl) rfl rfl ar ?_
        with_reducible refine (spec_l6Read.calls kj5 (t222.extract (t223 : Int).toNat ((wrap64 (t223 + (wrap64 (t221)))) : Int).toNat) t225 false _ A33.out).mono ?_
        rintro e w51 ⟨v227, rfl, ho0, hb⟩
        refine ⟨_, rfl, ?_⟩
        have n0_ := Aside0.mk (Kd.R_below (kr_ HO_211000.out) hb)
        have n1_ := Aside0.mk (Kd.R_below (kr_ HO_211002.out) hb)
        have n2_ := Aside0.mk (Kd.R_lower ho0 (keep_size (w := w) (g := g) (row := none) (y3 HK.out)))
        have n3_ := Aside0.mk (blk_below (g := gb203) (o := .cells #[.slice none 0 0, .int .i64 0, .slice none 0 0, .slice none 0 0] 25 (0, 0)) (bk BK203.out) hb)
        have n4_ := Aside0.mk (blk_below (g := gb210) (o := .cells #[.slice Ao9 t204.length co9, .int .i64 t211, .slice Ao17 t215.length co17, .slice none 0 0] 25 (0, 0)) (bk BK210.out) hb)
        have n5_ := Aside0.mk (IsS48.below (y4 HI0.out) hb)
        have n6_ := Aside0.mk (KeepBut.trans (y3 HK.out) (KeepBut.of_below hb g none) (.inl rfl))
        have n7_ := Aside0.mk (below_step (y5 HB.out) hb)
        clear HO_211000
        clear HO_211002
        clear BK203
        clear BK210
        clear HI0
        clear HK
        clear HB
        have HO_211000 := n0_
        have HO_211002 := n1_
        have HO228 := n2_
        have BK203 := n3_
        have BK210 := n4_
        have HI0 := n5_
        have HK := n6_
        have HB := n7_
        clear n0_ n1_ n2_ n3_ n4_ n5_ n6_ n7_
        (try clear hb)
        (try clear hb2)
        (try clear hk)
        (try clear hi)
        (try clear ho0)
        refine hK.out _ _ ⟨cellS48_0 (HI0.out).1, cellS48_1 (HI0.out).1, cellS48_2 (HI0.out).1⟩ (fun hHeld => ?_)
        clear hK K
        refine norm_ (a' := ?_) ?_ ?_
        rotate_left
        ·
         show Act.put _ (some 58) _ = _
         simp only [Act.put, List.setIfInBounds_toArray, List.set_cons_zero, List.set_cons_succ, i64_w, i32_w]
         rfl
        refine pure_ (i := 11) (N := some 47) (v := ?_) (a' := ?_) #[true, true, true, true, true, true, true, true, true, true, true, true, false, false, false, false] rfl rfl (any_of HT_.out (by kernel_rfl)) (fun _ _ _ h => h) (Or.inl ⟨by rfl, ?_⟩) ?_ ?_
        rotate_left
        ·
         intro w'
         go_simp
         with_reducible rfl
        rotate_left
        ·
         simp only [Act.put, List.setIfInBounds_toArray, List.set_cons_zero, List.set_cons_succ, i64_w, i32_w]
         rfl
        refine pure_ (i := 12) (N := some 59) (v := ?_) (a' := ?_) #[true, true, true, true, true, true, true, true, true, true, true, true, true, false, false, false] rfl rfl (any_of HT_.out (by kernel_rfl)) (fun _ _ _ h => h) (Or.inl ⟨by rfl, ?_⟩) ?_ ?_
        rotate_left
        ·
         intro w'
         go_simp
         with_reducible rfl
        rotate_left
        ·
         simp only [Act.put, List.setIfInBounds_toArray, List.set_cons_zero, List.set_cons_succ, i64_w, i32_w]
         rfl
        refine pure_ (i := 13) (N := some 60) (v := ?_) (a' := ?_) #[true, true, true, true, true, true, true, true, true, true, true, true, true, true, false, false] rfl rfl (any_of HT_.out (by kernel_rfl)) (fun _ _ _ h => h) (Or.inl ⟨by rfl, ?_⟩) ?_ ?_
        rotate_left
        ·
         intro w'
         go_simp
         with_reducible rfl
        rotate_left
        ·
         simp only [Act.put, List.setIfInBounds_toArray, List.set_cons_zero, List.set_cons_succ, i64_w, i32_w]
         rfl
        refine pure_ (i := 14) (N := some 6) (v := ?_) (a' := ?_) #[true, true, true, true, true, true, true, true, true, true, true, true, true, true, true, false] rfl rfl (any_of HT_.out (by kernel_rfl)) (fun _ _ _ h => h) (Or.inl ⟨by rfl, ?_⟩) ?_ ?_
        rotate_left
        ·
         intro w'
         go_simp
         with_reducible rfl
        rotate_left
        ·
         simp only [Act.put, List.setIfInBounds_toArray, List.set_cons_zero, List.set_cons_succ, i64_w, i32_w]
         rfl
        refine pure_ (i := 15) (N := some 7) (v := ?_) (a' := ?_) #[true, true, true, true, true, true, true, true, true, true, true, true, true, true, true, true] rfl rfl (any_of HT_.out (by kernel_rfl)) (fun _ _ _ h => h) (Or.inl ⟨by rfl, ?_⟩) ?_ ?_
        rotate_left
        ·
         intro w'
         go_simp
         with_reducible rfl
        rotate_left
        ·
         simp only [Act.put, List.setIfInBounds_toArray, List.set_cons_zero, List.set_cons_succ, i64_w, i32_w]
         rfl
        refine done_ (done_of HT_.out (by kernel_rfl)) ?_
        obtain ⟨Ao52, co52, eo52⟩ := Kd.R_slice HO228.out
        subst eo52
        have hnb53 := NB210_203.out
        have hnc53 := NB203_210.out
        have hnb54 := NB210_0.out
        have hnc54 := NB0_210.out
        obtain ⟨hcz55_0, hcz55_1, hcz55_2, hcz55_3⟩ := cs4_ BK210.out
        obtain ⟨hfz55_0, hfz55_1, hfz55_2, hfz55_3⟩ := fz4_ BK210.out
        obtain ⟨HGz56, hgz56⟩ := HI0.out
        have hcz56_0 := cellS48_0 HGz56
        have hcz56_1 := cellS48_1 HGz56
        have hcz56_2 := cellS48_2 HGz56
        have hfz56_0 := blk_frozen HGz56 0
        have hfz56_1 := blk_frozen HGz56 1
        have hfz56_2 := blk_frozen HGz56 2
        clear HGz56 hgz56
        have hnb57 := NB203_0.out
        have hnc57 := NB0_203.out
        obtain ⟨hcz58_0, hcz58_1, hcz58_2, hcz58_3⟩ := cs4_ BK203.out
        obtain ⟨hfz58_0, hfz58_1, hfz58_2, hfz58_3⟩ := fz4_ BK203.out
        try go_wp2
        refine bodyPost_ret (results_cell_row rfl _ _ gb203 25 #[.slice Ao9 t204.length co9, .int .i64 t211, .slice Ao17 t215.length co17, .slice Ao52 t225.length co52] (0, 0) _ rfl (by refine blk_put (cs := #[.slice Ao9 t204.length co9, .int .i64 t211, .slice Ao17 t215.length co17, .slice none 0 0]) ?_ 3 _ rfl; refine blk_put (cs := #[.slice Ao9 t204.length co9, .int .i64 t211, .slice none 0 0, .slice none 0 0]) ?_ 2 _ rfl; refine blk_put (cs := #[.slice Ao9 t204.length co9, .int .i64 0, .slice none 0 0, .slice none 0 0]) ?_ 1 _ rfl; refine blk_put (cs := #[.slice none 0 0, .int .i64 0, .slice none 0 0, .slice none 0 0]) ?_ 0 _ rfl; refine blk_far ?_ NB203_0.out _; refine blk_far ?_ NB203_0.out _; refine blk_far ?_ NB203_210.out _; (with_reducible repeat (first | refine blk_drewN ?_ _ | refine blk_drew ?_ | refine blk_alloc ?_ _)); exact BK203.out) Try.underlying25 rfl (by kernel_rfl)) rfl ?_
        exact ⟨_, _, _, rr_, by (with_reducible repeat (first | apply Kd.R_alloc | apply Kd.R_drewN | apply Kd.R_drew)); exact Kd.R_mono (Kd.R_far (p := ⟨gb203, 3, none⟩) (Kd.R_far (p := ⟨gb203, 2, none⟩) (Kd.R_far (p := ⟨gb203, 1, none⟩) (Kd.R_far (p := ⟨gb203, 0, none⟩) (Kd.R_far (p := ⟨g, 2, none⟩) (Kd.R_far (p := ⟨g, 1, none⟩) (Kd.R_far (p := ⟨gb210, 3, none⟩) (Kd.R_types (IsS48.apart HI0.out (Kd.R_types HO_211000.out BK210.out (by decide)) (by decide)) BK203.out (by decide)) (fun _ hk => hk.1.1.2) (.slice Ao52 t225.length co52)) (fun _ hk => hk.1.2) (.int .i64 (wrap64 (t223 + (wrap64 (t221)))))) (fun _ hk => hk.1.2) (.bool true)) (fun _ hk => hk.2) (.slice Ao9 t204.length co9)) (fun _ hk => hk.2) (.int .i64 t211)) (fun _ hk => hk.2) (.slice Ao17 t215.length co17)) (fun _ hk => hk.2) (.slice Ao52 t225.length co52)) (fun _ hk => hk.1.1.1), by (with_reducible repeat (first | apply Kd.R_alloc | apply Kd.R_drewN | apply Kd.R_drew)); exact Kd.R_mono (Kd.R_far (p := ⟨gb203, 3, none⟩) (Kd.R_far (p := ⟨gb203, 2, none⟩) (Kd.R_far (p := ⟨gb203, 1, none⟩) (Kd.R_far (p := ⟨gb203, 0, none⟩) (Kd.R_far (p := ⟨g, 2, none⟩) (Kd.R_far (p := ⟨g, 1, none⟩) (Kd.R_far (p := ⟨gb210, 3, none⟩) (Kd.R_types (IsS48.apart HI0.out (Kd.R_types HO_211002.out BK210.out (by decide)) (by decide)) BK203.out (by decide)) (fun _ hk => hk.1.1.2) (.slice Ao52 t225.length co52)) (fun _ hk => hk.1.2) (.int .i64 (wrap64 (t223 + (wrap64 (t221)))))) (fun _ hk => hk.1.2) (.bool true)) (fun _ hk => hk.2) (.slice Ao9 t204.length co9)) (fun _ hk => hk.2) (.int .i64 t211)) (fun _ hk => hk.2) (.slice Ao17 t215.length co17)) (fun _ hk => hk.2) (.slice Ao52 t225.length co52)) (fun _ hk => hk.1.1.1), by (with_reducible repeat (first | apply Kd.R_alloc | apply Kd.R_drewN | apply Kd.R_drew)); exact Kd.R_mono (Kd.R_far (p := ⟨gb203, 3, none⟩) (Kd.R_far (p := ⟨gb203, 2, none⟩) (Kd.R_far (p := ⟨gb203, 1, none⟩) (Kd.R_far (p := ⟨gb203, 0, none⟩) (Kd.R_far (p := ⟨g, 2, none⟩) (Kd.R_far (p := ⟨g, 1, none⟩) (Kd.R_far (p := ⟨gb210, 3, none⟩) (Kd.R_types (IsS48.apart HI0.out (Kd.R_types HO228.out BK210.out (by decide)) (by decide)) BK203.out (by decide)) (fun _ hk => hk.1.1.2) (.slice Ao52 t225.length co52)) (fun _ hk => hk.1.2) (.int .i64 (wrap64 (t223 + (wrap64 (t221)))))) (fun _ hk => hk.1.2) (.bool true)) (fun _ hk => hk.2) (.slice Ao9 t204.length co9)) (fun _ hk => hk.2) (.int .i64 t211)) (fun _ hk => hk.2) (.slice Ao17 t215.length co17)) (fun _ hk => hk.2) (.slice Ao52 t225.length co52)) (fun _ hk => trivial), y4 HI0.out, y5 HB.out, y3 HK.out⟩
      ·
       rw [if_neg c32] at H
       exact absurd H (by simp)
     ·
      rw [if_neg c31] at H
      exact absurd H (by simp)
    ·
     rw [if_neg c30] at H
     exact absurd H (by simp)


/-! ### spec_TakeFunc: function 5 -/
def spec_TakeFunc.f (k : Nat) (a0 : ByteArray) : Option (List Int × Int × List Int × (List (S44)) × Int) := (spec_l9R_function.f k a0 0 false).bind fun bt232 => (if bt232.2.2.2.2.2.2 = true then (some (([] : List Int), 0, ([] : List Int), ([] : List (S44)), 0)) else (if bt232.2.2.2.2.2.1 > 900 then (some (([] : List Int), 0, ([] : List Int), ([] : List (S44)), 0)) else (some (bt232.1, bt232.2.1, bt232.2.2.1, bt232.2.2.2.1, bt232.2.2.2.2.2.1))))
set_option maxHeartbeats 8000000 in
set_option maxRecDepth 100000 in
theorem spec_TakeFunc.calls (k : Nat) (a0 : ByteArray) (r1 : List Int) (r2 : Int) (r3 : List Int) (r4 : List (S44)) (r5 : Int) (w : World) (h : spec_TakeFunc.f k a0 = some (r1, r2, r3, r4, r5)) :
  Calls Try.prog 5 #[.string a0] w fun e w' => ∃ v0_ v2_ v3_ : Value, e = .returned (.tuple #[.agg #[v0_, .int .i64 r2, v2_, v3_], .int .i64 r5]) ∧ Kd.R (Kd.int .i64) 3 w' w.heap.size (fun k_ => some k_ ≠ (v2_ : Value).ownBlock) v0_ r1 ∧ Kd.R (Kd.int .i64) 3 w' w.heap.size (fun k_ => some k_ ≠ (v0_ : Value).ownBlock) v2_ r3 ∧ Kd.R k44 44 w' w.heap.size (fun _ => True) v3_ r4 ∧ Below w.heap.size w w' := by
 have hu25 := Try.underlying25
 have hu48 := Try.underlying48
 have HB := Aside0.mk (Below.refl w.heap.size w)
 have H : ((spec_l9R_function.f k a0 0 false).bind fun bt232 => (if bt232.2.2.2.2.2.2 = true then (some (([] : List Int), 0, ([] : List Int), ([] : List (S44)), 0)) else (if bt232.2.2.2.2.2.1 > 900 then (some (([] : List Int), 0, ([] : List Int), ([] : List (S44)), 0)) else (some (bt232.1, bt232.2.1, bt232.2.2.1, bt232.2.2.2.1, bt232.2.2.2.2.2.1))))) = some (r1, r2, r3, r4, r5) := h
 clear h
 replace H := Option.bind_eq_some_iff.mp H
 obtain ⟨⟨t232, t235, t236, t239, t242, t243, t244⟩, A20, H⟩ := H
 replace H : (if t244 = true then (some (([] : List Int), 0, ([] : List Int), ([] : List (S44)), 0)) else (if t243 > 900 then (some (([] : List Int), 0, ([] : List Int), ([] : List (S44)), 0)) else (some (t232, t235, t236, t239, t243)))) = some (r1, r2, r3, r4, r5) := H
 have A2 := Aside0.mk A20
 clear A20
 by_cases c3 : t244 = true
 ·
  subst c3
  have H1 : (some (([] : List Int), 0, ([] : List Int), ([] : List (S44)), 0)) = some (r1, r2, r3, r4, r5) := by rw [if_pos rfl] at H; exact H
  clear H
  have H := H1
  clear H1
  simp only [Option.some.injEq, Prod.mk.injEq] at H
  obtain ⟨rfl, rfl, rfl, rfl, rfl⟩ := H
  go_enter Try.func5, Try.ntmps5
  go_wp2_with (first | ((with_reducible refine gate_dst (N := 2) rfl ?_); refine box_event ?hg (N := 2) ?hd (cs := #[.slice none 0 0, .int .i64 0, .slice none 0 0, .slice none 0 0]) (t := 25) ?hr ?_; (case hd => rfl); (case hg => rfl); (case hr => first | (go_simp; done) | (go_simp; rfl)); intro gb230 hg w4 hbox hb; have n0_ := Aside0.mk (below_step (bw HB.out) hb); have n1_ := Aside0.mk (hbox); have n2_ := Aside0.mk ((sz_ hg (bw HB.out) : w.heap.size ≤ gb230)); have n3_ := Aside0.mk ((sz_ hg (bw HB.out) : w.heap.size ≤ gb230)); clear HB; have HB := n0_; have BK230 := n1_; have GW230 := n2_; have GE230 := n3_; clear n0_ n1_ n2_ n3_; clear hb hbox hg) | ((with_reducible refine gate_dst (N := 8) rfl ?_); refine box_event ?hg (N := 8) ?hd (cs := #[.string a0, .int .i64 0, .bool false]) (t := 48) ?hr ?_; (case hd => rfl); (case hg => rfl); (case hr => first | (go_simp; done) | (go_simp; rfl)); intro gb231 hg w5 hbox hb; have n0_ := Aside0.mk (blk_below (g := gb230) (o := .cells #[.slice none 0 0, .int .i64 0, .slice none 0 0, .slice none 0 0] 25 (0, 0)) (bk BK230.out) hb); have n1_ := Aside0.mk (below_step (bw HB.out) hb); have n2_ := Aside0.mk ((show IsS48 w w5 gb231 a0 0 false from ⟨hbox, (sz_ hg (bw HB.out) : w.heap.size ≤ gb231)⟩)); have n3_ := Aside0.mk ((sz_ hg (bw HB.out) : w.heap.size ≤ gb231)); have n4_ := Aside0.mk ((sz_ hg (bw HB.out) : w.heap.size ≤ gb231)); have n5_ := Aside0.mk ((by rw [hg]; exact Nat.ne_of_lt (blk_lt (g := gb230) (o := .cells #[.slice none 0 0, .int .i64 0, .slice none 0 0, .slice none 0 0] 25 (0, 0)) (bk BK230.out)) : gb230 ≠ gb231)); have n6_ := Aside0.mk ((by rw [hg]; exact Nat.ne_of_gt (blk_lt (g := gb230) (o := .cells #[.slice none 0 0, .int .i64 0, .slice none 0 0, .slice none 0 0] 25 (0, 0)) (bk BK230.out)) : gb231 ≠ gb230)); clear BK230; clear HB; have BK230 := n0_; have HB := n1_; have HI231 := n2_; have GW231 := n3_; have GE231 := n4_; have NB230_231 := n5_; have NB231_230 := n6_; clear n0_ n1_ n2_ n3_ n4_ n5_ n6_; clear hb hbox hg) | ((with_reducible refine gate_callee (f := 19) rfl ?_); refine goesL_ (some 10) rfl rfl Try.func19 (by kernel_rfl) rfl #[.pointer (some ⟨gb231, 0, none⟩)] rfl ar ?_; (with_reducible refine (spec_l9R_function.calls k gb231 a0 0 false t232 t235 t236 t239 t242 t243 true w _ ?side1 ?side2 A2.out).mono ?_); (case side1 => repeat (first | (with_reducible first | exact HI231.out | apply IsS48.alloc | apply IsS48.drewN | apply IsS48.drew | apply IsS48.set_0 | apply IsS48.set_1 | apply IsS48.set_2 | apply IsS48.far (hne := NB231_230.out)) | exact HI231.out)); (case side2 => repeat (first | (with_reducible first | exact HB.out | apply below_alloc | apply pw_below_drewN | apply below_drew1 | refine below_set ?_ (IsS48.ge HI231.out) | refine below_set ?_ GE230.out) | exact HB.out)); rintro e w6 ⟨v233, v237, v240, rfl, ho0, ho1, ho2, hi, hb, hk⟩; refine ⟨_, rfl, ?_⟩; have n0_ := Aside0.mk (KeepBut.blk hk (g' := gb230) (o := .cells #[.slice none 0 0, .int .i64 0, .slice none 0 0, .slice none 0 0] 25 (0, 0)) (bk BK230.out) NB230_231.out (by simp)); have n1_ := Aside0.mk (Kd.R_lower ho0 (below_size (y5 HB.out))); have n2_ := Aside0.mk (Kd.R_lower ho1 (below_size (y5 HB.out))); have n3_ := Aside0.mk (Kd.R_lower ho2 (below_size (y5 HB.out))); have n4_ := Aside0.mk (hb); have n5_ := Aside0.mk (hi); clear BK230; clear HB; clear HI231; have BK230 := n0_; have HO234 := n1_; have HO238 := n2_; have HO241 := n3_; have HB := n4_; have HI231 := n5_; clear n0_ n1_ n2_ n3_ n4_ n5_; (try clear hb); (try clear hb2); (try clear hk); (try clear hi); (try clear ho0); (try clear ho1); (try clear ho2)) | ((with_reducible refine gate_dst (N := 5) rfl ?_); refine box_event ?hg (N := 5) ?hd (cs := #[.slice none 0 0, .int .i64 0, .slice none 0 0, .slice none 0 0]) (t := 25) ?hr ?_; (case hd => rfl); (case hg => rfl); (case hr => first | (go_simp; done) | (go_simp; rfl)); intro gb245 hg w7 hbox hb; have n0_ := Aside0.mk (Kd.R_below (kr_ HO234.out) hb); have n1_ := Aside0.mk (Kd.R_below (kr_ HO238.out) hb); have n2_ := Aside0.mk (Kd.R_below (kr_ HO241.out) hb); have n3_ := Aside0.mk (blk_below (g := gb230) (o := .cells #[.slice none 0 0, .int .i64 0, .slice none 0 0, .slice none 0 0] 25 (0, 0)) (bk BK230.out) hb); have n4_ := Aside0.mk (IsS48.below (y4 HI231.out) hb); have n5_ := Aside0.mk (below_step (y5 HB.out) hb); have n6_ := Aside0.mk (hbox); have n7_ := Aside0.mk ((by rw [hg]; exact (below_size (y5 HB.out)) : w.heap.size ≤ gb245)); have n8_ := Aside0.mk ((by rw [hg]; exact (below_size (y5 HB.out)) : w.heap.size ≤ gb245)); have n9_ := Aside0.mk ((by rw [hg]; exact Nat.ne_of_lt (blk_lt (g := gb230) (o := .cells #[.slice none 0 0, .int .i64 0, .slice none 0 0, .slice none 0 0] 25 (0, 0)) (bk BK230.out)) : gb230 ≠ gb245)); have n10_ := Aside0.mk ((by rw [hg]; exact Nat.ne_of_gt (blk_lt (g := gb230) (o := .cells #[.slice none 0 0, .int .i64 0, .slice none 0 0, .slice none 0 0] 25 (0, 0)) (bk BK230.out)) : gb245 ≠ gb230)); have n11_ := Aside0.mk ((by rw [hg]; exact Nat.ne_of_lt (IsS48.lt (show IsS48 w _ gb231 t242 t243 true from y4 HI231.out)) : gb231 ≠ gb245)); have n12_ := Aside0.mk ((by rw [hg]; exact Nat.ne_of_gt (IsS48.lt (show IsS48 w _ gb231 t242 t243 true from y4 HI231.out)) : gb245 ≠ gb231)); clear HO234; clear HO238; clear HO241; clear BK230; clear HI231; clear HB; have HO234 := n0_; have HO238 := n1_; have HO241 := n2_; have BK230 := n3_; have HI231 := n4_; have HB := n5_; have BK245 := n6_; have GW245 := n7_; have GE245 := n8_; have NB230_245 := n9_; have NB245_230 := n10_; have NB231_245 := n11_; have NB245_231 := n12_; clear n0_ n1_ n2_ n3_ n4_ n5_ n6_ n7_ n8_ n9_ n10_ n11_ n12_; clear hb hbox hg; obtain ⟨Ao8, co8, eo8⟩ := Kd.R_slice HO234.out; subst eo8; have hnb9 := NB245_230.out; have hnc9 := NB230_245.out; have hnb10 := NB245_231.out; have hnc10 := NB231_245.out; obtain ⟨hcz11_0, hcz11_1, hcz11_2, hcz11_3⟩ := cs4_ BK245.out; obtain ⟨hfz11_0, hfz11_1, hfz11_2, hfz11_3⟩ := fz4_ BK245.out; obtain ⟨Ao12, co12, eo12⟩ := Kd.R_slice HO238.out; subst eo12; obtain ⟨Ao13, co13, eo13⟩ := Kd.R_slice HO241.out; subst eo13; obtain ⟨HGz14, hgz14⟩ := HI231.out; have hcz14_0 := cellS48_0 HGz14; have hcz14_1 := cellS48_1 HGz14; have hcz14_2 := cellS48_2 HGz14; have hfz14_0 := blk_frozen HGz14 0; have hfz14_1 := blk_frozen HGz14 1; have hfz14_2 := blk_frozen HGz14 2; clear HGz14 hgz14; have hnb15 := NB230_231.out; have hnc15 := NB231_230.out; obtain ⟨hcz16_0, hcz16_1, hcz16_2, hcz16_3⟩ := cs4_ BK230.out; obtain ⟨hfz16_0, hfz16_1, hfz16_2, hfz16_3⟩ := fz4_ BK230.out) | ((with_reducible refine gate_store (t := 25) (p := 2) rfl ?_); refine store_event (t := 25) (p := 2) (v := ?vo_w17) (w1 := ((((((((w7.setCell ⟨gb245, 0, none⟩ (.slice Ao8 t232.length co8)).setCell ⟨gb245, 1, none⟩ (.int .i64 t235)).setCell ⟨gb245, 2, none⟩ (.slice Ao12 t236.length co12)).setCell ⟨gb245, 3, none⟩ (.slice Ao13 t239.length co13)).setCell ⟨gb230, 0, none⟩ (.slice none 0 0)).setCell ⟨gb230, 1, none⟩ (.int .i64 0)).setCell ⟨gb230, 2, none⟩ (.slice none 0 0)).setCell ⟨gb230, 3, none⟩ (.slice none 0 0))) ?hg ?ho ?hn ?hr ?_; (case ho => rfl); (case hg => rfl); (case hn => rfl); (case hr => first | (go_simp; done) | (go_simp; rfl)); intro w17 hw; have n0_ : Aside0 (Kd.R (Kd.int .i64) 3 w17 w.heap.size (fun k_ => some k_ ≠ (.slice Ao12 t236.length co12 : Value).ownBlock) (.slice Ao8 t232.length co8) t232) := ⟨(by rw [hw]; exact (by (with_reducible repeat (first | apply Kd.R_alloc | apply Kd.R_drewN | apply Kd.R_drew)); exact Kd.R_mono (Kd.R_far (p := ⟨gb230, 3, none⟩) (Kd.R_far (p := ⟨gb230, 2, none⟩) (Kd.R_far (p := ⟨gb230, 1, none⟩) (Kd.R_far (p := ⟨gb230, 0, none⟩) (Kd.R_far (p := ⟨gb245, 3, none⟩) (Kd.R_far (p := ⟨gb245, 2, none⟩) (Kd.R_far (p := ⟨gb245, 1, none⟩) (Kd.R_far (p := ⟨gb245, 0, none⟩) (Kd.R_types (Kd.R_types HO234.out BK245.out (by decide)) BK230.out (by decide)) (fun _ hk => hk.1.2) (.slice Ao8 t232.length co8)) (fun _ hk => hk.1.2) (.int .i64 t235)) (fun _ hk => hk.1.2) (.slice Ao12 t236.length co12)) (fun _ hk => hk.1.2) (.slice Ao13 t239.length co13)) (fun _ hk => hk.2) (.slice none 0 0)) (fun _ hk => hk.2) (.int .i64 0)) (fun _ hk => hk.2) (.slice none 0 0)) (fun _ hk => hk.2) (.slice none 0 0)) (fun _ hk => hk.1.1)))⟩; have n1_ : Aside0 (Kd.R (Kd.int .i64) 3 w17 w.heap.size (fun k_ => some k_ ≠ (.slice Ao8 t232.length co8 : Value).ownBlock) (.slice Ao12 t236.length co12) t236) := ⟨(by rw [hw]; exact (by (with_reducible repeat (first | apply Kd.R_alloc | apply Kd.R_drewN | apply Kd.R_drew)); exact Kd.R_mono (Kd.R_far (p := ⟨gb230, 3, none⟩) (Kd.R_far (p := ⟨gb230, 2, none⟩) (Kd.R_far (p := ⟨gb230, 1, none⟩) (Kd.R_far (p := ⟨gb230, 0, none⟩) (Kd.R_far (p := ⟨gb245, 3, none⟩) (Kd.R_far (p := ⟨gb245, 2, none⟩) (Kd.R_far (p := ⟨gb245, 1, none⟩) (Kd.R_far (p := ⟨gb245, 0, none⟩) (Kd.R_types (Kd.R_types HO238.out BK245.out (by decide)) BK230.out (by decide)) (fun _ hk => hk.1.2) (.slice Ao8 t232.length co8)) (fun _ hk => hk.1.2) (.int .i64 t235)) (fun _ hk => hk.1.2) (.slice Ao12 t236.length co12)) (fun _ hk => hk.1.2) (.slice Ao13 t239.length co13)) (fun _ hk => hk.2) (.slice none 0 0)) (fun _ hk => hk.2) (.int .i64 0)) (fun _ hk => hk.2) (.slice none 0 0)) (fun _ hk => hk.2) (.slice none 0 0)) (fun _ hk => hk.1.1)))⟩; have n2_ : Aside0 (Kd.R k44 44 w17 w.heap.size (fun _ => True) (.slice Ao13 t239.length co13) t239) := ⟨(by rw [hw]; exact (by (with_reducible repeat (first | apply Kd.R_alloc | apply Kd.R_drewN | apply Kd.R_drew)); exact Kd.R_mono (Kd.R_far (p := ⟨gb230, 3, none⟩) (Kd.R_far (p := ⟨gb230, 2, none⟩) (Kd.R_far (p := ⟨gb230, 1, none⟩) (Kd.R_far (p := ⟨gb230, 0, none⟩) (Kd.R_far (p := ⟨gb245, 3, none⟩) (Kd.R_far (p := ⟨gb245, 2, none⟩) (Kd.R_far (p := ⟨gb245, 1, none⟩) (Kd.R_far (p := ⟨gb245, 0, none⟩) (Kd.R_types (Kd.R_types HO241.out BK245.out (by decide)) BK230.out (by decide)) (fun _ hk => hk.1.2) (.slice Ao8 t232.length co8)) (fun _ hk => hk.1.2) (.int .i64 t235)) (fun _ hk => hk.1.2) (.slice Ao12 t236.length co12)) (fun _ hk => hk.1.2) (.slice Ao13 t239.length co13)) (fun _ hk => hk.2) (.slice none 0 0)) (fun _ hk => hk.2) (.int .i64 0)) (fun _ hk => hk.2) (.slice none 0 0)) (fun _ hk => hk.2) (.slice none 0 0)) (fun _ hk => trivial)))⟩; have n3_ : Aside0 (w17.heap[gb230]? = some (.cells #[.slice none 0 0, .int .i64 0, .slice none 0 0, .slice none 0 0] 25 (0, 0))) := ⟨(by rw [hw]; exact (by refine blk_put (cs := #[.slice none 0 0, .int .i64 0, .slice none 0 0, .slice none 0 0]) ?_ 3 _ rfl; refine blk_put (cs := #[.slice none 0 0, .int .i64 0, .slice none 0 0, .slice none 0 0]) ?_ 2 _ rfl; refine blk_put (cs := #[.slice none 0 0, .int .i64 0, .slice none 0 0, .slice none 0 0]) ?_ 1 _ rfl; refine blk_put (cs := #[.slice none 0 0, .int .i64 0, .slice none 0 0, .slice none 0 0]) ?_ 0 _ rfl; refine blk_far ?_ NB230_245.out _; refine blk_far ?_ NB230_245.out _; refine blk_far ?_ NB230_245.out _; refine blk_far ?_ NB230_245.out _; (with_reducible repeat (first | refine blk_drewN ?_ _ | refine blk_drew ?_ | refine blk_alloc ?_ _)); exact BK230.out))⟩; have n4_ : Aside0 (w17.heap[gb245]? = some (.cells #[.slice Ao8 t232.length co8, .int .i64 t235, .slice Ao12 t236.length co12, .slice Ao13 t239.length co13] 25 (0, 0))) := ⟨(by rw [hw]; exact (by refine blk_far ?_ NB245_230.out _; refine blk_far ?_ NB245_230.out _; refine blk_far ?_ NB245_230.out _; refine blk_far ?_ NB245_230.out _; refine blk_put (cs := #[.slice Ao8 t232.length co8, .int .i64 t235, .slice Ao12 t236.length co12, .slice none 0 0]) ?_ 3 _ rfl; refine blk_put (cs := #[.slice Ao8 t232.length co8, .int .i64 t235, .slice none 0 0, .slice none 0 0]) ?_ 2 _ rfl; refine blk_put (cs := #[.slice Ao8 t232.length co8, .int .i64 0, .slice none 0 0, .slice none 0 0]) ?_ 1 _ rfl; refine blk_put (cs := #[.slice none 0 0, .int .i64 0, .slice none 0 0, .slice none 0 0]) ?_ 0 _ rfl; (with_reducible repeat (first | refine blk_drewN ?_ _ | refine blk_drew ?_ | refine blk_alloc ?_ _)); exact BK245.out))⟩; have n5_ : Aside0 (IsS48 w w17 gb231 t242 t243 true) := ⟨(by rw [hw]; exact (y4 HI231.out))⟩; have n6_ : Aside0 (Below w.heap.size w w17) := ⟨(by rw [hw]; exact (y5 HB.out))⟩; clear hw; clear HO234; clear HO238; clear HO241; clear BK230; clear BK245; clear HI231; clear HB; have HO234 := n0_; have HO238 := n1_; have HO241 := n2_; have BK230 := n3_; have BK245 := n4_; have HI231 := n5_; have HB := n6_; clear n0_ n1_ n2_ n3_ n4_ n5_ n6_))
  refine bodyPost_ret (results_ct rfl _ _ gb230 25 #[.slice none 0 0, .int .i64 0, .slice none 0 0, .slice none 0 0] (0, 0) _ rfl (bk BK230.out) Try.underlying25 rfl (by kernel_rfl)) rfl ?_
  exact ⟨_, _, _, rr_, by first | exact Kd.R_nil _ _ _ _ _ | exact Kd.N_nil _ _ _ _ _ | exact Kd.V_nil _ _ _ _ _ | exact Kd.Q_nil _ _ _ _ _ | exact Kd.S_nil _ _ _ _ _, by first | exact Kd.R_nil _ _ _ _ _ | exact Kd.N_nil _ _ _ _ _ | exact Kd.V_nil _ _ _ _ _ | exact Kd.Q_nil _ _ _ _ _ | exact Kd.S_nil _ _ _ _ _, by first | exact Kd.R_nil _ _ _ _ _ | exact Kd.N_nil _ _ _ _ _ | exact Kd.V_nil _ _ _ _ _ | exact Kd.Q_nil _ _ _ _ _ | exact Kd.S_nil _ _ _ _ _, y5 HB.out⟩
 ·
  replace c3 := Bool.eq_false_iff.mpr c3
  subst c3
  have H1 : (if t243 > 900 then (some (([] : List Int), 0, ([] : List Int), ([] : List (S44)), 0)) else (some (t232, t235, t236, t239, t243))) = some (r1, r2, r3, r4, r5) := by rw [if_neg (show ¬ (false = true) by decide)] at H; exact H
  clear H
  have H := H1
  clear H1
  by_cases c18 : t243 > 900
  ·
   rw [if_pos c18] at H
   have c18b0 : decide (900 < t243) = true := decide_eq_true c18
   clear c18
   simp only [Option.some.injEq, Prod.mk.injEq] at H
   obtain ⟨rfl, rfl, rfl, rfl, rfl⟩ := H
   go_enter Try.func5, Try.ntmps5
   go_wp2_with (first | ((with_reducible refine gate_dst (N := 2) rfl ?_); refine box_event ?hg (N := 2) ?hd (cs := #[.slice none 0 0, .int .i64 0, .slice none 0 0, .slice none 0 0]) (t := 25) ?hr ?_; (case hd => rfl); (case hg => rfl); (case hr => first | (go_simp; done) | (go_simp; rfl)); intro gb230 hg w19 hbox hb; have n0_ := Aside0.mk (below_step (bw HB.out) hb); have n1_ := Aside0.mk (hbox); have n2_ := Aside0.mk ((sz_ hg (bw HB.out) : w.heap.size ≤ gb230)); have n3_ := Aside0.mk ((sz_ hg (bw HB.out) : w.heap.size ≤ gb230)); clear HB; have HB := n0_; have BK230 := n1_; have GW230 := n2_; have GE230 := n3_; clear n0_ n1_ n2_ n3_; clear hb hbox hg) | ((with_reducible refine gate_dst (N := 8) rfl ?_); refine box_event ?hg (N := 8) ?hd (cs := #[.string a0, .int .i64 0, .bool false]) (t := 48) ?hr ?_; (case hd => rfl); (case hg => rfl); (case hr => first | (go_simp; done) | (go_simp; rfl)); intro gb231 hg w20 hbox hb; have n0_ := Aside0.mk (blk_below (g := gb230) (o := .cells #[.slice none 0 0, .int .i64 0, .slice none 0 0, .slice none 0 0] 25 (0, 0)) (bk BK230.out) hb); have n1_ := Aside0.mk (below_step (bw HB.out) hb); have n2_ := Aside0.mk ((show IsS48 w w20 gb231 a0 0 false from ⟨hbox, (sz_ hg (bw HB.out) : w.heap.size ≤ gb231)⟩)); have n3_ := Aside0.mk ((sz_ hg (bw HB.out) : w.heap.size ≤ gb231)); have n4_ := Aside0.mk ((sz_ hg (bw HB.out) : w.heap.size ≤ gb231)); have n5_ := Aside0.mk ((by rw [hg]; exact Nat.ne_of_lt (blk_lt (g := gb230) (o := .cells #[.slice none 0 0, .int .i64 0, .slice none 0 0, .slice none 0 0] 25 (0, 0)) (bk BK230.out)) : gb230 ≠ gb231)); have n6_ := Aside0.mk ((by rw [hg]; exact Nat.ne_of_gt (blk_lt (g := gb230) (o := .cells #[.slice none 0 0, .int .i64 0, .slice none 0 0, .slice none 0 0] 25 (0, 0)) (bk BK230.out)) : gb231 ≠ gb230)); clear BK230; clear HB; have BK230 := n0_; have HB := n1_; have HI231 := n2_; have GW231 := n3_; have GE231 := n4_; have NB230_231 := n5_; have NB231_230 := n6_; clear n0_ n1_ n2_ n3_ n4_ n5_ n6_; clear hb hbox hg) | ((with_reducible refine gate_callee (f := 19) rfl ?_); refine goesL_ (some 10) rfl rfl Try.func19 (by kernel_rfl) rfl #[.pointer (some ⟨gb231, 0, none⟩)] rfl ar ?_; (with_reducible refine (spec_l9R_function.calls k gb231 a0 0 false t232 t235 t236 t239 t242 t243 false w _ ?side1 ?side2 A2.out).mono ?_); (case side1 => repeat (first | (with_reducible first | exact HI231.out | apply IsS48.alloc | apply IsS48.drewN | apply IsS48.drew | apply IsS48.set_0 | apply IsS48.set_1 | apply IsS48.set_2 | apply IsS48.far (hne := NB231_230.out)) | exact HI231.out)); (case side2 => repeat (first | (with_reducible first | exact HB.out | apply below_alloc | apply pw_below_drewN | apply below_drew1 | refine below_set ?_ (IsS48.ge HI231.out) | refine below_set ?_ GE230.out) | exact HB.out)); rintro e w21 ⟨v233, v237, v240, rfl, ho0, ho1, ho2, hi, hb, hk⟩; refine ⟨_, rfl, ?_⟩; have n0_ := Aside0.mk (KeepBut.blk hk (g' := gb230) (o := .cells #[.slice none 0 0, .int .i64 0, .slice none 0 0, .slice none 0 0] 25 (0, 0)) (bk BK230.out) NB230_231.out (by simp)); have n1_ := Aside0.mk (Kd.R_lower ho0 (below_size (y5 HB.out))); have n2_ := Aside0.mk (Kd.R_lower ho1 (below_size (y5 HB.out))); have n3_ := Aside0.mk (Kd.R_lower ho2 (below_size (y5 HB.out))); have n4_ := Aside0.mk (hb); have n5_ := Aside0.mk (hi); clear BK230; clear HB; clear HI231; have BK230 := n0_; have HO234 := n1_; have HO238 := n2_; have HO241 := n3_; have HB := n4_; have HI231 := n5_; clear n0_ n1_ n2_ n3_ n4_ n5_; (try clear hb); (try clear hb2); (try clear hk); (try clear hi); (try clear ho0); (try clear ho1); (try clear ho2)) | ((with_reducible refine gate_dst (N := 5) rfl ?_); refine box_event ?hg (N := 5) ?hd (cs := #[.slice none 0 0, .int .i64 0, .slice none 0 0, .slice none 0 0]) (t := 25) ?hr ?_; (case hd => rfl); (case hg => rfl); (case hr => first | (go_simp; done) | (go_simp; rfl)); intro gb245 hg w22 hbox hb; have n0_ := Aside0.mk (Kd.R_below (kr_ HO234.out) hb); have n1_ := Aside0.mk (Kd.R_below (kr_ HO238.out) hb); have n2_ := Aside0.mk (Kd.R_below (kr_ HO241.out) hb); have n3_ := Aside0.mk (blk_below (g := gb230) (o := .cells #[.slice none 0 0, .int .i64 0, .slice none 0 0, .slice none 0 0] 25 (0, 0)) (bk BK230.out) hb); have n4_ := Aside0.mk (IsS48.below (y4 HI231.out) hb); have n5_ := Aside0.mk (below_step (y5 HB.out) hb); have n6_ := Aside0.mk (hbox); have n7_ := Aside0.mk ((by rw [hg]; exact (below_size (y5 HB.out)) : w.heap.size ≤ gb245)); have n8_ := Aside0.mk ((by rw [hg]; exact (below_size (y5 HB.out)) : w.heap.size ≤ gb245)); have n9_ := Aside0.mk ((by rw [hg]; exact Nat.ne_of_lt (blk_lt (g := gb230) (o := .cells #[.slice none 0 0, .int .i64 0, .slice none 0 0, .slice none 0 0] 25 (0, 0)) (bk BK230.out)) : gb230 ≠ gb245)); have n10_ := Aside0.mk ((by rw [hg]; exact Nat.ne_of_gt (blk_lt (g := gb230) (o := .cells #[.slice none 0 0, .int .i64 0, .slice none 0 0, .slice none 0 0] 25 (0, 0)) (bk BK230.out)) : gb245 ≠ gb230)); have n11_ := Aside0.mk ((by rw [hg]; exact Nat.ne_of_lt (IsS48.lt (show IsS48 w _ gb231 t242 t243 false from y4 HI231.out)) : gb231 ≠ gb245)); have n12_ := Aside0.mk ((by rw [hg]; exact Nat.ne_of_gt (IsS48.lt (show IsS48 w _ gb231 t242 t243 false from y4 HI231.out)) : gb245 ≠ gb231)); clear HO234; clear HO238; clear HO241; clear BK230; clear HI231; clear HB; have HO234 := n0_; have HO238 := n1_; have HO241 := n2_; have BK230 := n3_; have HI231 := n4_; have HB := n5_; have BK245 := n6_; have GW245 := n7_; have GE245 := n8_; have NB230_245 := n9_; have NB245_230 := n10_; have NB231_245 := n11_; have NB245_231 := n12_; clear n0_ n1_ n2_ n3_ n4_ n5_ n6_ n7_ n8_ n9_ n10_ n11_ n12_; clear hb hbox hg; obtain ⟨Ao23, co23, eo23⟩ := Kd.R_slice HO234.out; subst eo23; have hnb24 := NB245_230.out; have hnc24 := NB230_245.out; have hnb25 := NB245_231.out; have hnc25 := NB231_245.out; obtain ⟨hcz26_0, hcz26_1, hcz26_2, hcz26_3⟩ := cs4_ BK245.out; obtain ⟨hfz26_0, hfz26_1, hfz26_2, hfz26_3⟩ := fz4_ BK245.out; obtain ⟨Ao27, co27, eo27⟩ := Kd.R_slice HO238.out; subst eo27; obtain ⟨Ao28, co28, eo28⟩ := Kd.R_slice HO241.out; subst eo28; obtain ⟨HGz29, hgz29⟩ := HI231.out; have hcz29_0 := cellS48_0 HGz29; have hcz29_1 := cellS48_1 HGz29; have hcz29_2 := cellS48_2 HGz29; have hfz29_0 := blk_frozen HGz29 0; have hfz29_1 := blk_frozen HGz29 1; have hfz29_2 := blk_frozen HGz29 2; clear HGz29 hgz29; have hnb30 := NB230_231.out; have hnc30 := NB231_230.out; obtain ⟨hcz31_0, hcz31_1, hcz31_2, hcz31_3⟩ := cs4_ BK230.out; obtain ⟨hfz31_0, hfz31_1, hfz31_2, hfz31_3⟩ := fz4_ BK230.out) | ((with_reducible refine gate_store (t := 25) (p := 2) rfl ?_); refine store_event (t := 25) (p := 2) (v := ?vo_w32) (w1 := ((((((((w22.setCell ⟨gb245, 0, none⟩ (.slice Ao23 t232.length co23)).setCell ⟨gb245, 1, none⟩ (.int .i64 t235)).setCell ⟨gb245, 2, none⟩ (.slice Ao27 t236.length co27)).setCell ⟨gb245, 3, none⟩ (.slice Ao28 t239.length co28)).setCell ⟨gb230, 0, none⟩ (.slice none 0 0)).setCell ⟨gb230, 1, none⟩ (.int .i64 0)).setCell ⟨gb230, 2, none⟩ (.slice none 0 0)).setCell ⟨gb230, 3, none⟩ (.slice none 0 0))) ?hg ?ho ?hn ?hr ?_; (case ho => rfl); (case hg => rfl); (case hn => rfl); (case hr => first | (go_simp; done) | (go_simp; rfl)); intro w32 hw; have n0_ : Aside0 (Kd.R (Kd.int .i64) 3 w32 w.heap.size (fun k_ => some k_ ≠ (.slice Ao27 t236.length co27 : Value).ownBlock) (.slice Ao23 t232.length co23) t232) := ⟨(by rw [hw]; exact (by (with_reducible repeat (first | apply Kd.R_alloc | apply Kd.R_drewN | apply Kd.R_drew)); exact Kd.R_mono (Kd.R_far (p := ⟨gb230, 3, none⟩) (Kd.R_far (p := ⟨gb230, 2, none⟩) (Kd.R_far (p := ⟨gb230, 1, none⟩) (Kd.R_far (p := ⟨gb230, 0, none⟩) (Kd.R_far (p := ⟨gb245, 3, none⟩) (Kd.R_far (p := ⟨gb245, 2, none⟩) (Kd.R_far (p := ⟨gb245, 1, none⟩) (Kd.R_far (p := ⟨gb245, 0, none⟩) (Kd.R_types (Kd.R_types HO234.out BK245.out (by decide)) BK230.out (by decide)) (fun _ hk => hk.1.2) (.slice Ao23 t232.length co23)) (fun _ hk => hk.1.2) (.int .i64 t235)) (fun _ hk => hk.1.2) (.slice Ao27 t236.length co27)) (fun _ hk => hk.1.2) (.slice Ao28 t239.length co28)) (fun _ hk => hk.2) (.slice none 0 0)) (fun _ hk => hk.2) (.int .i64 0)) (fun _ hk => hk.2) (.slice none 0 0)) (fun _ hk => hk.2) (.slice none 0 0)) (fun _ hk => hk.1.1)))⟩; have n1_ : Aside0 (Kd.R (Kd.int .i64) 3 w32 w.heap.size (fun k_ => some k_ ≠ (.slice Ao23 t232.length co23 : Value).ownBlock) (.slice Ao27 t236.length co27) t236) := ⟨(by rw [hw]; exact (by (with_reducible repeat (first | apply Kd.R_alloc | apply Kd.R_drewN | apply Kd.R_drew)); exact Kd.R_mono (Kd.R_far (p := ⟨gb230, 3, none⟩) (Kd.R_far (p := ⟨gb230, 2, none⟩) (Kd.R_far (p := ⟨gb230, 1, none⟩) (Kd.R_far (p := ⟨gb230, 0, none⟩) (Kd.R_far (p := ⟨gb245, 3, none⟩) (Kd.R_far (p := ⟨gb245, 2, none⟩) (Kd.R_far (p := ⟨gb245, 1, none⟩) (Kd.R_far (p := ⟨gb245, 0, none⟩) (Kd.R_types (Kd.R_types HO238.out BK245.out (by decide)) BK230.out (by decide)) (fun _ hk => hk.1.2) (.slice Ao23 t232.length co23)) (fun _ hk => hk.1.2) (.int .i64 t235)) (fun _ hk => hk.1.2) (.slice Ao27 t236.length co27)) (fun _ hk => hk.1.2) (.slice Ao28 t239.length co28)) (fun _ hk => hk.2) (.slice none 0 0)) (fun _ hk => hk.2) (.int .i64 0)) (fun _ hk => hk.2) (.slice none 0 0)) (fun _ hk => hk.2) (.slice none 0 0)) (fun _ hk => hk.1.1)))⟩; have n2_ : Aside0 (Kd.R k44 44 w32 w.heap.size (fun _ => True) (.slice Ao28 t239.length co28) t239) := ⟨(by rw [hw]; exact (by (with_reducible repeat (first | apply Kd.R_alloc | apply Kd.R_drewN | apply Kd.R_drew)); exact Kd.R_mono (Kd.R_far (p := ⟨gb230, 3, none⟩) (Kd.R_far (p := ⟨gb230, 2, none⟩) (Kd.R_far (p := ⟨gb230, 1, none⟩) (Kd.R_far (p := ⟨gb230, 0, none⟩) (Kd.R_far (p := ⟨gb245, 3, none⟩) (Kd.R_far (p := ⟨gb245, 2, none⟩) (Kd.R_far (p := ⟨gb245, 1, none⟩) (Kd.R_far (p := ⟨gb245, 0, none⟩) (Kd.R_types (Kd.R_types HO241.out BK245.out (by decide)) BK230.out (by decide)) (fun _ hk => hk.1.2) (.slice Ao23 t232.length co23)) (fun _ hk => hk.1.2) (.int .i64 t235)) (fun _ hk => hk.1.2) (.slice Ao27 t236.length co27)) (fun _ hk => hk.1.2) (.slice Ao28 t239.length co28)) (fun _ hk => hk.2) (.slice none 0 0)) (fun _ hk => hk.2) (.int .i64 0)) (fun _ hk => hk.2) (.slice none 0 0)) (fun _ hk => hk.2) (.slice none 0 0)) (fun _ hk => trivial)))⟩; have n3_ : Aside0 (w32.heap[gb230]? = some (.cells #[.slice none 0 0, .int .i64 0, .slice none 0 0, .slice none 0 0] 25 (0, 0))) := ⟨(by rw [hw]; exact (by refine blk_put (cs := #[.slice none 0 0, .int .i64 0, .slice none 0 0, .slice none 0 0]) ?_ 3 _ rfl; refine blk_put (cs := #[.slice none 0 0, .int .i64 0, .slice none 0 0, .slice none 0 0]) ?_ 2 _ rfl; refine blk_put (cs := #[.slice none 0 0, .int .i64 0, .slice none 0 0, .slice none 0 0]) ?_ 1 _ rfl; refine blk_put (cs := #[.slice none 0 0, .int .i64 0, .slice none 0 0, .slice none 0 0]) ?_ 0 _ rfl; refine blk_far ?_ NB230_245.out _; refine blk_far ?_ NB230_245.out _; refine blk_far ?_ NB230_245.out _; refine blk_far ?_ NB230_245.out _; (with_reducible repeat (first | refine blk_drewN ?_ _ | refine blk_drew ?_ | refine blk_alloc ?_ _)); exact BK230.out))⟩; have n4_ : Aside0 (w32.heap[gb245]? = some (.cells #[.slice Ao23 t232.length co23, .int .i64 t235, .slice Ao27 t236.length co27, .slice Ao28 t239.length co28] 25 (0, 0))) := ⟨(by rw [hw]; exact (by refine blk_far ?_ NB245_230.out _; refine blk_far ?_ NB245_230.out _; refine blk_far ?_ NB245_230.out _; refine blk_far ?_ NB245_230.out _; refine blk_put (cs := #[.slice Ao23 t232.length co23, .int .i64 t235, .slice Ao27 t236.length co27, .slice none 0 0]) ?_ 3 _ rfl; refine blk_put (cs := #[.slice Ao23 t232.length co23, .int .i64 t235, .slice none 0 0, .slice none 0 0]) ?_ 2 _ rfl; refine blk_put (cs := #[.slice Ao23 t232.length co23, .int .i64 0, .slice none 0 0, .slice none 0 0]) ?_ 1 _ rfl; refine blk_put (cs := #[.slice none 0 0, .int .i64 0, .slice none 0 0, .slice none 0 0]) ?_ 0 _ rfl; (with_reducible repeat (first | refine blk_drewN ?_ _ | refine blk_drew ?_ | refine blk_alloc ?_ _)); exact BK245.out))⟩; have n5_ : Aside0 (IsS48 w w32 gb231 t242 t243 false) := ⟨(by rw [hw]; exact (y4 HI231.out))⟩; have n6_ : Aside0 (Below w.heap.size w w32) := ⟨(by rw [hw]; exact (y5 HB.out))⟩; clear hw; clear HO234; clear HO238; clear HO241; clear BK230; clear BK245; clear HI231; clear HB; have HO234 := n0_; have HO238 := n1_; have HO241 := n2_; have BK230 := n3_; have BK245 := n4_; have HI231 := n5_; have HB := n6_; clear n0_ n1_ n2_ n3_ n4_ n5_ n6_))
   refine bodyPost_ret (results_ct rfl _ _ gb230 25 #[.slice none 0 0, .int .i64 0, .slice none 0 0, .slice none 0 0] (0, 0) _ rfl (bk BK230.out) Try.underlying25 rfl (by kernel_rfl)) rfl ?_
   exact ⟨_, _, _, rr_, by first | exact Kd.R_nil _ _ _ _ _ | exact Kd.N_nil _ _ _ _ _ | exact Kd.V_nil _ _ _ _ _ | exact Kd.Q_nil _ _ _ _ _ | exact Kd.S_nil _ _ _ _ _, by first | exact Kd.R_nil _ _ _ _ _ | exact Kd.N_nil _ _ _ _ _ | exact Kd.V_nil _ _ _ _ _ | exact Kd.Q_nil _ _ _ _ _ | exact Kd.S_nil _ _ _ _ _, by first | exact Kd.R_nil _ _ _ _ _ | exact Kd.N_nil _ _ _ _ _ | exact Kd.V_nil _ _ _ _ _ | exact Kd.Q_nil _ _ _ _ _ | exact Kd.S_nil _ _ _ _ _, y5 HB.out⟩
  ·
   rw [if_neg c18] at H
   have c18b0 : decide (900 < t243) = false := decide_eq_false c18
   clear c18
   simp only [Option.some.injEq, Prod.mk.injEq] at H
   obtain ⟨rfl, rfl, rfl, rfl, rfl⟩ := H
   go_enter Try.func5, Try.ntmps5
   try go_wp2_with (first | ((with_reducible refine gate_dst (N := 2) rfl ?_); refine box_event ?hg (N := 2) ?hd (cs := #[.slice none 0 0, .int .i64 0, .slice none 0 0, .slice none 0 0]) (t := 25) ?hr ?_; (case hd => rfl); (case hg => rfl); (case hr => first | (go_simp; done) | (go_simp; rfl)); intro gb230 hg w33 hbox hb; have n0_ := Aside0.mk (below_step (bw HB.out) hb); have n1_ := Aside0.mk (hbox); have n2_ := Aside0.mk ((sz_ hg (bw HB.out) : w.heap.size ≤ gb230)); have n3_ := Aside0.mk ((sz_ hg (bw HB.out) : w.heap.size ≤ gb230)); clear HB; have HB := n0_; have BK230 := n1_; have GW230 := n2_; have GE230 := n3_; clear n0_ n1_ n2_ n3_; clear hb hbox hg) | ((with_reducible refine gate_dst (N := 8) rfl ?_); refine box_event ?hg (N := 8) ?hd (cs := #[.string a0, .int .i64 0, .bool false]) (t := 48) ?hr ?_; (case hd => rfl); (case hg => rfl); (case hr => first | (go_simp; done) | (go_simp; rfl)); intro gb231 hg w34 hbox hb; have n0_ := Aside0.mk (blk_below (g := gb230) (o := .cells #[.slice none 0 0, .int .i64 0, .slice none 0 0, .slice none 0 0] 25 (0, 0)) (bk BK230.out) hb); have n1_ := Aside0.mk (below_step (bw HB.out) hb); have n2_ := Aside0.mk ((show IsS48 w w34 gb231 a0 0 false from ⟨hbox, (sz_ hg (bw HB.out) : w.heap.size ≤ gb231)⟩)); have n3_ := Aside0.mk ((sz_ hg (bw HB.out) : w.heap.size ≤ gb231)); have n4_ := Aside0.mk ((sz_ hg (bw HB.out) : w.heap.size ≤ gb231)); have n5_ := Aside0.mk ((by rw [hg]; exact Nat.ne_of_lt (blk_lt (g := gb230) (o := .cells #[.slice none 0 0, .int .i64 0, .slice none 0 0, .slice none 0 0] 25 (0, 0)) (bk BK230.out)) : gb230 ≠ gb231)); have n6_ := Aside0.mk ((by rw [hg]; exact Nat.ne_of_gt (blk_lt (g := gb230) (o := .cells #[.slice none 0 0, .int .i64 0, .slice none 0 0, .slice none 0 0] 25 (0, 0)) (bk BK230.out)) : gb231 ≠ gb230)); clear BK230; clear HB; have BK230 := n0_; have HB := n1_; have HI231 := n2_; have GW231 := n3_; have GE231 := n4_; have NB230_231 := n5_; have NB231_230 := n6_; clear n0_ n1_ n2_ n3_ n4_ n5_ n6_; clear hb hbox hg) | ((with_reducible refine gate_callee (f := 19) rfl ?_); refine goesL_ (some 10) rfl rfl Try.func19 (by kernel_rfl) rfl #[.pointer (some ⟨gb231, 0, none⟩)] rfl ar ?_; (with_reducible refine (spec_l9R_function.calls k gb231 a0 0 false t232 t235 t236 t239 t242 t243 false w _ ?side1 ?side2 A2.out).mono ?_); (case side1 => repeat (first | (with_reducible first | exact HI231.out | apply IsS48.alloc | apply IsS48.drewN | apply IsS48.drew | apply IsS48.set_0 | apply IsS48.set_1 | apply IsS48.set_2 | apply IsS48.far (hne := NB231_230.out)) | exact HI231.out)); (case side2 => repeat (first | (with_reducible first | exact HB.out | apply below_alloc | apply pw_below_drewN | apply below_drew1 | refine below_set ?_ (IsS48.ge HI231.out) | refine below_set ?_ GE230.out) | exact HB.out)); rintro e w35 ⟨v233, v237, v240, rfl, ho0, ho1, ho2, hi, hb, hk⟩; refine ⟨_, rfl, ?_⟩; have n0_ := Aside0.mk (KeepBut.blk hk (g' := gb230) (o := .cells #[.slice none 0 0, .int .i64 0, .slice none 0 0, .slice none 0 0] 25 (0, 0)) (bk BK230.out) NB230_231.out (by simp)); have n1_ := Aside0.mk (Kd.R_lower ho0 (below_size (y5 HB.out))); have n2_ := Aside0.mk (Kd.R_lower ho1 (below_size (y5 HB.out))); have n3_ := Aside0.mk (Kd.R_lower ho2 (below_size (y5 HB.out))); have n4_ := Aside0.mk (hb); have n5_ := Aside0.mk (hi); clear BK230; clear HB; clear HI231; have BK230 := n0_; have HO234 := n1_; have HO238 := n2_; have HO241 := n3_; have HB := n4_; have HI231 := n5_; clear n0_ n1_ n2_ n3_ n4_ n5_; (try clear hb); (try clear hb2); (try clear hk); (try clear hi); (try clear ho0); (try clear ho1); (try clear ho2)) | ((with_reducible refine gate_dst (N := 5) rfl ?_); refine box_event ?hg (N := 5) ?hd (cs := #[.slice none 0 0, .int .i64 0, .slice none 0 0, .slice none 0 0]) (t := 25) ?hr ?_; (case hd => rfl); (case hg => rfl); (case hr => first | (go_simp; done) | (go_simp; rfl)); intro gb245 hg w36 hbox hb; have n0_ := Aside0.mk (Kd.R_below (kr_ HO234.out) hb); have n1_ := Aside0.mk (Kd.R_below (kr_ HO238.out) hb); have n2_ := Aside0.mk (Kd.R_below (kr_ HO241.out) hb); have n3_ := Aside0.mk (blk_below (g := gb230) (o := .cells #[.slice none 0 0, .int .i64 0, .slice none 0 0, .slice none 0 0] 25 (0, 0)) (bk BK230.out) hb); have n4_ := Aside0.mk (IsS48.below (y4 HI231.out) hb); have n5_ := Aside0.mk (below_step (y5 HB.out) hb); have n6_ := Aside0.mk (hbox); have n7_ := Aside0.mk ((by rw [hg]; exact (below_size (y5 HB.out)) : w.heap.size ≤ gb245)); have n8_ := Aside0.mk ((by rw [hg]; exact (below_size (y5 HB.out)) : w.heap.size ≤ gb245)); have n9_ := Aside0.mk ((by rw [hg]; exact Nat.ne_of_lt (blk_lt (g := gb230) (o := .cells #[.slice none 0 0, .int .i64 0, .slice none 0 0, .slice none 0 0] 25 (0, 0)) (bk BK230.out)) : gb230 ≠ gb245)); have n10_ := Aside0.mk ((by rw [hg]; exact Nat.ne_of_gt (blk_lt (g := gb230) (o := .cells #[.slice none 0 0, .int .i64 0, .slice none 0 0, .slice none 0 0] 25 (0, 0)) (bk BK230.out)) : gb245 ≠ gb230)); have n11_ := Aside0.mk ((by rw [hg]; exact Nat.ne_of_lt (IsS48.lt (show IsS48 w _ gb231 t242 t243 false from y4 HI231.out)) : gb231 ≠ gb245)); have n12_ := Aside0.mk ((by rw [hg]; exact Nat.ne_of_gt (IsS48.lt (show IsS48 w _ gb231 t242 t243 false from y4 HI231.out)) : gb245 ≠ gb231)); clear HO234; clear HO238; clear HO241; clear BK230; clear HI231; clear HB; have HO234 := n0_; have HO238 := n1_; have HO241 := n2_; have BK230 := n3_; have HI231 := n4_; have HB := n5_; have BK245 := n6_; have GW245 := n7_; have GE245 := n8_; have NB230_245 := n9_; have NB245_230 := n10_; have NB231_245 := n11_; have NB245_231 := n12_; clear n0_ n1_ n2_ n3_ n4_ n5_ n6_ n7_ n8_ n9_ n10_ n11_ n12_; clear hb hbox hg; obtain ⟨Ao37, co37, eo37⟩ := Kd.R_slice HO234.out; subst eo37; have hnb38 := NB245_230.out; have hnc38 := NB230_245.out; have hnb39 := NB245_231.out; have hnc39 := NB231_245.out; obtain ⟨hcz40_0, hcz40_1, hcz40_2, hcz40_3⟩ := cs4_ BK245.out; obtain ⟨hfz40_0, hfz40_1, hfz40_2, hfz40_3⟩ := fz4_ BK245.out; obtain ⟨Ao41, co41, eo41⟩ := Kd.R_slice HO238.out; subst eo41; obtain ⟨Ao42, co42, eo42⟩ := Kd.R_slice HO241.out; subst eo42; obtain ⟨HGz43, hgz43⟩ := HI231.out; have hcz43_0 := cellS48_0 HGz43; have hcz43_1 := cellS48_1 HGz43; have hcz43_2 := cellS48_2 HGz43; have hfz43_0 := blk_frozen HGz43 0; have hfz43_1 := blk_frozen HGz43 1; have hfz43_2 := blk_frozen HGz43 2; clear HGz43 hgz43))
   have n0_ : Aside0 (Kd.R (Kd.int .i64) 3 ((((w36.setCell ⟨gb245, 0, none⟩ (.slice Ao37 t232.length co37)).setCell ⟨gb245, 1, none⟩ (.int .i64 t235)).setCell ⟨gb245, 2, none⟩ (.slice Ao41 t236.length co41)).setCell ⟨gb245, 3, none⟩ (.slice Ao42 t239.length co42)) w.heap.size (fun k_ => some k_ ≠ (.slice Ao41 t236.length co41 : Value).ownBlock) (.slice Ao37 t232.length co37) t232) := ⟨by (with_reducible repeat (first | apply Kd.R_alloc | apply Kd.R_drewN | apply Kd.R_drew)); exact Kd.R_mono (Kd.R_far (p := ⟨gb245, 3, none⟩) (Kd.R_far (p := ⟨gb245, 2, none⟩) (Kd.R_far (p := ⟨gb245, 1, none⟩) (Kd.R_far (p := ⟨gb245, 0, none⟩) (Kd.R_types HO234.out BK245.out (by decide)) (fun _ hk => hk.2) (.slice Ao37 t232.length co37)) (fun _ hk => hk.2) (.int .i64 t235)) (fun _ hk => hk.2) (.slice Ao41 t236.length co41)) (fun _ hk => hk.2) (.slice Ao42 t239.length co42)) (fun _ hk => hk.1)⟩
   have n1_ : Aside0 (Kd.R (Kd.int .i64) 3 ((((w36.setCell ⟨gb245, 0, none⟩ (.slice Ao37 t232.length co37)).setCell ⟨gb245, 1, none⟩ (.int .i64 t235)).setCell ⟨gb245, 2, none⟩ (.slice Ao41 t236.length co41)).setCell ⟨gb245, 3, none⟩ (.slice Ao42 t239.length co42)) w.heap.size (fun k_ => some k_ ≠ (.slice Ao37 t232.length co37 : Value).ownBlock) (.slice Ao41 t236.length co41) t236) := ⟨by (with_reducible repeat (first | apply Kd.R_alloc | apply Kd.R_drewN | apply Kd.R_drew)); exact Kd.R_mono (Kd.R_far (p := ⟨gb245, 3, none⟩) (Kd.R_far (p := ⟨gb245, 2, none⟩) (Kd.R_far (p := ⟨gb245, 1, none⟩) (Kd.R_far (p := ⟨gb245, 0, none⟩) (Kd.R_types HO238.out BK245.out (by decide)) (fun _ hk => hk.2) (.slice Ao37 t232.length co37)) (fun _ hk => hk.2) (.int .i64 t235)) (fun _ hk => hk.2) (.slice Ao41 t236.length co41)) (fun _ hk => hk.2) (.slice Ao42 t239.length co42)) (fun _ hk => hk.1)⟩
   have n2_ : Aside0 (Kd.R k44 44 ((((w36.setCell ⟨gb245, 0, none⟩ (.slice Ao37 t232.length co37)).setCell ⟨gb245, 1, none⟩ (.int .i64 t235)).setCell ⟨gb245, 2, none⟩ (.slice Ao41 t236.length co41)).setCell ⟨gb245, 3, none⟩ (.slice Ao42 t239.length co42)) w.heap.size (fun _ => True) (.slice Ao42 t239.length co42) t239) := ⟨by (with_reducible repeat (first | apply Kd.R_alloc | apply Kd.R_drewN | apply Kd.R_drew)); exact Kd.R_mono (Kd.R_far (p := ⟨gb245, 3, none⟩) (Kd.R_far (p := ⟨gb245, 2, none⟩) (Kd.R_far (p := ⟨gb245, 1, none⟩) (Kd.R_far (p := ⟨gb245, 0, none⟩) (Kd.R_types HO241.out BK245.out (by decide)) (fun _ hk => hk.2) (.slice Ao37 t232.length co37)) (fun _ hk => hk.2) (.int .i64 t235)) (fun _ hk => hk.2) (.slice Ao41 t236.length co41)) (fun _ hk => hk.2) (.slice Ao42 t239.length co42)) (fun _ hk => trivial)⟩
   have n3_ : Aside0 (((((w36.setCell ⟨gb245, 0, none⟩ (.slice Ao37 t232.length co37)).setCell ⟨gb245, 1, none⟩ (.int .i64 t235)).setCell ⟨gb245, 2, none⟩ (.slice Ao41 t236.length co41)).setCell ⟨gb245, 3, none⟩ (.slice Ao42 t239.length co42)).heap[gb230]? = some (.cells #[.slice none 0 0, .int .i64 0, .slice none 0 0, .slice none 0 0] 25 (0, 0))) := ⟨by refine blk_far ?_ NB230_245.out _; refine blk_far ?_ NB230_245.out _; refine blk_far ?_ NB230_245.out _; refine blk_far ?_ NB230_245.out _; (with_reducible repeat (first | refine blk_drewN ?_ _ | refine blk_drew ?_ | refine blk_alloc ?_ _)); exact BK230.out⟩
   have n4_ : Aside0 (((((w36.setCell ⟨gb245, 0, none⟩ (.slice Ao37 t232.length co37)).setCell ⟨gb245, 1, none⟩ (.int .i64 t235)).setCell ⟨gb245, 2, none⟩ (.slice Ao41 t236.length co41)).setCell ⟨gb245, 3, none⟩ (.slice Ao42 t239.length co42)).heap[gb245]? = some (.cells #[.slice Ao37 t232.length co37, .int .i64 t235, .slice Ao41 t236.length co41, .slice Ao42 t239.length co42] 25 (0, 0))) := ⟨by refine blk_put (cs := #[.slice Ao37 t232.length co37, .int .i64 t235, .slice Ao41 t236.length co41, .slice none 0 0]) ?_ 3 _ rfl; refine blk_put (cs := #[.slice Ao37 t232.length co37, .int .i64 t235, .slice none 0 0, .slice none 0 0]) ?_ 2 _ rfl; refine blk_put (cs := #[.slice Ao37 t232.length co37, .int .i64 0, .slice none 0 0, .slice none 0 0]) ?_ 1 _ rfl; refine blk_put (cs := #[.slice none 0 0, .int .i64 0, .slice none 0 0, .slice none 0 0]) ?_ 0 _ rfl; (with_reducible repeat (first | refine blk_drewN ?_ _ | refine blk_drew ?_ | refine blk_alloc ?_ _)); exact BK245.out⟩
   have n5_ : Aside0 (IsS48 w ((((w36.setCell ⟨gb245, 0, none⟩ (.slice Ao37 t232.length co37)).setCell ⟨gb245, 1, none⟩ (.int .i64 t235)).setCell ⟨gb245, 2, none⟩ (.slice Ao41 t236.length co41)).setCell ⟨gb245, 3, none⟩ (.slice Ao42 t239.length co42)) gb231 t242 t243 false) := ⟨y4 HI231.out⟩
   have n6_ : Aside0 (Below w.heap.size w ((((w36.setCell ⟨gb245, 0, none⟩ (.slice Ao37 t232.length co37)).setCell ⟨gb245, 1, none⟩ (.int .i64 t235)).setCell ⟨gb245, 2, none⟩ (.slice Ao41 t236.length co41)).setCell ⟨gb245, 3, none⟩ (.slice Ao42 t239.length co42))) := ⟨y5 HB.out⟩
   (try clear HO234)
   (try clear HO238)
   (try clear HO241)
   (try clear BK230)
   (try clear BK245)
   (try clear HI231)
   (try clear HB)
   generalize ((((w36.setCell ⟨gb245, 0, none⟩ (.slice Ao37 t232.length co37)).setCell ⟨gb245, 1, none⟩ (.int .i64 t235)).setCell ⟨gb245, 2, none⟩ (.slice Ao41 t236.length co41)).setCell ⟨gb245, 3, none⟩ (.slice Ao42 t239.length co42)) = w44 at n0_ n1_ n2_ n3_ n4_ n5_ n6_ ⊢
   have HO234 := n0_
   have HO238 := n1_
   have HO241 := n2_
   have BK230 := n3_
   have BK245 := n4_
   have HI231 := n5_
   have HB := n6_
   clear n0_ n1_ n2_ n3_ n4_ n5_ n6_
   have n0_ := Aside0.mk (Kd.R_drew HO234.out)
   have n1_ := Aside0.mk (Kd.R_drew HO238.out)
   have n2_ := Aside0.mk (Kd.R_drew HO241.out)
   have n3_ := Aside0.mk (blk_drew BK230.out)
   have n4_ := Aside0.mk (blk_drew BK245.out)
   have n5_ := Aside0.mk (IsS48.drew HI231.out)
   have n6_ := Aside0.mk (below_drew1 HB.out)
   clear HO234
   clear HO238
   clear HO241
   clear BK230
   clear BK245
   clear HI231
   clear HB
   have HO234 := n0_
   have HO238 := n1_
   have HO241 := n2_
   have BK230 := n3_
   have BK245 := n4_
   have HI231 := n5_
   have HB := n6_
   clear n0_ n1_ n2_ n3_ n4_ n5_ n6_
   refine start_ (n := 7) (S := fun w' => w'.cell? ⟨gb245, 0, none⟩ = some (.slice Ao37 t232.length co37) ∧ w'.cell? ⟨gb245, 1, none⟩ = some (.int .i64 t235) ∧ w'.cell? ⟨gb245, 2, none⟩ = some (.slice Ao41 t236.length co41) ∧ w'.cell? ⟨gb245, 3, none⟩ = some (.slice Ao42 t239.length co42) ∧ w'.cell? ⟨gb231, 0, none⟩ = some (.string t242) ∧ w'.cell? ⟨gb231, 1, none⟩ = some (.int .i64 t243) ∧ w'.cell? ⟨gb231, 2, none⟩ = some (.bool false)) (ds := []) #[false, false, false, false, false, false, false] (by kernel_rfl) rfl rfl ⟨(blk_cell BK245.out 0).trans rfl, (blk_cell BK245.out 1).trans rfl, (blk_cell BK245.out 2).trans rfl, (blk_cell BK245.out 3).trans rfl, cellS48_0 (HI231.out).1, cellS48_1 (HI231.out).1, cellS48_2 (HI231.out).1⟩ (fun hHeld => ?_)
   generalize w44.drew = w45 at HO234 HO238 HO241 BK230 BK245 HI231 HB hHeld ⊢
   refine pure_ (i := 1) (N := some 24) (v := ?_) (a' := ?_) #[false, true, false, false, false, false, false] rfl rfl (by kernel_rfl) (fun _ _ _ h => h) (Or.inl ⟨by rfl, ?_⟩) ?_ ?_
   rotate_left
   ·
    intro w'
    go_simp
    with_reducible rfl
   rotate_left
   ·
    simp only [Act.put, List.setIfInBounds_toArray, List.set_cons_zero, List.set_cons_succ, i64_w, i32_w]
    rfl
   refine pure_ (i := 2) (N := some 25) (v := ?_) (a' := ?_) #[false, true, true, false, false, false, false] rfl rfl (by kernel_rfl) (fun _ _ _ h => h) (Or.inl ⟨by rfl, ?_⟩) ?_ ?_
   rotate_left
   ·
    intro w'
    go_simp
    with_reducible rfl
   rotate_left
   ·
    simp only [Act.put, List.setIfInBounds_toArray, List.set_cons_zero, List.set_cons_succ, i64_w, i32_w]
    rfl
   refine pure_ (i := 3) (N := some 26) (v := ?_) (a' := ?_) #[false, true, true, true, false, false, false] rfl rfl (by kernel_rfl) (fun _ _ _ h => h) (Or.inl ⟨by rfl, ?_⟩) ?_ ?_
   rotate_left
   ·
    intro w'
    go_simp
    with_reducible rfl
   rotate_left
   ·
    simp only [Act.put, List.setIfInBounds_toArray, List.set_cons_zero, List.set_cons_succ, i64_w, i32_w]
    rfl
   refine take_ (i := 0) (N := some 23) (v := ?_) (a' := ?_) #[true, true, true, true, false, false, false] rfl rfl (by kernel_rfl) (fun _ _ _ h => h) (Or.inl ⟨by rfl, ?_⟩) hHeld ?_ ?_
   rotate_left
   ·
    rintro w' ⟨s0, s1, s2, s3, s4, s5, s6⟩
    go_simp
    with_reducible rfl
   rotate_left
   ·
    simp only [Act.put, List.setIfInBounds_toArray, List.set_cons_zero, List.set_cons_succ, i64_w, i32_w]
    rfl
   refine take_ (i := 4) (N := some 27) (v := ?_) (a' := ?_) #[true, true, true, true, true, false, false] rfl rfl (by kernel_rfl) (fun _ _ _ h => h) (Or.inl ⟨by rfl, ?_⟩) hHeld ?_ ?_
   rotate_left
   ·
    rintro w' ⟨s0, s1, s2, s3, s4, s5, s6⟩
    go_simp
    with_reducible rfl
   rotate_left
   ·
    simp only [Act.put, List.setIfInBounds_toArray, List.set_cons_zero, List.set_cons_succ, i64_w, i32_w]
    rfl
   refine one_ (i := 5) (N := none) #[true, true, true, true, true, true, false] rfl rfl (by kernel_rfl) (by decide) (fun K hK => ?_)
   have hs46 : w45.cell? ⟨gb230, 0, none⟩ = some (.slice none 0 0) := (blk_cell BK230.out 0).trans rfl
   have hfs46 := blk_frozen BK230.out 0
   have hns46_1 := NB245_230.out
   have hms46_1 := NB230_245.out
   have hs47 : w45.cell? ⟨gb230, 1, none⟩ = some (.int .i64 0) := (blk_cell BK230.out 1).trans rfl
   have hfs47 := blk_frozen BK230.out 1
   have hns47_1 := NB245_230.out
   have hms47_1 := NB230_245.out
   have hs48 : w45.cell? ⟨gb230, 2, none⟩ = some (.slice none 0 0) := (blk_cell BK230.out 2).trans rfl
   have hfs48 := blk_frozen BK230.out 2
   have hns48_1 := NB245_230.out
   have hms48_1 := NB230_245.out
   have hs49 : w45.cell? ⟨gb230, 3, none⟩ = some (.slice none 0 0) := (blk_cell BK230.out 3).trans rfl
   have hfs49 := blk_frozen BK230.out 3
   have hns49_1 := NB245_230.out
   have hms49_1 := NB230_245.out
   refine skip_ (w1 := ?_) (by rfl) rfl ?_ ?_
   rotate_left
   ·
    go_simp
    rfl
   refine hK.out _ _ ⟨((cell_far (p := ⟨gb230, _, none⟩) NB245_230.out _).trans (((cell_far (p := ⟨gb230, _, none⟩) NB245_230.out _).trans (((cell_far (p := ⟨gb230, _, none⟩) NB245_230.out _).trans (((cell_far (p := ⟨gb230, _, none⟩) NB245_230.out _).trans (hHeld.1)))))))), ((cell_far (p := ⟨gb230, _, none⟩) NB245_230.out _).trans (((cell_far (p := ⟨gb230, _, none⟩) NB245_230.out _).trans (((cell_far (p := ⟨gb230, _, none⟩) NB245_230.out _).trans (((cell_far (p := ⟨gb230, _, none⟩) NB245_230.out _).trans (hHeld.2.1)))))))), ((cell_far (p := ⟨gb230, _, none⟩) NB245_230.out _).trans (((cell_far (p := ⟨gb230, _, none⟩) NB245_230.out _).trans (((cell_far (p := ⟨gb230, _, none⟩) NB245_230.out _).trans (((cell_far (p := ⟨gb230, _, none⟩) NB245_230.out _).trans (hHeld.2.2.1)))))))), ((cell_far (p := ⟨gb230, _, none⟩) NB245_230.out _).trans (((cell_far (p := ⟨gb230, _, none⟩) NB245_230.out _).trans (((cell_far (p := ⟨gb230, _, none⟩) NB245_230.out _).trans (((cell_far (p := ⟨gb230, _, none⟩) NB245_230.out _).trans (hHeld.2.2.2.1)))))))), ((cell_far (p := ⟨gb230, _, none⟩) (IsS48.ne_blk HI231.out BK230.out (by decide)) _).trans (((cell_far (p := ⟨gb230, _, none⟩) (IsS48.ne_blk HI231.out BK230.out (by decide)) _).trans (((cell_far (p := ⟨gb230, _, none⟩) (IsS48.ne_blk HI231.out BK230.out (by decide)) _).trans (((cell_far (p := ⟨gb230, _, none⟩) (IsS48.ne_blk HI231.out BK230.out (by decide)) _).trans (hHeld.2.2.2.2.1)))))))), ((cell_far (p := ⟨gb230, _, none⟩) (IsS48.ne_blk HI231.out BK230.out (by decide)) _).trans (((cell_far (p := ⟨gb230, _, none⟩) (IsS48.ne_blk HI231.out BK230.out (by decide)) _).trans (((cell_far (p := ⟨gb230, _, none⟩) (IsS48.ne_blk HI231.out BK230.out (by decide)) _).trans (((cell_far (p := ⟨gb230, _, none⟩) (IsS48.ne_blk HI231.out BK230.out (by decide)) _).trans (hHeld.2.2.2.2.2.1)))))))), ((cell_far (p := ⟨gb230, _, none⟩) (IsS48.ne_blk HI231.out BK230.out (by decide)) _).trans (((cell_far (p := ⟨gb230, _, none⟩) (IsS48.ne_blk HI231.out BK230.out (by decide)) _).trans (((cell_far (p := ⟨gb230, _, none⟩) (IsS48.ne_blk HI231.out BK230.out (by decide)) _).trans (((cell_far (p := ⟨gb230, _, none⟩) (IsS48.ne_blk HI231.out BK230.out (by decide)) _).trans (hHeld.2.2.2.2.2.2))))))))⟩ (fun hHeld => ?_)
   clear hK K
   refine pure_ (i := 6) (N := some 3) (v := ?_) (a' := ?_) #[true, true, true, true, true, true, true] rfl rfl (by kernel_rfl) (fun _ _ _ h => h) (Or.inl ⟨by rfl, ?_⟩) ?_ ?_
   rotate_left
   ·
    intro w'
    go_simp
    with_reducible rfl
   rotate_left
   ·
    simp only [Act.put, List.setIfInBounds_toArray, List.set_cons_zero, List.set_cons_succ, i64_w, i32_w]
    rfl
   refine done_ (by kernel_rfl) ?_
   try go_wp2
   refine bodyPost_ret (results_ct rfl _ _ gb230 25 #[.slice Ao37 t232.length co37, .int .i64 t235, .slice Ao41 t236.length co41, .slice Ao42 t239.length co42] (0, 0) _ rfl (by refine blk_put (cs := #[.slice Ao37 t232.length co37, .int .i64 t235, .slice Ao41 t236.length co41, .slice none 0 0]) ?_ 3 _ rfl; refine blk_put (cs := #[.slice Ao37 t232.length co37, .int .i64 t235, .slice none 0 0, .slice none 0 0]) ?_ 2 _ rfl; refine blk_put (cs := #[.slice Ao37 t232.length co37, .int .i64 0, .slice none 0 0, .slice none 0 0]) ?_ 1 _ rfl; refine blk_put (cs := #[.slice none 0 0, .int .i64 0, .slice none 0 0, .slice none 0 0]) ?_ 0 _ rfl; (with_reducible repeat (first | refine blk_drewN ?_ _ | refine blk_drew ?_ | refine blk_alloc ?_ _)); exact BK230.out) Try.underlying25 rfl (by kernel_rfl)) rfl ?_
   exact ⟨_, _, _, rr_, by (with_reducible repeat (first | apply Kd.R_alloc | apply Kd.R_drewN | apply Kd.R_drew)); exact Kd.R_mono (Kd.R_far (p := ⟨gb230, 3, none⟩) (Kd.R_far (p := ⟨gb230, 2, none⟩) (Kd.R_far (p := ⟨gb230, 1, none⟩) (Kd.R_far (p := ⟨gb230, 0, none⟩) (Kd.R_types HO234.out BK230.out (by decide)) (fun _ hk => hk.2) (.slice Ao37 t232.length co37)) (fun _ hk => hk.2) (.int .i64 t235)) (fun _ hk => hk.2) (.slice Ao41 t236.length co41)) (fun _ hk => hk.2) (.slice Ao42 t239.length co42)) (fun _ hk => hk.1), by (with_reducible repeat (first | apply Kd.R_alloc | apply Kd.R_drewN | apply Kd.R_drew)); exact Kd.R_mono (Kd.R_far (p := ⟨gb230, 3, none⟩) (Kd.R_far (p := ⟨gb230, 2, none⟩) (Kd.R_far (p := ⟨gb230, 1, none⟩) (Kd.R_far (p := ⟨gb230, 0, none⟩) (Kd.R_types HO238.out BK230.out (by decide)) (fun _ hk => hk.2) (.slice Ao37 t232.length co37)) (fun _ hk => hk.2) (.int .i64 t235)) (fun _ hk => hk.2) (.slice Ao41 t236.length co41)) (fun _ hk => hk.2) (.slice Ao42 t239.length co42)) (fun _ hk => hk.1), by (with_reducible repeat (first | apply Kd.R_alloc | apply Kd.R_drewN | apply Kd.R_drew)); exact Kd.R_mono (Kd.R_far (p := ⟨gb230, 3, none⟩) (Kd.R_far (p := ⟨gb230, 2, none⟩) (Kd.R_far (p := ⟨gb230, 1, none⟩) (Kd.R_far (p := ⟨gb230, 0, none⟩) (Kd.R_types HO241.out BK230.out (by decide)) (fun _ hk => hk.2) (.slice Ao37 t232.length co37)) (fun _ hk => hk.2) (.int .i64 t235)) (fun _ hk => hk.2) (.slice Ao41 t236.length co41)) (fun _ hk => hk.2) (.slice Ao42 t239.length co42)) (fun _ hk => trivial), y5 HB.out⟩


/-! ### impl_formOf: function 31 -/
mutual
def impl_formOf.j0 : Nat → Int → Int → Bool → Option (Int)
 | 0, _, _, _ => none
 | k + 1, x0, x3, x4 => if x4 = true then (some 2) else (if x3 = 12 then (impl_formOf.j1 k x0 x3 (x3 == 12)) else (if x3 = 13 then (impl_formOf.j1 k x0 x3 (x3 == 13)) else (if x3 = 16 then (impl_formOf.j1 k x0 x3 (x3 == 16)) else (if x3 = 32 then (impl_formOf.j1 k x0 x3 (x3 == 32)) else (if x3 = 33 then (impl_formOf.j1 k x0 x3 (x3 == 33)) else (if x3 = 34 then (impl_formOf.j1 k x0 x3 (x3 == 34)) else (if x3 = 35 then (impl_formOf.j1 k x0 x3 (x3 == 35)) else (impl_formOf.j1 k x0 x3 (x3 == 36)))))))))
def impl_formOf.j1 : Nat → Int → Int → Bool → Option (Int)
 | 0, _, _, _ => none
 | k + 1, x0, x3, x8 => if x8 = true then (some 3) else (if x3 = 40 then (impl_formOf.j2 k x0 x3 (x3 == 40)) else (if x3 = 41 then (impl_formOf.j2 k x0 x3 (x3 == 41)) else (if x3 = 54 then (impl_formOf.j2 k x0 x3 (x3 == 54)) else (impl_formOf.j2 k x0 x3 (x3 == 55)))))
def impl_formOf.j2 : Nat → Int → Int → Bool → Option (Int)
 | 0, _, _, _ => none
 | k + 1, x0, x3, x17 => if x17 = true then (some 4) else (if x3 = 65 then (some 5) else (if x3 = 66 then (some 6) else (if x3 = 67 then (some 7) else (if x3 = 0 then (impl_formOf.j3 k x0 (x3 == 0)) else (if x3 = 1 then (impl_formOf.j3 k x0 (x3 == 1)) else (if x3 = 5 then (impl_formOf.j3 k x0 (x3 == 5)) else (if x3 = 11 then (impl_formOf.j3 k x0 (x3 == 11)) else (if x3 = 15 then (impl_formOf.j3 k x0 (x3 == 15)) else (if x3 = 26 then (impl_formOf.j3 k x0 (x3 == 26)) else (if x3 = 27 then (impl_formOf.j3 k x0 (x3 == 27)) else (if x3 = 63 then (impl_formOf.j3 k x0 (x3 == 63)) else (if x3 = 64 then (impl_formOf.j3 k x0 (x3 == 64)) else (if x3 = 176 then (impl_formOf.j3 k x0 (x3 == 176)) else (if x3 = 177 then (impl_formOf.j3 k x0 (x3 == 177)) else (if x3 = 178 then (impl_formOf.j3 k x0 (x3 == 178)) else (if x3 = 179 then (impl_formOf.j3 k x0 (x3 == 179)) else (impl_formOf.j3 k x0 (x3 == 180))))))))))))))))))
def impl_formOf.j3 : Nat → Int → Bool → Option (Int)
 | 0, _, _ => none
 | k + 1, x0, x28 => if x28 = true then (some 1) else (if x0 > 96 then (if x0 ≤ 123 then (some 1) else (if x0 > 128 then (if x0 ≤ 155 then (some 1) else (if x0 > 160 then (if x0 ≤ 169 then (some 1) else (some 0)) else (some 0))) else (if x0 > 160 then (if x0 ≤ 169 then (some 1) else (some 0)) else (some 0)))) else (if x0 > 128 then (if x0 ≤ 155 then (some 1) else (if x0 > 160 then (if x0 ≤ 169 then (some 1) else (some 0)) else (some 0))) else (if x0 > 160 then (if x0 ≤ 169 then (some 1) else (some 0)) else (some 0))))
end
def impl_formOf.f (k : Nat) (a0 : Int) : Option (Int) := if a0 = 2 then (impl_formOf.j0 k a0 a0 (a0 == 2)) else (if a0 = 3 then (impl_formOf.j0 k a0 a0 (a0 == 3)) else (impl_formOf.j0 k a0 a0 (a0 == 4)))
theorem impl_formOf.mono_l : ∀ k, (∀ y0 y1 y2, LeO (impl_formOf.j0 k y0 y1 y2) (impl_formOf.j0 (k + 1) y0 y1 y2)) ∧ (∀ y0 y1 y2, LeO (impl_formOf.j1 k y0 y1 y2) (impl_formOf.j1 (k + 1) y0 y1 y2)) ∧ (∀ y0 y1 y2, LeO (impl_formOf.j2 k y0 y1 y2) (impl_formOf.j2 (k + 1) y0 y1 y2)) ∧ (∀ y0 y1, LeO (impl_formOf.j3 k y0 y1) (impl_formOf.j3 (k + 1) y0 y1))
 | 0 => ⟨fun _ _ _ r h => by simp [impl_formOf.j0] at h, fun _ _ _ r h => by simp [impl_formOf.j1] at h, fun _ _ _ r h => by simp [impl_formOf.j2] at h, fun _ _ r h => by simp [impl_formOf.j3] at h⟩
 | k + 1 => by
  obtain ⟨ih0, ih1, ih2, ih3⟩ := impl_formOf.mono_l k
  refine ⟨?_, ?_, ?_, ?_⟩
  ·
   intro y0 y1 y2
   unfold impl_formOf.j0
   repeat' first
   | (with_reducible exact ih0 _ _ _)
   | (with_reducible exact ih1 _ _ _)
   | (with_reducible exact ih2 _ _ _)
   | (with_reducible exact ih3 _ _)
   | (with_reducible exact LeO.refl _)
   | (with_reducible exact LeO.none _)
   | (with_reducible refine LeO.ite ?_ ?_)
   | (with_reducible refine LeO.bind ?_ (fun _ => ?_))
   | exact ih0 _ _ _
   | exact ih1 _ _ _
   | exact ih2 _ _ _
   | exact ih3 _ _
   | exact LeO.none _
   | refine LeO.ite ?_ ?_
   | refine LeO.bind ?_ (fun _ => ?_)
  ·
   intro y0 y1 y2
   unfold impl_formOf.j1
   repeat' first
   | (with_reducible exact ih0 _ _ _)
   | (with_reducible exact ih1 _ _ _)
   | (with_reducible exact ih2 _ _ _)
   | (with_reducible exact ih3 _ _)
   | (with_reducible exact LeO.refl _)
   | (with_reducible exact LeO.none _)
   | (with_reducible refine LeO.ite ?_ ?_)
   | (with_reducible refine LeO.bind ?_ (fun _ => ?_))
   | exact ih0 _ _ _
   | exact ih1 _ _ _
   | exact ih2 _ _ _
   | exact ih3 _ _
   | exact LeO.none _
   | refine LeO.ite ?_ ?_
   | refine LeO.bind ?_ (fun _ => ?_)
  ·
   intro y0 y1 y2
   unfold impl_formOf.j2
   repeat' first
   | (with_reducible exact ih0 _ _ _)
   | (with_reducible exact ih1 _ _ _)
   | (with_reducible exact ih2 _ _ _)
   | (with_reducible exact ih3 _ _)
   | (with_reducible exact LeO.refl _)
   | (with_reducible exact LeO.none _)
   | (with_reducible refine LeO.ite ?_ ?_)
   | (with_reducible refine LeO.bind ?_ (fun _ => ?_))
   | exact ih0 _ _ _
   | exact ih1 _ _ _
   | exact ih2 _ _ _
   | exact ih3 _ _
   | exact LeO.none _
   | refine LeO.ite ?_ ?_
   | refine LeO.bind ?_ (fun _ => ?_)
  ·
   intro y0 y1
   unfold impl_formOf.j3
   repeat' first
   | (with_reducible exact ih0 _ _ _)
   | (with_reducible exact ih1 _ _ _)
   | (with_reducible exact ih2 _ _ _)
   | (with_reducible exact ih3 _ _)
   | (with_reducible exact LeO.refl _)
   | (with_reducible exact LeO.none _)
   | (with_reducible refine LeO.ite ?_ ?_)
   | (with_reducible refine LeO.bind ?_ (fun _ => ?_))
   | exact ih0 _ _ _
   | exact ih1 _ _ _
   | exact ih2 _ _ _
   | exact ih3 _ _
   | exact LeO.none _
   | refine LeO.ite ?_ ?_
   | refine LeO.bind ?_ (fun _ => ?_)
theorem impl_formOf.mono : ∀ a0 k, LeO (impl_formOf.f k a0) (impl_formOf.f (k + 1) a0) := by
 intro a0 k
 obtain ⟨ih0, ih1, ih2, ih3⟩ := impl_formOf.mono_l k
 unfold impl_formOf.f
 repeat' first
   | (with_reducible exact ih0 _ _ _)
   | (with_reducible exact ih1 _ _ _)
   | (with_reducible exact ih2 _ _ _)
   | (with_reducible exact ih3 _ _)
   | (with_reducible exact LeO.refl _)
   | (with_reducible exact LeO.none _)
   | (with_reducible refine LeO.ite ?_ ?_)
   | (with_reducible refine LeO.bind ?_ (fun _ => ?_))
   | exact ih0 _ _ _
   | exact ih1 _ _ _
   | exact ih2 _ _ _
   | exact ih3 _ _
   | exact LeO.none _
   | refine LeO.ite ?_ ?_
   | refine LeO.bind ?_ (fun _ => ?_)
set_option maxHeartbeats 8000000 in
set_option maxRecDepth 100000 in
theorem impl_formOf.calls (k : Nat) (a0 : Int) (r : Int) (w : World) (h : impl_formOf.f k a0 = some r) :
  Calls Try.prog 31 #[.int .i64 a0] w fun e w' => e = .returned (.int .i64 r) ∧ Drawn0 w w' := by
 have H : (if a0 = 2 then (impl_formOf.j0 k a0 a0 (a0 == 2)) else (if a0 = 3 then (impl_formOf.j0 k a0 a0 (a0 == 3)) else (impl_formOf.j0 k a0 a0 (a0 == 4)))) = some r := h
 clear h
 have HC2 := Aside0.mk H
 clear H
 go_enter Try.func31, Try.ntmps31
 go_upto_if 4 with (fail)
 go_cut [4] (fun v4 wc => ∃ (kq : Nat) (x4_1 : Bool), v4 = .bool x4_1 ∧ Aside0 (impl_formOf.j0 kq a0 a0 x4_1 = some r) ∧ Aside0 (kq ≤ k) ∧ Drawn0 w wc)
 case first =>
  have H := HC2.out
  clear HC2
  by_cases c3 : a0 = 2
  ·
   rw [if_pos c3] at H
   have c3b0 : (a0 == 2) = true := beq_iff_eq.mpr c3
   have c3b1 : (a0 != 2) = false := bne_eq_false_iff_eq.mpr c3
   clear c3
   (first | rw [c3b0] | (simp only [i64_w, i32_w]; rw [c3b0]) | skip)
   have H' := Aside0.mk H
   clear H
   go_wp2
   go_meet
   case rel => exact ⟨_, ((a0 == 2)), (by first | rfl | (simp; done) | (simp [*]; done)), H', ⟨by first | omega | exact Nat.le_refl _⟩, dr_⟩
  ·
   rw [if_neg c3] at H
   have c3b0 : (a0 == 2) = false := beq_eq_false_iff_ne.mpr c3
   have c3b1 : (a0 != 2) = true := bne_iff_ne.mpr c3
   (first | rw [c3b0] | (simp only [i64_w, i32_w]; rw [c3b0]) | skip)
   by_cases c4 : a0 = 3
   ·
    rw [if_pos c4] at H
    have c4b0 : (a0 == 3) = true := beq_iff_eq.mpr c4
    have c4b1 : (a0 != 3) = false := bne_eq_false_iff_eq.mpr c4
    clear c4
    have H' := Aside0.mk H
    clear H
    go_wp2
    go_meet
    case rel => exact ⟨_, ((a0 == 3)), (by first | rfl | (simp; done) | (simp [*]; done)), H', ⟨by first | omega | exact Nat.le_refl _⟩, dr_⟩
   ·
    rw [if_neg c4] at H
    have c4b0 : (a0 == 3) = false := beq_eq_false_iff_ne.mpr c4
    have c4b1 : (a0 != 3) = true := bne_iff_ne.mpr c4
    have H' := Aside0.mk H
    clear H
    go_wp2
    go_meet
    case rel => exact ⟨_, ((a0 == 4)), (by first | rfl | (simp; done) | (simp [*]; done)), H', ⟨by first | omega | exact Nat.le_refl _⟩, dr_⟩
 case rest =>
  clear HC2
  obtain ⟨kq, x4_1, rfl, HA, HJ1, ⟨mc1, rfl⟩⟩ := hcut
  cases kq with
  | zero => exact absurd HA.out (by simp [impl_formOf.j0])
  | succ kj1 =>
   have H := HA.out
   clear HA
   simp only [impl_formOf.j0] at H
   by_cases c5 : x4_1 = true
   ·
    subst c5
    have H1 : (some 2) = some r := by rw [if_pos rfl] at H; exact H
    clear H
    have H := H1
    clear H1
    obtain rfl := Option.some.inj H
    simp only [Option.some.injEq, Prod.mk.injEq] at H
    obtain ⟨rfl⟩ := H
    go_wp2
    go_ret
    exact ⟨by first | rfl | (simp; done) | (simp [*]; done), dr_⟩
   ·
    replace c5 := Bool.eq_false_iff.mpr c5
    subst c5
    have H1 : (if a0 = 12 then (impl_formOf.j1 kj1 a0 a0 (a0 == 12)) else (if a0 = 13 then (impl_formOf.j1 kj1 a0 a0 (a0 == 13)) else (if a0 = 16 then (impl_formOf.j1 kj1 a0 a0 (a0 == 16)) else (if a0 = 32 then (impl_formOf.j1 kj1 a0 a0 (a0 == 32)) else (if a0 = 33 then (impl_formOf.j1 kj1 a0 a0 (a0 == 33)) else (if a0 = 34 then (impl_formOf.j1 kj1 a0 a0 (a0 == 34)) else (if a0 = 35 then (impl_formOf.j1 kj1 a0 a0 (a0 == 35)) else (impl_formOf.j1 kj1 a0 a0 (a0 == 36))))))))) = some r := by rw [if_neg (show ¬ (false = true) by decide)] at H; exact H
    clear H
    have H := H1
    clear H1
    have HC6 := Aside0.mk H
    clear H
    go_upto_if 8 with (fail)
    go_cut [8] (fun v8 wc => ∃ (kq : Nat) (x8_5 : Bool), v8 = .bool x8_5 ∧ Aside0 (impl_formOf.j1 kq a0 a0 x8_5 = some r) ∧ Aside0 (kq ≤ kj1) ∧ Drawn0 w wc)
    case first =>
     have H := HC6.out
     clear HC6
     by_cases c7 : a0 = 12
     ·
      rw [if_pos c7] at H
      have c7b0 : (a0 == 12) = true := beq_iff_eq.mpr c7
      have c7b1 : (a0 != 12) = false := bne_eq_false_iff_eq.mpr c7
      clear c7
      (first | rw [c7b0] | (simp only [i64_w, i32_w]; rw [c7b0]) | skip)
      have H' := Aside0.mk H
      clear H
      go_wp2
      go_meet
      case rel => exact ⟨_, ((a0 == 12)), (by first | rfl | (simp; done) | (simp [*]; done)), H', ⟨by have := HJ1.out; first | omega | exact Nat.le_refl _⟩, dr_⟩
     ·
      rw [if_neg c7] at H
      have c7b0 : (a0 == 12) = false := beq_eq_false_iff_ne.mpr c7
      have c7b1 : (a0 != 12) = true := bne_iff_ne.mpr c7
      (first | rw [c7b0] | (simp only [i64_w, i32_w]; rw [c7b0]) | skip)
      by_cases c8 : a0 = 13
      ·
       rw [if_pos c8] at H
       have c8b0 : (a0 == 13) = true := beq_iff_eq.mpr c8
       have c8b1 : (a0 != 13) = false := bne_eq_false_iff_eq.mpr c8
       clear c8
       have H' := Aside0.mk H
       clear H
       go_wp2
       go_meet
       case rel => exact ⟨_, ((a0 == 13)), (by first | rfl | (simp; done) | (simp [*]; done)), H', ⟨by have := HJ1.out; first | omega | exact Nat.le_refl _⟩, dr_⟩
      ·
       rw [if_neg c8] at H
       have c8b0 : (a0 == 13) = false := beq_eq_false_iff_ne.mpr c8
       have c8b1 : (a0 != 13) = true := bne_iff_ne.mpr c8
       by_cases c9 : a0 = 16
       ·
        rw [if_pos c9] at H
        have c9b0 : (a0 == 16) = true := beq_iff_eq.mpr c9
        have c9b1 : (a0 != 16) = false := bne_eq_false_iff_eq.mpr c9
        clear c9
        have H' := Aside0.mk H
        clear H
        go_wp2
        go_meet
        case rel => exact ⟨_, ((a0 == 16)), (by first | rfl | (simp; done) | (simp [*]; done)), H', ⟨by have := HJ1.out; first | omega | exact Nat.le_refl _⟩, dr_⟩
       ·
        rw [if_neg c9] at H
        have c9b0 : (a0 == 16) = false := beq_eq_false_iff_ne.mpr c9
        have c9b1 : (a0 != 16) = true := bne_iff_ne.mpr c9
        by_cases c10 : a0 = 32
        ·
         rw [if_pos c10] at H
         have c10b0 : (a0 == 32) = true := beq_iff_eq.mpr c10
         have c10b1 : (a0 != 32) = false := bne_eq_false_iff_eq.mpr c10
         clear c10
         have H' := Aside0.mk H
         clear H
         go_wp2
         go_meet
         case rel => exact ⟨_, ((a0 == 32)), (by first | rfl | (simp; done) | (simp [*]; done)), H', ⟨by have := HJ1.out; first | omega | exact Nat.le_refl _⟩, dr_⟩
        ·
         rw [if_neg c10] at H
         have c10b0 : (a0 == 32) = false := beq_eq_false_iff_ne.mpr c10
         have c10b1 : (a0 != 32) = true := bne_iff_ne.mpr c10
         by_cases c11 : a0 = 33
         ·
          rw [if_pos c11] at H
          have c11b0 : (a0 == 33) = true := beq_iff_eq.mpr c11
          have c11b1 : (a0 != 33) = false := bne_eq_false_iff_eq.mpr c11
          clear c11
          have H' := Aside0.mk H
          clear H
          go_wp2
          go_meet
          case rel => exact ⟨_, ((a0 == 33)), (by first | rfl | (simp; done) | (simp [*]; done)), H', ⟨by have := HJ1.out; first | omega | exact Nat.le_refl _⟩, dr_⟩
         ·
          rw [if_neg c11] at H
          have c11b0 : (a0 == 33) = false := beq_eq_false_iff_ne.mpr c11
          have c11b1 : (a0 != 33) = true := bne_iff_ne.mpr c11
          by_cases c12 : a0 = 34
          ·
           rw [if_pos c12] at H
           have c12b0 : (a0 == 34) = true := beq_iff_eq.mpr c12
           have c12b1 : (a0 != 34) = false := bne_eq_false_iff_eq.mpr c12
           clear c12
           have H' := Aside0.mk H
           clear H
           go_wp2
           go_meet
           case rel => exact ⟨_, ((a0 == 34)), (by first | rfl | (simp; done) | (simp [*]; done)), H', ⟨by have := HJ1.out; first | omega | exact Nat.le_refl _⟩, dr_⟩
          ·
           rw [if_neg c12] at H
           have c12b0 : (a0 == 34) = false := beq_eq_false_iff_ne.mpr c12
           have c12b1 : (a0 != 34) = true := bne_iff_ne.mpr c12
           by_cases c13 : a0 = 35
           ·
            rw [if_pos c13] at H
            have c13b0 : (a0 == 35) = true := beq_iff_eq.mpr c13
            have c13b1 : (a0 != 35) = false := bne_eq_false_iff_eq.mpr c13
            clear c13
            have H' := Aside0.mk H
            clear H
            go_wp2
            go_meet
            case rel => exact ⟨_, ((a0 == 35)), (by first | rfl | (simp; done) | (simp [*]; done)), H', ⟨by have := HJ1.out; first | omega | exact Nat.le_refl _⟩, dr_⟩
           ·
            rw [if_neg c13] at H
            have c13b0 : (a0 == 35) = false := beq_eq_false_iff_ne.mpr c13
            have c13b1 : (a0 != 35) = true := bne_iff_ne.mpr c13
            have H' := Aside0.mk H
            clear H
            go_wp2
            go_meet
            case rel => exact ⟨_, ((a0 == 36)), (by first | rfl | (simp; done) | (simp [*]; done)), H', ⟨by have := HJ1.out; first | omega | exact Nat.le_refl _⟩, dr_⟩
    case rest =>
     clear HC6
     try clear c5
     obtain ⟨kq, x8_5, rfl, HA, HJ5, ⟨mc5, rfl⟩⟩ := hcut
     cases kq with
     | zero => exact absurd HA.out (by simp [impl_formOf.j1])
     | succ kj5 =>
      have H := HA.out
      clear HA
      simp only [impl_formOf.j1] at H
      by_cases c14 : x8_5 = true
      ·
       subst c14
       have H1 : (some 3) = some r := by rw [if_pos rfl] at H; exact H
       clear H
       have H := H1
       clear H1
       obtain rfl := Option.some.inj H
       simp only [Option.some.injEq, Prod.mk.injEq] at H
       obtain ⟨rfl⟩ := H
       go_wp2
       go_ret
       exact ⟨by first | rfl | (simp; done) | (simp [*]; done), dr_⟩
      ·
       replace c14 := Bool.eq_false_iff.mpr c14
       subst c14
       have H1 : (if a0 = 40 then (impl_formOf.j2 kj5 a0 a0 (a0 == 40)) else (if a0 = 41 then (impl_formOf.j2 kj5 a0 a0 (a0 == 41)) else (if a0 = 54 then (impl_formOf.j2 kj5 a0 a0 (a0 == 54)) else (impl_formOf.j2 kj5 a0 a0 (a0 == 55))))) = some r := by rw [if_neg (show ¬ (false = true) by decide)] at H; exact H
       clear H
       have H := H1
       clear H1
       have HC15 := Aside0.mk H
       clear H
       go_upto_if 17 with (fail)
       go_cut [17] (fun v17 wc => ∃ (kq : Nat) (x17_14 : Bool), v17 = .bool x17_14 ∧ Aside0 (impl_formOf.j2 kq a0 a0 x17_14 = some r) ∧ Aside0 (kq ≤ kj5) ∧ Drawn0 w wc)
       case first =>
        have H := HC15.out
        clear HC15
        by_cases c16 : a0 = 40
        ·
         rw [if_pos c16] at H
         have c16b0 : (a0 == 40) = true := beq_iff_eq.mpr c16
         have c16b1 : (a0 != 40) = false := bne_eq_false_iff_eq.mpr c16
         clear c16
         (first | rw [c16b0] | (simp only [i64_w, i32_w]; rw [c16b0]) | skip)
         have H' := Aside0.mk H
         clear H
         go_wp2
         go_meet
         case rel => exact ⟨_, ((a0 == 40)), (by first | rfl | (simp; done) | (simp [*]; done)), H', ⟨by have := HJ1.out; have := HJ5.out; first | omega | exact Nat.le_refl _⟩, dr_⟩
        ·
         rw [if_neg c16] at H
         have c16b0 : (a0 == 40) = false := beq_eq_false_iff_ne.mpr c16
         have c16b1 : (a0 != 40) = true := bne_iff_ne.mpr c16
         (first | rw [c16b0] | (simp only [i64_w, i32_w]; rw [c16b0]) | skip)
         by_cases c17 : a0 = 41
         ·
          rw [if_pos c17] at H
          have c17b0 : (a0 == 41) = true := beq_iff_eq.mpr c17
          have c17b1 : (a0 != 41) = false := bne_eq_false_iff_eq.mpr c17
          clear c17
          have H' := Aside0.mk H
          clear H
          go_wp2
          go_meet
          case rel => exact ⟨_, ((a0 == 41)), (by first | rfl | (simp; done) | (simp [*]; done)), H', ⟨by have := HJ1.out; have := HJ5.out; first | omega | exact Nat.le_refl _⟩, dr_⟩
         ·
          rw [if_neg c17] at H
          have c17b0 : (a0 == 41) = false := beq_eq_false_iff_ne.mpr c17
          have c17b1 : (a0 != 41) = true := bne_iff_ne.mpr c17
          by_cases c18 : a0 = 54
          ·
           rw [if_pos c18] at H
           have c18b0 : (a0 == 54) = true := beq_iff_eq.mpr c18
           have c18b1 : (a0 != 54) = false := bne_eq_false_iff_eq.mpr c18
           clear c18
           have H' := Aside0.mk H
           clear H
           go_wp2
           go_meet
           case rel => exact ⟨_, ((a0 == 54)), (by first | rfl | (simp; done) | (simp [*]; done)), H', ⟨by have := HJ1.out; have := HJ5.out; first | omega | exact Nat.le_refl _⟩, dr_⟩
          ·
           rw [if_neg c18] at H
           have c18b0 : (a0 == 54) = false := beq_eq_false_iff_ne.mpr c18
           have c18b1 : (a0 != 54) = true := bne_iff_ne.mpr c18
           have H' := Aside0.mk H
           clear H
           go_wp2
           go_meet
           case rel => exact ⟨_, ((a0 == 55)), (by first | rfl | (simp; done) | (simp [*]; done)), H', ⟨by have := HJ1.out; have := HJ5.out; first | omega | exact Nat.le_refl _⟩, dr_⟩
       case rest =>
        clear HC15
        try clear c5
        try clear c14
        obtain ⟨kq, x17_14, rfl, HA, HJ14, ⟨mc14, rfl⟩⟩ := hcut
        cases kq with
        | zero => exact absurd HA.out (by simp [impl_formOf.j2])
        | succ kj14 =>
         have H := HA.out
         clear HA
         simp only [impl_formOf.j2] at H
         by_cases c19 : x17_14 = true
         ·
          subst c19
          have H1 : (some 4) = some r := by rw [if_pos rfl] at H; exact H
          clear H
          have H := H1
          clear H1
          obtain rfl := Option.some.inj H
          simp only [Option.some.injEq, Prod.mk.injEq] at H
          obtain ⟨rfl⟩ := H
          go_wp2
          go_ret
          exact ⟨by first | rfl | (simp; done) | (simp [*]; done), dr_⟩
         ·
          replace c19 := Bool.eq_false_iff.mpr c19
          subst c19
          have H1 : (if a0 = 65 then (some 5) else (if a0 = 66 then (some 6) else (if a0 = 67 then (some 7) else (if a0 = 0 then (impl_formOf.j3 kj14 a0 (a0 == 0)) else (if a0 = 1 then (impl_formOf.j3 kj14 a0 (a0 == 1)) else (if a0 = 5 then (impl_formOf.j3 kj14 a0 (a0 == 5)) else (if a0 = 11 then (impl_formOf.j3 kj14 a0 (a0 == 11)) else (if a0 = 15 then (impl_formOf.j3 kj14 a0 (a0 == 15)) else (if a0 = 26 then (impl_formOf.j3 kj14 a0 (a0 == 26)) else (if a0 = 27 then (impl_formOf.j3 kj14 a0 (a0 == 27)) else (if a0 = 63 then (impl_formOf.j3 kj14 a0 (a0 == 63)) else (if a0 = 64 then (impl_formOf.j3 kj14 a0 (a0 == 64)) else (if a0 = 176 then (impl_formOf.j3 kj14 a0 (a0 == 176)) else (if a0 = 177 then (impl_formOf.j3 kj14 a0 (a0 == 177)) else (if a0 = 178 then (impl_formOf.j3 kj14 a0 (a0 == 178)) else (if a0 = 179 then (impl_formOf.j3 kj14 a0 (a0 == 179)) else (impl_formOf.j3 kj14 a0 (a0 == 180)))))))))))))))))) = some r := by rw [if_neg (show ¬ (false = true) by decide)] at H; exact H
          clear H
          have H := H1
          clear H1
          by_cases c20 : a0 = 65
          ·
           rw [if_pos c20] at H
           have c20b0 : (a0 == 65) = true := beq_iff_eq.mpr c20
           have c20b1 : (a0 != 65) = false := bne_eq_false_iff_eq.mpr c20
           clear c20
           obtain rfl := Option.some.inj H
           simp only [Option.some.injEq, Prod.mk.injEq] at H
           obtain ⟨rfl⟩ := H
           go_wp2
           go_ret
           exact ⟨by first | rfl | (simp; done) | (simp [*]; done), dr_⟩
          ·
           rw [if_neg c20] at H
           have c20b0 : (a0 == 65) = false := beq_eq_false_iff_ne.mpr c20
           have c20b1 : (a0 != 65) = true := bne_iff_ne.mpr c20
           by_cases c21 : a0 = 66
           ·
            rw [if_pos c21] at H
            have c21b0 : (a0 == 66) = true := beq_iff_eq.mpr c21
            have c21b1 : (a0 != 66) = false := bne_eq_false_iff_eq.mpr c21
            clear c21
            obtain rfl := Option.some.inj H
            simp only [Option.some.injEq, Prod.mk.injEq] at H
            obtain ⟨rfl⟩ := H
            go_wp2
            go_ret
            exact ⟨by first | rfl | (simp; done) | (simp [*]; done), dr_⟩
           ·
            rw [if_neg c21] at H
            have c21b0 : (a0 == 66) = false := beq_eq_false_iff_ne.mpr c21
            have c21b1 : (a0 != 66) = true := bne_iff_ne.mpr c21
            by_cases c22 : a0 = 67
            ·
             rw [if_pos c22] at H
             have c22b0 : (a0 == 67) = true := beq_iff_eq.mpr c22
             have c22b1 : (a0 != 67) = false := bne_eq_false_iff_eq.mpr c22
             clear c22
             obtain rfl := Option.some.inj H
             simp only [Option.some.injEq, Prod.mk.injEq] at H
             obtain ⟨rfl⟩ := H
             go_wp2
             go_ret
             exact ⟨by first | rfl | (simp; done) | (simp [*]; done), dr_⟩
            ·
             rw [if_neg c22] at H
             have c22b0 : (a0 == 67) = false := beq_eq_false_iff_ne.mpr c22
             have c22b1 : (a0 != 67) = true := bne_iff_ne.mpr c22
             have HC23 := Aside0.mk H
             clear H
             go_upto_if 28 with (fail)
             go_cut [28] (fun v28 wc => ∃ (kq : Nat) (x28_22 : Bool), v28 = .bool x28_22 ∧ Aside0 (impl_formOf.j3 kq a0 x28_22 = some r) ∧ Aside0 (kq ≤ kj14) ∧ Drawn0 w wc)
             case first =>
              have H := HC23.out
              clear HC23
              by_cases c24 : a0 = 0
              ·
               rw [if_pos c24] at H
               have c24b0 : (a0 == 0) = true := beq_iff_eq.mpr c24
               have c24b1 : (a0 != 0) = false := bne_eq_false_iff_eq.mpr c24
               clear c24
               (first | rw [c24b0] | (simp only [i64_w, i32_w]; rw [c24b0]) | skip)
               have H' := Aside0.mk H
               clear H
               go_wp2
               go_meet
               case rel => exact ⟨_, ((a0 == 0)), (by first | rfl | (simp; done) | (simp [*]; done)), H', ⟨by have := HJ1.out; have := HJ5.out; have := HJ14.out; first | omega | exact Nat.le_refl _⟩, dr_⟩
              ·
               rw [if_neg c24] at H
               have c24b0 : (a0 == 0) = false := beq_eq_false_iff_ne.mpr c24
               have c24b1 : (a0 != 0) = true := bne_iff_ne.mpr c24
               (first | rw [c24b0] | (simp only [i64_w, i32_w]; rw [c24b0]) | skip)
               by_cases c25 : a0 = 1
               ·
                rw [if_pos c25] at H
                have c25b0 : (a0 == 1) = true := beq_iff_eq.mpr c25
                have c25b1 : (a0 != 1) = false := bne_eq_false_iff_eq.mpr c25
                clear c25
                have H' := Aside0.mk H
                clear H
                go_wp2
                go_meet
                case rel => exact ⟨_, ((a0 == 1)), (by first | rfl | (simp; done) | (simp [*]; done)), H', ⟨by have := HJ1.out; have := HJ5.out; have := HJ14.out; first | omega | exact Nat.le_refl _⟩, dr_⟩
               ·
                rw [if_neg c25] at H
                have c25b0 : (a0 == 1) = false := beq_eq_false_iff_ne.mpr c25
                have c25b1 : (a0 != 1) = true := bne_iff_ne.mpr c25
                by_cases c26 : a0 = 5
                ·
                 rw [if_pos c26] at H
                 have c26b0 : (a0 == 5) = true := beq_iff_eq.mpr c26
                 have c26b1 : (a0 != 5) = false := bne_eq_false_iff_eq.mpr c26
                 clear c26
                 have H' := Aside0.mk H
                 clear H
                 go_wp2
                 go_meet
                 case rel => exact ⟨_, ((a0 == 5)), (by first | rfl | (simp; done) | (simp [*]; done)), H', ⟨by have := HJ1.out; have := HJ5.out; have := HJ14.out; first | omega | exact Nat.le_refl _⟩, dr_⟩
                ·
                 rw [if_neg c26] at H
                 have c26b0 : (a0 == 5) = false := beq_eq_false_iff_ne.mpr c26
                 have c26b1 : (a0 != 5) = true := bne_iff_ne.mpr c26
                 by_cases c27 : a0 = 11
                 ·
                  rw [if_pos c27] at H
                  have c27b0 : (a0 == 11) = true := beq_iff_eq.mpr c27
                  have c27b1 : (a0 != 11) = false := bne_eq_false_iff_eq.mpr c27
                  clear c27
                  have H' := Aside0.mk H
                  clear H
                  go_wp2
                  go_meet
                  case rel => exact ⟨_, ((a0 == 11)), (by first | rfl | (simp; done) | (simp [*]; done)), H', ⟨by have := HJ1.out; have := HJ5.out; have := HJ14.out; first | omega | exact Nat.le_refl _⟩, dr_⟩
                 ·
                  rw [if_neg c27] at H
                  have c27b0 : (a0 == 11) = false := beq_eq_false_iff_ne.mpr c27
                  have c27b1 : (a0 != 11) = true := bne_iff_ne.mpr c27
                  by_cases c28 : a0 = 15
                  ·
                   rw [if_pos c28] at H
                   have c28b0 : (a0 == 15) = true := beq_iff_eq.mpr c28
                   have c28b1 : (a0 != 15) = false := bne_eq_false_iff_eq.mpr c28
                   clear c28
                   have H' := Aside0.mk H
                   clear H
                   go_wp2
                   go_meet
                   case rel => exact ⟨_, ((a0 == 15)), (by first | rfl | (simp; done) | (simp [*]; done)), H', ⟨by have := HJ1.out; have := HJ5.out; have := HJ14.out; first | omega | exact Nat.le_refl _⟩, dr_⟩
                  ·
                   rw [if_neg c28] at H
                   have c28b0 : (a0 == 15) = false := beq_eq_false_iff_ne.mpr c28
                   have c28b1 : (a0 != 15) = true := bne_iff_ne.mpr c28
                   by_cases c29 : a0 = 26
                   ·
                    rw [if_pos c29] at H
                    have c29b0 : (a0 == 26) = true := beq_iff_eq.mpr c29
                    have c29b1 : (a0 != 26) = false := bne_eq_false_iff_eq.mpr c29
                    clear c29
                    have H' := Aside0.mk H
                    clear H
                    go_wp2
                    go_meet
                    case rel => exact ⟨_, ((a0 == 26)), (by first | rfl | (simp; done) | (simp [*]; done)), H', ⟨by have := HJ1.out; have := HJ5.out; have := HJ14.out; first | omega | exact Nat.le_refl _⟩, dr_⟩
                   ·
                    rw [if_neg c29] at H
                    have c29b0 : (a0 == 26) = false := beq_eq_false_iff_ne.mpr c29
                    have c29b1 : (a0 != 26) = true := bne_iff_ne.mpr c29
                    by_cases c30 : a0 = 27
                    ·
                     rw [if_pos c30] at H
                     have c30b0 : (a0 == 27) = true := beq_iff_eq.mpr c30
                     have c30b1 : (a0 != 27) = false := bne_eq_false_iff_eq.mpr c30
                     clear c30
                     have H' := Aside0.mk H
                     clear H
                     go_wp2
                     go_meet
                     case rel => exact ⟨_, ((a0 == 27)), (by first | rfl | (simp; done) | (simp [*]; done)), H', ⟨by have := HJ1.out; have := HJ5.out; have := HJ14.out; first | omega | exact Nat.le_refl _⟩, dr_⟩
                    ·
                     rw [if_neg c30] at H
                     have c30b0 : (a0 == 27) = false := beq_eq_false_iff_ne.mpr c30
                     have c30b1 : (a0 != 27) = true := bne_iff_ne.mpr c30
                     by_cases c31 : a0 = 63
                     ·
                      rw [if_pos c31] at H
                      have c31b0 : (a0 == 63) = true := beq_iff_eq.mpr c31
                      have c31b1 : (a0 != 63) = false := bne_eq_false_iff_eq.mpr c31
                      clear c31
                      have H' := Aside0.mk H
                      clear H
                      go_wp2
                      go_meet
                      case rel => exact ⟨_, ((a0 == 63)), (by first | rfl | (simp; done) | (simp [*]; done)), H', ⟨by have := HJ1.out; have := HJ5.out; have := HJ14.out; first | omega | exact Nat.le_refl _⟩, dr_⟩
                     ·
                      rw [if_neg c31] at H
                      have c31b0 : (a0 == 63) = false := beq_eq_false_iff_ne.mpr c31
                      have c31b1 : (a0 != 63) = true := bne_iff_ne.mpr c31
                      by_cases c32 : a0 = 64
                      ·
                       rw [if_pos c32] at H
                       have c32b0 : (a0 == 64) = true := beq_iff_eq.mpr c32
                       have c32b1 : (a0 != 64) = false := bne_eq_false_iff_eq.mpr c32
                       clear c32
                       have H' := Aside0.mk H
                       clear H
                       go_wp2
                       go_meet
                       case rel => exact ⟨_, ((a0 == 64)), (by first | rfl | (simp; done) | (simp [*]; done)), H', ⟨by have := HJ1.out; have := HJ5.out; have := HJ14.out; first | omega | exact Nat.le_refl _⟩, dr_⟩
                      ·
                       rw [if_neg c32] at H
                       have c32b0 : (a0 == 64) = false := beq_eq_false_iff_ne.mpr c32
                       have c32b1 : (a0 != 64) = true := bne_iff_ne.mpr c32
                       by_cases c33 : a0 = 176
                       ·
                        rw [if_pos c33] at H
                        have c33b0 : (a0 == 176) = true := beq_iff_eq.mpr c33
                        have c33b1 : (a0 != 176) = false := bne_eq_false_iff_eq.mpr c33
                        clear c33
                        have H' := Aside0.mk H
                        clear H
                        go_wp2
                        go_meet
                        case rel => exact ⟨_, ((a0 == 176)), (by first | rfl | (simp; done) | (simp [*]; done)), H', ⟨by have := HJ1.out; have := HJ5.out; have := HJ14.out; first | omega | exact Nat.le_refl _⟩, dr_⟩
                       ·
                        rw [if_neg c33] at H
                        have c33b0 : (a0 == 176) = false := beq_eq_false_iff_ne.mpr c33
                        have c33b1 : (a0 != 176) = true := bne_iff_ne.mpr c33
                        by_cases c34 : a0 = 177
                        ·
                         rw [if_pos c34] at H
                         have c34b0 : (a0 == 177) = true := beq_iff_eq.mpr c34
                         have c34b1 : (a0 != 177) = false := bne_eq_false_iff_eq.mpr c34
                         clear c34
                         have H' := Aside0.mk H
                         clear H
                         go_wp2
                         go_meet
                         case rel => exact ⟨_, ((a0 == 177)), (by first | rfl | (simp; done) | (simp [*]; done)), H', ⟨by have := HJ1.out; have := HJ5.out; have := HJ14.out; first | omega | exact Nat.le_refl _⟩, dr_⟩
                        ·
                         rw [if_neg c34] at H
                         have c34b0 : (a0 == 177) = false := beq_eq_false_iff_ne.mpr c34
                         have c34b1 : (a0 != 177) = true := bne_iff_ne.mpr c34
                         by_cases c35 : a0 = 178
                         ·
                          rw [if_pos c35] at H
                          have c35b0 : (a0 == 178) = true := beq_iff_eq.mpr c35
                          have c35b1 : (a0 != 178) = false := bne_eq_false_iff_eq.mpr c35
                          clear c35
                          have H' := Aside0.mk H
                          clear H
                          go_wp2
                          go_meet
                          case rel => exact ⟨_, ((a0 == 178)), (by first | rfl | (simp; done) | (simp [*]; done)), H', ⟨by have := HJ1.out; have := HJ5.out; have := HJ14.out; first | omega | exact Nat.le_refl _⟩, dr_⟩
                         ·
                          rw [if_neg c35] at H
                          have c35b0 : (a0 == 178) = false := beq_eq_false_iff_ne.mpr c35
                          have c35b1 : (a0 != 178) = true := bne_iff_ne.mpr c35
                          by_cases c36 : a0 = 179
                          ·
                           rw [if_pos c36] at H
                           have c36b0 : (a0 == 179) = true := beq_iff_eq.mpr c36
                           have c36b1 : (a0 != 179) = false := bne_eq_false_iff_eq.mpr c36
                           clear c36
                           have H' := Aside0.mk H
                           clear H
                           go_wp2
                           go_meet
                           case rel => exact ⟨_, ((a0 == 179)), (by first | rfl | (simp; done) | (simp [*]; done)), H', ⟨by have := HJ1.out; have := HJ5.out; have := HJ14.out; first | omega | exact Nat.le_refl _⟩, dr_⟩
                          ·
                           rw [if_neg c36] at H
                           have c36b0 : (a0 == 179) = false := beq_eq_false_iff_ne.mpr c36
                           have c36b1 : (a0 != 179) = true := bne_iff_ne.mpr c36
                           have H' := Aside0.mk H
                           clear H
                           go_wp2
                           go_meet
                           case rel => exact ⟨_, ((a0 == 180)), (by first | rfl | (simp; done) | (simp [*]; done)), H', ⟨by have := HJ1.out; have := HJ5.out; have := HJ14.out; first | omega | exact Nat.le_refl _⟩, dr_⟩
             case rest =>
              clear HC23
              try clear c5
              try clear c14
              try clear c19
              try clear c20
              try clear c20b0
              try clear c20b1
              try clear c21
              try clear c21b0
              try clear c21b1
              try clear c22
              try clear c22b0
              try clear c22b1
              obtain ⟨kq, x28_22, rfl, HA, HJ22, ⟨mc22, rfl⟩⟩ := hcut
              cases kq with
              | zero => exact absurd HA.out (by simp [impl_formOf.j3])
              | succ kj22 =>
               have H := HA.out
               clear HA
               simp only [impl_formOf.j3] at H
               by_cases c37 : x28_22 = true
               ·
                subst c37
                have H1 : (some 1) = some r := by rw [if_pos rfl] at H; exact H
                clear H
                have H := H1
                clear H1
                obtain rfl := Option.some.inj H
                simp only [Option.some.injEq, Prod.mk.injEq] at H
                obtain ⟨rfl⟩ := H
                go_wp2
                go_ret
                exact ⟨by first | rfl | (simp; done) | (simp [*]; done), dr_⟩
               ·
                replace c37 := Bool.eq_false_iff.mpr c37
                subst c37
                have H1 : (if a0 > 96 then (if a0 ≤ 123 then (some 1) else (if a0 > 128 then (if a0 ≤ 155 then (some 1) else (if a0 > 160 then (if a0 ≤ 169 then (some 1) else (some 0)) else (some 0))) else (if a0 > 160 then (if a0 ≤ 169 then (some 1) else (some 0)) else (some 0)))) else (if a0 > 128 then (if a0 ≤ 155 then (some 1) else (if a0 > 160 then (if a0 ≤ 169 then (some 1) else (some 0)) else (some 0))) else (if a0 > 160 then (if a0 ≤ 169 then (some 1) else (some 0)) else (some 0)))) = some r := by rw [if_neg (show ¬ (false = true) by decide)] at H; exact H
                clear H
                have H := H1
                clear H1
                by_cases c38 : a0 > 96
                ·
                 rw [if_pos c38] at H
                 have c38b0 : decide (96 < a0) = true := decide_eq_true c38
                 clear c38
                 by_cases c39 : a0 ≤ 123
                 ·
                  rw [if_pos c39] at H
                  have c39b0 : decide (a0 ≤ 123) = true := decide_eq_true c39
                  clear c39
                  obtain rfl := Option.some.inj H
                  simp only [Option.some.injEq, Prod.mk.injEq] at H
                  obtain ⟨rfl⟩ := H
                  go_wp2
                  go_ret
                  exact ⟨by first | rfl | (simp; done) | (simp [*]; done), dr_⟩
                 ·
                  rw [if_neg c39] at H
                  have c39b0 : decide (a0 ≤ 123) = false := decide_eq_false c39
                  clear c39
                  by_cases c40 : a0 > 128
                  ·
                   rw [if_pos c40] at H
                   have c40b0 : decide (128 < a0) = true := decide_eq_true c40
                   clear c40
                   by_cases c41 : a0 ≤ 155
                   ·
                    rw [if_pos c41] at H
                    have c41b0 : decide (a0 ≤ 155) = true := decide_eq_true c41
                    clear c41
                    obtain rfl := Option.some.inj H
                    simp only [Option.some.injEq, Prod.mk.injEq] at H
                    obtain ⟨rfl⟩ := H
                    go_wp2
                    go_ret
                    exact ⟨by first | rfl | (simp; done) | (simp [*]; done), dr_⟩
                   ·
                    rw [if_neg c41] at H
                    have c41b0 : decide (a0 ≤ 155) = false := decide_eq_false c41
                    clear c41
                    by_cases c42 : a0 > 160
                    ·
                     rw [if_pos c42] at H
                     have c42b0 : decide (160 < a0) = true := decide_eq_true c42
                     clear c42
                     by_cases c43 : a0 ≤ 169
                     ·
                      rw [if_pos c43] at H
                      have c43b0 : decide (a0 ≤ 169) = true := decide_eq_true c43
                      clear c43
                      obtain rfl := Option.some.inj H
                      simp only [Option.some.injEq, Prod.mk.injEq] at H
                      obtain ⟨rfl⟩ := H
                      go_wp2
                      go_ret
                      exact ⟨by first | rfl | (simp; done) | (simp [*]; done), dr_⟩
                     ·
                      rw [if_neg c43] at H
                      have c43b0 : decide (a0 ≤ 169) = false := decide_eq_false c43
                      clear c43
                      obtain rfl := Option.some.inj H
                      simp only [Option.some.injEq, Prod.mk.injEq] at H
                      obtain ⟨rfl⟩ := H
                      go_wp2
                      go_ret
                      exact ⟨by first | rfl | (simp; done) | (simp [*]; done), dr_⟩
                    ·
                     rw [if_neg c42] at H
                     have c42b0 : decide (160 < a0) = false := decide_eq_false c42
                     clear c42
                     obtain rfl := Option.some.inj H
                     simp only [Option.some.injEq, Prod.mk.injEq] at H
                     obtain ⟨rfl⟩ := H
                     go_wp2
                     go_ret
                     exact ⟨by first | rfl | (simp; done) | (simp [*]; done), dr_⟩
                  ·
                   rw [if_neg c40] at H
                   have c40b0 : decide (128 < a0) = false := decide_eq_false c40
                   clear c40
                   by_cases c44 : a0 > 160
                   ·
                    rw [if_pos c44] at H
                    have c44b0 : decide (160 < a0) = true := decide_eq_true c44
                    clear c44
                    by_cases c45 : a0 ≤ 169
                    ·
                     rw [if_pos c45] at H
                     have c45b0 : decide (a0 ≤ 169) = true := decide_eq_true c45
                     clear c45
                     obtain rfl := Option.some.inj H
                     simp only [Option.some.injEq, Prod.mk.injEq] at H
                     obtain ⟨rfl⟩ := H
                     go_wp2
                     go_ret
                     exact ⟨by first | rfl | (simp; done) | (simp [*]; done), dr_⟩
                    ·
                     rw [if_neg c45] at H
                     have c45b0 : decide (a0 ≤ 169) = false := decide_eq_false c45
                     clear c45
                     obtain rfl := Option.some.inj H
                     simp only [Option.some.injEq, Prod.mk.injEq] at H
                     obtain ⟨rfl⟩ := H
                     go_wp2
                     go_ret
                     exact ⟨by first | rfl | (simp; done) | (simp [*]; done), dr_⟩
                   ·
                    rw [if_neg c44] at H
                    have c44b0 : decide (160 < a0) = false := decide_eq_false c44
                    clear c44
                    obtain rfl := Option.some.inj H
                    simp only [Option.some.injEq, Prod.mk.injEq] at H
                    obtain ⟨rfl⟩ := H
                    go_wp2
                    go_ret
                    exact ⟨by first | rfl | (simp; done) | (simp [*]; done), dr_⟩
                ·
                 rw [if_neg c38] at H
                 have c38b0 : decide (96 < a0) = false := decide_eq_false c38
                 clear c38
                 by_cases c46 : a0 > 128
                 ·
                  rw [if_pos c46] at H
                  have c46b0 : decide (128 < a0) = true := decide_eq_true c46
                  clear c46
                  by_cases c47 : a0 ≤ 155
                  ·
                   rw [if_pos c47] at H
                   have c47b0 : decide (a0 ≤ 155) = true := decide_eq_true c47
                   clear c47
                   obtain rfl := Option.some.inj H
                   simp only [Option.some.injEq, Prod.mk.injEq] at H
                   obtain ⟨rfl⟩ := H
                   go_wp2
                   go_ret
                   exact ⟨by first | rfl | (simp; done) | (simp [*]; done), dr_⟩
                  ·
                   rw [if_neg c47] at H
                   have c47b0 : decide (a0 ≤ 155) = false := decide_eq_false c47
                   clear c47
                   by_cases c48 : a0 > 160
                   ·
                    rw [if_pos c48] at H
                    have c48b0 : decide (160 < a0) = true := decide_eq_true c48
                    clear c48
                    by_cases c49 : a0 ≤ 169
                    ·
                     rw [if_pos c49] at H
                     have c49b0 : decide (a0 ≤ 169) = true := decide_eq_true c49
                     clear c49
                     obtain rfl := Option.some.inj H
                     simp only [Option.some.injEq, Prod.mk.injEq] at H
                     obtain ⟨rfl⟩ := H
                     go_wp2
                     go_ret
                     exact ⟨by first | rfl | (simp; done) | (simp [*]; done), dr_⟩
                    ·
                     rw [if_neg c49] at H
                     have c49b0 : decide (a0 ≤ 169) = false := decide_eq_false c49
                     clear c49
                     obtain rfl := Option.some.inj H
                     simp only [Option.some.injEq, Prod.mk.injEq] at H
                     obtain ⟨rfl⟩ := H
                     go_wp2
                     go_ret
                     exact ⟨by first | rfl | (simp; done) | (simp [*]; done), dr_⟩
                   ·
                    rw [if_neg c48] at H
                    have c48b0 : decide (160 < a0) = false := decide_eq_false c48
                    clear c48
                    obtain rfl := Option.some.inj H
                    simp only [Option.some.injEq, Prod.mk.injEq] at H
                    obtain ⟨rfl⟩ := H
                    go_wp2
                    go_ret
                    exact ⟨by first | rfl | (simp; done) | (simp [*]; done), dr_⟩
                 ·
                  rw [if_neg c46] at H
                  have c46b0 : decide (128 < a0) = false := decide_eq_false c46
                  clear c46
                  by_cases c50 : a0 > 160
                  ·
                   rw [if_pos c50] at H
                   have c50b0 : decide (160 < a0) = true := decide_eq_true c50
                   clear c50
                   by_cases c51 : a0 ≤ 169
                   ·
                    rw [if_pos c51] at H
                    have c51b0 : decide (a0 ≤ 169) = true := decide_eq_true c51
                    clear c51
                    obtain rfl := Option.some.inj H
                    simp only [Option.some.injEq, Prod.mk.injEq] at H
                    obtain ⟨rfl⟩ := H
                    go_wp2
                    go_ret
                    exact ⟨by first | rfl | (simp; done) | (simp [*]; done), dr_⟩
                   ·
                    rw [if_neg c51] at H
                    have c51b0 : decide (a0 ≤ 169) = false := decide_eq_false c51
                    clear c51
                    obtain rfl := Option.some.inj H
                    simp only [Option.some.injEq, Prod.mk.injEq] at H
                    obtain ⟨rfl⟩ := H
                    go_wp2
                    go_ret
                    exact ⟨by first | rfl | (simp; done) | (simp [*]; done), dr_⟩
                  ·
                   rw [if_neg c50] at H
                   have c50b0 : decide (160 < a0) = false := decide_eq_false c50
                   clear c50
                   obtain rfl := Option.some.inj H
                   simp only [Option.some.injEq, Prod.mk.injEq] at H
                   obtain ⟨rfl⟩ := H
                   go_wp2
                   go_ret
                   exact ⟨by first | rfl | (simp; done) | (simp [*]; done), dr_⟩


/-! ### impl_TakeUleb: function 62 -/
mutual
def impl_TakeUleb.j0 : Nat → ByteArray → Int → Bool → Option (Int × Int)
 | 0, _, _, _ => none
 | k + 1, x0, x1, x15 => if x15 = true then (some (0, 0)) else (impl_TakeUleb.l0 k x0 x1 0 0)
def impl_TakeUleb.l0 : Nat → ByteArray → Int → Int → Int → Option (Int × Int)
 | 0, _, _, _, _ => none
 | k + 1, x0, x1, x6, x7 => if x7 < (x0.size : Int) then (impl_TakeUleb.j2 k x0 x1 x6 x7 (decide (x7 < (wrap64 (Int.tdiv (wrap64 (x1 + 6)) 7))))) else (impl_TakeUleb.j2 k x0 x1 x6 x7 false)
def impl_TakeUleb.j2 : Nat → ByteArray → Int → Int → Int → Bool → Option (Int × Int)
 | 0, _, _, _, _, _ => none
 | k + 1, x0, x1, x6, x7, x26 => if x26 = true then (if 0 ≤ x7 then (if x7 < (x0.size : Int) then (if (wrap64 (x1 - (wrap64 (7 * x7)))) < 7 then (if 0 ≤ (wrap64 (x1 - (wrap64 (7 * x7)))) then (impl_TakeUleb.j3 k x0 x1 x6 x7 (IntKind.u64.wrap (Go.bits .and .u8 (bt x0 x7) 127)) ((shr .u64 (IntKind.u64.wrap (Go.bits .and .u8 (bt x0 x7) 127)) (wrap64 (x1 - (wrap64 (7 * x7))))) != 0)) else (none)) else (impl_TakeUleb.j3 k x0 x1 x6 x7 (IntKind.u64.wrap (Go.bits .and .u8 (bt x0 x7) 127)) false)) else (none)) else (none)) else (some (0, 0))
def impl_TakeUleb.j3 : Nat → ByteArray → Int → Int → Int → Int → Bool → Option (Int × Int)
 | 0, _, _, _, _, _, _ => none
 | k + 1, x0, x1, x6, x7, x8, x45 => if x45 = true then (some (0, 0)) else (if 0 ≤ (wrap64 (7 * x7)) then (if 0 ≤ x7 then (if x7 < (x0.size : Int) then (if (bt x0 x7) < 128 then (some (Go.bits .or .u64 x6 (shl .u64 x8 (wrap64 (7 * x7))), wrap64 (x7 + 1))) else (impl_TakeUleb.l0 k x0 x1 (Go.bits .or .u64 x6 (shl .u64 x8 (wrap64 (7 * x7)))) (wrap64 (x7 + 1)))) else (none)) else (none)) else (none))
end
def impl_TakeUleb.f (k : Nat) (a0 : ByteArray) (a1 : Int) : Option (Int × Int) := if a1 < 1 then (impl_TakeUleb.j0 k a0 a1 true) else (impl_TakeUleb.j0 k a0 a1 (decide (a1 > 64)))
theorem impl_TakeUleb.mono_l : ∀ k, (∀ y0 y1 y2, LeO (impl_TakeUleb.j0 k y0 y1 y2) (impl_TakeUleb.j0 (k + 1) y0 y1 y2)) ∧ (∀ y0 y1 y2 y3, LeO (impl_TakeUleb.l0 k y0 y1 y2 y3) (impl_TakeUleb.l0 (k + 1) y0 y1 y2 y3)) ∧ (∀ y0 y1 y2 y3 y4, LeO (impl_TakeUleb.j2 k y0 y1 y2 y3 y4) (impl_TakeUleb.j2 (k + 1) y0 y1 y2 y3 y4)) ∧ (∀ y0 y1 y2 y3 y4 y5, LeO (impl_TakeUleb.j3 k y0 y1 y2 y3 y4 y5) (impl_TakeUleb.j3 (k + 1) y0 y1 y2 y3 y4 y5))
 | 0 => ⟨fun _ _ _ r h => by simp [impl_TakeUleb.j0] at h, fun _ _ _ _ r h => by simp [impl_TakeUleb.l0] at h, fun _ _ _ _ _ r h => by simp [impl_TakeUleb.j2] at h, fun _ _ _ _ _ _ r h => by simp [impl_TakeUleb.j3] at h⟩
 | k + 1 => by
  obtain ⟨ih0, ih1, ih2, ih3⟩ := impl_TakeUleb.mono_l k
  refine ⟨?_, ?_, ?_, ?_⟩
  ·
   intro y0 y1 y2
   unfold impl_TakeUleb.j0
   repeat' first
   | (with_reducible exact ih0 _ _ _)
   | (with_reducible exact ih1 _ _ _ _)
   | (with_reducible exact ih2 _ _ _ _ _)
   | (with_reducible exact ih3 _ _ _ _ _ _)
   | (with_reducible exact LeO.refl _)
   | (with_reducible exact LeO.none _)
   | (with_reducible refine LeO.ite ?_ ?_)
   | (with_reducible refine LeO.bind ?_ (fun _ => ?_))
   | exact ih0 _ _ _
   | exact ih1 _ _ _ _
   | exact ih2 _ _ _ _ _
   | exact ih3 _ _ _ _ _ _
   | exact LeO.none _
   | refine LeO.ite ?_ ?_
   | refine LeO.bind ?_ (fun _ => ?_)
  ·
   intro y0 y1 y2 y3
   unfold impl_TakeUleb.l0
   repeat' first
   | (with_reducible exact ih0 _ _ _)
   | (with_reducible exact ih1 _ _ _ _)
   | (with_reducible exact ih2 _ _ _ _ _)
   | (with_reducible exact ih3 _ _ _ _ _ _)
   | (with_reducible exact LeO.refl _)
   | (with_reducible exact LeO.none _)
   | (with_reducible refine LeO.ite ?_ ?_)
   | (with_reducible refine LeO.bind ?_ (fun _ => ?_))
   | exact ih0 _ _ _
   | exact ih1 _ _ _ _
   | exact ih2 _ _ _ _ _
   | exact ih3 _ _ _ _ _ _
   | exact LeO.none _
   | refine LeO.ite ?_ ?_
   | refine LeO.bind ?_ (fun _ => ?_)
  ·
   intro y0 y1 y2 y3 y4
   unfold impl_TakeUleb.j2
   repeat' first
   | (with_reducible exact ih0 _ _ _)
   | (with_reducible exact ih1 _ _ _ _)
   | (with_reducible exact ih2 _ _ _ _ _)
   | (with_reducible exact ih3 _ _ _ _ _ _)
   | (with_reducible exact LeO.refl _)
   | (with_reducible exact LeO.none _)
   | (with_reducible refine LeO.ite ?_ ?_)
   | (with_reducible refine LeO.bind ?_ (fun _ => ?_))
   | exact ih0 _ _ _
   | exact ih1 _ _ _ _
   | exact ih2 _ _ _ _ _
   | exact ih3 _ _ _ _ _ _
   | exact LeO.none _
   | refine LeO.ite ?_ ?_
   | refine LeO.bind ?_ (fun _ => ?_)
  ·
   intro y0 y1 y2 y3 y4 y5
   unfold impl_TakeUleb.j3
   repeat' first
   | (with_reducible exact ih0 _ _ _)
   | (with_reducible exact ih1 _ _ _ _)
   | (with_reducible exact ih2 _ _ _ _ _)
   | (with_reducible exact ih3 _ _ _ _ _ _)
   | (with_reducible exact LeO.refl _)
   | (with_reducible exact LeO.none _)
   | (with_reducible refine LeO.ite ?_ ?_)
   | (with_reducible refine LeO.bind ?_ (fun _ => ?_))
   | exact ih0 _ _ _
   | exact ih1 _ _ _ _
   | exact ih2 _ _ _ _ _
   | exact ih3 _ _ _ _ _ _
   | exact LeO.none _
   | refine LeO.ite ?_ ?_
   | refine LeO.bind ?_ (fun _ => ?_)
set_option maxHeartbeats 8000000 in
set_option maxRecDepth 100000 in
theorem impl_TakeUleb.calls (k : Nat) (a0 : ByteArray) (a1 : Int) (r1 : Int) (r2 : Int) (w : World) (h : impl_TakeUleb.f k a0 a1 = some (r1, r2)) :
  Calls Try.prog 62 #[.string a0, .int .i64 a1] w fun e w' => e = .returned (.tuple #[.int .u64 r1, .int .i64 r2]) ∧ Drawn0 w w' := by
 have H : (if a1 < 1 then (impl_TakeUleb.j0 k a0 a1 true) else (impl_TakeUleb.j0 k a0 a1 (decide (a1 > 64)))) = some (r1, r2) := h
 clear h
 have HC3 := Aside0.mk H
 clear H
 go_enter Try.func62, Try.ntmps62
 go_upto_region 1 with (fail)
 go_cut [15] (fun v15 wc => ∃ (kq : Nat) (x15_2 : Bool), v15 = .bool x15_2 ∧ Aside0 (impl_TakeUleb.j0 kq a0 a1 x15_2 = some (r1, r2)) ∧ Aside0 (kq ≤ k) ∧ Drawn0 w wc)
 case first =>
  have H := HC3.out
  clear HC3
  by_cases c4 : a1 < 1
  ·
   rw [if_pos c4] at H
   have c4b0 : decide (a1 < 1) = true := decide_eq_true c4
   clear c4
   (first | rw [c4b0] | (simp only [i64_w, i32_w]; rw [c4b0]) | skip)
   have H' := Aside0.mk H
   clear H
   go_wp2
   go_meet
   case rel => exact ⟨_, (true), (by first | rfl | (simp; done) | (simp [*]; done)), H', ⟨by first | omega | exact Nat.le_refl _⟩, dr_⟩
  ·
   rw [if_neg c4] at H
   have c4b0 : decide (a1 < 1) = false := decide_eq_false c4
   clear c4
   (first | rw [c4b0] | (simp only [i64_w, i32_w]; rw [c4b0]) | skip)
   have H' := Aside0.mk H
   clear H
   go_wp2
   go_meet
   case rel => exact ⟨_, (decide (a1 > 64)), (by first | rfl | (simp; done) | (simp [*]; done)), H', ⟨by first | omega | exact Nat.le_refl _⟩, dr_⟩
 case rest =>
  clear HC3
  obtain ⟨kq, x15_2, rfl, HA, HJ2, ⟨mc2, rfl⟩⟩ := hcut
  cases kq with
  | zero => exact absurd HA.out (by simp [impl_TakeUleb.j0])
  | succ kj2 =>
   have H := HA.out
   clear HA
   simp only [impl_TakeUleb.j0] at H
   by_cases c5 : x15_2 = true
   ·
    subst c5
    have H1 : (some (0, 0)) = some (r1, r2) := by rw [if_pos rfl] at H; exact H
    clear H
    have H := H1
    clear H1
    simp only [Option.some.injEq, Prod.mk.injEq] at H
    obtain ⟨rfl, rfl⟩ := H
    go_wp2
    go_ret2
    exact ⟨by first | rfl | (simp; done) | (simp [*]; done), dr_⟩
   ·
    replace c5 := Bool.eq_false_iff.mpr c5
    subst c5
    have H1 : (impl_TakeUleb.l0 kj2 a0 a1 0 0) = some (r1, r2) := by rw [if_neg (show ¬ (false = true) by decide)] at H; exact H
    clear H
    have H := H1
    clear H1
    have H' := Aside0.mk H
    clear H
    go_wp2
    (try simp only [Act.put, List.setIfInBounds_toArray, List.set_cons_zero, List.set_cons_succ])
    go_loopg [6, 7] kj2 (fun kq v6 v7 w' => ∃ (x6_2 : Int) (x7_2 : Int), v6 = .int .u64 x6_2 ∧ v7 = .int .i64 x7_2 ∧ Aside0 (impl_TakeUleb.l0 kq a0 a1 x6_2 x7_2 = some (r1, r2)) ∧ Aside0 (kq ≤ kj2) ∧ Drawn0 w w')
    case atStart => exact ⟨(0), (0), (by first | rfl | (simp; done) | (simp [*]; done)), (by first | rfl | (simp; done) | (simp [*]; done)), H', ⟨Nat.le_refl _⟩, dr_⟩
    case round =>
     clear H'
     try clear c5
     obtain ⟨x6_2, x7_2, rfl, rfl, HA, HK2, ⟨m2, rfl⟩⟩ := hrel
     cases gk with
     | zero => exact absurd HA.out (by simp [impl_TakeUleb.l0])
     | succ k2 =>
      have H := HA.out
      clear HA
      simp only [impl_TakeUleb.l0] at H
      have HC6 := Aside0.mk H
      clear H
      go_upto_region 5 with (fail)
      go_cut [26] (fun v26 wc => ∃ (kq : Nat) (x26_5 : Bool), v26 = .bool x26_5 ∧ Aside0 (impl_TakeUleb.j2 kq a0 a1 x6_2 x7_2 x26_5 = some (r1, r2)) ∧ Aside0 (kq ≤ k2) ∧ Drawn0 w wc)
      case first =>
       have H := HC6.out
       clear HC6
       by_cases c7 : x7_2 < (a0.size : Int)
       ·
        rw [if_pos c7] at H
        have c7b0 : decide (x7_2 < (a0.size : Int)) = true := decide_eq_true c7
        clear c7
        (first | rw [c7b0] | (simp only [i64_w, i32_w]; rw [c7b0]) | skip)
        have H' := Aside0.mk H
        clear H
        go_wp2
        go_meet
        case rel => exact ⟨_, (decide (x7_2 < (wrap64 (Int.tdiv (wrap64 (a1 + 6)) 7)))), (by first | rfl | (simp; done) | (simp [*]; done)), H', ⟨by have := HJ2.out; have := HK2.out; first | omega | exact Nat.le_refl _⟩, dr_⟩
       ·
        rw [if_neg c7] at H
        have c7b0 : decide (x7_2 < (a0.size : Int)) = false := decide_eq_false c7
        clear c7
        (first | rw [c7b0] | (simp only [i64_w, i32_w]; rw [c7b0]) | skip)
        have H' := Aside0.mk H
        clear H
        go_wp2
        go_meet
        case rel => exact ⟨_, (false), (by first | rfl | (simp; done) | (simp [*]; done)), H', ⟨by have := HJ2.out; have := HK2.out; first | omega | exact Nat.le_refl _⟩, dr_⟩
      case rest =>
       clear HC6
       try clear c5
       obtain ⟨kq, x26_5, rfl, HA, HJ5, ⟨mc5, rfl⟩⟩ := hcut
       cases kq with
       | zero => exact absurd HA.out (by simp [impl_TakeUleb.j2])
       | succ kj5 =>
        have H := HA.out
        clear HA
        simp only [impl_TakeUleb.j2] at H
        by_cases c8 : x26_5 = true
        ·
         subst c8
         have H1 : (if 0 ≤ x7_2 then (if x7_2 < (a0.size : Int) then (if (wrap64 (a1 - (wrap64 (7 * x7_2)))) < 7 then (if 0 ≤ (wrap64 (a1 - (wrap64 (7 * x7_2)))) then (impl_TakeUleb.j3 kj5 a0 a1 x6_2 x7_2 (IntKind.u64.wrap (Go.bits .and .u8 (bt a0 x7_2) 127)) ((shr .u64 (IntKind.u64.wrap (Go.bits .and .u8 (bt a0 x7_2) 127)) (wrap64 (a1 - (wrap64 (7 * x7_2))))) != 0)) else (none)) else (impl_TakeUleb.j3 kj5 a0 a1 x6_2 x7_2 (IntKind.u64.wrap (Go.bits .and .u8 (bt a0 x7_2) 127)) false)) else (none)) else (none)) = some (r1, r2) := by rw [if_pos rfl] at H; exact H
         clear H
         have H := H1
         clear H1
         by_cases c9 : 0 ≤ x7_2
         ·
          rw [if_pos c9] at H
          have c9b0 : decide (0 ≤ x7_2) = true := decide_eq_true c9
          clear c9
          by_cases c10 : x7_2 < (a0.size : Int)
          ·
           rw [if_pos c10] at H
           have c10b0 : decide (x7_2 < (a0.size : Int)) = true := decide_eq_true c10
           clear c10
           have HC12 := Aside0.mk H
           clear H
           have p11 : 0 ≤ (x7_2 : Int) := od_
           have q11 : x7_2 < (a0.size : Int) := od_
           have hx11 := bt_at a0 x7_2
           replace p11 := eq_true p11
           replace q11 := eq_true q11
           go_upto_region 9 with (fail)
           go_cut [45] (fun v45 wc => ∃ (kq : Nat) (x45_11 : Bool), v45 = .bool x45_11 ∧ Aside0 (impl_TakeUleb.j3 kq a0 a1 x6_2 x7_2 (IntKind.u64.wrap (Go.bits .and .u8 (bt a0 x7_2) 127)) x45_11 = some (r1, r2)) ∧ Aside0 (kq ≤ kj5) ∧ Drawn0 w wc)
           case first =>
            have H := HC12.out
            clear HC12
            by_cases c13 : (wrap64 (a1 - (wrap64 (7 * x7_2)))) < 7
            ·
             rw [if_pos c13] at H
             have c13b0 : decide ((wrap64 (a1 - (wrap64 (7 * x7_2)))) < 7) = true := decide_eq_true c13
             clear c13
             (first | rw [c13b0] | (simp only [i64_w, i32_w]; rw [c13b0]) | skip)
             obtain ⟨ji14, hji14⟩ : ∃ j_ : Int, (wrap64 (a1 - (wrap64 (7 * x7_2)))) = j_ := ⟨_, rfl⟩
             replace H : (if 0 ≤ (ji14) then (impl_TakeUleb.j3 kj5 a0 a1 x6_2 x7_2 (IntKind.u64.wrap (Go.bits .and .u8 (bt a0 x7_2) 127)) ((shr .u64 (IntKind.u64.wrap (Go.bits .and .u8 (bt a0 x7_2) 127)) (ji14)) != 0)) else (none)) = some (r1, r2) := by first | (rw [hji14] at H; exact H) | (simp only [hji14] at H ⊢; exact H)
             (try rw [hji14] at c13b0)
             have hji14w : (IntKind.i64.wrap (a1 - (wrap64 (7 * x7_2)))) = ji14 := (i64_w _).trans hji14
             by_cases c15 : 0 ≤ (ji14)
             ·
              rw [if_pos c15] at H
              have c15b0 := eq_true c15
              have c15b1 : decide (0 ≤ (ji14)) = true := decide_eq_true c15
              clear c15
              obtain ⟨ji16, hji16⟩ : ∃ j_ : Int, (shr .u64 (IntKind.u64.wrap (Go.bits .and .u8 (bt a0 x7_2) 127)) (ji14)) = j_ := ⟨_, rfl⟩
              replace H : (impl_TakeUleb.j3 kj5 a0 a1 x6_2 x7_2 (IntKind.u64.wrap (Go.bits .and .u8 (bt a0 x7_2) 127)) ((ji16) != 0)) = some (r1, r2) := by first | (rw [hji16] at H; exact H) | (simp only [hji16] at H ⊢; exact H)
              have hji16_ : ((IntKind.u64.wrap (Go.bits .and .u8 (bt a0 x7_2) 127)) / 2 ^ min (ji14).toNat 64) = ji16 := hji16
              have hji16z : (ji14) ≤ 64 → ((IntKind.u64.wrap (Go.bits .and .u8 (bt a0 x7_2) 127)) / 2 ^ (ji14).toNat) = ji16 := shr_small hji16
              have H' := Aside0.mk H
              clear H
              go_wp2
              first | go_meet | ((simp only [← hji16]); go_meet) | ((simp only [← hji14]); go_meet) | ((simp only [← hji16, ← hji14]); go_meet)
              case rel => exact ⟨_, (((ji16) != 0)), (by first | rfl | (simp; done) | (simp only [← hji16] <;> (first | rfl | simp)) | (simp [*]; done)), H', ⟨by have := HJ2.out; have := HK2.out; have := HJ5.out; first | omega | exact Nat.le_refl _⟩, dr_⟩
             ·
              rw [if_neg c15] at H
              exact absurd H (by simp)
            ·
             rw [if_neg c13] at H
             have c13b0 : decide ((wrap64 (a1 - (wrap64 (7 * x7_2)))) < 7) = false := decide_eq_false c13
             clear c13
             (first | rw [c13b0] | (simp only [i64_w, i32_w]; rw [c13b0]) | skip)
             have H' := Aside0.mk H
             clear H
             go_wp2
             go_meet
             case rel => exact ⟨_, (false), (by first | rfl | (simp; done) | (simp [*]; done)), H', ⟨by have := HJ2.out; have := HK2.out; have := HJ5.out; first | omega | exact Nat.le_refl _⟩, dr_⟩
           case rest =>
            clear HC12
            try clear c5
            try clear c8
            try clear c9
            try clear c9b0
            try clear c10
            try clear c10b0
            try clear p11
            try clear q11
            try clear hx11
            try clear p11
            try clear q11
            obtain ⟨kq, x45_11, rfl, HA, HJ11, ⟨mc11, rfl⟩⟩ := hcut
            cases kq with
            | zero => exact absurd HA.out (by simp [impl_TakeUleb.j3])
            | succ kj11 =>
             have H := HA.out
             clear HA
             simp only [impl_TakeUleb.j3] at H
             by_cases c17 : x45_11 = true
             ·
              subst c17
              have H1 : (some (0, 0)) = some (r1, r2) := by rw [if_pos rfl] at H; exact H
              clear H
              have H := H1
              clear H1
              simp only [Option.some.injEq, Prod.mk.injEq] at H
              obtain ⟨rfl, rfl⟩ := H
              go_wp2
              go_ret2
              exact ⟨by first | rfl | (simp; done) | (simp [*]; done), dr_⟩
             ·
              replace c17 := Bool.eq_false_iff.mpr c17
              subst c17
              have H1 : (if 0 ≤ (wrap64 (7 * x7_2)) then (if 0 ≤ x7_2 then (if x7_2 < (a0.size : Int) then (if (bt a0 x7_2) < 128 then (some (Go.bits .or .u64 x6_2 (shl .u64 (IntKind.u64.wrap (Go.bits .and .u8 (bt a0 x7_2) 127)) (wrap64 (7 * x7_2))), wrap64 (x7_2 + 1))) else (impl_TakeUleb.l0 kj11 a0 a1 (Go.bits .or .u64 x6_2 (shl .u64 (IntKind.u64.wrap (Go.bits .and .u8 (bt a0 x7_2) 127)) (wrap64 (7 * x7_2)))) (wrap64 (x7_2 + 1)))) else (none)) else (none)) else (none)) = some (r1, r2) := by rw [if_neg (show ¬ (false = true) by decide)] at H; exact H
              clear H
              have H := H1
              clear H1
              obtain ⟨ji18, hji18⟩ : ∃ j_ : Int, (wrap64 (7 * x7_2)) = j_ := ⟨_, rfl⟩
              replace H : (if 0 ≤ (ji18) then (if 0 ≤ x7_2 then (if x7_2 < (a0.size : Int) then (if (bt a0 x7_2) < 128 then (some (Go.bits .or .u64 x6_2 (shl .u64 (IntKind.u64.wrap (Go.bits .and .u8 (bt a0 x7_2) 127)) (ji18)), wrap64 (x7_2 + 1))) else (impl_TakeUleb.l0 kj11 a0 a1 (Go.bits .or .u64 x6_2 (shl .u64 (IntKind.u64.wrap (Go.bits .and .u8 (bt a0 x7_2) 127)) (ji18))) (wrap64 (x7_2 + 1)))) else (none)) else (none)) else (none)) = some (r1, r2) := by first | (rw [hji18] at H; exact H) | (simp only [hji18] at H ⊢; exact H)
              have hji18w : (IntKind.i64.wrap (7 * x7_2)) = ji18 := (i64_w _).trans hji18
              by_cases c19 : 0 ≤ (ji18)
              ·
               rw [if_pos c19] at H
               have c19b0 := eq_true c19
               have c19b1 : decide (0 ≤ (ji18)) = true := decide_eq_true c19
               clear c19
               obtain ⟨ji20, hji20⟩ : ∃ j_ : Int, (shl .u64 (IntKind.u64.wrap (Go.bits .and .u8 (bt a0 x7_2) 127)) (ji18)) = j_ := ⟨_, rfl⟩
               replace H : (if 0 ≤ x7_2 then (if x7_2 < (a0.size : Int) then (if (bt a0 x7_2) < 128 then (some (Go.bits .or .u64 x6_2 (ji20), wrap64 (x7_2 + 1))) else (impl_TakeUleb.l0 kj11 a0 a1 (Go.bits .or .u64 x6_2 (ji20)) (wrap64 (x7_2 + 1)))) else (none)) else (none)) = some (r1, r2) := by first | (rw [hji20] at H; exact H) | (simp only [hji20] at H ⊢; exact H)
               have hji20_ : (IntKind.u64.wrap ((IntKind.u64.wrap (Go.bits .and .u8 (bt a0 x7_2) 127)) * 2 ^ min (ji18).toNat 64)) = ji20 := hji20
               have hji20z : (ji18) ≤ 64 → (IntKind.u64.wrap ((IntKind.u64.wrap (Go.bits .and .u8 (bt a0 x7_2) 127)) * 2 ^ (ji18).toNat)) = ji20 := shl_small hji20
               by_cases c21 : 0 ≤ x7_2
               ·
                rw [if_pos c21] at H
                have c21b0 : decide (0 ≤ x7_2) = true := decide_eq_true c21
                clear c21
                by_cases c22 : x7_2 < (a0.size : Int)
                ·
                 rw [if_pos c22] at H
                 have c22b0 : decide (x7_2 < (a0.size : Int)) = true := decide_eq_true c22
                 clear c22
                 by_cases c24 : (bt a0 x7_2) < 128
                 ·
                  rw [if_pos c24] at H
                  have c24b0 : decide ((bt a0 x7_2) < 128) = true := decide_eq_true c24
                  clear c24
                  simp only [Option.some.injEq, Prod.mk.injEq] at H
                  obtain ⟨rfl, rfl⟩ := H
                  have p23 : 0 ≤ (x7_2 : Int) := od_
                  have q23 : x7_2 < (a0.size : Int) := od_
                  have hx23 := bt_at a0 x7_2
                  replace p23 := eq_true p23
                  replace q23 := eq_true q23
                  go_wp2
                  go_ret2
                  exact ⟨by first | rfl | (simp; done) | (simp only [← hji18, ← hji20] <;> (first | rfl | simp)) | (simp [*]; done), dr_⟩
                 ·
                  rw [if_neg c24] at H
                  have c24b0 : decide ((bt a0 x7_2) < 128) = false := decide_eq_false c24
                  clear c24
                  have H' := Aside0.mk H
                  clear H
                  have p23 : 0 ≤ (x7_2 : Int) := od_
                  have q23 : x7_2 < (a0.size : Int) := od_
                  have hx23 := bt_at a0 x7_2
                  replace p23 := eq_true p23
                  replace q23 := eq_true q23
                  go_wp2
                  go_roundg kj11
                  case measure => have := HJ2.out; have := HK2.out; have := HJ5.out; have := HJ11.out; omega
                  case rel => exact ⟨(Go.bits .or .u64 x6_2 (ji20)), (wrap64 (x7_2 + 1)), (by first | rfl | (simp; done) | (simp only [← hji20] <;> (first | rfl | simp)) | (simp [*]; done)), (by first | rfl | (simp; done) | (simp [*]; done)), H', ⟨by have := HJ2.out; have := HK2.out; have := HJ5.out; have := HJ11.out; omega⟩, dr_⟩
                ·
                 rw [if_neg c22] at H
                 exact absurd H (by simp)
               ·
                rw [if_neg c21] at H
                exact absurd H (by simp)
              ·
               rw [if_neg c19] at H
               exact absurd H (by simp)
          ·
           rw [if_neg c10] at H
           exact absurd H (by simp)
         ·
          rw [if_neg c9] at H
          exact absurd H (by simp)
        ·
         replace c8 := Bool.eq_false_iff.mpr c8
         subst c8
         have H1 : (some (0, 0)) = some (r1, r2) := by rw [if_neg (show ¬ (false = true) by decide)] at H; exact H
         clear H
         have H := H1
         clear H1
         simp only [Option.some.injEq, Prod.mk.injEq] at H
         obtain ⟨rfl, rfl⟩ := H
         go_wp2
         go_ret2
         exact ⟨by first | rfl | (simp; done) | (simp [*]; done), dr_⟩

end Go.Proofs.Ytmmlgkepnjelnaa.Q

