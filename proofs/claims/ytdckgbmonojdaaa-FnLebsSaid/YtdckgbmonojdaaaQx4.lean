-- Written by a program of this session; it walks the functions that the law reaches.
import Derived.Test.YtdckgbmonojdaaaQx0
import Derived.Test.YtdckgbmonojdaaaQx2
namespace Go.Proofs.Ytdckgbmonojdaaa.Q
open Go.RowKit Go.Proofs.YtdckgbmonojdaaaW.PrintWords Go.Proofs.YtdckgbmonojdaaaW.PrintLast Go.Proofs.YtdckgbmonojdaaaW.PrintMore
attribute [local go_sem] max2_int min2_int max_two min_two max_three min_three max_four min_four   -- for this text's walks alone
set_option linter.unusedVariables false
set_option linter.unusedSimpArgs false

/-! ### spec_DrawTakeSleb: function 23 -/
def spec_DrawTakeSleb.f (k : Nat) (l0 : List Int) : Option (ByteArray × Int) := (spec_l1Cur_signed.f k l0 0 0).bind fun bt330 => ((spec_SlebBytes.f k bt330.1).bind fun t333 => ((spec_l1Cur_pick.f l0 bt330.2.1 bt330.2.2 5).bind fun bt334 => (if bt334.1 = 0 then ((spec_l1Cur_of.f l0 bt334.2.1 bt334.2.2 (([(⟨#[]⟩ : ByteArray), (⟨#[128]⟩ : ByteArray), (⟨#[255, 127]⟩ : ByteArray), (⟨#[255, 255, 255, 255, 127]⟩ : ByteArray), (⟨#[255, 255, 255, 255, 15]⟩ : ByteArray), (⟨#[128, 128, 128, 128, 120]⟩ : ByteArray), (⟨#[128, 128, 128, 128, 112]⟩ : ByteArray), (⟨#[128, 128, 128, 128, 128, 128, 128, 128, 128, 127]⟩ : ByteArray)] : List ByteArray))).bind fun bt340 => ((spec_l1Cur_bits.f l0 bt340.2.1 bt340.2.2).bind fun bt343 => (some (bt340.1, bt343.1)))) else (if bt334.1 = 1 then ((spec_l1Cur_bytes.f k l0 bt334.2.1 bt334.2.2 4).bind fun bt346 => (if t333.size + (strOfNums bt346.1).size ≤ 9223372036854775807 then ((spec_l1Cur_bits.f l0 bt346.2.1 bt346.2.2).bind fun bt351 => (some (t333 ++ (strOfNums bt346.1), bt351.1))) else (none))) else ((spec_l1Cur_bits.f l0 bt334.2.1 bt334.2.2).bind fun bt354 => (some (t333, bt354.1)))))))
theorem spec_DrawTakeSleb.mono : ∀ a0 k, LeO (spec_DrawTakeSleb.f k a0) (spec_DrawTakeSleb.f (k + 1) a0) := by
 intro a0 k
 unfold spec_DrawTakeSleb.f
 repeat' first
   | (with_reducible exact spec_SlebBytes.mono _ _)
   | (with_reducible exact spec_l1Cur_bytes.mono _ _ _ _ _)
   | (with_reducible exact spec_l1Cur_signed.mono _ _ _ _)
   | (with_reducible exact LeO.refl _)
   | (with_reducible exact LeO.none _)
   | (with_reducible refine LeO.ite ?_ ?_)
   | (with_reducible refine LeO.bind ?_ (fun _ => ?_))
   | exact spec_SlebBytes.mono _ _
   | exact spec_l1Cur_bytes.mono _ _ _ _ _
   | exact spec_l1Cur_signed.mono _ _ _ _
   | exact LeO.none _
   | refine LeO.ite ?_ ?_
   | refine LeO.bind ?_ (fun _ => ?_)
set_option maxHeartbeats 8000000 in
set_option maxRecDepth 100000 in
theorem spec_DrawTakeSleb.calls (k : Nat) (A0 : Option Addr) (c0 : Nat) (l0 : List Int) (r1 : ByteArray) (r2 : Int) (w : World) (hr0 : Kd.C (Kd.int .u8) w A0 l0.length l0) (hc0 : l0.length ≤ c0) (h : spec_DrawTakeSleb.f k l0 = some (r1, r2)) :
  Calls Try.prog 23 #[.slice A0 l0.length c0] w fun e w' => e = .returned (.tuple #[.string r1, .int .i64 r2]) ∧ Below w.heap.size w w' := by
 have hu78 := Try.underlying78
 have HR0 := Aside0.mk hr0
 have HC0 := Aside0.mk hc0
 clear hr0 hc0
 have HB := Aside0.mk (Below.refl w.heap.size w)
 have H : ((spec_l1Cur_signed.f k l0 0 0).bind fun bt330 => ((spec_SlebBytes.f k bt330.1).bind fun t333 => ((spec_l1Cur_pick.f l0 bt330.2.1 bt330.2.2 5).bind fun bt334 => (if bt334.1 = 0 then ((spec_l1Cur_of.f l0 bt334.2.1 bt334.2.2 (([(⟨#[]⟩ : ByteArray), (⟨#[128]⟩ : ByteArray), (⟨#[255, 127]⟩ : ByteArray), (⟨#[255, 255, 255, 255, 127]⟩ : ByteArray), (⟨#[255, 255, 255, 255, 15]⟩ : ByteArray), (⟨#[128, 128, 128, 128, 120]⟩ : ByteArray), (⟨#[128, 128, 128, 128, 112]⟩ : ByteArray), (⟨#[128, 128, 128, 128, 128, 128, 128, 128, 128, 127]⟩ : ByteArray)] : List ByteArray))).bind fun bt340 => ((spec_l1Cur_bits.f l0 bt340.2.1 bt340.2.2).bind fun bt343 => (some (bt340.1, bt343.1)))) else (if bt334.1 = 1 then ((spec_l1Cur_bytes.f k l0 bt334.2.1 bt334.2.2 4).bind fun bt346 => (if t333.size + (strOfNums bt346.1).size ≤ 9223372036854775807 then ((spec_l1Cur_bits.f l0 bt346.2.1 bt346.2.2).bind fun bt351 => (some (t333 ++ (strOfNums bt346.1), bt351.1))) else (none))) else ((spec_l1Cur_bits.f l0 bt334.2.1 bt334.2.2).bind fun bt354 => (some (t333, bt354.1)))))))) = some (r1, r2) := h
 clear h
 replace H := Option.bind_eq_some_iff.mp H
 obtain ⟨⟨t330, t331, t332⟩, A20, H⟩ := H
 replace H : ((spec_SlebBytes.f k t330).bind fun t333 => ((spec_l1Cur_pick.f l0 t331 t332 5).bind fun bt334 => (if bt334.1 = 0 then ((spec_l1Cur_of.f l0 bt334.2.1 bt334.2.2 (([(⟨#[]⟩ : ByteArray), (⟨#[128]⟩ : ByteArray), (⟨#[255, 127]⟩ : ByteArray), (⟨#[255, 255, 255, 255, 127]⟩ : ByteArray), (⟨#[255, 255, 255, 255, 15]⟩ : ByteArray), (⟨#[128, 128, 128, 128, 120]⟩ : ByteArray), (⟨#[128, 128, 128, 128, 112]⟩ : ByteArray), (⟨#[128, 128, 128, 128, 128, 128, 128, 128, 128, 127]⟩ : ByteArray)] : List ByteArray))).bind fun bt340 => ((spec_l1Cur_bits.f l0 bt340.2.1 bt340.2.2).bind fun bt343 => (some (bt340.1, bt343.1)))) else (if bt334.1 = 1 then ((spec_l1Cur_bytes.f k l0 bt334.2.1 bt334.2.2 4).bind fun bt346 => (if t333.size + (strOfNums bt346.1).size ≤ 9223372036854775807 then ((spec_l1Cur_bits.f l0 bt346.2.1 bt346.2.2).bind fun bt351 => (some (t333 ++ (strOfNums bt346.1), bt351.1))) else (none))) else ((spec_l1Cur_bits.f l0 bt334.2.1 bt334.2.2).bind fun bt354 => (some (t333, bt354.1))))))) = some (r1, r2) := H
 have A2 := Aside0.mk A20
 clear A20
 replace H := Option.bind_eq_some_iff.mp H
 obtain ⟨t333, A30, H⟩ := H
 replace H : ((spec_l1Cur_pick.f l0 t331 t332 5).bind fun bt334 => (if bt334.1 = 0 then ((spec_l1Cur_of.f l0 bt334.2.1 bt334.2.2 (([(⟨#[]⟩ : ByteArray), (⟨#[128]⟩ : ByteArray), (⟨#[255, 127]⟩ : ByteArray), (⟨#[255, 255, 255, 255, 127]⟩ : ByteArray), (⟨#[255, 255, 255, 255, 15]⟩ : ByteArray), (⟨#[128, 128, 128, 128, 120]⟩ : ByteArray), (⟨#[128, 128, 128, 128, 112]⟩ : ByteArray), (⟨#[128, 128, 128, 128, 128, 128, 128, 128, 128, 127]⟩ : ByteArray)] : List ByteArray))).bind fun bt340 => ((spec_l1Cur_bits.f l0 bt340.2.1 bt340.2.2).bind fun bt343 => (some (bt340.1, bt343.1)))) else (if bt334.1 = 1 then ((spec_l1Cur_bytes.f k l0 bt334.2.1 bt334.2.2 4).bind fun bt346 => (if t333.size + (strOfNums bt346.1).size ≤ 9223372036854775807 then ((spec_l1Cur_bits.f l0 bt346.2.1 bt346.2.2).bind fun bt351 => (some (t333 ++ (strOfNums bt346.1), bt351.1))) else (none))) else ((spec_l1Cur_bits.f l0 bt334.2.1 bt334.2.2).bind fun bt354 => (some (t333, bt354.1)))))) = some (r1, r2) := H
 have A3 := Aside0.mk A30
 clear A30
 replace H := Option.bind_eq_some_iff.mp H
 obtain ⟨⟨t334, t335, t336⟩, A40, H⟩ := H
 replace H : (if t334 = 0 then ((spec_l1Cur_of.f l0 t335 t336 (([(⟨#[]⟩ : ByteArray), (⟨#[128]⟩ : ByteArray), (⟨#[255, 127]⟩ : ByteArray), (⟨#[255, 255, 255, 255, 127]⟩ : ByteArray), (⟨#[255, 255, 255, 255, 15]⟩ : ByteArray), (⟨#[128, 128, 128, 128, 120]⟩ : ByteArray), (⟨#[128, 128, 128, 128, 112]⟩ : ByteArray), (⟨#[128, 128, 128, 128, 128, 128, 128, 128, 128, 127]⟩ : ByteArray)] : List ByteArray))).bind fun bt340 => ((spec_l1Cur_bits.f l0 bt340.2.1 bt340.2.2).bind fun bt343 => (some (bt340.1, bt343.1)))) else (if t334 = 1 then ((spec_l1Cur_bytes.f k l0 t335 t336 4).bind fun bt346 => (if t333.size + (strOfNums bt346.1).size ≤ 9223372036854775807 then ((spec_l1Cur_bits.f l0 bt346.2.1 bt346.2.2).bind fun bt351 => (some (t333 ++ (strOfNums bt346.1), bt351.1))) else (none))) else ((spec_l1Cur_bits.f l0 t335 t336).bind fun bt354 => (some (t333, bt354.1))))) = some (r1, r2) := H
 have A4 := Aside0.mk A40
 clear A40
 by_cases c5 : t334 = 0
 ·
  rw [if_pos c5] at H
  have c5b0 : (t334 == 0) = true := beq_iff_eq.mpr c5
  have c5b1 : (t334 != 0) = false := bne_eq_false_iff_eq.mpr c5
  clear c5
  obtain ⟨y337, hy337⟩ : ∃ y_ : List ByteArray, y_ = (([(⟨#[]⟩ : ByteArray), (⟨#[128]⟩ : ByteArray), (⟨#[255, 127]⟩ : ByteArray), (⟨#[255, 255, 255, 255, 127]⟩ : ByteArray), (⟨#[255, 255, 255, 255, 15]⟩ : ByteArray), (⟨#[128, 128, 128, 128, 120]⟩ : ByteArray), (⟨#[128, 128, 128, 128, 112]⟩ : ByteArray), (⟨#[128, 128, 128, 128, 128, 128, 128, 128, 128, 127]⟩ : ByteArray)] : List ByteArray)) := ⟨_, rfl⟩
  replace H : ((spec_l1Cur_of.f l0 t335 t336 y337).bind fun bt340 => ((spec_l1Cur_bits.f l0 bt340.2.1 bt340.2.2).bind fun bt343 => (some (bt340.1, bt343.1)))) = some (r1, r2) := by first | (rw [hy337]; with_reducible exact H) | (have H2_ := (Option.bind_some _ _).symm.trans H; rw [hy337]; with_reducible exact H2_) | (have H2_ := (Option.bind_some _ _).symm.trans H; with_reducible exact H2_) | with_reducible exact H | (rw [hy337]; exact H) | exact H
  have Ny337 := Aside0.mk hy337
  clear hy337
  replace H := Option.bind_eq_some_iff.mp H
  obtain ⟨⟨t340, t341, t342⟩, A60, H⟩ := H
  replace H : ((spec_l1Cur_bits.f l0 t341 t342).bind fun bt343 => (some (t340, bt343.1))) = some (r1, r2) := H
  have A6 := Aside0.mk A60
  clear A60
  replace H := Option.bind_eq_some_iff.mp H
  obtain ⟨⟨t343, t344, t345⟩, A70, H⟩ := H
  replace H : (some (t340, t343)) = some (r1, r2) := H
  have A7 := Aside0.mk A70
  clear A70
  simp only [Option.some.injEq, Prod.mk.injEq] at H
  obtain ⟨rfl, rfl⟩ := H
  go_enter Try.func23, Try.ntmps23
  go_wp2_with (first | ((with_reducible refine gate_dst (N := 8) rfl ?_); refine box_event ?hg (N := 8) ?hd (cs := #[.slice A0 l0.length c0, .int .i64 0, .int .u64 0]) (t := 78) ?hr ?_; (case hd => rfl); (case hg => rfl); (case hr => first | (go_simp; done) | (go_simp; rfl)); intro gb329 hg w8 hbox hb; have n0_ := Aside0.mk (below_step (bw HB.out) hb); have n1_ := Aside0.mk ((show IsS78 w w8 gb329 l0 0 0 from ⟨_, _, hbox, (by rw [hg]; exact (below_size (bw HB.out)) : w.heap.size ≤ gb329), HR0.out⟩)); have n2_ := Aside0.mk ((by rw [hg]; exact (below_size (bw HB.out)) : w.heap.size ≤ gb329)); have n3_ := Aside0.mk ((by rw [hg]; exact (below_size (bw HB.out)) : w.heap.size ≤ gb329)); clear HB; have HB := n0_; have HI329 := n1_; have GW329 := n2_; have GE329 := n3_; clear n0_ n1_ n2_ n3_; clear hb hbox hg) | ((with_reducible refine gate_callee (f := 44) rfl ?_); refine goesL_ (some 10) rfl rfl Try.func44 (by kernel_rfl) rfl #[.pointer (some ⟨gb329, 0, none⟩)] rfl ar ?_; (with_reducible refine (spec_l1Cur_signed.calls k gb329 l0 0 0 t330 t331 t332 w _ ?side1 ?side2 A2.out).mono ?_); (case side1 => repeat (first | (with_reducible first | exact HI329.out | apply IsS78.alloc | apply IsS78.drewN | apply IsS78.drew | apply IsS78.set_1 | apply IsS78.set_2) | exact HI329.out)); (case side2 => repeat (first | (with_reducible first | exact HB.out | apply below_alloc | apply pw_below_drewN | apply below_drew1 | refine below_set ?_ (IsS78.ge HI329.out)) | exact HB.out)); rintro e w9 ⟨rfl, hi, hb, hk⟩; refine ⟨_, rfl, ?_⟩; have n0_ := Aside0.mk (hb); have n1_ := Aside0.mk (hi); clear HB; clear HI329; have HB := n0_; have HI329 := n1_; clear n0_ n1_; (try clear hb); (try clear hb2); (try clear hk); (try clear hi)) | ((with_reducible refine gate_callee (f := 22) rfl ?_); refine goesL_ (some 11) rfl rfl Try.func22 (by kernel_rfl) rfl #[.int .i64 t330] rfl ar ?_; (with_reducible refine (spec_SlebBytes.calls k t330 t333 _ A3.out).mono ?_); rintro e w10 ⟨rfl, hb⟩; refine ⟨_, rfl, ?_⟩; have n0_ := Aside0.mk (IsS78.below (by repeat (first | (with_reducible first | exact HI329.out | apply IsS78.alloc | apply IsS78.drewN | apply IsS78.drew | apply IsS78.set_1 | apply IsS78.set_2) | exact HI329.out)) hb); have n1_ := Aside0.mk (below_step (by repeat (first | (with_reducible first | exact HB.out | apply below_alloc | apply pw_below_drewN | apply below_drew1 | refine below_set ?_ (IsS78.ge HI329.out)) | exact HB.out)) hb); clear HI329; clear HB; have HI329 := n0_; have HB := n1_; clear n0_ n1_; (try clear hb)) | ((with_reducible refine gate_callee (f := 46) rfl ?_); refine goesL_ (some 13) rfl rfl Try.func46 (by kernel_rfl) rfl #[.pointer (some ⟨gb329, 0, none⟩), .int .i64 5] rfl ar ?_; (with_reducible refine (spec_l1Cur_pick.calls gb329 l0 t331 t332 5 t334 t335 t336 w _ ?side1 ?side2 A4.out).mono ?_); (case side1 => repeat (first | (with_reducible first | exact HI329.out | apply IsS78.alloc | apply IsS78.drewN | apply IsS78.drew | apply IsS78.set_1 | apply IsS78.set_2) | exact HI329.out)); (case side2 => repeat (first | (with_reducible first | exact HB.out | apply below_alloc | apply pw_below_drewN | apply below_drew1 | refine below_set ?_ (IsS78.ge HI329.out)) | exact HB.out)); rintro e w11 ⟨rfl, hi, hb, hk⟩; refine ⟨_, rfl, ?_⟩; have n0_ := Aside0.mk (hb); have n1_ := Aside0.mk (hi); clear HB; clear HI329; have HB := n0_; have HI329 := n1_; clear n0_ n1_; (try clear hb); (try clear hb2); (try clear hk); (try clear hi)) | ((with_reducible refine gate_dst (N := 17) rfl ?_); refine Kd.R_lit Kd.string _ 9 ?hg (N := 17) ?hd (xs := ([(⟨#[]⟩ : ByteArray), (⟨#[128]⟩ : ByteArray), (⟨#[255, 127]⟩ : ByteArray), (⟨#[255, 255, 255, 255, 127]⟩ : ByteArray), (⟨#[255, 255, 255, 255, 15]⟩ : ByteArray), (⟨#[128, 128, 128, 128, 120]⟩ : ByteArray), (⟨#[128, 128, 128, 128, 112]⟩ : ByteArray), (⟨#[128, 128, 128, 128, 128, 128, 128, 128, 128, 127]⟩ : ByteArray)] : List ByteArray)) (inner := [.string (⟨#[]⟩ : ByteArray), .string (⟨#[128]⟩ : ByteArray), .string (⟨#[255, 127]⟩ : ByteArray), .string (⟨#[255, 255, 255, 255, 127]⟩ : ByteArray), .string (⟨#[255, 255, 255, 255, 15]⟩ : ByteArray), .string (⟨#[128, 128, 128, 128, 120]⟩ : ByteArray), .string (⟨#[128, 128, 128, 128, 112]⟩ : ByteArray), .string (⟨#[128, 128, 128, 128, 128, 128, 128, 128, 128, 127]⟩ : ByteArray)]) (ok := fun _ => True) (okp := fun _ => True) ?hr ?hp (fun _ hk => hk) trivial (Below.refl _ _) (Nat.le_refl _) (by simp) ?_; (case hd => rfl); (case hg => rfl); (case hr => first | (go_simp; done) | (go_simp; rfl)); (case hp => exact (Reps.one (show Kd.M Kd.string _ _ _ (⟨#[]⟩ : ByteArray) [.string (⟨#[]⟩ : ByteArray)] from rfl) (Reps.one (show Kd.M Kd.string _ _ _ (⟨#[128]⟩ : ByteArray) [.string (⟨#[128]⟩ : ByteArray)] from rfl) (Reps.one (show Kd.M Kd.string _ _ _ (⟨#[255, 127]⟩ : ByteArray) [.string (⟨#[255, 127]⟩ : ByteArray)] from rfl) (Reps.one (show Kd.M Kd.string _ _ _ (⟨#[255, 255, 255, 255, 127]⟩ : ByteArray) [.string (⟨#[255, 255, 255, 255, 127]⟩ : ByteArray)] from rfl) (Reps.one (show Kd.M Kd.string _ _ _ (⟨#[255, 255, 255, 255, 15]⟩ : ByteArray) [.string (⟨#[255, 255, 255, 255, 15]⟩ : ByteArray)] from rfl) (Reps.one (show Kd.M Kd.string _ _ _ (⟨#[128, 128, 128, 128, 120]⟩ : ByteArray) [.string (⟨#[128, 128, 128, 128, 120]⟩ : ByteArray)] from rfl) (Reps.one (show Kd.M Kd.string _ _ _ (⟨#[128, 128, 128, 128, 112]⟩ : ByteArray) [.string (⟨#[128, 128, 128, 128, 112]⟩ : ByteArray)] from rfl) (Reps.one (show Kd.M Kd.string _ _ _ (⟨#[128, 128, 128, 128, 128, 128, 128, 128, 128, 127]⟩ : ByteArray) [.string (⟨#[128, 128, 128, 128, 128, 128, 128, 128, 128, 127]⟩ : ByteArray)] from rfl) (Reps.none _ _)))))))))); intro v338 w12 ho13 hb hg_ hnew_; clear hg_ hnew_; (first | rw [← Ny337.out] at ho13 | (simp only [Int.reduceToNat] at ho13; rw [← Ny337.out] at ho13)); have n0_ := Aside0.mk (Kd.R_lower ho13 (below_size (by repeat (first | (with_reducible first | exact HB.out | apply below_alloc | apply pw_below_drewN | apply below_drew1 | refine below_set ?_ (IsS78.ge HI329.out)) | exact HB.out)))); have n1_ := Aside0.mk (IsS78.below (by repeat (first | (with_reducible first | exact HI329.out | apply IsS78.alloc | apply IsS78.drewN | apply IsS78.drew | apply IsS78.set_1 | apply IsS78.set_2) | exact HI329.out)) hb); have n2_ := Aside0.mk (below_step (by repeat (first | (with_reducible first | exact HB.out | apply below_alloc | apply pw_below_drewN | apply below_drew1 | refine below_set ?_ (IsS78.ge HI329.out)) | exact HB.out)) hb); clear HI329; clear HB; have HO339 := n0_; have HI329 := n1_; have HB := n2_; clear n0_ n1_ n2_; clear hb ho13; obtain ⟨Ao14, co14, eo14⟩ := Kd.R_slice HO339.out; subst eo14) | ((with_reducible refine gate_callee (f := 47) rfl ?_); refine goesL_ (some 18) rfl rfl Try.func47 (by kernel_rfl) rfl #[.pointer (some ⟨gb329, 0, none⟩), .slice Ao14 y337.length co14] rfl ar ?_; (with_reducible refine (spec_l1Cur_of.calls gb329 l0 t335 t336 _ _ y337 t340 t341 t342 w _ ?side1 ?side2 ?side3 ?side4 ?side5 A6.out).mono ?_); (case side1 => repeat (first | (with_reducible first | exact HI329.out | apply IsS78.alloc | apply IsS78.drewN | apply IsS78.drew | apply IsS78.set_1 | apply IsS78.set_2) | exact HI329.out)); (case side2 => repeat (first | (with_reducible first | exact HB.out | apply below_alloc | apply pw_below_drewN | apply below_drew1 | refine below_set ?_ (IsS78.ge HI329.out)) | exact HB.out)); (case side3 => repeat (first | exact (Kd.R_reads' HO339.out).2.2 | (with_reducible refine Kd.C_alloc ?_ _) | (with_reducible refine Kd.C_drewN ?_ _) | (with_reducible refine Kd.C_drew ?_))); (case side4 => exact (Kd.R_reads' HO339.out).2.1); (case side5 => exact far_slice (IsS78.own_ne HI329.out HO339.out (by decide))); rintro e w15 ⟨rfl, hi, hb, hk⟩; refine ⟨_, rfl, ?_⟩; have n0_ := Aside0.mk (Kd.R_mono (Kd.R_keep (IsS78.apart (show IsS78 w _ gb329 l0 t335 t336 from by repeat (first | (with_reducible first | exact HI329.out | apply IsS78.alloc | apply IsS78.drewN | apply IsS78.drew | apply IsS78.set_1 | apply IsS78.set_2) | exact HI329.out)) (by (with_reducible repeat (first | apply Kd.R_alloc | apply Kd.R_drewN | apply Kd.R_drew)); exact HO339.out) (by decide)) hk (fun _ h => h.2)) (fun _ h => h.1)); have n1_ := Aside0.mk (hb); have n2_ := Aside0.mk (hi); clear HO339; clear HB; clear HI329; have HO339 := n0_; have HB := n1_; have HI329 := n2_; clear n0_ n1_ n2_; (try clear hb); (try clear hb2); (try clear hk); (try clear hi)) | ((with_reducible refine gate_callee (f := 49) rfl ?_); refine goesL_ (some 28) rfl rfl Try.func49 (by kernel_rfl) rfl #[.pointer (some ⟨gb329, 0, none⟩)] rfl ar ?_; (with_reducible refine (spec_l1Cur_bits.calls gb329 l0 t341 t342 t343 t344 t345 w _ ?side1 ?side2 A7.out).mono ?_); (case side1 => repeat (first | (with_reducible first | exact HI329.out | apply IsS78.alloc | apply IsS78.drewN | apply IsS78.drew | apply IsS78.set_1 | apply IsS78.set_2) | exact HI329.out)); (case side2 => repeat (first | (with_reducible first | exact HB.out | apply below_alloc | apply pw_below_drewN | apply below_drew1 | refine below_set ?_ (IsS78.ge HI329.out)) | exact HB.out)); rintro e w16 ⟨rfl, hi, hb, hk⟩; refine ⟨_, rfl, ?_⟩; have n0_ := Aside0.mk (Kd.R_mono (Kd.R_keep (IsS78.apart (show IsS78 w _ gb329 l0 t341 t342 from by repeat (first | (with_reducible first | exact HI329.out | apply IsS78.alloc | apply IsS78.drewN | apply IsS78.drew | apply IsS78.set_1 | apply IsS78.set_2) | exact HI329.out)) (by (with_reducible repeat (first | apply Kd.R_alloc | apply Kd.R_drewN | apply Kd.R_drew)); exact HO339.out) (by decide)) hk (fun _ h => h.2)) (fun _ h => h.1)); have n1_ := Aside0.mk (hb); have n2_ := Aside0.mk (hi); clear HO339; clear HB; clear HI329; have HO339 := n0_; have HB := n1_; have HI329 := n2_; clear n0_ n1_ n2_; (try clear hb); (try clear hb2); (try clear hk); (try clear hi)))
  go_ret2
  exact ⟨by first | rfl | (simp [errW_none, errW_some] <;> rfl) | (simp [*, errW_none, errW_some] <;> rfl), by repeat (first | (with_reducible first | exact HB.out | apply below_alloc | apply pw_below_drewN | apply below_drew1 | refine below_set ?_ (IsS78.ge HI329.out)) | exact HB.out)⟩
 ·
  rw [if_neg c5] at H
  have c5b0 : (t334 == 0) = false := beq_eq_false_iff_ne.mpr c5
  have c5b1 : (t334 != 0) = true := bne_iff_ne.mpr c5
  by_cases c17 : t334 = 1
  ·
   rw [if_pos c17] at H
   have c17b0 : (t334 == 1) = true := beq_iff_eq.mpr c17
   have c17b1 : (t334 != 1) = false := bne_eq_false_iff_eq.mpr c17
   clear c17
   replace H := Option.bind_eq_some_iff.mp H
   obtain ⟨⟨t346, t349, t350⟩, A180, H⟩ := H
   replace H : (if t333.size + (strOfNums t346).size ≤ 9223372036854775807 then ((spec_l1Cur_bits.f l0 t349 t350).bind fun bt351 => (some (t333 ++ (strOfNums t346), bt351.1))) else (none)) = some (r1, r2) := H
   have A18 := Aside0.mk A180
   clear A180
   by_cases c19 : t333.size + (strOfNums t346).size ≤ 9223372036854775807
   ·
    rw [if_pos c19] at H
    have c19b0 := eq_true c19
    have c19b1 : decide (t333.size + (strOfNums t346).size ≤ 9223372036854775807) = true := decide_eq_true c19
    try have c19b2 : (9223372036854775807 < t333.size + (strOfNums t346).size) = False := eq_false (Nat.not_lt.2 c19)
    replace H := Option.bind_eq_some_iff.mp H
    obtain ⟨⟨t351, t352, t353⟩, A200, H⟩ := H
    replace H : (some (t333 ++ (strOfNums t346), t351)) = some (r1, r2) := H
    have A20 := Aside0.mk A200
    clear A200
    simp only [Option.some.injEq, Prod.mk.injEq] at H
    obtain ⟨rfl, rfl⟩ := H
    go_enter Try.func23, Try.ntmps23
    go_wp2_with (first | ((with_reducible refine gate_dst (N := 8) rfl ?_); refine box_event ?hg (N := 8) ?hd (cs := #[.slice A0 l0.length c0, .int .i64 0, .int .u64 0]) (t := 78) ?hr ?_; (case hd => rfl); (case hg => rfl); (case hr => first | (go_simp; done) | (go_simp; rfl)); intro gb329 hg w21 hbox hb; have n0_ := Aside0.mk (below_step (bw HB.out) hb); have n1_ := Aside0.mk ((show IsS78 w w21 gb329 l0 0 0 from ⟨_, _, hbox, (by rw [hg]; exact (below_size (bw HB.out)) : w.heap.size ≤ gb329), HR0.out⟩)); have n2_ := Aside0.mk ((by rw [hg]; exact (below_size (bw HB.out)) : w.heap.size ≤ gb329)); have n3_ := Aside0.mk ((by rw [hg]; exact (below_size (bw HB.out)) : w.heap.size ≤ gb329)); clear HB; have HB := n0_; have HI329 := n1_; have GW329 := n2_; have GE329 := n3_; clear n0_ n1_ n2_ n3_; clear hb hbox hg) | ((with_reducible refine gate_callee (f := 44) rfl ?_); refine goesL_ (some 10) rfl rfl Try.func44 (by kernel_rfl) rfl #[.pointer (some ⟨gb329, 0, none⟩)] rfl ar ?_; (with_reducible refine (spec_l1Cur_signed.calls k gb329 l0 0 0 t330 t331 t332 w _ ?side1 ?side2 A2.out).mono ?_); (case side1 => repeat (first | (with_reducible first | exact HI329.out | apply IsS78.alloc | apply IsS78.drewN | apply IsS78.drew | apply IsS78.set_1 | apply IsS78.set_2) | exact HI329.out)); (case side2 => repeat (first | (with_reducible first | exact HB.out | apply below_alloc | apply pw_below_drewN | apply below_drew1 | refine below_set ?_ (IsS78.ge HI329.out)) | exact HB.out)); rintro e w22 ⟨rfl, hi, hb, hk⟩; refine ⟨_, rfl, ?_⟩; have n0_ := Aside0.mk (hb); have n1_ := Aside0.mk (hi); clear HB; clear HI329; have HB := n0_; have HI329 := n1_; clear n0_ n1_; (try clear hb); (try clear hb2); (try clear hk); (try clear hi)) | ((with_reducible refine gate_callee (f := 22) rfl ?_); refine goesL_ (some 11) rfl rfl Try.func22 (by kernel_rfl) rfl #[.int .i64 t330] rfl ar ?_; (with_reducible refine (spec_SlebBytes.calls k t330 t333 _ A3.out).mono ?_); rintro e w23 ⟨rfl, hb⟩; refine ⟨_, rfl, ?_⟩; have n0_ := Aside0.mk (IsS78.below (by repeat (first | (with_reducible first | exact HI329.out | apply IsS78.alloc | apply IsS78.drewN | apply IsS78.drew | apply IsS78.set_1 | apply IsS78.set_2) | exact HI329.out)) hb); have n1_ := Aside0.mk (below_step (by repeat (first | (with_reducible first | exact HB.out | apply below_alloc | apply pw_below_drewN | apply below_drew1 | refine below_set ?_ (IsS78.ge HI329.out)) | exact HB.out)) hb); clear HI329; clear HB; have HI329 := n0_; have HB := n1_; clear n0_ n1_; (try clear hb)) | ((with_reducible refine gate_callee (f := 46) rfl ?_); refine goesL_ (some 13) rfl rfl Try.func46 (by kernel_rfl) rfl #[.pointer (some ⟨gb329, 0, none⟩), .int .i64 5] rfl ar ?_; (with_reducible refine (spec_l1Cur_pick.calls gb329 l0 t331 t332 5 t334 t335 t336 w _ ?side1 ?side2 A4.out).mono ?_); (case side1 => repeat (first | (with_reducible first | exact HI329.out | apply IsS78.alloc | apply IsS78.drewN | apply IsS78.drew | apply IsS78.set_1 | apply IsS78.set_2) | exact HI329.out)); (case side2 => repeat (first | (with_reducible first | exact HB.out | apply below_alloc | apply pw_below_drewN | apply below_drew1 | refine below_set ?_ (IsS78.ge HI329.out)) | exact HB.out)); rintro e w24 ⟨rfl, hi, hb, hk⟩; refine ⟨_, rfl, ?_⟩; have n0_ := Aside0.mk (hb); have n1_ := Aside0.mk (hi); clear HB; clear HI329; have HB := n0_; have HI329 := n1_; clear n0_ n1_; (try clear hb); (try clear hb2); (try clear hk); (try clear hi)) | ((with_reducible refine gate_callee (f := 48) rfl ?_); refine goesL_ (some 23) rfl rfl Try.func48 (by kernel_rfl) rfl #[.pointer (some ⟨gb329, 0, none⟩), .int .i64 4] rfl ar ?_; (with_reducible refine (spec_l1Cur_bytes.calls k gb329 l0 t335 t336 4 t346 t349 t350 w _ ?side1 ?side2 A18.out).mono ?_); (case side1 => repeat (first | (with_reducible first | exact HI329.out | apply IsS78.alloc | apply IsS78.drewN | apply IsS78.drew | apply IsS78.set_1 | apply IsS78.set_2) | exact HI329.out)); (case side2 => repeat (first | (with_reducible first | exact HB.out | apply below_alloc | apply pw_below_drewN | apply below_drew1 | refine below_set ?_ (IsS78.ge HI329.out)) | exact HB.out)); rintro e w25 ⟨v347, rfl, ho0, hi, hb, hk⟩; refine ⟨_, rfl, ?_⟩; have n0_ := Aside0.mk (Kd.R_lower ho0 (below_size (by repeat (first | (with_reducible first | exact HB.out | apply below_alloc | apply pw_below_drewN | apply below_drew1 | refine below_set ?_ (IsS78.ge HI329.out)) | exact HB.out)))); have n1_ := Aside0.mk (hb); have n2_ := Aside0.mk (hi); clear HB; clear HI329; have HO348 := n0_; have HB := n1_; have HI329 := n2_; clear n0_ n1_ n2_; (try clear hb); (try clear hb2); (try clear hk); (try clear hi); (try clear ho0); have hcv26 := own_string (P := Try.prog) Try.underlying37 Try.underlying5 Try.underlying9 (Kd.own_of_R HO348.out)) | ((with_reducible refine gate_callee (f := 49) rfl ?_); refine goesL_ (some 28) rfl rfl Try.func49 (by kernel_rfl) rfl #[.pointer (some ⟨gb329, 0, none⟩)] rfl ar ?_; (with_reducible refine (spec_l1Cur_bits.calls gb329 l0 t349 t350 t351 t352 t353 w _ ?side1 ?side2 A20.out).mono ?_); (case side1 => repeat (first | (with_reducible first | exact HI329.out | apply IsS78.alloc | apply IsS78.drewN | apply IsS78.drew | apply IsS78.set_1 | apply IsS78.set_2) | exact HI329.out)); (case side2 => repeat (first | (with_reducible first | exact HB.out | apply below_alloc | apply pw_below_drewN | apply below_drew1 | refine below_set ?_ (IsS78.ge HI329.out)) | exact HB.out)); rintro e w27 ⟨rfl, hi, hb, hk⟩; refine ⟨_, rfl, ?_⟩; have n0_ := Aside0.mk (Kd.R_mono (Kd.R_keep (IsS78.apart (show IsS78 w _ gb329 l0 t349 t350 from by repeat (first | (with_reducible first | exact HI329.out | apply IsS78.alloc | apply IsS78.drewN | apply IsS78.drew | apply IsS78.set_1 | apply IsS78.set_2) | exact HI329.out)) (by (with_reducible repeat (first | apply Kd.R_alloc | apply Kd.R_drewN | apply Kd.R_drew)); exact HO348.out) (by decide)) hk (fun _ h => h.2)) (fun _ h => h.1)); have n1_ := Aside0.mk (hb); have n2_ := Aside0.mk (hi); clear HO348; clear HB; clear HI329; have HO348 := n0_; have HB := n1_; have HI329 := n2_; clear n0_ n1_ n2_; (try clear hb); (try clear hb2); (try clear hk); (try clear hi)))
    go_ret2
    exact ⟨by first | rfl | (simp [errW_none, errW_some] <;> rfl) | (simp [*, errW_none, errW_some] <;> rfl), by repeat (first | (with_reducible first | exact HB.out | apply below_alloc | apply pw_below_drewN | apply below_drew1 | refine below_set ?_ (IsS78.ge HI329.out)) | exact HB.out)⟩
   ·
    rw [if_neg c19] at H
    exact absurd H (by simp)
  ·
   rw [if_neg c17] at H
   have c17b0 : (t334 == 1) = false := beq_eq_false_iff_ne.mpr c17
   have c17b1 : (t334 != 1) = true := bne_iff_ne.mpr c17
   replace H := Option.bind_eq_some_iff.mp H
   obtain ⟨⟨t354, t355, t356⟩, A280, H⟩ := H
   replace H : (some (t333, t354)) = some (r1, r2) := H
   have A28 := Aside0.mk A280
   clear A280
   simp only [Option.some.injEq, Prod.mk.injEq] at H
   obtain ⟨rfl, rfl⟩ := H
   go_enter Try.func23, Try.ntmps23
   go_wp2_with (first | ((with_reducible refine gate_dst (N := 8) rfl ?_); refine box_event ?hg (N := 8) ?hd (cs := #[.slice A0 l0.length c0, .int .i64 0, .int .u64 0]) (t := 78) ?hr ?_; (case hd => rfl); (case hg => rfl); (case hr => first | (go_simp; done) | (go_simp; rfl)); intro gb329 hg w29 hbox hb; have n0_ := Aside0.mk (below_step (bw HB.out) hb); have n1_ := Aside0.mk ((show IsS78 w w29 gb329 l0 0 0 from ⟨_, _, hbox, (by rw [hg]; exact (below_size (bw HB.out)) : w.heap.size ≤ gb329), HR0.out⟩)); have n2_ := Aside0.mk ((by rw [hg]; exact (below_size (bw HB.out)) : w.heap.size ≤ gb329)); have n3_ := Aside0.mk ((by rw [hg]; exact (below_size (bw HB.out)) : w.heap.size ≤ gb329)); clear HB; have HB := n0_; have HI329 := n1_; have GW329 := n2_; have GE329 := n3_; clear n0_ n1_ n2_ n3_; clear hb hbox hg) | ((with_reducible refine gate_callee (f := 44) rfl ?_); refine goesL_ (some 10) rfl rfl Try.func44 (by kernel_rfl) rfl #[.pointer (some ⟨gb329, 0, none⟩)] rfl ar ?_; (with_reducible refine (spec_l1Cur_signed.calls k gb329 l0 0 0 t330 t331 t332 w _ ?side1 ?side2 A2.out).mono ?_); (case side1 => repeat (first | (with_reducible first | exact HI329.out | apply IsS78.alloc | apply IsS78.drewN | apply IsS78.drew | apply IsS78.set_1 | apply IsS78.set_2) | exact HI329.out)); (case side2 => repeat (first | (with_reducible first | exact HB.out | apply below_alloc | apply pw_below_drewN | apply below_drew1 | refine below_set ?_ (IsS78.ge HI329.out)) | exact HB.out)); rintro e w30 ⟨rfl, hi, hb, hk⟩; refine ⟨_, rfl, ?_⟩; have n0_ := Aside0.mk (hb); have n1_ := Aside0.mk (hi); clear HB; clear HI329; have HB := n0_; have HI329 := n1_; clear n0_ n1_; (try clear hb); (try clear hb2); (try clear hk); (try clear hi)) | ((with_reducible refine gate_callee (f := 22) rfl ?_); refine goesL_ (some 11) rfl rfl Try.func22 (by kernel_rfl) rfl #[.int .i64 t330] rfl ar ?_; (with_reducible refine (spec_SlebBytes.calls k t330 t333 _ A3.out).mono ?_); rintro e w31 ⟨rfl, hb⟩; refine ⟨_, rfl, ?_⟩; have n0_ := Aside0.mk (IsS78.below (by repeat (first | (with_reducible first | exact HI329.out | apply IsS78.alloc | apply IsS78.drewN | apply IsS78.drew | apply IsS78.set_1 | apply IsS78.set_2) | exact HI329.out)) hb); have n1_ := Aside0.mk (below_step (by repeat (first | (with_reducible first | exact HB.out | apply below_alloc | apply pw_below_drewN | apply below_drew1 | refine below_set ?_ (IsS78.ge HI329.out)) | exact HB.out)) hb); clear HI329; clear HB; have HI329 := n0_; have HB := n1_; clear n0_ n1_; (try clear hb)) | ((with_reducible refine gate_callee (f := 46) rfl ?_); refine goesL_ (some 13) rfl rfl Try.func46 (by kernel_rfl) rfl #[.pointer (some ⟨gb329, 0, none⟩), .int .i64 5] rfl ar ?_; (with_reducible refine (spec_l1Cur_pick.calls gb329 l0 t331 t332 5 t334 t335 t336 w _ ?side1 ?side2 A4.out).mono ?_); (case side1 => repeat (first | (with_reducible first | exact HI329.out | apply IsS78.alloc | apply IsS78.drewN | apply IsS78.drew | apply IsS78.set_1 | apply IsS78.set_2) | exact HI329.out)); (case side2 => repeat (first | (with_reducible first | exact HB.out | apply below_alloc | apply pw_below_drewN | apply below_drew1 | refine below_set ?_ (IsS78.ge HI329.out)) | exact HB.out)); rintro e w32 ⟨rfl, hi, hb, hk⟩; refine ⟨_, rfl, ?_⟩; have n0_ := Aside0.mk (hb); have n1_ := Aside0.mk (hi); clear HB; clear HI329; have HB := n0_; have HI329 := n1_; clear n0_ n1_; (try clear hb); (try clear hb2); (try clear hk); (try clear hi)) | ((with_reducible refine gate_callee (f := 49) rfl ?_); refine goesL_ (some 28) rfl rfl Try.func49 (by kernel_rfl) rfl #[.pointer (some ⟨gb329, 0, none⟩)] rfl ar ?_; (with_reducible refine (spec_l1Cur_bits.calls gb329 l0 t335 t336 t354 t355 t356 w _ ?side1 ?side2 A28.out).mono ?_); (case side1 => repeat (first | (with_reducible first | exact HI329.out | apply IsS78.alloc | apply IsS78.drewN | apply IsS78.drew | apply IsS78.set_1 | apply IsS78.set_2) | exact HI329.out)); (case side2 => repeat (first | (with_reducible first | exact HB.out | apply below_alloc | apply pw_below_drewN | apply below_drew1 | refine below_set ?_ (IsS78.ge HI329.out)) | exact HB.out)); rintro e w33 ⟨rfl, hi, hb, hk⟩; refine ⟨_, rfl, ?_⟩; have n0_ := Aside0.mk (hb); have n1_ := Aside0.mk (hi); clear HB; clear HI329; have HB := n0_; have HI329 := n1_; clear n0_ n1_; (try clear hb); (try clear hb2); (try clear hk); (try clear hi)))
   go_ret2
   exact ⟨by first | rfl | (simp [errW_none, errW_some] <;> rfl) | (simp [*, errW_none, errW_some] <;> rfl), by repeat (first | (with_reducible first | exact HB.out | apply below_alloc | apply pw_below_drewN | apply below_drew1 | refine below_set ?_ (IsS78.ge HI329.out)) | exact HB.out)⟩

end Go.Proofs.Ytdckgbmonojdaaa.Q

namespace Go.Proofs.Ytdckgbmonojdaaa.Q
open Go.RowKit Go.Proofs.YtdckgbmonojdaaaW.PrintWords Go.Proofs.YtdckgbmonojdaaaW.PrintLast Go.Proofs.YtdckgbmonojdaaaW.PrintMore
attribute [local go_sem] max2_int min2_int max_two min_two max_three min_three max_four min_four   -- for this text's walks alone
set_option linter.unusedVariables false
set_option linter.unusedSimpArgs false

/-! ### spec_l1TakeS: function 50 -/
mutual
def spec_l1TakeS.l0 : Nat → ByteArray → Int → Int → Int → Int → Option (Int × Int)
 | 0, _, _, _, _, _ => none
 | k + 1, x0, x1, x6, x7, x8 => if x8 < x6 then (spec_l1TakeS.j1 k x0 x1 x6 x7 x8 (decide (x8 < (x0.size : Int)))) else (spec_l1TakeS.j1 k x0 x1 x6 x7 x8 false)
def spec_l1TakeS.j1 : Nat → ByteArray → Int → Int → Int → Int → Bool → Option (Int × Int)
 | 0, _, _, _, _, _, _ => none
 | k + 1, x0, x1, x6, x7, x8, x24 => if x24 = true then (if 0 ≤ x8 then (if x8 < (x0.size : Int) then (if 0 ≤ (IntKind.u64.wrap (wrap64 (7 * x8))) then (if (bt x0 x8) ≥ 128 then (spec_l1TakeS.l0 k x0 x1 x6 (Go.bits .or .u64 x7 (shl .u64 (IntKind.u64.wrap (Go.bits .and .u8 (bt x0 x8) 127)) (IntKind.u64.wrap (wrap64 (7 * x8))))) (wrap64 (x8 + 1))) else (if (wrap64 (x1 - (wrap64 (7 * x8)))) < 7 then (if 0 ≤ (IntKind.u64.wrap (wrap64 ((wrap64 (x1 - (wrap64 (7 * x8)))) - 1))) then (if (shr .u64 (IntKind.u64.wrap (Go.bits .and .u8 (bt x0 x8) 127)) (IntKind.u64.wrap (wrap64 ((wrap64 (x1 - (wrap64 (7 * x8)))) - 1)))) = 0 then (spec_l1TakeS.j2 k (Go.bits .or .u64 x7 (shl .u64 (IntKind.u64.wrap (Go.bits .and .u8 (bt x0 x8) 127)) (IntKind.u64.wrap (wrap64 (7 * x8))))) x8 (IntKind.u64.wrap (Go.bits .and .u8 (bt x0 x8) 127)) false) else (spec_l1TakeS.j2 k (Go.bits .or .u64 x7 (shl .u64 (IntKind.u64.wrap (Go.bits .and .u8 (bt x0 x8) 127)) (IntKind.u64.wrap (wrap64 (7 * x8))))) x8 (IntKind.u64.wrap (Go.bits .and .u8 (bt x0 x8) 127)) ((shr .u64 (IntKind.u64.wrap (Go.bits .and .u8 (bt x0 x8) 127)) (IntKind.u64.wrap (wrap64 ((wrap64 (x1 - (wrap64 (7 * x8)))) - 1)))) != (shr .u64 127 (IntKind.u64.wrap (wrap64 ((wrap64 (x1 - (wrap64 (7 * x8)))) - 1))))))) else (none)) else (if (wrap64 (7 * (wrap64 (x8 + 1)))) < 64 then (if (Go.bits .and .u64 (IntKind.u64.wrap (Go.bits .and .u8 (bt x0 x8) 127)) 64) = 0 then (some (wrap64 (Go.bits .or .u64 x7 (shl .u64 (IntKind.u64.wrap (Go.bits .and .u8 (bt x0 x8) 127)) (IntKind.u64.wrap (wrap64 (7 * x8))))), wrap64 (x8 + 1))) else (if 0 ≤ (IntKind.u64.wrap (wrap64 (7 * (wrap64 (x8 + 1))))) then (some (wrap64 (Go.bits .or .u64 (Go.bits .or .u64 x7 (shl .u64 (IntKind.u64.wrap (Go.bits .and .u8 (bt x0 x8) 127)) (IntKind.u64.wrap (wrap64 (7 * x8))))) (shl .u64 18446744073709551615 (IntKind.u64.wrap (wrap64 (7 * (wrap64 (x8 + 1))))))), wrap64 (x8 + 1))) else (none))) else (some (wrap64 (Go.bits .or .u64 x7 (shl .u64 (IntKind.u64.wrap (Go.bits .and .u8 (bt x0 x8) 127)) (IntKind.u64.wrap (wrap64 (7 * x8))))), wrap64 (x8 + 1)))))) else (none)) else (none)) else (none)) else (some (0, 0))
def spec_l1TakeS.j2 : Nat → Int → Int → Int → Bool → Option (Int × Int)
 | 0, _, _, _, _ => none
 | k + 1, x7, x8, x9, x63 => if x63 = true then (some (0, 0)) else (if (wrap64 (7 * (wrap64 (x8 + 1)))) < 64 then (if (Go.bits .and .u64 x9 64) = 0 then (some (wrap64 (x7), wrap64 (x8 + 1))) else (if 0 ≤ (IntKind.u64.wrap (wrap64 (7 * (wrap64 (x8 + 1))))) then (some (wrap64 (Go.bits .or .u64 x7 (shl .u64 18446744073709551615 (IntKind.u64.wrap (wrap64 (7 * (wrap64 (x8 + 1))))))), wrap64 (x8 + 1))) else (none))) else (some (wrap64 (x7), wrap64 (x8 + 1))))
end
def spec_l1TakeS.f (k : Nat) (a0 : ByteArray) (a1 : Int) : Option (Int × Int) := spec_l1TakeS.l0 k a0 a1 (wrap64 (Int.tdiv (wrap64 (a1 + 6)) 7)) 0 0
theorem spec_l1TakeS.mono_l : ∀ k, (∀ y0 y1 y2 y3 y4, LeO (spec_l1TakeS.l0 k y0 y1 y2 y3 y4) (spec_l1TakeS.l0 (k + 1) y0 y1 y2 y3 y4)) ∧ (∀ y0 y1 y2 y3 y4 y5, LeO (spec_l1TakeS.j1 k y0 y1 y2 y3 y4 y5) (spec_l1TakeS.j1 (k + 1) y0 y1 y2 y3 y4 y5)) ∧ (∀ y0 y1 y2 y3, LeO (spec_l1TakeS.j2 k y0 y1 y2 y3) (spec_l1TakeS.j2 (k + 1) y0 y1 y2 y3))
 | 0 => ⟨fun _ _ _ _ _ r h => by simp [spec_l1TakeS.l0] at h, fun _ _ _ _ _ _ r h => by simp [spec_l1TakeS.j1] at h, fun _ _ _ _ r h => by simp [spec_l1TakeS.j2] at h⟩
 | k + 1 => by
  obtain ⟨ih0, ih1, ih2⟩ := spec_l1TakeS.mono_l k
  refine ⟨?_, ?_, ?_⟩
  ·
   intro y0 y1 y2 y3 y4
   unfold spec_l1TakeS.l0
   repeat' first
   | (with_reducible exact ih0 _ _ _ _ _)
   | (with_reducible exact ih1 _ _ _ _ _ _)
   | (with_reducible exact ih2 _ _ _ _)
   | (with_reducible exact LeO.refl _)
   | (with_reducible exact LeO.none _)
   | (with_reducible refine LeO.ite ?_ ?_)
   | (with_reducible refine LeO.bind ?_ (fun _ => ?_))
   | exact ih0 _ _ _ _ _
   | exact ih1 _ _ _ _ _ _
   | exact ih2 _ _ _ _
   | exact LeO.none _
   | refine LeO.ite ?_ ?_
   | refine LeO.bind ?_ (fun _ => ?_)
  ·
   intro y0 y1 y2 y3 y4 y5
   unfold spec_l1TakeS.j1
   repeat' first
   | (with_reducible exact ih0 _ _ _ _ _)
   | (with_reducible exact ih1 _ _ _ _ _ _)
   | (with_reducible exact ih2 _ _ _ _)
   | (with_reducible exact LeO.refl _)
   | (with_reducible exact LeO.none _)
   | (with_reducible refine LeO.ite ?_ ?_)
   | (with_reducible refine LeO.bind ?_ (fun _ => ?_))
   | exact ih0 _ _ _ _ _
   | exact ih1 _ _ _ _ _ _
   | exact ih2 _ _ _ _
   | exact LeO.none _
   | refine LeO.ite ?_ ?_
   | refine LeO.bind ?_ (fun _ => ?_)
  ·
   intro y0 y1 y2 y3
   unfold spec_l1TakeS.j2
   repeat' first
   | (with_reducible exact ih0 _ _ _ _ _)
   | (with_reducible exact ih1 _ _ _ _ _ _)
   | (with_reducible exact ih2 _ _ _ _)
   | (with_reducible exact LeO.refl _)
   | (with_reducible exact LeO.none _)
   | (with_reducible refine LeO.ite ?_ ?_)
   | (with_reducible refine LeO.bind ?_ (fun _ => ?_))
   | exact ih0 _ _ _ _ _
   | exact ih1 _ _ _ _ _ _
   | exact ih2 _ _ _ _
   | exact LeO.none _
   | refine LeO.ite ?_ ?_
   | refine LeO.bind ?_ (fun _ => ?_)
theorem spec_l1TakeS.mono : ∀ a0 a1 k, LeO (spec_l1TakeS.f k a0 a1) (spec_l1TakeS.f (k + 1) a0 a1) := by
 intro a0 a1 k
 obtain ⟨ih0, ih1, ih2⟩ := spec_l1TakeS.mono_l k
 unfold spec_l1TakeS.f
 repeat' first
   | (with_reducible exact ih0 _ _ _ _ _)
   | (with_reducible exact ih1 _ _ _ _ _ _)
   | (with_reducible exact ih2 _ _ _ _)
   | (with_reducible exact LeO.refl _)
   | (with_reducible exact LeO.none _)
   | (with_reducible refine LeO.ite ?_ ?_)
   | (with_reducible refine LeO.bind ?_ (fun _ => ?_))
   | exact ih0 _ _ _ _ _
   | exact ih1 _ _ _ _ _ _
   | exact ih2 _ _ _ _
   | exact LeO.none _
   | refine LeO.ite ?_ ?_
   | refine LeO.bind ?_ (fun _ => ?_)
set_option maxHeartbeats 8000000 in
set_option maxRecDepth 100000 in
theorem spec_l1TakeS.calls (k : Nat) (a0 : ByteArray) (a1 : Int) (r1 : Int) (r2 : Int) (w : World) (h : spec_l1TakeS.f k a0 a1 = some (r1, r2)) :
  Calls Try.prog 50 #[.string a0, .int .i64 a1] w fun e w' => e = .returned (.tuple #[.int .i64 r1, .int .i64 r2]) ∧ Drawn0 w w' := by
 have H : (spec_l1TakeS.l0 k a0 a1 (wrap64 (Int.tdiv (wrap64 (a1 + 6)) 7)) 0 0) = some (r1, r2) := h
 clear h
 have H' := Aside0.mk H
 clear H
 go_enter Try.func50, Try.ntmps50
 go_wp2
 (try simp only [Act.put, List.setIfInBounds_toArray, List.set_cons_zero, List.set_cons_succ])
 go_loopg [7, 8] k (fun kq v7 v8 w' => ∃ (x7_1 : Int) (x8_1 : Int), v7 = .int .u64 x7_1 ∧ v8 = .int .i64 x8_1 ∧ Aside0 (spec_l1TakeS.l0 kq a0 a1 (wrap64 (Int.tdiv (wrap64 (a1 + 6)) 7)) x7_1 x8_1 = some (r1, r2)) ∧ Aside0 (kq ≤ k) ∧ Drawn0 w w')
 case atStart => exact ⟨(0), (0), (by first | rfl | (simp; done) | (simp [*]; done)), (by first | rfl | (simp; done) | (simp [*]; done)), H', ⟨Nat.le_refl _⟩, by repeat (first | exact Drawn0.refl _ | apply Drawn0.step)⟩
 case round =>
  clear H'
  try clear p2
  obtain ⟨x7_1, x8_1, rfl, rfl, HA, HK1, ⟨m1, rfl⟩⟩ := hrel
  cases gk with
  | zero => exact absurd HA.out (by simp [spec_l1TakeS.l0])
  | succ k1 =>
   have H := HA.out
   clear HA
   simp only [spec_l1TakeS.l0] at H
   have HC3 := Aside0.mk H
   clear H
   go_upto_region 4 with (fail)
   go_cut [24] (fun v24 wc => ∃ (kq : Nat) (x24_2 : Bool), v24 = .bool x24_2 ∧ Aside0 (spec_l1TakeS.j1 kq a0 a1 (wrap64 (Int.tdiv (wrap64 (a1 + 6)) 7)) x7_1 x8_1 x24_2 = some (r1, r2)) ∧ Aside0 (kq ≤ k1) ∧ Drawn0 w wc)
   case first =>
    have H := HC3.out
    clear HC3
    by_cases c4 : x8_1 < (wrap64 (Int.tdiv (wrap64 (a1 + 6)) 7))
    ·
     rw [if_pos c4] at H
     have c4b0 : decide (x8_1 < (wrap64 (Int.tdiv (wrap64 (a1 + 6)) 7))) = true := decide_eq_true c4
     clear c4
     (first | rw [c4b0] | (simp only [i64_w, i32_w]; rw [c4b0]) | skip)
     have H' := Aside0.mk H
     clear H
     go_wp2
     go_meet
     case rel => exact ⟨_, (decide (x8_1 < (a0.size : Int))), (by first | rfl | (simp; done) | (simp [*]; done)), H', ⟨by have := HK1.out; first | omega | exact Nat.le_refl _⟩, by repeat (first | exact Drawn0.refl _ | apply Drawn0.step)⟩
    ·
     rw [if_neg c4] at H
     have c4b0 : decide (x8_1 < (wrap64 (Int.tdiv (wrap64 (a1 + 6)) 7))) = false := decide_eq_false c4
     clear c4
     (first | rw [c4b0] | (simp only [i64_w, i32_w]; rw [c4b0]) | skip)
     have H' := Aside0.mk H
     clear H
     go_wp2
     go_meet
     case rel => exact ⟨_, (false), (by first | rfl | (simp; done) | (simp [*]; done)), H', ⟨by have := HK1.out; first | omega | exact Nat.le_refl _⟩, by repeat (first | exact Drawn0.refl _ | apply Drawn0.step)⟩
   case rest =>
    clear HC3
    try clear p2
    try clear c4
    try clear c4b0
    try clear p2
    obtain ⟨kq, x24_2, rfl, HA, HJ2, ⟨mc2, rfl⟩⟩ := hcut
    cases kq with
    | zero => exact absurd HA.out (by simp [spec_l1TakeS.j1])
    | succ kj2 =>
     have H := HA.out
     clear HA
     simp only [spec_l1TakeS.j1] at H
     by_cases c5 : x24_2 = true
     ·
      subst c5
      have H1 : (if 0 ≤ x8_1 then (if x8_1 < (a0.size : Int) then (if 0 ≤ (IntKind.u64.wrap (wrap64 (7 * x8_1))) then (if (bt a0 x8_1) ≥ 128 then (spec_l1TakeS.l0 kj2 a0 a1 (wrap64 (Int.tdiv (wrap64 (a1 + 6)) 7)) (Go.bits .or .u64 x7_1 (shl .u64 (IntKind.u64.wrap (Go.bits .and .u8 (bt a0 x8_1) 127)) (IntKind.u64.wrap (wrap64 (7 * x8_1))))) (wrap64 (x8_1 + 1))) else (if (wrap64 (a1 - (wrap64 (7 * x8_1)))) < 7 then (if 0 ≤ (IntKind.u64.wrap (wrap64 ((wrap64 (a1 - (wrap64 (7 * x8_1)))) - 1))) then (if (shr .u64 (IntKind.u64.wrap (Go.bits .and .u8 (bt a0 x8_1) 127)) (IntKind.u64.wrap (wrap64 ((wrap64 (a1 - (wrap64 (7 * x8_1)))) - 1)))) = 0 then (spec_l1TakeS.j2 kj2 (Go.bits .or .u64 x7_1 (shl .u64 (IntKind.u64.wrap (Go.bits .and .u8 (bt a0 x8_1) 127)) (IntKind.u64.wrap (wrap64 (7 * x8_1))))) x8_1 (IntKind.u64.wrap (Go.bits .and .u8 (bt a0 x8_1) 127)) false) else (spec_l1TakeS.j2 kj2 (Go.bits .or .u64 x7_1 (shl .u64 (IntKind.u64.wrap (Go.bits .and .u8 (bt a0 x8_1) 127)) (IntKind.u64.wrap (wrap64 (7 * x8_1))))) x8_1 (IntKind.u64.wrap (Go.bits .and .u8 (bt a0 x8_1) 127)) ((shr .u64 (IntKind.u64.wrap (Go.bits .and .u8 (bt a0 x8_1) 127)) (IntKind.u64.wrap (wrap64 ((wrap64 (a1 - (wrap64 (7 * x8_1)))) - 1)))) != (shr .u64 127 (IntKind.u64.wrap (wrap64 ((wrap64 (a1 - (wrap64 (7 * x8_1)))) - 1))))))) else (none)) else (if (wrap64 (7 * (wrap64 (x8_1 + 1)))) < 64 then (if (Go.bits .and .u64 (IntKind.u64.wrap (Go.bits .and .u8 (bt a0 x8_1) 127)) 64) = 0 then (some (wrap64 (Go.bits .or .u64 x7_1 (shl .u64 (IntKind.u64.wrap (Go.bits .and .u8 (bt a0 x8_1) 127)) (IntKind.u64.wrap (wrap64 (7 * x8_1))))), wrap64 (x8_1 + 1))) else (if 0 ≤ (IntKind.u64.wrap (wrap64 (7 * (wrap64 (x8_1 + 1))))) then (some (wrap64 (Go.bits .or .u64 (Go.bits .or .u64 x7_1 (shl .u64 (IntKind.u64.wrap (Go.bits .and .u8 (bt a0 x8_1) 127)) (IntKind.u64.wrap (wrap64 (7 * x8_1))))) (shl .u64 18446744073709551615 (IntKind.u64.wrap (wrap64 (7 * (wrap64 (x8_1 + 1))))))), wrap64 (x8_1 + 1))) else (none))) else (some (wrap64 (Go.bits .or .u64 x7_1 (shl .u64 (IntKind.u64.wrap (Go.bits .and .u8 (bt a0 x8_1) 127)) (IntKind.u64.wrap (wrap64 (7 * x8_1))))), wrap64 (x8_1 + 1)))))) else (none)) else (none)) else (none)) = some (r1, r2) := by rw [if_pos rfl] at H; exact H
      clear H
      have H := H1
      clear H1
      by_cases c6 : 0 ≤ x8_1
      ·
       rw [if_pos c6] at H
       have c6b0 : decide (0 ≤ x8_1) = true := decide_eq_true c6
       clear c6
       by_cases c7 : x8_1 < (a0.size : Int)
       ·
        rw [if_pos c7] at H
        have c7b0 : decide (x8_1 < (a0.size : Int)) = true := decide_eq_true c7
        clear c7
        obtain ⟨ji9, hji9⟩ : ∃ j_ : Int, (IntKind.u64.wrap (wrap64 (7 * x8_1))) = j_ := ⟨_, rfl⟩
        replace H : (if 0 ≤ (ji9) then (if (bt a0 x8_1) ≥ 128 then (spec_l1TakeS.l0 kj2 a0 a1 (wrap64 (Int.tdiv (wrap64 (a1 + 6)) 7)) (Go.bits .or .u64 x7_1 (shl .u64 (IntKind.u64.wrap (Go.bits .and .u8 (bt a0 x8_1) 127)) (ji9))) (wrap64 (x8_1 + 1))) else (if (wrap64 (a1 - (wrap64 (7 * x8_1)))) < 7 then (if 0 ≤ (IntKind.u64.wrap (wrap64 ((wrap64 (a1 - (wrap64 (7 * x8_1)))) - 1))) then (if (shr .u64 (IntKind.u64.wrap (Go.bits .and .u8 (bt a0 x8_1) 127)) (IntKind.u64.wrap (wrap64 ((wrap64 (a1 - (wrap64 (7 * x8_1)))) - 1)))) = 0 then (spec_l1TakeS.j2 kj2 (Go.bits .or .u64 x7_1 (shl .u64 (IntKind.u64.wrap (Go.bits .and .u8 (bt a0 x8_1) 127)) (ji9))) x8_1 (IntKind.u64.wrap (Go.bits .and .u8 (bt a0 x8_1) 127)) false) else (spec_l1TakeS.j2 kj2 (Go.bits .or .u64 x7_1 (shl .u64 (IntKind.u64.wrap (Go.bits .and .u8 (bt a0 x8_1) 127)) (ji9))) x8_1 (IntKind.u64.wrap (Go.bits .and .u8 (bt a0 x8_1) 127)) ((shr .u64 (IntKind.u64.wrap (Go.bits .and .u8 (bt a0 x8_1) 127)) (IntKind.u64.wrap (wrap64 ((wrap64 (a1 - (wrap64 (7 * x8_1)))) - 1)))) != (shr .u64 127 (IntKind.u64.wrap (wrap64 ((wrap64 (a1 - (wrap64 (7 * x8_1)))) - 1))))))) else (none)) else (if (wrap64 (7 * (wrap64 (x8_1 + 1)))) < 64 then (if (Go.bits .and .u64 (IntKind.u64.wrap (Go.bits .and .u8 (bt a0 x8_1) 127)) 64) = 0 then (some (wrap64 (Go.bits .or .u64 x7_1 (shl .u64 (IntKind.u64.wrap (Go.bits .and .u8 (bt a0 x8_1) 127)) (ji9))), wrap64 (x8_1 + 1))) else (if 0 ≤ (IntKind.u64.wrap (wrap64 (7 * (wrap64 (x8_1 + 1))))) then (some (wrap64 (Go.bits .or .u64 (Go.bits .or .u64 x7_1 (shl .u64 (IntKind.u64.wrap (Go.bits .and .u8 (bt a0 x8_1) 127)) (ji9))) (shl .u64 18446744073709551615 (IntKind.u64.wrap (wrap64 (7 * (wrap64 (x8_1 + 1))))))), wrap64 (x8_1 + 1))) else (none))) else (some (wrap64 (Go.bits .or .u64 x7_1 (shl .u64 (IntKind.u64.wrap (Go.bits .and .u8 (bt a0 x8_1) 127)) (ji9))), wrap64 (x8_1 + 1)))))) else (none)) = some (r1, r2) := by first | (rw [hji9] at H; exact H) | (simp only [hji9] at H ⊢; exact H)
        by_cases c10 : 0 ≤ (ji9)
        ·
         rw [if_pos c10] at H
         have c10b0 := eq_true c10
         have c10b1 : decide (0 ≤ (ji9)) = true := decide_eq_true c10
         clear c10
         obtain ⟨ji11, hji11⟩ : ∃ j_ : Int, (shl .u64 (IntKind.u64.wrap (Go.bits .and .u8 (bt a0 x8_1) 127)) (ji9)) = j_ := ⟨_, rfl⟩
         replace H : (if (bt a0 x8_1) ≥ 128 then (spec_l1TakeS.l0 kj2 a0 a1 (wrap64 (Int.tdiv (wrap64 (a1 + 6)) 7)) (Go.bits .or .u64 x7_1 (ji11)) (wrap64 (x8_1 + 1))) else (if (wrap64 (a1 - (wrap64 (7 * x8_1)))) < 7 then (if 0 ≤ (IntKind.u64.wrap (wrap64 ((wrap64 (a1 - (wrap64 (7 * x8_1)))) - 1))) then (if (shr .u64 (IntKind.u64.wrap (Go.bits .and .u8 (bt a0 x8_1) 127)) (IntKind.u64.wrap (wrap64 ((wrap64 (a1 - (wrap64 (7 * x8_1)))) - 1)))) = 0 then (spec_l1TakeS.j2 kj2 (Go.bits .or .u64 x7_1 (ji11)) x8_1 (IntKind.u64.wrap (Go.bits .and .u8 (bt a0 x8_1) 127)) false) else (spec_l1TakeS.j2 kj2 (Go.bits .or .u64 x7_1 (ji11)) x8_1 (IntKind.u64.wrap (Go.bits .and .u8 (bt a0 x8_1) 127)) ((shr .u64 (IntKind.u64.wrap (Go.bits .and .u8 (bt a0 x8_1) 127)) (IntKind.u64.wrap (wrap64 ((wrap64 (a1 - (wrap64 (7 * x8_1)))) - 1)))) != (shr .u64 127 (IntKind.u64.wrap (wrap64 ((wrap64 (a1 - (wrap64 (7 * x8_1)))) - 1))))))) else (none)) else (if (wrap64 (7 * (wrap64 (x8_1 + 1)))) < 64 then (if (Go.bits .and .u64 (IntKind.u64.wrap (Go.bits .and .u8 (bt a0 x8_1) 127)) 64) = 0 then (some (wrap64 (Go.bits .or .u64 x7_1 (ji11)), wrap64 (x8_1 + 1))) else (if 0 ≤ (IntKind.u64.wrap (wrap64 (7 * (wrap64 (x8_1 + 1))))) then (some (wrap64 (Go.bits .or .u64 (Go.bits .or .u64 x7_1 (ji11)) (shl .u64 18446744073709551615 (IntKind.u64.wrap (wrap64 (7 * (wrap64 (x8_1 + 1))))))), wrap64 (x8_1 + 1))) else (none))) else (some (wrap64 (Go.bits .or .u64 x7_1 (ji11)), wrap64 (x8_1 + 1)))))) = some (r1, r2) := by first | (rw [hji11] at H; exact H) | (simp only [hji11] at H ⊢; exact H)
         have hji11_ : (IntKind.u64.wrap ((IntKind.u64.wrap (Go.bits .and .u8 (bt a0 x8_1) 127)) * 2 ^ min (ji9).toNat 64)) = ji11 := hji11
         have hji11z : (ji9) ≤ 64 → (IntKind.u64.wrap ((IntKind.u64.wrap (Go.bits .and .u8 (bt a0 x8_1) 127)) * 2 ^ (ji9).toNat)) = ji11 := shl_small hji11
         by_cases c13 : (bt a0 x8_1) ≥ 128
         ·
          rw [if_pos c13] at H
          have c13b0 : decide (128 ≤ (bt a0 x8_1)) = true := decide_eq_true c13
          clear c13
          have H' := Aside0.mk H
          clear H
          have p8 : 0 ≤ (x8_1 : Int) := of_decide_eq_true (by first | (with_reducible assumption) | assumption)
          have q8 : x8_1 < (a0.size : Int) := of_decide_eq_true (by first | (with_reducible assumption) | assumption)
          have hx8 := bt_at a0 x8_1
          replace p8 := eq_true p8
          replace q8 := eq_true q8
          have p12 : 0 ≤ (x8_1 : Int) := of_decide_eq_true (by first | (with_reducible assumption) | assumption)
          have q12 : x8_1 < (a0.size : Int) := of_decide_eq_true (by first | (with_reducible assumption) | assumption)
          have hx12 := bt_at a0 x8_1
          replace p12 := eq_true p12
          replace q12 := eq_true q12
          go_wp2
          go_roundg kj2
          case measure => have := HK1.out; have := HJ2.out; omega
          case rel => exact ⟨(Go.bits .or .u64 x7_1 (ji11)), (wrap64 (x8_1 + 1)), (by first | rfl | (simp; done) | (simp only [← hji11] <;> (first | rfl | simp)) | (simp [*]; done)), (by first | rfl | (simp; done) | (simp [*]; done)), H', ⟨by have := HK1.out; have := HJ2.out; omega⟩, by repeat (first | exact Drawn0.refl _ | apply Drawn0.step)⟩
         ·
          rw [if_neg c13] at H
          have c13b0 : decide (128 ≤ (bt a0 x8_1)) = false := decide_eq_false c13
          clear c13
          by_cases c14 : (wrap64 (a1 - (wrap64 (7 * x8_1)))) < 7
          ·
           rw [if_pos c14] at H
           have c14b0 : decide ((wrap64 (a1 - (wrap64 (7 * x8_1)))) < 7) = true := decide_eq_true c14
           clear c14
           obtain ⟨ji15, hji15⟩ : ∃ j_ : Int, (IntKind.u64.wrap (wrap64 ((wrap64 (a1 - (wrap64 (7 * x8_1)))) - 1))) = j_ := ⟨_, rfl⟩
           replace H : (if 0 ≤ (ji15) then (if (shr .u64 (IntKind.u64.wrap (Go.bits .and .u8 (bt a0 x8_1) 127)) (ji15)) = 0 then (spec_l1TakeS.j2 kj2 (Go.bits .or .u64 x7_1 (ji11)) x8_1 (IntKind.u64.wrap (Go.bits .and .u8 (bt a0 x8_1) 127)) false) else (spec_l1TakeS.j2 kj2 (Go.bits .or .u64 x7_1 (ji11)) x8_1 (IntKind.u64.wrap (Go.bits .and .u8 (bt a0 x8_1) 127)) ((shr .u64 (IntKind.u64.wrap (Go.bits .and .u8 (bt a0 x8_1) 127)) (ji15)) != (shr .u64 127 (ji15))))) else (none)) = some (r1, r2) := by first | (rw [hji15] at H; exact H) | (simp only [hji15] at H ⊢; exact H)
           by_cases c16 : 0 ≤ (ji15)
           ·
            rw [if_pos c16] at H
            have c16b0 := eq_true c16
            have c16b1 : decide (0 ≤ (ji15)) = true := decide_eq_true c16
            clear c16
            obtain ⟨ji17, hji17⟩ : ∃ j_ : Int, (shr .u64 (IntKind.u64.wrap (Go.bits .and .u8 (bt a0 x8_1) 127)) (ji15)) = j_ := ⟨_, rfl⟩
            replace H : (if (ji17) = 0 then (spec_l1TakeS.j2 kj2 (Go.bits .or .u64 x7_1 (ji11)) x8_1 (IntKind.u64.wrap (Go.bits .and .u8 (bt a0 x8_1) 127)) false) else (spec_l1TakeS.j2 kj2 (Go.bits .or .u64 x7_1 (ji11)) x8_1 (IntKind.u64.wrap (Go.bits .and .u8 (bt a0 x8_1) 127)) ((ji17) != (shr .u64 127 (ji15))))) = some (r1, r2) := by first | (rw [hji17] at H; exact H) | (simp only [hji17] at H ⊢; exact H)
            have hji17_ : ((IntKind.u64.wrap (Go.bits .and .u8 (bt a0 x8_1) 127)) / 2 ^ min (ji15).toNat 64) = ji17 := hji17
            have hji17z : (ji15) ≤ 64 → ((IntKind.u64.wrap (Go.bits .and .u8 (bt a0 x8_1) 127)) / 2 ^ (ji15).toNat) = ji17 := shr_small hji17
            have HC18 := Aside0.mk H
            clear H
            have p8 : 0 ≤ (x8_1 : Int) := of_decide_eq_true (by first | (with_reducible assumption) | assumption)
            have q8 : x8_1 < (a0.size : Int) := of_decide_eq_true (by first | (with_reducible assumption) | assumption)
            have hx8 := bt_at a0 x8_1
            replace p8 := eq_true p8
            replace q8 := eq_true q8
            have p12 : 0 ≤ (x8_1 : Int) := of_decide_eq_true (by first | (with_reducible assumption) | assumption)
            have q12 : x8_1 < (a0.size : Int) := of_decide_eq_true (by first | (with_reducible assumption) | assumption)
            have hx12 := bt_at a0 x8_1
            replace p12 := eq_true p12
            replace q12 := eq_true q12
            go_upto_region 12 with (fail)
            go_cut [63] (fun v63 wc => ∃ (kq : Nat) (x63_17 : Bool), v63 = .bool x63_17 ∧ Aside0 (spec_l1TakeS.j2 kq (Go.bits .or .u64 x7_1 (ji11)) x8_1 (IntKind.u64.wrap (Go.bits .and .u8 (bt a0 x8_1) 127)) x63_17 = some (r1, r2)) ∧ Aside0 (kq ≤ kj2) ∧ Drawn0 w wc)
            case first =>
             have H := HC18.out
             clear HC18
             by_cases c19 : (ji17) = 0
             ·
              rw [if_pos c19] at H
              have c19b0 : ((ji17) == 0) = true := beq_iff_eq.mpr c19
              have c19b1 : ((ji17) != 0) = false := bne_eq_false_iff_eq.mpr c19
              clear c19
              (first | rw [c19b0] | (simp only [i64_w, i32_w]; rw [c19b0]) | skip)
              have H' := Aside0.mk H
              clear H
              go_wp2
              first | go_meet | ((simp only [← hji17]); go_meet) | ((simp only [← hji15]); go_meet) | ((simp only [← hji11]); go_meet) | ((simp only [← hji9]); go_meet) | ((simp only [← hji17, ← hji15, ← hji11, ← hji9]); go_meet)
              case rel => exact ⟨_, (false), (by first | rfl | (simp; done) | (simp [*]; done)), H', ⟨by have := HK1.out; have := HJ2.out; first | omega | exact Nat.le_refl _⟩, by repeat (first | exact Drawn0.refl _ | apply Drawn0.step)⟩
             ·
              rw [if_neg c19] at H
              have c19b0 : ((ji17) == 0) = false := beq_eq_false_iff_ne.mpr c19
              have c19b1 : ((ji17) != 0) = true := bne_iff_ne.mpr c19
              (first | rw [c19b0] | (simp only [i64_w, i32_w]; rw [c19b0]) | skip)
              have c20b0 := eq_true (of_decide_eq_true (by first | (with_reducible assumption) | assumption) : 0 ≤ (ji15))
              obtain ⟨ji21, hji21⟩ : ∃ j_ : Int, (shr .u64 127 (ji15)) = j_ := ⟨_, rfl⟩
              replace H : (spec_l1TakeS.j2 kj2 (Go.bits .or .u64 x7_1 (ji11)) x8_1 (IntKind.u64.wrap (Go.bits .and .u8 (bt a0 x8_1) 127)) ((ji17) != (ji21))) = some (r1, r2) := by first | (rw [hji21] at H; exact H) | (simp only [hji21] at H ⊢; exact H)
              have hji21_ : (127 / 2 ^ min (ji15).toNat 64) = ji21 := hji21
              have hji21z : (ji15) ≤ 64 → (127 / 2 ^ (ji15).toNat) = ji21 := shr_small hji21
              have H' := Aside0.mk H
              clear H
              go_wp2
              first | go_meet | ((simp only [← hji21]); go_meet) | ((simp only [← hji17]); go_meet) | ((simp only [← hji15]); go_meet) | ((simp only [← hji11]); go_meet) | ((simp only [← hji9]); go_meet) | ((simp only [← hji21, ← hji17, ← hji15, ← hji11, ← hji9]); go_meet)
              case rel => exact ⟨_, (((ji17) != (ji21))), (by first | rfl | (simp; done) | (simp only [← hji17, ← hji21] <;> (first | rfl | simp)) | (simp [*]; done)), H', ⟨by have := HK1.out; have := HJ2.out; first | omega | exact Nat.le_refl _⟩, by repeat (first | exact Drawn0.refl _ | apply Drawn0.step)⟩
            case rest =>
             clear HC18
             try clear c1
             try clear p1
             try clear q1
             try clear hx1
             try clear c2
             try clear p2
             try clear c4
             try clear c4b0
             try clear c5
             try clear c6
             try clear c6b0
             try clear p6
             try clear c7
             try clear c7b0
             try clear p8
             try clear q8
             try clear hx8
             try clear c10
             try clear c10b0
             try clear c10b1
             try clear p12
             try clear q12
             try clear hx12
             try clear c13
             try clear c13b0
             try clear c14
             try clear c14b0
             try clear c16
             try clear c16b0
             try clear c16b1
             try clear c19
             try clear c19b0
             try clear c19b1
             try clear c20
             try clear c20b0
             try clear p12
             try clear p2
             try clear p8
             try clear q12
             try clear q8
             obtain ⟨kq, x63_17, rfl, HA, HJ17, ⟨mc17, rfl⟩⟩ := hcut
             cases kq with
             | zero => exact absurd HA.out (by simp [spec_l1TakeS.j2])
             | succ kj17 =>
              have H := HA.out
              clear HA
              simp only [spec_l1TakeS.j2] at H
              by_cases c22 : x63_17 = true
              ·
               subst c22
               have H1 : (some (0, 0)) = some (r1, r2) := by rw [if_pos rfl] at H; exact H
               clear H
               have H := H1
               clear H1
               simp only [Option.some.injEq, Prod.mk.injEq] at H
               obtain ⟨rfl, rfl⟩ := H
               go_wp2
               go_ret2
               exact ⟨by first | rfl | (simp; done) | (simp only [← hji9, ← hji11, ← hji15, ← hji17] <;> (first | rfl | simp)) | (simp [*]; done), by repeat (first | exact Drawn0.refl _ | apply Drawn0.step)⟩
              ·
               replace c22 := Bool.eq_false_iff.mpr c22
               subst c22
               have H1 : (if (wrap64 (7 * (wrap64 (x8_1 + 1)))) < 64 then (if (Go.bits .and .u64 (IntKind.u64.wrap (Go.bits .and .u8 (bt a0 x8_1) 127)) 64) = 0 then (some (wrap64 ((Go.bits .or .u64 x7_1 (ji11))), wrap64 (x8_1 + 1))) else (if 0 ≤ (IntKind.u64.wrap (wrap64 (7 * (wrap64 (x8_1 + 1))))) then (some (wrap64 (Go.bits .or .u64 (Go.bits .or .u64 x7_1 (ji11)) (shl .u64 18446744073709551615 (IntKind.u64.wrap (wrap64 (7 * (wrap64 (x8_1 + 1))))))), wrap64 (x8_1 + 1))) else (none))) else (some (wrap64 ((Go.bits .or .u64 x7_1 (ji11))), wrap64 (x8_1 + 1)))) = some (r1, r2) := by rw [if_neg (show ¬ (false = true) by decide)] at H; exact H
               clear H
               have H := H1
               clear H1
               by_cases c23 : (wrap64 (7 * (wrap64 (x8_1 + 1)))) < 64
               ·
                rw [if_pos c23] at H
                have c23b0 : decide ((wrap64 (7 * (wrap64 (x8_1 + 1)))) < 64) = true := decide_eq_true c23
                clear c23
                by_cases c24 : (Go.bits .and .u64 (IntKind.u64.wrap (Go.bits .and .u8 (bt a0 x8_1) 127)) 64) = 0
                ·
                 rw [if_pos c24] at H
                 have c24b0 : ((Go.bits .and .u64 (IntKind.u64.wrap (Go.bits .and .u8 (bt a0 x8_1) 127)) 64) == 0) = true := beq_iff_eq.mpr c24
                 have c24b1 : ((Go.bits .and .u64 (IntKind.u64.wrap (Go.bits .and .u8 (bt a0 x8_1) 127)) 64) != 0) = false := bne_eq_false_iff_eq.mpr c24
                 clear c24
                 simp only [Option.some.injEq, Prod.mk.injEq] at H
                 obtain ⟨rfl, rfl⟩ := H
                 go_wp2
                 go_ret2
                 exact ⟨by first | rfl | (simp; done) | (simp only [← hji9, ← hji11, ← hji15, ← hji17] <;> (first | rfl | simp)) | (simp [*]; done), by repeat (first | exact Drawn0.refl _ | apply Drawn0.step)⟩
                ·
                 rw [if_neg c24] at H
                 have c24b0 : ((Go.bits .and .u64 (IntKind.u64.wrap (Go.bits .and .u8 (bt a0 x8_1) 127)) 64) == 0) = false := beq_eq_false_iff_ne.mpr c24
                 have c24b1 : ((Go.bits .and .u64 (IntKind.u64.wrap (Go.bits .and .u8 (bt a0 x8_1) 127)) 64) != 0) = true := bne_iff_ne.mpr c24
                 obtain ⟨ji25, hji25⟩ : ∃ j_ : Int, (IntKind.u64.wrap (wrap64 (7 * (wrap64 (x8_1 + 1))))) = j_ := ⟨_, rfl⟩
                 replace H : (if 0 ≤ (ji25) then (some (wrap64 (Go.bits .or .u64 (Go.bits .or .u64 x7_1 (ji11)) (shl .u64 18446744073709551615 (ji25))), wrap64 (x8_1 + 1))) else (none)) = some (r1, r2) := by first | (rw [hji25] at H; exact H) | (simp only [hji25] at H ⊢; exact H)
                 by_cases c26 : 0 ≤ (ji25)
                 ·
                  rw [if_pos c26] at H
                  have c26b0 := eq_true c26
                  have c26b1 : decide (0 ≤ (ji25)) = true := decide_eq_true c26
                  clear c26
                  obtain ⟨ji27, hji27⟩ : ∃ j_ : Int, (shl .u64 18446744073709551615 (ji25)) = j_ := ⟨_, rfl⟩
                  replace H : (some (wrap64 (Go.bits .or .u64 (Go.bits .or .u64 x7_1 (ji11)) (ji27)), wrap64 (x8_1 + 1))) = some (r1, r2) := by first | (rw [hji27] at H; exact H) | (simp only [hji27] at H ⊢; exact H)
                  have hji27_ : (IntKind.u64.wrap (18446744073709551615 * 2 ^ min (ji25).toNat 64)) = ji27 := hji27
                  have hji27z : (ji25) ≤ 64 → (IntKind.u64.wrap (18446744073709551615 * 2 ^ (ji25).toNat)) = ji27 := shl_small hji27
                  simp only [Option.some.injEq, Prod.mk.injEq] at H
                  obtain ⟨rfl, rfl⟩ := H
                  go_wp2
                  go_ret2
                  exact ⟨by first | rfl | (simp; done) | (simp only [← hji9, ← hji11, ← hji15, ← hji17, ← hji25, ← hji27] <;> (first | rfl | simp)) | (simp [*]; done), by repeat (first | exact Drawn0.refl _ | apply Drawn0.step)⟩
                 ·
                  rw [if_neg c26] at H
                  exact absurd H (by simp)
               ·
                rw [if_neg c23] at H
                have c23b0 : decide ((wrap64 (7 * (wrap64 (x8_1 + 1)))) < 64) = false := decide_eq_false c23
                clear c23
                simp only [Option.some.injEq, Prod.mk.injEq] at H
                obtain ⟨rfl, rfl⟩ := H
                go_wp2
                go_ret2
                exact ⟨by first | rfl | (simp; done) | (simp only [← hji9, ← hji11, ← hji15, ← hji17] <;> (first | rfl | simp)) | (simp [*]; done), by repeat (first | exact Drawn0.refl _ | apply Drawn0.step)⟩
           ·
            rw [if_neg c16] at H
            exact absurd H (by simp)
          ·
           rw [if_neg c14] at H
           have c14b0 : decide ((wrap64 (a1 - (wrap64 (7 * x8_1)))) < 7) = false := decide_eq_false c14
           clear c14
           by_cases c28 : (wrap64 (7 * (wrap64 (x8_1 + 1)))) < 64
           ·
            rw [if_pos c28] at H
            have c28b0 : decide ((wrap64 (7 * (wrap64 (x8_1 + 1)))) < 64) = true := decide_eq_true c28
            clear c28
            by_cases c29 : (Go.bits .and .u64 (IntKind.u64.wrap (Go.bits .and .u8 (bt a0 x8_1) 127)) 64) = 0
            ·
             rw [if_pos c29] at H
             have c29b0 : ((Go.bits .and .u64 (IntKind.u64.wrap (Go.bits .and .u8 (bt a0 x8_1) 127)) 64) == 0) = true := beq_iff_eq.mpr c29
             have c29b1 : ((Go.bits .and .u64 (IntKind.u64.wrap (Go.bits .and .u8 (bt a0 x8_1) 127)) 64) != 0) = false := bne_eq_false_iff_eq.mpr c29
             clear c29
             simp only [Option.some.injEq, Prod.mk.injEq] at H
             obtain ⟨rfl, rfl⟩ := H
             have p8 : 0 ≤ (x8_1 : Int) := of_decide_eq_true (by first | (with_reducible assumption) | assumption)
             have q8 : x8_1 < (a0.size : Int) := of_decide_eq_true (by first | (with_reducible assumption) | assumption)
             have hx8 := bt_at a0 x8_1
             replace p8 := eq_true p8
             replace q8 := eq_true q8
             have p12 : 0 ≤ (x8_1 : Int) := of_decide_eq_true (by first | (with_reducible assumption) | assumption)
             have q12 : x8_1 < (a0.size : Int) := of_decide_eq_true (by first | (with_reducible assumption) | assumption)
             have hx12 := bt_at a0 x8_1
             replace p12 := eq_true p12
             replace q12 := eq_true q12
             go_wp2
             go_ret2
             exact ⟨by first | rfl | (simp; done) | (simp only [← hji9, ← hji11] <;> (first | rfl | simp)) | (simp [*]; done), by repeat (first | exact Drawn0.refl _ | apply Drawn0.step)⟩
            ·
             rw [if_neg c29] at H
             have c29b0 : ((Go.bits .and .u64 (IntKind.u64.wrap (Go.bits .and .u8 (bt a0 x8_1) 127)) 64) == 0) = false := beq_eq_false_iff_ne.mpr c29
             have c29b1 : ((Go.bits .and .u64 (IntKind.u64.wrap (Go.bits .and .u8 (bt a0 x8_1) 127)) 64) != 0) = true := bne_iff_ne.mpr c29
             obtain ⟨ji30, hji30⟩ : ∃ j_ : Int, (IntKind.u64.wrap (wrap64 (7 * (wrap64 (x8_1 + 1))))) = j_ := ⟨_, rfl⟩
             replace H : (if 0 ≤ (ji30) then (some (wrap64 (Go.bits .or .u64 (Go.bits .or .u64 x7_1 (ji11)) (shl .u64 18446744073709551615 (ji30))), wrap64 (x8_1 + 1))) else (none)) = some (r1, r2) := by first | (rw [hji30] at H; exact H) | (simp only [hji30] at H ⊢; exact H)
             by_cases c31 : 0 ≤ (ji30)
             ·
              rw [if_pos c31] at H
              have c31b0 := eq_true c31
              have c31b1 : decide (0 ≤ (ji30)) = true := decide_eq_true c31
              clear c31
              obtain ⟨ji32, hji32⟩ : ∃ j_ : Int, (shl .u64 18446744073709551615 (ji30)) = j_ := ⟨_, rfl⟩
              replace H : (some (wrap64 (Go.bits .or .u64 (Go.bits .or .u64 x7_1 (ji11)) (ji32)), wrap64 (x8_1 + 1))) = some (r1, r2) := by first | (rw [hji32] at H; exact H) | (simp only [hji32] at H ⊢; exact H)
              have hji32_ : (IntKind.u64.wrap (18446744073709551615 * 2 ^ min (ji30).toNat 64)) = ji32 := hji32
              have hji32z : (ji30) ≤ 64 → (IntKind.u64.wrap (18446744073709551615 * 2 ^ (ji30).toNat)) = ji32 := shl_small hji32
              simp only [Option.some.injEq, Prod.mk.injEq] at H
              obtain ⟨rfl, rfl⟩ := H
              have p8 : 0 ≤ (x8_1 : Int) := of_decide_eq_true (by first | (with_reducible assumption) | assumption)
              have q8 : x8_1 < (a0.size : Int) := of_decide_eq_true (by first | (with_reducible assumption) | assumption)
              have hx8 := bt_at a0 x8_1
              replace p8 := eq_true p8
              replace q8 := eq_true q8
              have p12 : 0 ≤ (x8_1 : Int) := of_decide_eq_true (by first | (with_reducible assumption) | assumption)
              have q12 : x8_1 < (a0.size : Int) := of_decide_eq_true (by first | (with_reducible assumption) | assumption)
              have hx12 := bt_at a0 x8_1
              replace p12 := eq_true p12
              replace q12 := eq_true q12
              go_wp2
              go_ret2
              exact ⟨by first | rfl | (simp; done) | (simp only [← hji9, ← hji11, ← hji30, ← hji32] <;> (first | rfl | simp)) | (simp [*]; done), by repeat (first | exact Drawn0.refl _ | apply Drawn0.step)⟩
             ·
              rw [if_neg c31] at H
              exact absurd H (by simp)
           ·
            rw [if_neg c28] at H
            have c28b0 : decide ((wrap64 (7 * (wrap64 (x8_1 + 1)))) < 64) = false := decide_eq_false c28
            clear c28
            simp only [Option.some.injEq, Prod.mk.injEq] at H
            obtain ⟨rfl, rfl⟩ := H
            have p8 : 0 ≤ (x8_1 : Int) := of_decide_eq_true (by first | (with_reducible assumption) | assumption)
            have q8 : x8_1 < (a0.size : Int) := of_decide_eq_true (by first | (with_reducible assumption) | assumption)
            have hx8 := bt_at a0 x8_1
            replace p8 := eq_true p8
            replace q8 := eq_true q8
            have p12 : 0 ≤ (x8_1 : Int) := of_decide_eq_true (by first | (with_reducible assumption) | assumption)
            have q12 : x8_1 < (a0.size : Int) := of_decide_eq_true (by first | (with_reducible assumption) | assumption)
            have hx12 := bt_at a0 x8_1
            replace p12 := eq_true p12
            replace q12 := eq_true q12
            go_wp2
            go_ret2
            exact ⟨by first | rfl | (simp; done) | (simp only [← hji9, ← hji11] <;> (first | rfl | simp)) | (simp [*]; done), by repeat (first | exact Drawn0.refl _ | apply Drawn0.step)⟩
        ·
         rw [if_neg c10] at H
         exact absurd H (by simp)
       ·
        rw [if_neg c7] at H
        exact absurd H (by simp)
      ·
       rw [if_neg c6] at H
       exact absurd H (by simp)
     ·
      replace c5 := Bool.eq_false_iff.mpr c5
      subst c5
      have H1 : (some (0, 0)) = some (r1, r2) := by rw [if_neg (show ¬ (false = true) by decide)] at H; exact H
      clear H
      have H := H1
      clear H1
      simp only [Option.some.injEq, Prod.mk.injEq] at H
      obtain ⟨rfl, rfl⟩ := H
      go_wp2
      go_ret2
      exact ⟨by first | rfl | (simp; done) | (simp [*]; done), by repeat (first | exact Drawn0.refl _ | apply Drawn0.step)⟩

end Go.Proofs.Ytdckgbmonojdaaa.Q

namespace Go.Proofs.Ytdckgbmonojdaaa.Q
open Go.RowKit Go.Proofs.YtdckgbmonojdaaaW.PrintWords Go.Proofs.YtdckgbmonojdaaaW.PrintLast Go.Proofs.YtdckgbmonojdaaaW.PrintMore
attribute [local go_sem] max2_int min2_int max_two min_two max_three min_three max_four min_four   -- for this text's walks alone
set_option linter.unusedVariables false
set_option linter.unusedSimpArgs false

/-! ### spec_TakeSleb: function 24 -/
def spec_TakeSleb.f (k : Nat) (a0 : ByteArray) (a1 : Int) : Option (Int × Int) := (spec_l1In.f a1 1 64).bind fun t357 => (if t357 = true then ((spec_l1TakeS.f k a0 a1).bind fun bt358 => (some (bt358.1, bt358.2))) else (some (0, 0)))
theorem spec_TakeSleb.mono : ∀ a0 a1 k, LeO (spec_TakeSleb.f k a0 a1) (spec_TakeSleb.f (k + 1) a0 a1) := by
 intro a0 a1 k
 unfold spec_TakeSleb.f
 repeat' first
   | (with_reducible exact spec_l1TakeS.mono _ _ _)
   | (with_reducible exact LeO.refl _)
   | (with_reducible exact LeO.none _)
   | (with_reducible refine LeO.ite ?_ ?_)
   | (with_reducible refine LeO.bind ?_ (fun _ => ?_))
   | exact spec_l1TakeS.mono _ _ _
   | exact LeO.none _
   | refine LeO.ite ?_ ?_
   | refine LeO.bind ?_ (fun _ => ?_)
set_option maxHeartbeats 8000000 in
set_option maxRecDepth 100000 in
theorem spec_TakeSleb.calls (k : Nat) (a0 : ByteArray) (a1 : Int) (r1 : Int) (r2 : Int) (w : World) (h : spec_TakeSleb.f k a0 a1 = some (r1, r2)) :
  Calls Try.prog 24 #[.string a0, .int .i64 a1] w fun e w' => e = .returned (.tuple #[.int .i64 r1, .int .i64 r2]) ∧ Drawn0 w w' := by
 have H : ((spec_l1In.f a1 1 64).bind fun t357 => (if t357 = true then ((spec_l1TakeS.f k a0 a1).bind fun bt358 => (some (bt358.1, bt358.2))) else (some (0, 0)))) = some (r1, r2) := h
 clear h
 replace H := Option.bind_eq_some_iff.mp H
 obtain ⟨t357, A30, H⟩ := H
 replace H : (if t357 = true then ((spec_l1TakeS.f k a0 a1).bind fun bt358 => (some (bt358.1, bt358.2))) else (some (0, 0))) = some (r1, r2) := H
 have A3 := Aside0.mk A30
 clear A30
 by_cases c4 : t357 = true
 ·
  subst c4
  have H1 : ((spec_l1TakeS.f k a0 a1).bind fun bt358 => (some (bt358.1, bt358.2))) = some (r1, r2) := by rw [if_pos rfl] at H; exact H
  clear H
  have H := H1
  clear H1
  replace H := Option.bind_eq_some_iff.mp H
  obtain ⟨⟨t358, t359⟩, A50, H⟩ := H
  replace H : (some (t358, t359)) = some (r1, r2) := H
  have A5 := Aside0.mk A50
  clear A50
  simp only [Option.some.injEq, Prod.mk.injEq] at H
  obtain ⟨rfl, rfl⟩ := H
  go_enter Try.func24, Try.ntmps24
  go_wp2_with (first | ((with_reducible refine gate_callee (f := 36) rfl ?_); refine goesL_ (some 7) rfl rfl Try.func36 (by kernel_rfl) rfl #[.int .i64 a1, .int .i64 1, .int .i64 64] rfl ar ?_; (with_reducible refine (spec_l1In.calls a1 1 64 true _ A3.out).mono ?_); rintro e w' ⟨rfl, ⟨nd, rfl⟩⟩; refine ⟨_, rfl, ?_⟩) | ((with_reducible refine gate_callee (f := 50) rfl ?_); refine goesL_ (some 11) rfl rfl Try.func50 (by kernel_rfl) rfl #[.string a0, .int .i64 a1] rfl ar ?_; (with_reducible refine (spec_l1TakeS.calls k a0 a1 t358 t359 _ A5.out).mono ?_); rintro e w' ⟨rfl, ⟨nd, rfl⟩⟩; refine ⟨_, rfl, ?_⟩))
  go_ret2
  exact ⟨by first | rfl | (simp; done) | (simp [*]; done), by repeat (first | exact Drawn0.refl _ | apply Drawn0.step)⟩
 ·
  replace c4 := Bool.eq_false_iff.mpr c4
  subst c4
  have H1 : (some (0, 0)) = some (r1, r2) := by rw [if_neg (show ¬ (false = true) by decide)] at H; exact H
  clear H
  have H := H1
  clear H1
  simp only [Option.some.injEq, Prod.mk.injEq] at H
  obtain ⟨rfl, rfl⟩ := H
  go_enter Try.func24, Try.ntmps24
  go_wp2_with (first | ((with_reducible refine gate_callee (f := 36) rfl ?_); refine goesL_ (some 7) rfl rfl Try.func36 (by kernel_rfl) rfl #[.int .i64 a1, .int .i64 1, .int .i64 64] rfl ar ?_; (with_reducible refine (spec_l1In.calls a1 1 64 false _ A3.out).mono ?_); rintro e w' ⟨rfl, ⟨nd, rfl⟩⟩; refine ⟨_, rfl, ?_⟩))
  go_ret2
  exact ⟨by first | rfl | (simp; done) | (simp [*]; done), by repeat (first | exact Drawn0.refl _ | apply Drawn0.step)⟩

end Go.Proofs.Ytdckgbmonojdaaa.Q

namespace Go.Proofs.Ytdckgbmonojdaaa.Q
open Go.RowKit Go.Proofs.YtdckgbmonojdaaaW.PrintWords Go.Proofs.YtdckgbmonojdaaaW.PrintLast Go.Proofs.YtdckgbmonojdaaaW.PrintMore
attribute [local go_sem] max2_int min2_int max_two min_two max_three min_three max_four min_four   -- for this text's walks alone
set_option linter.unusedVariables false
set_option linter.unusedSimpArgs false

/-! ### laws_FnLebs: function 5 -/
mutual
def laws_FnLebs.j0 : Nat → List Int → Int → ByteArray → Bool → Option (Bool)
 | 0, _, _, _, _ => none
 | k + 1, x1, x5, x6, x58 => if x58 = true then (some false) else (if (x6.size : Int) > 1 then (if 0 ≤ (IntKind.u64.wrap (wrap64 (7 * (wrap64 ((x6.size : Int) - 1))))) then (if (shr .u64 x5 (IntKind.u64.wrap (wrap64 (7 * (wrap64 ((x6.size : Int) - 1)))))) = 0 then (laws_FnLebs.j1 k x1 true) else (if (x6.size : Int) < 10 then (if 0 ≤ (IntKind.u64.wrap (wrap64 (7 * (x6.size : Int)))) then (laws_FnLebs.j1 k x1 ((shr .u64 x5 (IntKind.u64.wrap (wrap64 (7 * (x6.size : Int))))) != 0)) else (none)) else (laws_FnLebs.j1 k x1 false))) else (none)) else (if (x6.size : Int) < 10 then (if 0 ≤ (IntKind.u64.wrap (wrap64 (7 * (x6.size : Int)))) then (laws_FnLebs.j1 k x1 ((shr .u64 x5 (IntKind.u64.wrap (wrap64 (7 * (x6.size : Int))))) != 0)) else (none)) else (laws_FnLebs.j1 k x1 false)))
def laws_FnLebs.j1 : Nat → List Int → Bool → Option (Bool)
 | 0, _, _ => none
 | k + 1, x1, x83 => if x83 = true then (some false) else ((spec_DrawSlebBytes.f k x1).bind fun t366 => ((impl_SlebBytes.f k t366).bind fun t367 => (if t367.size + 4 ≤ 9223372036854775807 then ((impl_TakeSleb.f k (t367 ++ (⟨#[109, 111, 114, 101]⟩ : ByteArray)) 64).bind fun bt368 => ((spec_SlebBytes.f k t366).bind fun t370 => (if t367.toList = t370.toList then (if bt368.1 = t366 then (laws_FnLebs.j2 k x1 t366 t367 (bt368.2 != (t367.size : Int))) else (laws_FnLebs.j2 k x1 t366 t367 true)) else (laws_FnLebs.j2 k x1 t366 t367 true)))) else (none))))
def laws_FnLebs.j2 : Nat → List Int → Int → ByteArray → Bool → Option (Bool)
 | 0, _, _, _, _ => none
 | k + 1, x1, x10, x11, x108 => if x108 = true then (some false) else (if (wrap64 (7 * (x11.size : Int))) < 64 then (if 0 ≤ (IntKind.u64.wrap (wrap64 ((wrap64 (7 * (x11.size : Int))) - 1))) then (if x10 < (shl .i64 (-1) (IntKind.u64.wrap (wrap64 ((wrap64 (7 * (x11.size : Int))) - 1)))) then (laws_FnLebs.j3 k x1 true) else (laws_FnLebs.j3 k x1 (decide (x10 ≥ (shl .i64 1 (IntKind.u64.wrap (wrap64 ((wrap64 (7 * (x11.size : Int))) - 1)))))))) else (none)) else (laws_FnLebs.j3 k x1 false))
def laws_FnLebs.j3 : Nat → List Int → Bool → Option (Bool)
 | 0, _, _ => none
 | k + 1, x1, x129 => if x129 = true then (some false) else ((spec_DrawTakeSleb.f k x1).bind fun bt371 => ((impl_TakeSleb.f k bt371.1 bt371.2).bind fun bt373 => ((spec_TakeSleb.f k bt371.1 bt371.2).bind fun bt375 => (if bt373.1 = bt375.1 then (some (bt373.2 == bt375.2)) else (some false)))))
end
def laws_FnLebs.f (k : Nat) (l0 : List Int) (l1 : List Int) : Option (Bool) := if (wrap64 ((l0.length : Int) + (l1.length : Int))) > 1048576 then (some true) else ((spec_DrawUlebBytes.f k l0).bind fun t360 => ((impl_UlebBytes.f k t360).bind fun t361 => (if t361.size + 4 ≤ 9223372036854775807 then ((impl_TakeUleb.f k (t361 ++ (⟨#[109, 111, 114, 101]⟩ : ByteArray)) 64).bind fun bt362 => ((spec_UlebBytes.f k t360).bind fun t364 => (if t361.toList = t364.toList then (if bt362.1 = t360 then (if bt362.2 = (t361.size : Int) then ((impl_UlebSize.f k t360).bind fun t365 => (laws_FnLebs.j0 k l1 t360 t361 (t365 != (t361.size : Int)))) else (laws_FnLebs.j0 k l1 t360 t361 true)) else (laws_FnLebs.j0 k l1 t360 t361 true)) else (laws_FnLebs.j0 k l1 t360 t361 true)))) else (none))))
theorem laws_FnLebs.mono_l : ∀ k, (∀ y0 y1 y2 y3, LeO (laws_FnLebs.j0 k y0 y1 y2 y3) (laws_FnLebs.j0 (k + 1) y0 y1 y2 y3)) ∧ (∀ y0 y1, LeO (laws_FnLebs.j1 k y0 y1) (laws_FnLebs.j1 (k + 1) y0 y1)) ∧ (∀ y0 y1 y2 y3, LeO (laws_FnLebs.j2 k y0 y1 y2 y3) (laws_FnLebs.j2 (k + 1) y0 y1 y2 y3)) ∧ (∀ y0 y1, LeO (laws_FnLebs.j3 k y0 y1) (laws_FnLebs.j3 (k + 1) y0 y1))
 | 0 => ⟨fun _ _ _ _ r h => by simp [laws_FnLebs.j0] at h, fun _ _ r h => by simp [laws_FnLebs.j1] at h, fun _ _ _ _ r h => by simp [laws_FnLebs.j2] at h, fun _ _ r h => by simp [laws_FnLebs.j3] at h⟩
 | k + 1 => by
  obtain ⟨ih0, ih1, ih2, ih3⟩ := laws_FnLebs.mono_l k
  refine ⟨?_, ?_, ?_, ?_⟩
  ·
   intro y0 y1 y2 y3
   unfold laws_FnLebs.j0
   repeat' first
   | (with_reducible exact ih0 _ _ _ _)
   | (with_reducible exact ih1 _ _)
   | (with_reducible exact ih2 _ _ _ _)
   | (with_reducible exact ih3 _ _)
   | (with_reducible exact impl_SlebBytes.mono _ _)
   | (with_reducible exact impl_TakeSleb.mono _ _ _)
   | (with_reducible exact impl_TakeUleb.mono _ _ _)
   | (with_reducible exact impl_UlebBytes.mono _ _)
   | (with_reducible exact impl_UlebSize.mono _ _)
   | (with_reducible exact spec_DrawSlebBytes.mono _ _)
   | (with_reducible exact spec_DrawTakeSleb.mono _ _)
   | (with_reducible exact spec_DrawUlebBytes.mono _ _)
   | (with_reducible exact spec_SlebBytes.mono _ _)
   | (with_reducible exact spec_TakeSleb.mono _ _ _)
   | (with_reducible exact spec_UlebBytes.mono _ _)
   | (with_reducible exact LeO.refl _)
   | (with_reducible exact LeO.none _)
   | (with_reducible refine LeO.ite ?_ ?_)
   | (with_reducible refine LeO.bind ?_ (fun _ => ?_))
   | exact ih0 _ _ _ _
   | exact ih1 _ _
   | exact ih2 _ _ _ _
   | exact ih3 _ _
   | exact impl_SlebBytes.mono _ _
   | exact impl_TakeSleb.mono _ _ _
   | exact impl_TakeUleb.mono _ _ _
   | exact impl_UlebBytes.mono _ _
   | exact impl_UlebSize.mono _ _
   | exact spec_DrawSlebBytes.mono _ _
   | exact spec_DrawTakeSleb.mono _ _
   | exact spec_DrawUlebBytes.mono _ _
   | exact spec_SlebBytes.mono _ _
   | exact spec_TakeSleb.mono _ _ _
   | exact spec_UlebBytes.mono _ _
   | exact LeO.none _
   | refine LeO.ite ?_ ?_
   | refine LeO.bind ?_ (fun _ => ?_)
  ·
   intro y0 y1
   unfold laws_FnLebs.j1
   repeat' first
   | (with_reducible exact ih0 _ _ _ _)
   | (with_reducible exact ih1 _ _)
   | (with_reducible exact ih2 _ _ _ _)
   | (with_reducible exact ih3 _ _)
   | (with_reducible exact impl_SlebBytes.mono _ _)
   | (with_reducible exact impl_TakeSleb.mono _ _ _)
   | (with_reducible exact impl_TakeUleb.mono _ _ _)
   | (with_reducible exact impl_UlebBytes.mono _ _)
   | (with_reducible exact impl_UlebSize.mono _ _)
   | (with_reducible exact spec_DrawSlebBytes.mono _ _)
   | (with_reducible exact spec_DrawTakeSleb.mono _ _)
   | (with_reducible exact spec_DrawUlebBytes.mono _ _)
   | (with_reducible exact spec_SlebBytes.mono _ _)
   | (with_reducible exact spec_TakeSleb.mono _ _ _)
   | (with_reducible exact spec_UlebBytes.mono _ _)
   | (with_reducible exact LeO.refl _)
   | (with_reducible exact LeO.none _)
   | (with_reducible refine LeO.ite ?_ ?_)
   | (with_reducible refine LeO.bind ?_ (fun _ => ?_))
   | exact ih0 _ _ _ _
   | exact ih1 _ _
   | exact ih2 _ _ _ _
   | exact ih3 _ _
   | exact impl_SlebBytes.mono _ _
   | exact impl_TakeSleb.mono _ _ _
   | exact impl_TakeUleb.mono _ _ _
   | exact impl_UlebBytes.mono _ _
   | exact impl_UlebSize.mono _ _
   | exact spec_DrawSlebBytes.mono _ _
   | exact spec_DrawTakeSleb.mono _ _
   | exact spec_DrawUlebBytes.mono _ _
   | exact spec_SlebBytes.mono _ _
   | exact spec_TakeSleb.mono _ _ _
   | exact spec_UlebBytes.mono _ _
   | exact LeO.none _
   | refine LeO.ite ?_ ?_
   | refine LeO.bind ?_ (fun _ => ?_)
  ·
   intro y0 y1 y2 y3
   unfold laws_FnLebs.j2
   repeat' first
   | (with_reducible exact ih0 _ _ _ _)
   | (with_reducible exact ih1 _ _)
   | (with_reducible exact ih2 _ _ _ _)
   | (with_reducible exact ih3 _ _)
   | (with_reducible exact impl_SlebBytes.mono _ _)
   | (with_reducible exact impl_TakeSleb.mono _ _ _)
   | (with_reducible exact impl_TakeUleb.mono _ _ _)
   | (with_reducible exact impl_UlebBytes.mono _ _)
   | (with_reducible exact impl_UlebSize.mono _ _)
   | (with_reducible exact spec_DrawSlebBytes.mono _ _)
   | (with_reducible exact spec_DrawTakeSleb.mono _ _)
   | (with_reducible exact spec_DrawUlebBytes.mono _ _)
   | (with_reducible exact spec_SlebBytes.mono _ _)
   | (with_reducible exact spec_TakeSleb.mono _ _ _)
   | (with_reducible exact spec_UlebBytes.mono _ _)
   | (with_reducible exact LeO.refl _)
   | (with_reducible exact LeO.none _)
   | (with_reducible refine LeO.ite ?_ ?_)
   | (with_reducible refine LeO.bind ?_ (fun _ => ?_))
   | exact ih0 _ _ _ _
   | exact ih1 _ _
   | exact ih2 _ _ _ _
   | exact ih3 _ _
   | exact impl_SlebBytes.mono _ _
   | exact impl_TakeSleb.mono _ _ _
   | exact impl_TakeUleb.mono _ _ _
   | exact impl_UlebBytes.mono _ _
   | exact impl_UlebSize.mono _ _
   | exact spec_DrawSlebBytes.mono _ _
   | exact spec_DrawTakeSleb.mono _ _
   | exact spec_DrawUlebBytes.mono _ _
   | exact spec_SlebBytes.mono _ _
   | exact spec_TakeSleb.mono _ _ _
   | exact spec_UlebBytes.mono _ _
   | exact LeO.none _
   | refine LeO.ite ?_ ?_
   | refine LeO.bind ?_ (fun _ => ?_)
  ·
   intro y0 y1
   unfold laws_FnLebs.j3
   repeat' first
   | (with_reducible exact ih0 _ _ _ _)
   | (with_reducible exact ih1 _ _)
   | (with_reducible exact ih2 _ _ _ _)
   | (with_reducible exact ih3 _ _)
   | (with_reducible exact impl_SlebBytes.mono _ _)
   | (with_reducible exact impl_TakeSleb.mono _ _ _)
   | (with_reducible exact impl_TakeUleb.mono _ _ _)
   | (with_reducible exact impl_UlebBytes.mono _ _)
   | (with_reducible exact impl_UlebSize.mono _ _)
   | (with_reducible exact spec_DrawSlebBytes.mono _ _)
   | (with_reducible exact spec_DrawTakeSleb.mono _ _)
   | (with_reducible exact spec_DrawUlebBytes.mono _ _)
   | (with_reducible exact spec_SlebBytes.mono _ _)
   | (with_reducible exact spec_TakeSleb.mono _ _ _)
   | (with_reducible exact spec_UlebBytes.mono _ _)
   | (with_reducible exact LeO.refl _)
   | (with_reducible exact LeO.none _)
   | (with_reducible refine LeO.ite ?_ ?_)
   | (with_reducible refine LeO.bind ?_ (fun _ => ?_))
   | exact ih0 _ _ _ _
   | exact ih1 _ _
   | exact ih2 _ _ _ _
   | exact ih3 _ _
   | exact impl_SlebBytes.mono _ _
   | exact impl_TakeSleb.mono _ _ _
   | exact impl_TakeUleb.mono _ _ _
   | exact impl_UlebBytes.mono _ _
   | exact impl_UlebSize.mono _ _
   | exact spec_DrawSlebBytes.mono _ _
   | exact spec_DrawTakeSleb.mono _ _
   | exact spec_DrawUlebBytes.mono _ _
   | exact spec_SlebBytes.mono _ _
   | exact spec_TakeSleb.mono _ _ _
   | exact spec_UlebBytes.mono _ _
   | exact LeO.none _
   | refine LeO.ite ?_ ?_
   | refine LeO.bind ?_ (fun _ => ?_)
theorem laws_FnLebs.mono : ∀ a0 a1 k, LeO (laws_FnLebs.f k a0 a1) (laws_FnLebs.f (k + 1) a0 a1) := by
 intro a0 a1 k
 obtain ⟨ih0, ih1, ih2, ih3⟩ := laws_FnLebs.mono_l k
 unfold laws_FnLebs.f
 repeat' first
   | (with_reducible exact ih0 _ _ _ _)
   | (with_reducible exact ih1 _ _)
   | (with_reducible exact ih2 _ _ _ _)
   | (with_reducible exact ih3 _ _)
   | (with_reducible exact impl_SlebBytes.mono _ _)
   | (with_reducible exact impl_TakeSleb.mono _ _ _)
   | (with_reducible exact impl_TakeUleb.mono _ _ _)
   | (with_reducible exact impl_UlebBytes.mono _ _)
   | (with_reducible exact impl_UlebSize.mono _ _)
   | (with_reducible exact spec_DrawSlebBytes.mono _ _)
   | (with_reducible exact spec_DrawTakeSleb.mono _ _)
   | (with_reducible exact spec_DrawUlebBytes.mono _ _)
   | (with_reducible exact spec_SlebBytes.mono _ _)
   | (with_reducible exact spec_TakeSleb.mono _ _ _)
   | (with_reducible exact spec_UlebBytes.mono _ _)
   | (with_reducible exact LeO.refl _)
   | (with_reducible exact LeO.none _)
   | (with_reducible refine LeO.ite ?_ ?_)
   | (with_reducible refine LeO.bind ?_ (fun _ => ?_))
   | exact ih0 _ _ _ _
   | exact ih1 _ _
   | exact ih2 _ _ _ _
   | exact ih3 _ _
   | exact impl_SlebBytes.mono _ _
   | exact impl_TakeSleb.mono _ _ _
   | exact impl_TakeUleb.mono _ _ _
   | exact impl_UlebBytes.mono _ _
   | exact impl_UlebSize.mono _ _
   | exact spec_DrawSlebBytes.mono _ _
   | exact spec_DrawTakeSleb.mono _ _
   | exact spec_DrawUlebBytes.mono _ _
   | exact spec_SlebBytes.mono _ _
   | exact spec_TakeSleb.mono _ _ _
   | exact spec_UlebBytes.mono _ _
   | exact LeO.none _
   | refine LeO.ite ?_ ?_
   | refine LeO.bind ?_ (fun _ => ?_)
set_option maxHeartbeats 8000000 in
set_option maxRecDepth 100000 in
theorem laws_FnLebs.calls (k : Nat) (A0 : Option Addr) (c0 : Nat) (l0 : List Int) (A1 : Option Addr) (c1 : Nat) (l1 : List Int) (r : Bool) (w : World) (hr0 : Kd.C (Kd.int .u8) w A0 l0.length l0) (hc0 : l0.length ≤ c0) (hr1 : Kd.C (Kd.int .u8) w A1 l1.length l1) (hc1 : l1.length ≤ c1) (hTrue : r = true) (h : laws_FnLebs.f k l0 l1 = some r) :
  Calls Try.prog 5 #[.slice A0 l0.length c0, .slice A1 l1.length c1] w fun e w' => e = .returned (.bool r) ∧ Below w.heap.size w w' := by
 have HR0 := Aside0.mk hr0
 have HC0 := Aside0.mk hc0
 clear hr0 hc0
 have HR1 := Aside0.mk hr1
 have HC1 := Aside0.mk hc1
 clear hr1 hc1
 have HB := Aside0.mk (Below.refl w.heap.size w)
 have H : (if (wrap64 ((l0.length : Int) + (l1.length : Int))) > 1048576 then (some true) else ((spec_DrawUlebBytes.f k l0).bind fun t360 => ((impl_UlebBytes.f k t360).bind fun t361 => (if t361.size + 4 ≤ 9223372036854775807 then ((impl_TakeUleb.f k (t361 ++ (⟨#[109, 111, 114, 101]⟩ : ByteArray)) 64).bind fun bt362 => ((spec_UlebBytes.f k t360).bind fun t364 => (if t361.toList = t364.toList then (if bt362.1 = t360 then (if bt362.2 = (t361.size : Int) then ((impl_UlebSize.f k t360).bind fun t365 => (laws_FnLebs.j0 k l1 t360 t361 (t365 != (t361.size : Int)))) else (laws_FnLebs.j0 k l1 t360 t361 true)) else (laws_FnLebs.j0 k l1 t360 t361 true)) else (laws_FnLebs.j0 k l1 t360 t361 true)))) else (none))))) = some r := h
 clear h
 have HT := Aside0.mk hTrue
 clear hTrue
 by_cases c3 : (wrap64 ((l0.length : Int) + (l1.length : Int))) > 1048576
 ·
  rw [if_pos c3] at H
  have c3b0 : decide (1048576 < (wrap64 ((l0.length : Int) + (l1.length : Int)))) = true := decide_eq_true c3
  clear c3
  obtain rfl := Option.some.inj H
  simp only [Option.some.injEq, Prod.mk.injEq] at H
  obtain ⟨rfl⟩ := H
  go_enter Try.func5, Try.ntmps5
  go_wp2
  go_ret
  exact ⟨by first | rfl | (simp [errW_none, errW_some] <;> rfl) | (simp [*, errW_none, errW_some] <;> rfl), bw HB.out⟩
 ·
  rw [if_neg c3] at H
  have c3b0 : decide (1048576 < (wrap64 ((l0.length : Int) + (l1.length : Int)))) = false := decide_eq_false c3
  clear c3
  replace H := Option.bind_eq_some_iff.mp H
  obtain ⟨t360, A40, H⟩ := H
  replace H : ((impl_UlebBytes.f k t360).bind fun t361 => (if t361.size + 4 ≤ 9223372036854775807 then ((impl_TakeUleb.f k (t361 ++ (⟨#[109, 111, 114, 101]⟩ : ByteArray)) 64).bind fun bt362 => ((spec_UlebBytes.f k t360).bind fun t364 => (if t361.toList = t364.toList then (if bt362.1 = t360 then (if bt362.2 = (t361.size : Int) then ((impl_UlebSize.f k t360).bind fun t365 => (laws_FnLebs.j0 k l1 t360 t361 (t365 != (t361.size : Int)))) else (laws_FnLebs.j0 k l1 t360 t361 true)) else (laws_FnLebs.j0 k l1 t360 t361 true)) else (laws_FnLebs.j0 k l1 t360 t361 true)))) else (none))) = some r := H
  have A4 := Aside0.mk A40
  clear A40
  replace H := Option.bind_eq_some_iff.mp H
  obtain ⟨t361, A50, H⟩ := H
  replace H : (if t361.size + 4 ≤ 9223372036854775807 then ((impl_TakeUleb.f k (t361 ++ (⟨#[109, 111, 114, 101]⟩ : ByteArray)) 64).bind fun bt362 => ((spec_UlebBytes.f k t360).bind fun t364 => (if t361.toList = t364.toList then (if bt362.1 = t360 then (if bt362.2 = (t361.size : Int) then ((impl_UlebSize.f k t360).bind fun t365 => (laws_FnLebs.j0 k l1 t360 t361 (t365 != (t361.size : Int)))) else (laws_FnLebs.j0 k l1 t360 t361 true)) else (laws_FnLebs.j0 k l1 t360 t361 true)) else (laws_FnLebs.j0 k l1 t360 t361 true)))) else (none)) = some r := H
  have A5 := Aside0.mk A50
  clear A50
  by_cases c6 : t361.size + 4 ≤ 9223372036854775807
  ·
   rw [if_pos c6] at H
   have c6b0 := eq_true c6
   have c6b1 : decide (t361.size + 4 ≤ 9223372036854775807) = true := decide_eq_true c6
   try have c6b2 : (9223372036854775807 < t361.size + 4) = False := eq_false (Nat.not_lt.2 c6)
   replace H := Option.bind_eq_some_iff.mp H
   obtain ⟨⟨t362, t363⟩, A70, H⟩ := H
   replace H : ((spec_UlebBytes.f k t360).bind fun t364 => (if t361.toList = t364.toList then (if t362 = t360 then (if t363 = (t361.size : Int) then ((impl_UlebSize.f k t360).bind fun t365 => (laws_FnLebs.j0 k l1 t360 t361 (t365 != (t361.size : Int)))) else (laws_FnLebs.j0 k l1 t360 t361 true)) else (laws_FnLebs.j0 k l1 t360 t361 true)) else (laws_FnLebs.j0 k l1 t360 t361 true))) = some r := H
   have A7 := Aside0.mk A70
   clear A70
   have HC8 := Aside0.mk H
   clear H
   go_enter Try.func5, Try.ntmps5
   go_upto_region 6 with (first | ((with_reducible refine gate_callee (f := 14) rfl ?_); refine goesL_ (some 28) rfl rfl Try.func14 (by kernel_rfl) rfl #[.slice A0 l0.length c0] rfl ar ?_; (with_reducible refine (spec_DrawUlebBytes.calls k _ _ l0 t360 _ ?side1 ?side2 A4.out).mono ?_); (case side1 => repeat (first | exact HR0.out | (with_reducible refine Kd.C_alloc ?_ _) | (with_reducible refine Kd.C_drewN ?_ _) | (with_reducible refine Kd.C_drew ?_))); (case side2 => exact HC0.out); rintro e w9 ⟨rfl, hb⟩; refine ⟨_, rfl, ?_⟩; have n0_ := Aside0.mk (below_step (bw HB.out) hb); clear HB; have HB := n0_; clear n0_; (try clear hb)) | ((with_reducible refine gate_callee (f := 15) rfl ?_); refine goesL_ (some 30) rfl rfl Try.func15 (by kernel_rfl) rfl #[.int .u64 t360] rfl ar ?_; (with_reducible refine (impl_UlebBytes.calls k t360 t361 _ A5.out).mono ?_); rintro e w10 ⟨rfl, hb⟩; refine ⟨_, rfl, ?_⟩; have n0_ := Aside0.mk (below_step (bw HB.out) hb); clear HB; have HB := n0_; clear n0_; (try clear hb)) | ((with_reducible refine gate_callee (f := 16) rfl ?_); refine goesL_ (some 34) rfl rfl Try.func16 (by kernel_rfl) rfl #[.string (t361 ++ (⟨#[109, 111, 114, 101]⟩ : ByteArray)), .int .i64 64] rfl ar ?_; (with_reducible refine (impl_TakeUleb.calls k (t361 ++ (⟨#[109, 111, 114, 101]⟩ : ByteArray)) 64 t362 t363 _ A7.out).mono ?_); rintro e w' ⟨rfl, ⟨nd, rfl⟩⟩; refine ⟨_, rfl, ?_⟩))
   (try simp only [Act.put, List.setIfInBounds_toArray, List.set_cons_zero, List.set_cons_succ])
   go_cut [58] (fun v58 wc => ∃ (kq : Nat) (x58_7 : Bool), v58 = .bool x58_7 ∧ Aside0 (laws_FnLebs.j0 kq l1 t360 t361 x58_7 = some r) ∧ Aside0 (kq ≤ k) ∧ Aside0 (Below w.heap.size w wc))
   case first =>
    have H := HC8.out
    clear HC8
    replace H := Option.bind_eq_some_iff.mp H
    obtain ⟨t364, A110, H⟩ := H
    replace H : (if t361.toList = t364.toList then (if t362 = t360 then (if t363 = (t361.size : Int) then ((impl_UlebSize.f k t360).bind fun t365 => (laws_FnLebs.j0 k l1 t360 t361 (t365 != (t361.size : Int)))) else (laws_FnLebs.j0 k l1 t360 t361 true)) else (laws_FnLebs.j0 k l1 t360 t361 true)) else (laws_FnLebs.j0 k l1 t360 t361 true)) = some r := H
    have A11 := Aside0.mk A110
    clear A110
    by_cases c12 : t361.toList = t364.toList
    ·
     rw [if_pos c12] at H
     have c12b0 : (t361.toList == t364.toList) = true := beq_iff_eq.mpr c12
     have c12b1 : (t361.toList != t364.toList) = false := bne_eq_false_iff_eq.mpr c12
     clear c12
     (first | rw [c12b0] | (simp only [i64_w, i32_w]; rw [c12b0]) | skip)
     by_cases c13 : t362 = t360
     ·
      rw [if_pos c13] at H
      have c13b0 : (t362 == t360) = true := beq_iff_eq.mpr c13
      have c13b1 : (t362 != t360) = false := bne_eq_false_iff_eq.mpr c13
      clear c13
      by_cases c14 : t363 = (t361.size : Int)
      ·
       rw [if_pos c14] at H
       have c14b0 : (t363 == (t361.size : Int)) = true := beq_iff_eq.mpr c14
       have c14b1 : (t363 != (t361.size : Int)) = false := bne_eq_false_iff_eq.mpr c14
       clear c14
       replace H := Option.bind_eq_some_iff.mp H
       obtain ⟨t365, A150, H⟩ := H
       replace H : (laws_FnLebs.j0 k l1 t360 t361 (t365 != (t361.size : Int))) = some r := H
       have A15 := Aside0.mk A150
       clear A150
       have H' := Aside0.mk H
       clear H
       go_wp2_with (first | ((with_reducible refine gate_callee (f := 17) rfl ?_); refine goesL_ (some 39) rfl rfl Try.func17 (by kernel_rfl) rfl #[.int .u64 t360] rfl ar ?_; (with_reducible refine (spec_UlebBytes.calls k t360 t364 _ A11.out).mono ?_); rintro e w16 ⟨rfl, hb⟩; refine ⟨_, rfl, ?_⟩; have n0_ := Aside0.mk (below_step (bw HB.out) hb); clear HB; have HB := n0_; clear n0_; (try clear hb)) | (go_at_call 18; (with_reducible refine (impl_UlebSize.calls k t360 t365 _ A15.out).mono ?_); rintro e w17 ⟨rfl, hb⟩; have n0_ := Aside0.mk (below_step (bw HB.out) hb); clear HB; have HB := n0_; clear n0_; (try clear hb); (try clear hb2); (try clear hk); (try clear hi)))
       go_meet
       case rel => exact ⟨_, ((t365 != (t361.size : Int))), (by first | rfl | (simp; done) | (simp [*]; done)), H', ⟨by first | omega | exact Nat.le_refl _⟩, ⟨bw HB.out⟩⟩
      ·
       rw [if_neg c14] at H
       have c14b0 : (t363 == (t361.size : Int)) = false := beq_eq_false_iff_ne.mpr c14
       have c14b1 : (t363 != (t361.size : Int)) = true := bne_iff_ne.mpr c14
       have H' := Aside0.mk H
       clear H
       go_wp2_with (first | ((with_reducible refine gate_callee (f := 17) rfl ?_); refine goesL_ (some 39) rfl rfl Try.func17 (by kernel_rfl) rfl #[.int .u64 t360] rfl ar ?_; (with_reducible refine (spec_UlebBytes.calls k t360 t364 _ A11.out).mono ?_); rintro e w18 ⟨rfl, hb⟩; refine ⟨_, rfl, ?_⟩; have n0_ := Aside0.mk (below_step (bw HB.out) hb); clear HB; have HB := n0_; clear n0_; (try clear hb)))
       go_meet
       case rel => exact ⟨_, (true), (by first | rfl | (simp; done) | (simp [*]; done)), H', ⟨by first | omega | exact Nat.le_refl _⟩, ⟨bw HB.out⟩⟩
     ·
      rw [if_neg c13] at H
      have c13b0 : (t362 == t360) = false := beq_eq_false_iff_ne.mpr c13
      have c13b1 : (t362 != t360) = true := bne_iff_ne.mpr c13
      have H' := Aside0.mk H
      clear H
      go_wp2_with (first | ((with_reducible refine gate_callee (f := 17) rfl ?_); refine goesL_ (some 39) rfl rfl Try.func17 (by kernel_rfl) rfl #[.int .u64 t360] rfl ar ?_; (with_reducible refine (spec_UlebBytes.calls k t360 t364 _ A11.out).mono ?_); rintro e w19 ⟨rfl, hb⟩; refine ⟨_, rfl, ?_⟩; have n0_ := Aside0.mk (below_step (bw HB.out) hb); clear HB; have HB := n0_; clear n0_; (try clear hb)))
      go_meet
      case rel => exact ⟨_, (true), (by first | rfl | (simp; done) | (simp [*]; done)), H', ⟨by first | omega | exact Nat.le_refl _⟩, ⟨bw HB.out⟩⟩
    ·
     rw [if_neg c12] at H
     have c12b0 : (t361.toList == t364.toList) = false := beq_eq_false_iff_ne.mpr c12
     have c12b1 : (t361.toList != t364.toList) = true := bne_iff_ne.mpr c12
     (first | rw [c12b0] | (simp only [i64_w, i32_w]; rw [c12b0]) | skip)
     have H' := Aside0.mk H
     clear H
     go_wp2_with (first | ((with_reducible refine gate_callee (f := 17) rfl ?_); refine goesL_ (some 39) rfl rfl Try.func17 (by kernel_rfl) rfl #[.int .u64 t360] rfl ar ?_; (with_reducible refine (spec_UlebBytes.calls k t360 t364 _ A11.out).mono ?_); rintro e w20 ⟨rfl, hb⟩; refine ⟨_, rfl, ?_⟩; have n0_ := Aside0.mk (below_step (bw HB.out) hb); clear HB; have HB := n0_; clear n0_; (try clear hb)))
     go_meet
     case rel => exact ⟨_, (true), (by first | rfl | (simp; done) | (simp [*]; done)), H', ⟨by first | omega | exact Nat.le_refl _⟩, ⟨bw HB.out⟩⟩
   case rest =>
    clear HC8
    try clear c1
    try clear p2
    try clear c3
    try clear c3b0
    try clear c5
    try clear c6
    try clear c6b0
    try clear c6b1
    try clear c6b2
    try clear p6
    try clear c12
    try clear c12b0
    try clear c12b1
    try clear c13
    try clear c13b0
    try clear c13b1
    try clear c14
    try clear c14b0
    try clear c14b1
    try clear c15
    try clear c16
    try clear c17
    obtain ⟨kq, x58_7, rfl, HA, HJ7, HB⟩ := hcut
    cases kq with
    | zero => exact absurd HA.out (by simp [laws_FnLebs.j0])
    | succ kj7 =>
     have H := HA.out
     clear HA
     simp only [laws_FnLebs.j0] at H
     by_cases c21 : x58_7 = true
     ·
      subst c21
      have H1 : (some false) = some r := by rw [if_pos rfl] at H; exact H
      clear H
      have H := H1
      clear H1
      obtain rfl := Option.some.inj H
      exact absurd HT.out (by decide)
     ·
      replace c21 := Bool.eq_false_iff.mpr c21
      subst c21
      have H1 : (if (t361.size : Int) > 1 then (if 0 ≤ (IntKind.u64.wrap (wrap64 (7 * (wrap64 ((t361.size : Int) - 1))))) then (if (shr .u64 t360 (IntKind.u64.wrap (wrap64 (7 * (wrap64 ((t361.size : Int) - 1)))))) = 0 then (laws_FnLebs.j1 kj7 l1 true) else (if (t361.size : Int) < 10 then (if 0 ≤ (IntKind.u64.wrap (wrap64 (7 * (t361.size : Int)))) then (laws_FnLebs.j1 kj7 l1 ((shr .u64 t360 (IntKind.u64.wrap (wrap64 (7 * (t361.size : Int))))) != 0)) else (none)) else (laws_FnLebs.j1 kj7 l1 false))) else (none)) else (if (t361.size : Int) < 10 then (if 0 ≤ (IntKind.u64.wrap (wrap64 (7 * (t361.size : Int)))) then (laws_FnLebs.j1 kj7 l1 ((shr .u64 t360 (IntKind.u64.wrap (wrap64 (7 * (t361.size : Int))))) != 0)) else (none)) else (laws_FnLebs.j1 kj7 l1 false))) = some r := by rw [if_neg (show ¬ (false = true) by decide)] at H; exact H
      clear H
      have H := H1
      clear H1
      have HC22 := Aside0.mk H
      clear H
      go_upto_region 9 with (fail)
      go_cut [83] (fun v83 wc => ∃ (kq : Nat) (x83_21 : Bool), v83 = .bool x83_21 ∧ Aside0 (laws_FnLebs.j1 kq l1 x83_21 = some r) ∧ Aside0 (kq ≤ kj7) ∧ Aside0 (Below w.heap.size w wc))
      case first =>
       have H := HC22.out
       clear HC22
       by_cases c23 : (t361.size : Int) > 1
       ·
        rw [if_pos c23] at H
        have c23b0 : decide (1 < (t361.size : Int)) = true := decide_eq_true c23
        have c23b1 : decide (1 < t361.size) = true := decide_eq_true (by omega)
        clear c23
        (first | rw [c23b0] | (simp only [i64_w, i32_w]; rw [c23b0]) | skip)
        obtain ⟨ji24, hji24⟩ : ∃ j_ : Int, (IntKind.u64.wrap (wrap64 (7 * (wrap64 ((t361.size : Int) - 1))))) = j_ := ⟨_, rfl⟩
        replace H : (if 0 ≤ (ji24) then (if (shr .u64 t360 (ji24)) = 0 then (laws_FnLebs.j1 kj7 l1 true) else (if (t361.size : Int) < 10 then (if 0 ≤ (IntKind.u64.wrap (wrap64 (7 * (t361.size : Int)))) then (laws_FnLebs.j1 kj7 l1 ((shr .u64 t360 (IntKind.u64.wrap (wrap64 (7 * (t361.size : Int))))) != 0)) else (none)) else (laws_FnLebs.j1 kj7 l1 false))) else (none)) = some r := by first | (rw [hji24] at H; exact H) | (simp only [hji24] at H ⊢; exact H)
        by_cases c25 : 0 ≤ (ji24)
        ·
         rw [if_pos c25] at H
         have c25b0 := eq_true c25
         have c25b1 : decide (0 ≤ (ji24)) = true := decide_eq_true c25
         clear c25
         obtain ⟨ji26, hji26⟩ : ∃ j_ : Int, (shr .u64 t360 (ji24)) = j_ := ⟨_, rfl⟩
         replace H : (if (ji26) = 0 then (laws_FnLebs.j1 kj7 l1 true) else (if (t361.size : Int) < 10 then (if 0 ≤ (IntKind.u64.wrap (wrap64 (7 * (t361.size : Int)))) then (laws_FnLebs.j1 kj7 l1 ((shr .u64 t360 (IntKind.u64.wrap (wrap64 (7 * (t361.size : Int))))) != 0)) else (none)) else (laws_FnLebs.j1 kj7 l1 false))) = some r := by first | (rw [hji26] at H; exact H) | (simp only [hji26] at H ⊢; exact H)
         have hji26_ : (t360 / 2 ^ min (ji24).toNat 64) = ji26 := hji26
         have hji26z : (ji24) ≤ 64 → (t360 / 2 ^ (ji24).toNat) = ji26 := shr_small hji26
         by_cases c27 : (ji26) = 0
         ·
          rw [if_pos c27] at H
          have c27b0 : ((ji26) == 0) = true := beq_iff_eq.mpr c27
          have c27b1 : ((ji26) != 0) = false := bne_eq_false_iff_eq.mpr c27
          clear c27
          have H' := Aside0.mk H
          clear H
          go_wp2
          first | go_meet | ((simp only [← hji26]); go_meet) | ((simp only [← hji24]); go_meet) | ((simp only [← hji26, ← hji24]); go_meet)
          case rel => exact ⟨_, (true), (by first | rfl | (simp; done) | (simp [*]; done)), H', ⟨by have := HJ7.out; first | omega | exact Nat.le_refl _⟩, ⟨bw HB.out⟩⟩
         ·
          rw [if_neg c27] at H
          have c27b0 : ((ji26) == 0) = false := beq_eq_false_iff_ne.mpr c27
          have c27b1 : ((ji26) != 0) = true := bne_iff_ne.mpr c27
          by_cases c28 : (t361.size : Int) < 10
          ·
           rw [if_pos c28] at H
           have c28b0 : decide ((t361.size : Int) < 10) = true := decide_eq_true c28
           have c28b1 : decide (t361.size < 10) = true := decide_eq_true (by omega)
           clear c28
           obtain ⟨ji29, hji29⟩ : ∃ j_ : Int, (IntKind.u64.wrap (wrap64 (7 * (t361.size : Int)))) = j_ := ⟨_, rfl⟩
           replace H : (if 0 ≤ (ji29) then (laws_FnLebs.j1 kj7 l1 ((shr .u64 t360 (ji29)) != 0)) else (none)) = some r := by first | (rw [hji29] at H; exact H) | (simp only [hji29] at H ⊢; exact H)
           by_cases c30 : 0 ≤ (ji29)
           ·
            rw [if_pos c30] at H
            have c30b0 := eq_true c30
            have c30b1 : decide (0 ≤ (ji29)) = true := decide_eq_true c30
            clear c30
            obtain ⟨ji31, hji31⟩ : ∃ j_ : Int, (shr .u64 t360 (ji29)) = j_ := ⟨_, rfl⟩
            replace H : (laws_FnLebs.j1 kj7 l1 ((ji31) != 0)) = some r := by first | (rw [hji31] at H; exact H) | (simp only [hji31] at H ⊢; exact H)
            have hji31_ : (t360 / 2 ^ min (ji29).toNat 64) = ji31 := hji31
            have hji31z : (ji29) ≤ 64 → (t360 / 2 ^ (ji29).toNat) = ji31 := shr_small hji31
            have H' := Aside0.mk H
            clear H
            go_wp2
            first | go_meet | ((simp only [← hji31]); go_meet) | ((simp only [← hji29]); go_meet) | ((simp only [← hji26]); go_meet) | ((simp only [← hji24]); go_meet) | ((simp only [← hji31, ← hji29, ← hji26, ← hji24]); go_meet)
            case rel => exact ⟨_, (((ji31) != 0)), (by first | rfl | (simp; done) | (simp only [← hji31] <;> (first | rfl | simp)) | (simp [*]; done)), H', ⟨by have := HJ7.out; first | omega | exact Nat.le_refl _⟩, ⟨bw HB.out⟩⟩
           ·
            rw [if_neg c30] at H
            exact absurd H (by simp)
          ·
           rw [if_neg c28] at H
           have c28b0 : decide ((t361.size : Int) < 10) = false := decide_eq_false c28
           have c28b1 : decide (t361.size < 10) = false := decide_eq_false (by omega)
           clear c28
           have H' := Aside0.mk H
           clear H
           go_wp2
           first | go_meet | ((simp only [← hji26]); go_meet) | ((simp only [← hji24]); go_meet) | ((simp only [← hji26, ← hji24]); go_meet)
           case rel => exact ⟨_, (false), (by first | rfl | (simp; done) | (simp [*]; done)), H', ⟨by have := HJ7.out; first | omega | exact Nat.le_refl _⟩, ⟨bw HB.out⟩⟩
        ·
         rw [if_neg c25] at H
         exact absurd H (by simp)
       ·
        rw [if_neg c23] at H
        have c23b0 : decide (1 < (t361.size : Int)) = false := decide_eq_false c23
        have c23b1 : decide (1 < t361.size) = false := decide_eq_false (by omega)
        clear c23
        (first | rw [c23b0] | (simp only [i64_w, i32_w]; rw [c23b0]) | skip)
        by_cases c32 : (t361.size : Int) < 10
        ·
         rw [if_pos c32] at H
         have c32b0 : decide ((t361.size : Int) < 10) = true := decide_eq_true c32
         have c32b1 : decide (t361.size < 10) = true := decide_eq_true (by omega)
         clear c32
         obtain ⟨ji33, hji33⟩ : ∃ j_ : Int, (IntKind.u64.wrap (wrap64 (7 * (t361.size : Int)))) = j_ := ⟨_, rfl⟩
         replace H : (if 0 ≤ (ji33) then (laws_FnLebs.j1 kj7 l1 ((shr .u64 t360 (ji33)) != 0)) else (none)) = some r := by first | (rw [hji33] at H; exact H) | (simp only [hji33] at H ⊢; exact H)
         by_cases c34 : 0 ≤ (ji33)
         ·
          rw [if_pos c34] at H
          have c34b0 := eq_true c34
          have c34b1 : decide (0 ≤ (ji33)) = true := decide_eq_true c34
          clear c34
          obtain ⟨ji35, hji35⟩ : ∃ j_ : Int, (shr .u64 t360 (ji33)) = j_ := ⟨_, rfl⟩
          replace H : (laws_FnLebs.j1 kj7 l1 ((ji35) != 0)) = some r := by first | (rw [hji35] at H; exact H) | (simp only [hji35] at H ⊢; exact H)
          have hji35_ : (t360 / 2 ^ min (ji33).toNat 64) = ji35 := hji35
          have hji35z : (ji33) ≤ 64 → (t360 / 2 ^ (ji33).toNat) = ji35 := shr_small hji35
          have H' := Aside0.mk H
          clear H
          go_wp2
          first | go_meet | ((simp only [← hji35]); go_meet) | ((simp only [← hji33]); go_meet) | ((simp only [← hji35, ← hji33]); go_meet)
          case rel => exact ⟨_, (((ji35) != 0)), (by first | rfl | (simp; done) | (simp only [← hji35] <;> (first | rfl | simp)) | (simp [*]; done)), H', ⟨by have := HJ7.out; first | omega | exact Nat.le_refl _⟩, ⟨bw HB.out⟩⟩
         ·
          rw [if_neg c34] at H
          exact absurd H (by simp)
        ·
         rw [if_neg c32] at H
         have c32b0 : decide ((t361.size : Int) < 10) = false := decide_eq_false c32
         have c32b1 : decide (t361.size < 10) = false := decide_eq_false (by omega)
         clear c32
         have H' := Aside0.mk H
         clear H
         go_wp2
         go_meet
         case rel => exact ⟨_, (false), (by first | rfl | (simp; done) | (simp [*]; done)), H', ⟨by have := HJ7.out; first | omega | exact Nat.le_refl _⟩, ⟨bw HB.out⟩⟩
      case rest =>
       clear HC22
       try clear c1
       try clear c2
       try clear p2
       try clear c3
       try clear c3b0
       try clear c5
       try clear c6
       try clear c6b0
       try clear c6b1
       try clear c6b2
       try clear p6
       try clear c12
       try clear c12b0
       try clear c12b1
       try clear c13
       try clear c13b0
       try clear c13b1
       try clear c14
       try clear c14b0
       try clear c14b1
       try clear c15
       try clear c16
       try clear c17
       try clear c21
       try clear c23
       try clear c23b0
       try clear c23b1
       try clear c25
       try clear c25b0
       try clear c25b1
       try clear c27
       try clear c27b0
       try clear c27b1
       try clear c28
       try clear c28b0
       try clear c28b1
       try clear c30
       try clear c30b0
       try clear c30b1
       try clear c32
       try clear c32b0
       try clear c32b1
       try clear c34
       try clear c34b0
       try clear c34b1
       try clear p2
       try clear p6
       obtain ⟨kq, x83_21, rfl, HA, HJ21, HB⟩ := hcut
       cases kq with
       | zero => exact absurd HA.out (by simp [laws_FnLebs.j1])
       | succ kj21 =>
        have H := HA.out
        clear HA
        simp only [laws_FnLebs.j1] at H
        by_cases c36 : x83_21 = true
        ·
         subst c36
         have H1 : (some false) = some r := by rw [if_pos rfl] at H; exact H
         clear H
         have H := H1
         clear H1
         obtain rfl := Option.some.inj H
         exact absurd HT.out (by decide)
        ·
         replace c36 := Bool.eq_false_iff.mpr c36
         subst c36
         have H1 : ((spec_DrawSlebBytes.f kj21 l1).bind fun t366 => ((impl_SlebBytes.f kj21 t366).bind fun t367 => (if t367.size + 4 ≤ 9223372036854775807 then ((impl_TakeSleb.f kj21 (t367 ++ (⟨#[109, 111, 114, 101]⟩ : ByteArray)) 64).bind fun bt368 => ((spec_SlebBytes.f kj21 t366).bind fun t370 => (if t367.toList = t370.toList then (if bt368.1 = t366 then (laws_FnLebs.j2 kj21 l1 t366 t367 (bt368.2 != (t367.size : Int))) else (laws_FnLebs.j2 kj21 l1 t366 t367 true)) else (laws_FnLebs.j2 kj21 l1 t366 t367 true)))) else (none)))) = some r := by rw [if_neg (show ¬ (false = true) by decide)] at H; exact H
         clear H
         have H := H1
         clear H1
         replace H := Option.bind_eq_some_iff.mp H
         obtain ⟨t366, A370, H⟩ := H
         replace H : ((impl_SlebBytes.f kj21 t366).bind fun t367 => (if t367.size + 4 ≤ 9223372036854775807 then ((impl_TakeSleb.f kj21 (t367 ++ (⟨#[109, 111, 114, 101]⟩ : ByteArray)) 64).bind fun bt368 => ((spec_SlebBytes.f kj21 t366).bind fun t370 => (if t367.toList = t370.toList then (if bt368.1 = t366 then (laws_FnLebs.j2 kj21 l1 t366 t367 (bt368.2 != (t367.size : Int))) else (laws_FnLebs.j2 kj21 l1 t366 t367 true)) else (laws_FnLebs.j2 kj21 l1 t366 t367 true)))) else (none))) = some r := H
         have A37 := Aside0.mk A370
         clear A370
         replace H := Option.bind_eq_some_iff.mp H
         obtain ⟨t367, A380, H⟩ := H
         replace H : (if t367.size + 4 ≤ 9223372036854775807 then ((impl_TakeSleb.f kj21 (t367 ++ (⟨#[109, 111, 114, 101]⟩ : ByteArray)) 64).bind fun bt368 => ((spec_SlebBytes.f kj21 t366).bind fun t370 => (if t367.toList = t370.toList then (if bt368.1 = t366 then (laws_FnLebs.j2 kj21 l1 t366 t367 (bt368.2 != (t367.size : Int))) else (laws_FnLebs.j2 kj21 l1 t366 t367 true)) else (laws_FnLebs.j2 kj21 l1 t366 t367 true)))) else (none)) = some r := H
         have A38 := Aside0.mk A380
         clear A380
         by_cases c39 : t367.size + 4 ≤ 9223372036854775807
         ·
          rw [if_pos c39] at H
          have c39b0 := eq_true c39
          have c39b1 : decide (t367.size + 4 ≤ 9223372036854775807) = true := decide_eq_true c39
          try have c39b2 : (9223372036854775807 < t367.size + 4) = False := eq_false (Nat.not_lt.2 c39)
          replace H := Option.bind_eq_some_iff.mp H
          obtain ⟨⟨t368, t369⟩, A400, H⟩ := H
          replace H : ((spec_SlebBytes.f kj21 t366).bind fun t370 => (if t367.toList = t370.toList then (if t368 = t366 then (laws_FnLebs.j2 kj21 l1 t366 t367 (t369 != (t367.size : Int))) else (laws_FnLebs.j2 kj21 l1 t366 t367 true)) else (laws_FnLebs.j2 kj21 l1 t366 t367 true))) = some r := H
          have A40 := Aside0.mk A400
          clear A400
          have HC41 := Aside0.mk H
          clear H
          go_upto_region 14 with (first | ((with_reducible refine gate_callee (f := 19) rfl ?_); refine goesL_ (some 85) rfl rfl Try.func19 (by kernel_rfl) rfl #[.slice A1 l1.length c1] rfl ar ?_; (with_reducible refine (spec_DrawSlebBytes.calls kj21 _ _ l1 t366 _ ?side1 ?side2 A37.out).mono ?_); (case side1 => repeat (first | exact (Kd.C_below HR1.out HB.out) | (with_reducible refine Kd.C_alloc ?_ _) | (with_reducible refine Kd.C_drewN ?_ _) | (with_reducible refine Kd.C_drew ?_))); (case side2 => exact HC1.out); rintro e w42 ⟨rfl, hb⟩; refine ⟨_, rfl, ?_⟩; have n0_ := Aside0.mk (below_step (bw HB.out) hb); clear HB; have HB := n0_; clear n0_; (try clear hb)) | ((with_reducible refine gate_callee (f := 20) rfl ?_); refine goesL_ (some 87) rfl rfl Try.func20 (by kernel_rfl) rfl #[.int .i64 t366] rfl ar ?_; (with_reducible refine (impl_SlebBytes.calls kj21 t366 t367 _ A38.out).mono ?_); rintro e w43 ⟨rfl, hb⟩; refine ⟨_, rfl, ?_⟩; have n0_ := Aside0.mk (below_step (bw HB.out) hb); clear HB; have HB := n0_; clear n0_; (try clear hb)) | ((with_reducible refine gate_callee (f := 21) rfl ?_); refine goesL_ (some 91) rfl rfl Try.func21 (by kernel_rfl) rfl #[.string (t367 ++ (⟨#[109, 111, 114, 101]⟩ : ByteArray)), .int .i64 64] rfl ar ?_; (with_reducible refine (impl_TakeSleb.calls kj21 (t367 ++ (⟨#[109, 111, 114, 101]⟩ : ByteArray)) 64 t368 t369 _ A40.out).mono ?_); rintro e w' ⟨rfl, ⟨nd, rfl⟩⟩; refine ⟨_, rfl, ?_⟩))
          (try simp only [Act.put, List.setIfInBounds_toArray, List.set_cons_zero, List.set_cons_succ])
          go_cut [108] (fun v108 wc => ∃ (kq : Nat) (x108_40 : Bool), v108 = .bool x108_40 ∧ Aside0 (laws_FnLebs.j2 kq l1 t366 t367 x108_40 = some r) ∧ Aside0 (kq ≤ kj21) ∧ Aside0 (Below w.heap.size w wc))
          case first =>
           have H := HC41.out
           clear HC41
           replace H := Option.bind_eq_some_iff.mp H
           obtain ⟨t370, A440, H⟩ := H
           replace H : (if t367.toList = t370.toList then (if t368 = t366 then (laws_FnLebs.j2 kj21 l1 t366 t367 (t369 != (t367.size : Int))) else (laws_FnLebs.j2 kj21 l1 t366 t367 true)) else (laws_FnLebs.j2 kj21 l1 t366 t367 true)) = some r := H
           have A44 := Aside0.mk A440
           clear A440
           by_cases c45 : t367.toList = t370.toList
           ·
            rw [if_pos c45] at H
            have c45b0 : (t367.toList == t370.toList) = true := beq_iff_eq.mpr c45
            have c45b1 : (t367.toList != t370.toList) = false := bne_eq_false_iff_eq.mpr c45
            clear c45
            (first | rw [c45b0] | (simp only [i64_w, i32_w]; rw [c45b0]) | skip)
            by_cases c46 : t368 = t366
            ·
             rw [if_pos c46] at H
             have c46b0 : (t368 == t366) = true := beq_iff_eq.mpr c46
             have c46b1 : (t368 != t366) = false := bne_eq_false_iff_eq.mpr c46
             clear c46
             have H' := Aside0.mk H
             clear H
             go_wp2_with (first | ((with_reducible refine gate_callee (f := 22) rfl ?_); refine goesL_ (some 96) rfl rfl Try.func22 (by kernel_rfl) rfl #[.int .i64 t366] rfl ar ?_; (with_reducible refine (spec_SlebBytes.calls kj21 t366 t370 _ A44.out).mono ?_); rintro e w47 ⟨rfl, hb⟩; refine ⟨_, rfl, ?_⟩; have n0_ := Aside0.mk (below_step (bw HB.out) hb); clear HB; have HB := n0_; clear n0_; (try clear hb)))
             go_meet
             case rel => exact ⟨_, ((t369 != (t367.size : Int))), (by first | rfl | (simp; done) | (simp [*]; done)), H', ⟨by have := HJ7.out; have := HJ21.out; first | omega | exact Nat.le_refl _⟩, ⟨bw HB.out⟩⟩
            ·
             rw [if_neg c46] at H
             have c46b0 : (t368 == t366) = false := beq_eq_false_iff_ne.mpr c46
             have c46b1 : (t368 != t366) = true := bne_iff_ne.mpr c46
             have H' := Aside0.mk H
             clear H
             go_wp2_with (first | ((with_reducible refine gate_callee (f := 22) rfl ?_); refine goesL_ (some 96) rfl rfl Try.func22 (by kernel_rfl) rfl #[.int .i64 t366] rfl ar ?_; (with_reducible refine (spec_SlebBytes.calls kj21 t366 t370 _ A44.out).mono ?_); rintro e w48 ⟨rfl, hb⟩; refine ⟨_, rfl, ?_⟩; have n0_ := Aside0.mk (below_step (bw HB.out) hb); clear HB; have HB := n0_; clear n0_; (try clear hb)))
             go_meet
             case rel => exact ⟨_, (true), (by first | rfl | (simp; done) | (simp [*]; done)), H', ⟨by have := HJ7.out; have := HJ21.out; first | omega | exact Nat.le_refl _⟩, ⟨bw HB.out⟩⟩
           ·
            rw [if_neg c45] at H
            have c45b0 : (t367.toList == t370.toList) = false := beq_eq_false_iff_ne.mpr c45
            have c45b1 : (t367.toList != t370.toList) = true := bne_iff_ne.mpr c45
            (first | rw [c45b0] | (simp only [i64_w, i32_w]; rw [c45b0]) | skip)
            have H' := Aside0.mk H
            clear H
            go_wp2_with (first | ((with_reducible refine gate_callee (f := 22) rfl ?_); refine goesL_ (some 96) rfl rfl Try.func22 (by kernel_rfl) rfl #[.int .i64 t366] rfl ar ?_; (with_reducible refine (spec_SlebBytes.calls kj21 t366 t370 _ A44.out).mono ?_); rintro e w49 ⟨rfl, hb⟩; refine ⟨_, rfl, ?_⟩; have n0_ := Aside0.mk (below_step (bw HB.out) hb); clear HB; have HB := n0_; clear n0_; (try clear hb)))
            go_meet
            case rel => exact ⟨_, (true), (by first | rfl | (simp; done) | (simp [*]; done)), H', ⟨by have := HJ7.out; have := HJ21.out; first | omega | exact Nat.le_refl _⟩, ⟨bw HB.out⟩⟩
          case rest =>
           clear HC41
           try clear c1
           try clear c2
           try clear p2
           try clear c3
           try clear c3b0
           try clear c4
           try clear c5
           try clear c6
           try clear c6b0
           try clear c6b1
           try clear c6b2
           try clear p6
           try clear c12
           try clear c12b0
           try clear c12b1
           try clear c13
           try clear c13b0
           try clear c13b1
           try clear c14
           try clear c14b0
           try clear c14b1
           try clear c15
           try clear c16
           try clear c17
           try clear c19
           try clear c20
           try clear c21
           try clear c22
           try clear c23
           try clear c23b0
           try clear c23b1
           try clear c25
           try clear c25b0
           try clear c25b1
           try clear c27
           try clear c27b0
           try clear c27b1
           try clear c28
           try clear c28b0
           try clear c28b1
           try clear c30
           try clear c30b0
           try clear c30b1
           try clear c32
           try clear c32b0
           try clear c32b1
           try clear c34
           try clear c34b0
           try clear c34b1
           try clear c36
           try clear c39
           try clear c39b0
           try clear c39b1
           try clear c39b2
           try clear c45
           try clear c45b0
           try clear c45b1
           try clear c46
           try clear c46b0
           try clear c46b1
           try clear p2
           try clear p6
           obtain ⟨kq, x108_40, rfl, HA, HJ40, HB⟩ := hcut
           cases kq with
           | zero => exact absurd HA.out (by simp [laws_FnLebs.j2])
           | succ kj40 =>
            have H := HA.out
            clear HA
            simp only [laws_FnLebs.j2] at H
            by_cases c50 : x108_40 = true
            ·
             subst c50
             have H1 : (some false) = some r := by rw [if_pos rfl] at H; exact H
             clear H
             have H := H1
             clear H1
             obtain rfl := Option.some.inj H
             exact absurd HT.out (by decide)
            ·
             replace c50 := Bool.eq_false_iff.mpr c50
             subst c50
             have H1 : (if (wrap64 (7 * (t367.size : Int))) < 64 then (if 0 ≤ (IntKind.u64.wrap (wrap64 ((wrap64 (7 * (t367.size : Int))) - 1))) then (if t366 < (shl .i64 (-1) (IntKind.u64.wrap (wrap64 ((wrap64 (7 * (t367.size : Int))) - 1)))) then (laws_FnLebs.j3 kj40 l1 true) else (laws_FnLebs.j3 kj40 l1 (decide (t366 ≥ (shl .i64 1 (IntKind.u64.wrap (wrap64 ((wrap64 (7 * (t367.size : Int))) - 1)))))))) else (none)) else (laws_FnLebs.j3 kj40 l1 false)) = some r := by rw [if_neg (show ¬ (false = true) by decide)] at H; exact H
             clear H
             have H := H1
             clear H1
             have HC51 := Aside0.mk H
             clear H
             go_upto_region 17 with (fail)
             go_cut [129] (fun v129 wc => ∃ (kq : Nat) (x129_50 : Bool), v129 = .bool x129_50 ∧ Aside0 (laws_FnLebs.j3 kq l1 x129_50 = some r) ∧ Aside0 (kq ≤ kj40) ∧ Aside0 (Below w.heap.size w wc))
             case first =>
              have H := HC51.out
              clear HC51
              by_cases c52 : (wrap64 (7 * (t367.size : Int))) < 64
              ·
               rw [if_pos c52] at H
               have c52b0 : decide ((wrap64 (7 * (t367.size : Int))) < 64) = true := decide_eq_true c52
               clear c52
               (first | rw [c52b0] | (simp only [i64_w, i32_w]; rw [c52b0]) | skip)
               obtain ⟨ji53, hji53⟩ : ∃ j_ : Int, (IntKind.u64.wrap (wrap64 ((wrap64 (7 * (t367.size : Int))) - 1))) = j_ := ⟨_, rfl⟩
               replace H : (if 0 ≤ (ji53) then (if t366 < (shl .i64 (-1) (ji53)) then (laws_FnLebs.j3 kj40 l1 true) else (laws_FnLebs.j3 kj40 l1 (decide (t366 ≥ (shl .i64 1 (ji53)))))) else (none)) = some r := by first | (rw [hji53] at H; exact H) | (simp only [hji53] at H ⊢; exact H)
               by_cases c54 : 0 ≤ (ji53)
               ·
                rw [if_pos c54] at H
                have c54b0 := eq_true c54
                have c54b1 : decide (0 ≤ (ji53)) = true := decide_eq_true c54
                clear c54
                obtain ⟨ji55, hji55⟩ : ∃ j_ : Int, (shl .i64 (-1) (ji53)) = j_ := ⟨_, rfl⟩
                replace H : (if t366 < (ji55) then (laws_FnLebs.j3 kj40 l1 true) else (laws_FnLebs.j3 kj40 l1 (decide (t366 ≥ (shl .i64 1 (ji53)))))) = some r := by first | (rw [hji55] at H; exact H) | (simp only [hji55] at H ⊢; exact H)
                have hji55_ : (IntKind.i64.wrap ((-1) * 2 ^ min (ji53).toNat 64)) = ji55 := hji55
                have hji55z : (ji53) ≤ 64 → (IntKind.i64.wrap ((-1) * 2 ^ (ji53).toNat)) = ji55 := shl_small hji55
                have hji55y : (wrap64 ((-1) * 2 ^ min (ji53).toNat 64)) = ji55 := (i64_w _).symm.trans hji55_
                have hji55n : (wrap64 (-2 ^ min (ji53).toNat 64)) = ji55 := by have h_ := hji55y; rw [Int.neg_mul, Int.one_mul] at h_; exact h_
                have hji55m : (IntKind.i64.wrap (-2 ^ min (ji53).toNat 64)) = ji55 := by have h_ := hji55_; rw [Int.neg_mul, Int.one_mul] at h_; exact h_
                have hji55x : (ji53) ≤ 64 → (wrap64 ((-1) * 2 ^ (ji53).toNat)) = ji55 := fun h_ => (i64_w _).symm.trans (hji55z h_)
                by_cases c56 : t366 < (ji55)
                ·
                 rw [if_pos c56] at H
                 have c56b0 : decide (t366 < (ji55)) = true := decide_eq_true c56
                 clear c56
                 have H' := Aside0.mk H
                 clear H
                 go_wp2
                 first | go_meet | ((simp only [← hji55]); go_meet) | ((simp only [← hji53]); go_meet) | ((simp only [← hji55, ← hji53]); go_meet)
                 case rel => exact ⟨_, (true), (by first | rfl | (simp; done) | (simp [*]; done)), H', ⟨by have := HJ7.out; have := HJ21.out; have := HJ40.out; first | omega | exact Nat.le_refl _⟩, ⟨bw HB.out⟩⟩
                ·
                 rw [if_neg c56] at H
                 have c56b0 : decide (t366 < (ji55)) = false := decide_eq_false c56
                 clear c56
                 have c57b0 := eq_true (of_decide_eq_true (by first | (with_reducible assumption) | assumption) : 0 ≤ (ji53))
                 obtain ⟨ji58, hji58⟩ : ∃ j_ : Int, (shl .i64 1 (ji53)) = j_ := ⟨_, rfl⟩
                 replace H : (laws_FnLebs.j3 kj40 l1 (decide (t366 ≥ (ji58)))) = some r := by first | (rw [hji58] at H; exact H) | (simp only [hji58] at H ⊢; exact H)
                 have hji58_ : (IntKind.i64.wrap (1 * 2 ^ min (ji53).toNat 64)) = ji58 := hji58
                 have hji58z : (ji53) ≤ 64 → (IntKind.i64.wrap (1 * 2 ^ (ji53).toNat)) = ji58 := shl_small hji58
                 have hji58u : (IntKind.i64.wrap (2 ^ min (ji53).toNat 64)) = ji58 := by have h_ := hji58_; rw [Int.one_mul] at h_; exact h_
                 have hji58v : (ji53) ≤ 64 → (IntKind.i64.wrap (2 ^ (ji53).toNat)) = ji58 := fun hle_ => by have h_ := hji58z hle_; rw [Int.one_mul] at h_; exact h_
                 have hji58y : (wrap64 (1 * 2 ^ min (ji53).toNat 64)) = ji58 := (i64_w _).symm.trans hji58_
                 have hji58n : (wrap64 (2 ^ min (ji53).toNat 64)) = ji58 := (i64_w _).symm.trans hji58u
                 have hji58x : (ji53) ≤ 64 → (wrap64 (1 * 2 ^ (ji53).toNat)) = ji58 := fun h_ => (i64_w _).symm.trans (hji58z h_)
                 have H' := Aside0.mk H
                 clear H
                 go_wp2
                 first | go_meet | ((simp only [← hji58]); go_meet) | ((simp only [← hji55]); go_meet) | ((simp only [← hji53]); go_meet) | ((simp only [← hji58, ← hji55, ← hji53]); go_meet)
                 case rel => exact ⟨_, (decide (t366 ≥ (ji58))), (by first | rfl | (simp; done) | (simp only [← hji58] <;> (first | rfl | simp)) | (simp [*]; done)), H', ⟨by have := HJ7.out; have := HJ21.out; have := HJ40.out; first | omega | exact Nat.le_refl _⟩, ⟨bw HB.out⟩⟩
               ·
                rw [if_neg c54] at H
                exact absurd H (by simp)
              ·
               rw [if_neg c52] at H
               have c52b0 : decide ((wrap64 (7 * (t367.size : Int))) < 64) = false := decide_eq_false c52
               clear c52
               (first | rw [c52b0] | (simp only [i64_w, i32_w]; rw [c52b0]) | skip)
               have H' := Aside0.mk H
               clear H
               go_wp2
               go_meet
               case rel => exact ⟨_, (false), (by first | rfl | (simp; done) | (simp [*]; done)), H', ⟨by have := HJ7.out; have := HJ21.out; have := HJ40.out; first | omega | exact Nat.le_refl _⟩, ⟨bw HB.out⟩⟩
             case rest =>
              clear HC51
              try clear c1
              try clear c2
              try clear p2
              try clear c3
              try clear c3b0
              try clear c4
              try clear c5
              try clear c6
              try clear c6b0
              try clear c6b1
              try clear c6b2
              try clear p6
              try clear c12
              try clear c12b0
              try clear c12b1
              try clear c13
              try clear c13b0
              try clear c13b1
              try clear c14
              try clear c14b0
              try clear c14b1
              try clear c15
              try clear c16
              try clear c17
              try clear c19
              try clear c20
              try clear c21
              try clear c22
              try clear c23
              try clear c23b0
              try clear c23b1
              try clear c25
              try clear c25b0
              try clear c25b1
              try clear c27
              try clear c27b0
              try clear c27b1
              try clear c28
              try clear c28b0
              try clear c28b1
              try clear c30
              try clear c30b0
              try clear c30b1
              try clear c32
              try clear c32b0
              try clear c32b1
              try clear c34
              try clear c34b0
              try clear c34b1
              try clear c36
              try clear c39
              try clear c39b0
              try clear c39b1
              try clear c39b2
              try clear c45
              try clear c45b0
              try clear c45b1
              try clear c46
              try clear c46b0
              try clear c46b1
              try clear c50
              try clear c52
              try clear c52b0
              try clear c54
              try clear c54b0
              try clear c54b1
              try clear c56
              try clear c56b0
              try clear c57
              try clear c57b0
              try clear p2
              try clear p6
              obtain ⟨kq, x129_50, rfl, HA, HJ50, HB⟩ := hcut
              cases kq with
              | zero => exact absurd HA.out (by simp [laws_FnLebs.j3])
              | succ kj50 =>
               have H := HA.out
               clear HA
               simp only [laws_FnLebs.j3] at H
               by_cases c59 : x129_50 = true
               ·
                subst c59
                have H1 : (some false) = some r := by rw [if_pos rfl] at H; exact H
                clear H
                have H := H1
                clear H1
                obtain rfl := Option.some.inj H
                exact absurd HT.out (by decide)
               ·
                replace c59 := Bool.eq_false_iff.mpr c59
                subst c59
                have H1 : ((spec_DrawTakeSleb.f kj50 l1).bind fun bt371 => ((impl_TakeSleb.f kj50 bt371.1 bt371.2).bind fun bt373 => ((spec_TakeSleb.f kj50 bt371.1 bt371.2).bind fun bt375 => (if bt373.1 = bt375.1 then (some (bt373.2 == bt375.2)) else (some false))))) = some r := by rw [if_neg (show ¬ (false = true) by decide)] at H; exact H
                clear H
                have H := H1
                clear H1
                replace H := Option.bind_eq_some_iff.mp H
                obtain ⟨⟨t371, t372⟩, A600, H⟩ := H
                replace H : ((impl_TakeSleb.f kj50 t371 t372).bind fun bt373 => ((spec_TakeSleb.f kj50 t371 t372).bind fun bt375 => (if bt373.1 = bt375.1 then (some (bt373.2 == bt375.2)) else (some false)))) = some r := H
                have A60 := Aside0.mk A600
                clear A600
                replace H := Option.bind_eq_some_iff.mp H
                obtain ⟨⟨t373, t374⟩, A610, H⟩ := H
                replace H : ((spec_TakeSleb.f kj50 t371 t372).bind fun bt375 => (if t373 = bt375.1 then (some (t374 == bt375.2)) else (some false))) = some r := H
                have A61 := Aside0.mk A610
                clear A610
                replace H := Option.bind_eq_some_iff.mp H
                obtain ⟨⟨t375, t376⟩, A620, H⟩ := H
                replace H : (if t373 = t375 then (some (t374 == t376)) else (some false)) = some r := H
                have A62 := Aside0.mk A620
                clear A620
                by_cases c63 : t373 = t375
                ·
                 rw [if_pos c63] at H
                 have c63b0 : (t373 == t375) = true := beq_iff_eq.mpr c63
                 have c63b1 : (t373 != t375) = false := bne_eq_false_iff_eq.mpr c63
                 clear c63
                 obtain rfl := Option.some.inj H
                 simp only [Option.some.injEq, Prod.mk.injEq] at H
                 obtain ⟨rfl⟩ := H
                 go_wp2_with (first | ((with_reducible refine gate_callee (f := 23) rfl ?_); refine goesL_ (some 132) rfl rfl Try.func23 (by kernel_rfl) rfl #[.slice A1 l1.length c1] rfl ar ?_; (with_reducible refine (spec_DrawTakeSleb.calls kj50 _ _ l1 t371 t372 _ ?side1 ?side2 A60.out).mono ?_); (case side1 => repeat (first | exact (Kd.C_below HR1.out HB.out) | (with_reducible refine Kd.C_alloc ?_ _) | (with_reducible refine Kd.C_drewN ?_ _) | (with_reducible refine Kd.C_drew ?_))); (case side2 => exact HC1.out); rintro e w64 ⟨rfl, hb⟩; refine ⟨_, rfl, ?_⟩; have n0_ := Aside0.mk (below_step (bw HB.out) hb); clear HB; have HB := n0_; clear n0_; (try clear hb)) | ((with_reducible refine gate_callee (f := 21) rfl ?_); refine goesL_ (some 138) rfl rfl Try.func21 (by kernel_rfl) rfl #[.string t371, .int .i64 t372] rfl ar ?_; (with_reducible refine (impl_TakeSleb.calls kj50 t371 t372 t373 t374 _ A61.out).mono ?_); rintro e w' ⟨rfl, ⟨nd, rfl⟩⟩; refine ⟨_, rfl, ?_⟩) | ((with_reducible refine gate_callee (f := 24) rfl ?_); refine goesL_ (some 144) rfl rfl Try.func24 (by kernel_rfl) rfl #[.string t371, .int .i64 t372] rfl ar ?_; (with_reducible refine (spec_TakeSleb.calls kj50 t371 t372 t375 t376 _ A62.out).mono ?_); rintro e w' ⟨rfl, ⟨nd, rfl⟩⟩; refine ⟨_, rfl, ?_⟩))
                 go_ret
                 exact ⟨by first | rfl | (simp [errW_none, errW_some] <;> rfl) | (simp [*, errW_none, errW_some] <;> rfl), bw HB.out⟩
                ·
                 rw [if_neg c63] at H
                 have c63b0 : (t373 == t375) = false := beq_eq_false_iff_ne.mpr c63
                 have c63b1 : (t373 != t375) = true := bne_iff_ne.mpr c63
                 obtain rfl := Option.some.inj H
                 exact absurd HT.out (by decide)
         ·
          rw [if_neg c39] at H
          exact absurd H (by simp)
  ·
   rw [if_neg c6] at H
   exact absurd H (by simp)

/-- THE ONE PURE STATEMENT of laws_FnLebs: yours. -/
def laws_FnLebs.Pure : Prop := ∀ (l0 : List Int) (l1 : List Int), l0.length ≤ maxLen → l0.length * 1 ≤ 140737488351232 → (∀ x ∈ l0, (Lit.int .u8 x).wf = true) → l1.length ≤ maxLen → l1.length * 1 ≤ 140737488351232 → (∀ x ∈ l1, (Lit.int .u8 x).wf = true) → ∃ k, laws_FnLebs.f k l0 l1 = some true
theorem laws_FnLebs.walk (P : laws_FnLebs.Pure) (a0 : Option Addr) (len0 cap0 : Nat) (z0 : List Int) (a1 : Option Addr) (len1 cap1 : Nat) (z1 : List Int) (w : World) (w0 : (a0 = none ∧ len0 = 0 ∧ cap0 = 0 ∧ z0 = []) ∨ ∃ x, a0 = some x ∧ len0 ≤ cap0 ∧ cap0 ≤ maxLen ∧ z0.length = cap0 ∧ (∀ i, i < z0.length → w.cell? (x.add i) = some (.int .u8 (z0.getD i 0))) ∧ ∀ n ∈ z0, (Lit.int .u8 n).wf = true) (y0 : len0 * 1 ≤ 140737488351232) (w1 : (a1 = none ∧ len1 = 0 ∧ cap1 = 0 ∧ z1 = []) ∨ ∃ x, a1 = some x ∧ len1 ≤ cap1 ∧ cap1 ≤ maxLen ∧ z1.length = cap1 ∧ (∀ i, i < z1.length → w.cell? (x.add i) = some (.int .u8 (z1.getD i 0))) ∧ ∀ n ∈ z1, (Lit.int .u8 n).wf = true) (y1 : len1 * 1 ≤ 140737488351232) :
  Calls Try.prog 5 #[.slice a0 len0 cap0, .slice a1 len1 cap1] w fun e w' => e = .returned (.bool true) ∧ Below w.heap.size w w' := by
 obtain ⟨l0, rfl, hr0, hm0, hw0, hc0⟩ := ReadsInt.ofRowC w0
 obtain ⟨l1, rfl, hr1, hm1, hw1, hc1⟩ := ReadsInt.ofRowC w1
 obtain ⟨k, h⟩ := P l0 l1 hm0 y0 hw0 hm1 y1 hw1
 refine (laws_FnLebs.calls k _ _ l0 _ _ l1 true w (Kd.C_of_reads (d := (0 : Int)) (h1 := fun _ => rfl) hr0) hc0 (Kd.C_of_reads (d := (0 : Int)) (h1 := fun _ => rfl) hr1) hc1 rfl h).mono ?_
 rintro e w' ⟨rfl, hd⟩
 exact ⟨rfl, hd⟩

end Go.Proofs.Ytdckgbmonojdaaa.Q

