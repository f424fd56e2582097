-- Written by a program of this session; it walks the functions that the law reaches.
import Derived.Test.YtmmlgkepnjelnaaQx0
import Derived.Test.YtmmlgkepnjelnaaQx5
import Derived.Test.YtmmlgkepnjelnaaQx3
namespace Go.Proofs.Ytmmlgkepnjelnaa.Q
open Go.RowKit Go.Proofs.YtmmlgkepnjelnaaW.PrintWords Go.Proofs.YtmmlgkepnjelnaaW.PrintLast Go.Proofs.YtmmlgkepnjelnaaW.PrintMore
attribute [local go_sem] max2_int min2_int max_two min_two max_three min_three max_four min_four   -- for this text's walks alone
set_option linter.unusedVariables false
set_option linter.unusedSimpArgs false

/-! ### laws_eqFunc: function 7 -/
def laws_eqFunc.f (k : Nat) (l0_0 : List Int) (a0_1 : Int) (l0_2 : List Int) (l0_3 : List (S44)) (l1_0 : List Int) (a1_1 : Int) (l1_2 : List Int) (l1_3 : List (S44)) : Option (Bool) := (laws_eqIntS.f k l0_0 l1_0).bind fun t349 => (if t349 = true then (if a0_1 = a1_1 then ((laws_eqIntS.f k l0_2 l1_2).bind fun t350 => (if t350 = true then ((laws_eqInsS.f k l0_3 l1_3).bind fun t351 => (if t351 = true then (some true) else (some false))) else (some false))) else (some false)) else (some false))
set_option maxHeartbeats 8000000 in
set_option maxRecDepth 100000 in
theorem laws_eqFunc.calls (k : Nat) (A0_0 : Option Addr) (c0_0 : Nat) (l0_0 : List Int) (a0_1 : Int) (A0_2 : Option Addr) (c0_2 : Nat) (l0_2 : List Int) (A0_3 : Option Addr) (c0_3 : Nat) (l0_3 : List (S44)) (A1_0 : Option Addr) (c1_0 : Nat) (l1_0 : List Int) (a1_1 : Int) (A1_2 : Option Addr) (c1_2 : Nat) (l1_2 : List Int) (A1_3 : Option Addr) (c1_3 : Nat) (l1_3 : List (S44)) (r : Bool) (w : World) (hr0_0 : Kd.C (Kd.int .i64) w A0_0 l0_0.length l0_0) (hc0_0 : l0_0.length ≤ c0_0) (hr0_2 : Kd.C (Kd.int .i64) w A0_2 l0_2.length l0_2) (hc0_2 : l0_2.length ≤ c0_2) (hr0_3 : Kd.C k44 w A0_3 l0_3.length l0_3) (hc0_3 : l0_3.length ≤ c0_3) (hr1_0 : Kd.C (Kd.int .i64) w A1_0 l1_0.length l1_0) (hc1_0 : l1_0.length ≤ c1_0) (hr1_2 : Kd.C (Kd.int .i64) w A1_2 l1_2.length l1_2) (hc1_2 : l1_2.length ≤ c1_2) (hr1_3 : Kd.C k44 w A1_3 l1_3.length l1_3) (hc1_3 : l1_3.length ≤ c1_3) (h : laws_eqFunc.f k l0_0 a0_1 l0_2 l0_3 l1_0 a1_1 l1_2 l1_3 = some r) :
  Calls Try.prog 7 #[.agg #[.slice A0_0 l0_0.length c0_0, .int .i64 a0_1, .slice A0_2 l0_2.length c0_2, .slice A0_3 l0_3.length c0_3], .agg #[.slice A1_0 l1_0.length c1_0, .int .i64 a1_1, .slice A1_2 l1_2.length c1_2, .slice A1_3 l1_3.length c1_3]] w fun e w' => e = .returned (.bool r) ∧ Below w.heap.size w w' := by
 have hu25 := Try.underlying25
 have HR0_0 := Aside0.mk hr0_0
 have HC0_0 := Aside0.mk hc0_0
 clear hr0_0 hc0_0
 have HR0_2 := Aside0.mk hr0_2
 have HC0_2 := Aside0.mk hc0_2
 clear hr0_2 hc0_2
 have HR0_3 := Aside0.mk hr0_3
 have HC0_3 := Aside0.mk hc0_3
 clear hr0_3 hc0_3
 have HR1_0 := Aside0.mk hr1_0
 have HC1_0 := Aside0.mk hc1_0
 clear hr1_0 hc1_0
 have HR1_2 := Aside0.mk hr1_2
 have HC1_2 := Aside0.mk hc1_2
 clear hr1_2 hc1_2
 have HR1_3 := Aside0.mk hr1_3
 have HC1_3 := Aside0.mk hc1_3
 clear hr1_3 hc1_3
 have HB := Aside0.mk (Below.refl w.heap.size w)
 have H : ((laws_eqIntS.f k l0_0 l1_0).bind fun t349 => (if t349 = true then (if a0_1 = a1_1 then ((laws_eqIntS.f k l0_2 l1_2).bind fun t350 => (if t350 = true then ((laws_eqInsS.f k l0_3 l1_3).bind fun t351 => (if t351 = true then (some true) else (some false))) else (some false))) else (some false)) else (some false))) = some r := h
 clear h
 replace H := Option.bind_eq_some_iff.mp H
 obtain ⟨t349, A30, H⟩ := H
 replace H : (if t349 = true then (if a0_1 = a1_1 then ((laws_eqIntS.f k l0_2 l1_2).bind fun t350 => (if t350 = true then ((laws_eqInsS.f k l0_3 l1_3).bind fun t351 => (if t351 = true then (some true) else (some false))) else (some false))) else (some false)) else (some false)) = some r := H
 have A3 := Aside0.mk A30
 clear A30
 by_cases c4 : t349 = true
 ·
  subst c4
  have H1 : (if a0_1 = a1_1 then ((laws_eqIntS.f k l0_2 l1_2).bind fun t350 => (if t350 = true then ((laws_eqInsS.f k l0_3 l1_3).bind fun t351 => (if t351 = true then (some true) else (some false))) else (some false))) else (some false)) = some r := by rw [if_pos rfl] at H; exact H
  clear H
  have H := H1
  clear H1
  by_cases c5 : a0_1 = a1_1
  ·
   rw [if_pos c5] at H
   have c5b0 : (a0_1 == a1_1) = true := beq_iff_eq.mpr c5
   have c5b1 : (a0_1 != a1_1) = false := bne_eq_false_iff_eq.mpr c5
   clear c5
   replace H := Option.bind_eq_some_iff.mp H
   obtain ⟨t350, A60, H⟩ := H
   replace H : (if t350 = true then ((laws_eqInsS.f k l0_3 l1_3).bind fun t351 => (if t351 = true then (some true) else (some false))) else (some false)) = some r := H
   have A6 := Aside0.mk A60
   clear A60
   by_cases c7 : t350 = true
   ·
    subst c7
    have H1 : ((laws_eqInsS.f k l0_3 l1_3).bind fun t351 => (if t351 = true then (some true) else (some false))) = some r := by rw [if_pos rfl] at H; exact H
    clear H
    have H := H1
    clear H1
    replace H := Option.bind_eq_some_iff.mp H
    obtain ⟨t351, A80, H⟩ := H
    replace H : (if t351 = true then (some true) else (some false)) = some r := H
    have A8 := Aside0.mk A80
    clear A80
    by_cases c9 : t351 = true
    ·
     subst c9
     have H1 : (some true) = some r := by rw [if_pos rfl] at H; exact H
     clear H
     have H := H1
     clear H1
     obtain rfl := Option.some.inj H
     simp only [Option.some.injEq, Prod.mk.injEq] at H
     obtain ⟨rfl⟩ := H
     go_enter Try.func7, Try.ntmps7
     go_wp2_with (first | ((with_reducible refine gate_dst (N := 2) rfl ?_); refine box_event ?hg (N := 2) ?hd (cs := #[.slice A0_0 l0_0.length c0_0, .int .i64 a0_1, .slice A0_2 l0_2.length c0_2, .slice A0_3 l0_3.length c0_3]) (t := 25) ?hr ?_; (case hd => rfl); (case hg => rfl); (case hr => first | (go_simp; done) | (go_simp; rfl)); intro gb347 hg w10 hbox hb; have n0_ := Aside0.mk (below_step (bw HB.out) hb); have n1_ := Aside0.mk (hbox); have n2_ := Aside0.mk ((sz_ hg (bw HB.out) : w.heap.size ≤ gb347)); have n3_ := Aside0.mk ((sz_ hg (bw HB.out) : w.heap.size ≤ gb347)); clear HB; have HB := n0_; have BK347 := n1_; have GW347 := n2_; have GE347 := n3_; clear n0_ n1_ n2_ n3_; clear hb hbox hg) | ((with_reducible refine gate_dst (N := 3) rfl ?_); refine box_event ?hg (N := 3) ?hd (cs := #[.slice A1_0 l1_0.length c1_0, .int .i64 a1_1, .slice A1_2 l1_2.length c1_2, .slice A1_3 l1_3.length c1_3]) (t := 25) ?hr ?_; (case hd => rfl); (case hg => rfl); (case hr => first | (go_simp; done) | (go_simp; rfl)); intro gb348 hg w11 hbox hb; have n0_ := Aside0.mk (blk_below (g := gb347) (o := .cells #[.slice A0_0 l0_0.length c0_0, .int .i64 a0_1, .slice A0_2 l0_2.length c0_2, .slice A0_3 l0_3.length c0_3] 25 (0, 0)) (bk BK347.out) hb); have n1_ := Aside0.mk (below_step (bw HB.out) hb); have n2_ := Aside0.mk (hbox); have n3_ := Aside0.mk ((sz_ hg (bw HB.out) : w.heap.size ≤ gb348)); have n4_ := Aside0.mk ((sz_ hg (bw HB.out) : w.heap.size ≤ gb348)); have n5_ := Aside0.mk ((by rw [hg]; exact Nat.ne_of_lt (blk_lt (g := gb347) (o := .cells #[.slice A0_0 l0_0.length c0_0, .int .i64 a0_1, .slice A0_2 l0_2.length c0_2, .slice A0_3 l0_3.length c0_3] 25 (0, 0)) (bk BK347.out)) : gb347 ≠ gb348)); have n6_ := Aside0.mk ((by rw [hg]; exact Nat.ne_of_gt (blk_lt (g := gb347) (o := .cells #[.slice A0_0 l0_0.length c0_0, .int .i64 a0_1, .slice A0_2 l0_2.length c0_2, .slice A0_3 l0_3.length c0_3] 25 (0, 0)) (bk BK347.out)) : gb348 ≠ gb347)); clear BK347; clear HB; have BK347 := n0_; have HB := n1_; have BK348 := n2_; have GW348 := n3_; have GE348 := n4_; have NB347_348 := n5_; have NB348_347 := n6_; clear n0_ n1_ n2_ n3_ n4_ n5_ n6_; clear hb hbox hg; have hnb12 := NB347_348.out; have hnc12 := NB348_347.out; obtain ⟨hcz13_0, hcz13_1, hcz13_2, hcz13_3⟩ := cs4_ BK347.out; obtain ⟨hfz13_0, hfz13_1, hfz13_2, hfz13_3⟩ := fz4_ BK347.out; obtain ⟨hcz14_0, hcz14_1, hcz14_2, hcz14_3⟩ := cs4_ BK348.out; obtain ⟨hfz14_0, hfz14_1, hfz14_2, hfz14_3⟩ := fz4_ BK348.out) | ((with_reducible refine gate_callee (f := 21) rfl ?_); refine goesL_ (some 9) rfl rfl Try.func21 (by kernel_rfl) rfl #[.slice A0_0 l0_0.length c0_0, .slice A1_0 l1_0.length c1_0] rfl ar ?_; (with_reducible refine (laws_eqIntS.calls k _ _ l0_0 _ _ l1_0 true _ ?side1 ?side2 ?side3 ?side4 A3.out).mono ?_); (case side1 => repeat (first | exact (Kd.C_below HR0_0.out HB.out) | (with_reducible refine Kd.C_alloc ?_ _) | (with_reducible refine Kd.C_drewN ?_ _) | (with_reducible refine Kd.C_drew ?_))); (case side2 => exact HC0_0.out); (case side3 => repeat (first | exact (Kd.C_below HR1_0.out HB.out) | (with_reducible refine Kd.C_alloc ?_ _) | (with_reducible refine Kd.C_drewN ?_ _) | (with_reducible refine Kd.C_drew ?_))); (case side4 => exact HC1_0.out); rintro e w' ⟨rfl, ⟨nd, rfl⟩⟩; refine ⟨_, rfl, ?_⟩) | ((with_reducible refine gate_callee (f := 21) rfl ?_); refine goesL_ (some 20) rfl rfl Try.func21 (by kernel_rfl) rfl #[.slice A0_2 l0_2.length c0_2, .slice A1_2 l1_2.length c1_2] rfl ar ?_; (with_reducible refine (laws_eqIntS.calls k _ _ l0_2 _ _ l1_2 true _ ?side1 ?side2 ?side3 ?side4 A6.out).mono ?_); (case side1 => repeat (first | exact (Kd.C_below HR0_2.out (bw HB.out)) | (with_reducible refine Kd.C_alloc ?_ _) | (with_reducible refine Kd.C_drewN ?_ _) | (with_reducible refine Kd.C_drew ?_))); (case side2 => exact HC0_2.out); (case side3 => repeat (first | exact (Kd.C_below HR1_2.out (bw HB.out)) | (with_reducible refine Kd.C_alloc ?_ _) | (with_reducible refine Kd.C_drewN ?_ _) | (with_reducible refine Kd.C_drew ?_))); (case side4 => exact HC1_2.out); rintro e w' ⟨rfl, ⟨nd, rfl⟩⟩; refine ⟨_, rfl, ?_⟩) | ((with_reducible refine gate_callee (f := 22) rfl ?_); refine goesL_ (some 26) rfl rfl Try.func22 (by kernel_rfl) rfl #[.slice A0_3 l0_3.length c0_3, .slice A1_3 l1_3.length c1_3] rfl ar ?_; (with_reducible refine (laws_eqInsS.calls k _ _ l0_3 _ _ l1_3 true _ ?side1 ?side2 ?side3 ?side4 A8.out).mono ?_); (case side1 => repeat (first | exact (Kd.C_below HR0_3.out (bw HB.out)) | (with_reducible refine Kd.C_alloc ?_ _) | (with_reducible refine Kd.C_drewN ?_ _) | (with_reducible refine Kd.C_drew ?_))); (case side2 => exact HC0_3.out); (case side3 => repeat (first | exact (Kd.C_below HR1_3.out (bw HB.out)) | (with_reducible refine Kd.C_alloc ?_ _) | (with_reducible refine Kd.C_drewN ?_ _) | (with_reducible refine Kd.C_drew ?_))); (case side4 => exact HC1_3.out); rintro e w15 ⟨rfl, hb⟩; refine ⟨_, rfl, ?_⟩; have n0_ := Aside0.mk (blk_below (g := gb347) (o := .cells #[.slice A0_0 l0_0.length c0_0, .int .i64 a0_1, .slice A0_2 l0_2.length c0_2, .slice A0_3 l0_3.length c0_3] 25 (0, 0)) (bk BK347.out) hb); have n1_ := Aside0.mk (blk_below (g := gb348) (o := .cells #[.slice A1_0 l1_0.length c1_0, .int .i64 a1_1, .slice A1_2 l1_2.length c1_2, .slice A1_3 l1_3.length c1_3] 25 (0, 0)) (bk BK348.out) hb); have n2_ := Aside0.mk (below_step (bw HB.out) hb); clear BK347; clear BK348; clear HB; have BK347 := n0_; have BK348 := n1_; have HB := n2_; clear n0_ n1_ n2_; (try clear hb)))
     go_ret
     exact ⟨rr_, bw HB.out⟩
    ·
     replace c9 := Bool.eq_false_iff.mpr c9
     subst c9
     have H1 : (some false) = some r := by rw [if_neg (show ¬ (false = true) by decide)] at H; exact H
     clear H
     have H := H1
     clear H1
     obtain rfl := Option.some.inj H
     simp only [Option.some.injEq, Prod.mk.injEq] at H
     obtain ⟨rfl⟩ := H
     go_enter Try.func7, Try.ntmps7
     go_wp2_with (first | ((with_reducible refine gate_dst (N := 2) rfl ?_); refine box_event ?hg (N := 2) ?hd (cs := #[.slice A0_0 l0_0.length c0_0, .int .i64 a0_1, .slice A0_2 l0_2.length c0_2, .slice A0_3 l0_3.length c0_3]) (t := 25) ?hr ?_; (case hd => rfl); (case hg => rfl); (case hr => first | (go_simp; done) | (go_simp; rfl)); intro gb347 hg w16 hbox hb; have n0_ := Aside0.mk (below_step (bw HB.out) hb); have n1_ := Aside0.mk (hbox); have n2_ := Aside0.mk ((sz_ hg (bw HB.out) : w.heap.size ≤ gb347)); have n3_ := Aside0.mk ((sz_ hg (bw HB.out) : w.heap.size ≤ gb347)); clear HB; have HB := n0_; have BK347 := n1_; have GW347 := n2_; have GE347 := n3_; clear n0_ n1_ n2_ n3_; clear hb hbox hg) | ((with_reducible refine gate_dst (N := 3) rfl ?_); refine box_event ?hg (N := 3) ?hd (cs := #[.slice A1_0 l1_0.length c1_0, .int .i64 a1_1, .slice A1_2 l1_2.length c1_2, .slice A1_3 l1_3.length c1_3]) (t := 25) ?hr ?_; (case hd => rfl); (case hg => rfl); (case hr => first | (go_simp; done) | (go_simp; rfl)); intro gb348 hg w17 hbox hb; have n0_ := Aside0.mk (blk_below (g := gb347) (o := .cells #[.slice A0_0 l0_0.length c0_0, .int .i64 a0_1, .slice A0_2 l0_2.length c0_2, .slice A0_3 l0_3.length c0_3] 25 (0, 0)) (bk BK347.out) hb); have n1_ := Aside0.mk (below_step (bw HB.out) hb); have n2_ := Aside0.mk (hbox); have n3_ := Aside0.mk ((sz_ hg (bw HB.out) : w.heap.size ≤ gb348)); have n4_ := Aside0.mk ((sz_ hg (bw HB.out) : w.heap.size ≤ gb348)); have n5_ := Aside0.mk ((by rw [hg]; exact Nat.ne_of_lt (blk_lt (g := gb347) (o := .cells #[.slice A0_0 l0_0.length c0_0, .int .i64 a0_1, .slice A0_2 l0_2.length c0_2, .slice A0_3 l0_3.length c0_3] 25 (0, 0)) (bk BK347.out)) : gb347 ≠ gb348)); have n6_ := Aside0.mk ((by rw [hg]; exact Nat.ne_of_gt (blk_lt (g := gb347) (o := .cells #[.slice A0_0 l0_0.length c0_0, .int .i64 a0_1, .slice A0_2 l0_2.length c0_2, .slice A0_3 l0_3.length c0_3] 25 (0, 0)) (bk BK347.out)) : gb348 ≠ gb347)); clear BK347; clear HB; have BK347 := n0_; have HB := n1_; have BK348 := n2_; have GW348 := n3_; have GE348 := n4_; have NB347_348 := n5_; have NB348_347 := n6_; clear n0_ n1_ n2_ n3_ n4_ n5_ n6_; clear hb hbox hg; have hnb18 := NB347_348.out; have hnc18 := NB348_347.out; obtain ⟨hcz19_0, hcz19_1, hcz19_2, hcz19_3⟩ := cs4_ BK347.out; obtain ⟨hfz19_0, hfz19_1, hfz19_2, hfz19_3⟩ := fz4_ BK347.out; obtain ⟨hcz20_0, hcz20_1, hcz20_2, hcz20_3⟩ := cs4_ BK348.out; obtain ⟨hfz20_0, hfz20_1, hfz20_2, hfz20_3⟩ := fz4_ BK348.out) | ((with_reducible refine gate_callee (f := 21) rfl ?_); refine goesL_ (some 9) rfl rfl Try.func21 (by kernel_rfl) rfl #[.slice A0_0 l0_0.length c0_0, .slice A1_0 l1_0.length c1_0] rfl ar ?_; (with_reducible refine (laws_eqIntS.calls k _ _ l0_0 _ _ l1_0 true _ ?side1 ?side2 ?side3 ?side4 A3.out).mono ?_); (case side1 => repeat (first | exact (Kd.C_below HR0_0.out HB.out) | (with_reducible refine Kd.C_alloc ?_ _) | (with_reducible refine Kd.C_drewN ?_ _) | (with_reducible refine Kd.C_drew ?_))); (case side2 => exact HC0_0.out); (case side3 => repeat (first | exact (Kd.C_below HR1_0.out HB.out) | (with_reducible refine Kd.C_alloc ?_ _) | (with_reducible refine Kd.C_drewN ?_ _) | (with_reducible refine Kd.C_drew ?_))); (case side4 => exact HC1_0.out); rintro e w' ⟨rfl, ⟨nd, rfl⟩⟩; refine ⟨_, rfl, ?_⟩) | ((with_reducible refine gate_callee (f := 21) rfl ?_); refine goesL_ (some 20) rfl rfl Try.func21 (by kernel_rfl) rfl #[.slice A0_2 l0_2.length c0_2, .slice A1_2 l1_2.length c1_2] rfl ar ?_; (with_reducible refine (laws_eqIntS.calls k _ _ l0_2 _ _ l1_2 true _ ?side1 ?side2 ?side3 ?side4 A6.out).mono ?_); (case side1 => repeat (first | exact (Kd.C_below HR0_2.out (bw HB.out)) | (with_reducible refine Kd.C_alloc ?_ _) | (with_reducible refine Kd.C_drewN ?_ _) | (with_reducible refine Kd.C_drew ?_))); (case side2 => exact HC0_2.out); (case side3 => repeat (first | exact (Kd.C_below HR1_2.out (bw HB.out)) | (with_reducible refine Kd.C_alloc ?_ _) | (with_reducible refine Kd.C_drewN ?_ _) | (with_reducible refine Kd.C_drew ?_))); (case side4 => exact HC1_2.out); rintro e w' ⟨rfl, ⟨nd, rfl⟩⟩; refine ⟨_, rfl, ?_⟩) | ((with_reducible refine gate_callee (f := 22) rfl ?_); refine goesL_ (some 26) rfl rfl Try.func22 (by kernel_rfl) rfl #[.slice A0_3 l0_3.length c0_3, .slice A1_3 l1_3.length c1_3] rfl ar ?_; (with_reducible refine (laws_eqInsS.calls k _ _ l0_3 _ _ l1_3 false _ ?side1 ?side2 ?side3 ?side4 A8.out).mono ?_); (case side1 => repeat (first | exact (Kd.C_below HR0_3.out (bw HB.out)) | (with_reducible refine Kd.C_alloc ?_ _) | (with_reducible refine Kd.C_drewN ?_ _) | (with_reducible refine Kd.C_drew ?_))); (case side2 => exact HC0_3.out); (case side3 => repeat (first | exact (Kd.C_below HR1_3.out (bw HB.out)) | (with_reducible refine Kd.C_alloc ?_ _) | (with_reducible refine Kd.C_drewN ?_ _) | (with_reducible refine Kd.C_drew ?_))); (case side4 => exact HC1_3.out); rintro e w21 ⟨rfl, hb⟩; refine ⟨_, rfl, ?_⟩; have n0_ := Aside0.mk (blk_below (g := gb347) (o := .cells #[.slice A0_0 l0_0.length c0_0, .int .i64 a0_1, .slice A0_2 l0_2.length c0_2, .slice A0_3 l0_3.length c0_3] 25 (0, 0)) (bk BK347.out) hb); have n1_ := Aside0.mk (blk_below (g := gb348) (o := .cells #[.slice A1_0 l1_0.length c1_0, .int .i64 a1_1, .slice A1_2 l1_2.length c1_2, .slice A1_3 l1_3.length c1_3] 25 (0, 0)) (bk BK348.out) hb); have n2_ := Aside0.mk (below_step (bw HB.out) hb); clear BK347; clear BK348; clear HB; have BK347 := n0_; have BK348 := n1_; have HB := n2_; clear n0_ n1_ n2_; (try clear hb)))
     go_ret
     exact ⟨rr_, bw HB.out⟩
   ·
    replace c7 := Bool.eq_false_iff.mpr c7
    subst c7
    have H1 : (some false) = some r := by rw [if_neg (show ¬ (false = true) by decide)] at H; exact H
    clear H
    have H := H1
    clear H1
    obtain rfl := Option.some.inj H
    simp only [Option.some.injEq, Prod.mk.injEq] at H
    obtain ⟨rfl⟩ := H
    go_enter Try.func7, Try.ntmps7
    go_wp2_with (first | ((with_reducible refine gate_dst (N := 2) rfl ?_); refine box_event ?hg (N := 2) ?hd (cs := #[.slice A0_0 l0_0.length c0_0, .int .i64 a0_1, .slice A0_2 l0_2.length c0_2, .slice A0_3 l0_3.length c0_3]) (t := 25) ?hr ?_; (case hd => rfl); (case hg => rfl); (case hr => first | (go_simp; done) | (go_simp; rfl)); intro gb347 hg w22 hbox hb; have n0_ := Aside0.mk (below_step (bw HB.out) hb); have n1_ := Aside0.mk (hbox); have n2_ := Aside0.mk ((sz_ hg (bw HB.out) : w.heap.size ≤ gb347)); have n3_ := Aside0.mk ((sz_ hg (bw HB.out) : w.heap.size ≤ gb347)); clear HB; have HB := n0_; have BK347 := n1_; have GW347 := n2_; have GE347 := n3_; clear n0_ n1_ n2_ n3_; clear hb hbox hg) | ((with_reducible refine gate_dst (N := 3) rfl ?_); refine box_event ?hg (N := 3) ?hd (cs := #[.slice A1_0 l1_0.length c1_0, .int .i64 a1_1, .slice A1_2 l1_2.length c1_2, .slice A1_3 l1_3.length c1_3]) (t := 25) ?hr ?_; (case hd => rfl); (case hg => rfl); (case hr => first | (go_simp; done) | (go_simp; rfl)); intro gb348 hg w23 hbox hb; have n0_ := Aside0.mk (blk_below (g := gb347) (o := .cells #[.slice A0_0 l0_0.length c0_0, .int .i64 a0_1, .slice A0_2 l0_2.length c0_2, .slice A0_3 l0_3.length c0_3] 25 (0, 0)) (bk BK347.out) hb); have n1_ := Aside0.mk (below_step (bw HB.out) hb); have n2_ := Aside0.mk (hbox); have n3_ := Aside0.mk ((sz_ hg (bw HB.out) : w.heap.size ≤ gb348)); have n4_ := Aside0.mk ((sz_ hg (bw HB.out) : w.heap.size ≤ gb348)); have n5_ := Aside0.mk ((by rw [hg]; exact Nat.ne_of_lt (blk_lt (g := gb347) (o := .cells #[.slice A0_0 l0_0.length c0_0, .int .i64 a0_1, .slice A0_2 l0_2.length c0_2, .slice A0_3 l0_3.length c0_3] 25 (0, 0)) (bk BK347.out)) : gb347 ≠ gb348)); have n6_ := Aside0.mk ((by rw [hg]; exact Nat.ne_of_gt (blk_lt (g := gb347) (o := .cells #[.slice A0_0 l0_0.length c0_0, .int .i64 a0_1, .slice A0_2 l0_2.length c0_2, .slice A0_3 l0_3.length c0_3] 25 (0, 0)) (bk BK347.out)) : gb348 ≠ gb347)); clear BK347; clear HB; have BK347 := n0_; have HB := n1_; have BK348 := n2_; have GW348 := n3_; have GE348 := n4_; have NB347_348 := n5_; have NB348_347 := n6_; clear n0_ n1_ n2_ n3_ n4_ n5_ n6_; clear hb hbox hg; have hnb24 := NB347_348.out; have hnc24 := NB348_347.out; obtain ⟨hcz25_0, hcz25_1, hcz25_2, hcz25_3⟩ := cs4_ BK347.out; obtain ⟨hfz25_0, hfz25_1, hfz25_2, hfz25_3⟩ := fz4_ BK347.out; obtain ⟨hcz26_0, hcz26_1, hcz26_2, hcz26_3⟩ := cs4_ BK348.out; obtain ⟨hfz26_0, hfz26_1, hfz26_2, hfz26_3⟩ := fz4_ BK348.out) | ((with_reducible refine gate_callee (f := 21) rfl ?_); refine goesL_ (some 9) rfl rfl Try.func21 (by kernel_rfl) rfl #[.slice A0_0 l0_0.length c0_0, .slice A1_0 l1_0.length c1_0] rfl ar ?_; (with_reducible refine (laws_eqIntS.calls k _ _ l0_0 _ _ l1_0 true _ ?side1 ?side2 ?side3 ?side4 A3.out).mono ?_); (case side1 => repeat (first | exact (Kd.C_below HR0_0.out HB.out) | (with_reducible refine Kd.C_alloc ?_ _) | (with_reducible refine Kd.C_drewN ?_ _) | (with_reducible refine Kd.C_drew ?_))); (case side2 => exact HC0_0.out); (case side3 => repeat (first | exact (Kd.C_below HR1_0.out HB.out) | (with_reducible refine Kd.C_alloc ?_ _) | (with_reducible refine Kd.C_drewN ?_ _) | (with_reducible refine Kd.C_drew ?_))); (case side4 => exact HC1_0.out); rintro e w' ⟨rfl, ⟨nd, rfl⟩⟩; refine ⟨_, rfl, ?_⟩) | ((with_reducible refine gate_callee (f := 21) rfl ?_); refine goesL_ (some 20) rfl rfl Try.func21 (by kernel_rfl) rfl #[.slice A0_2 l0_2.length c0_2, .slice A1_2 l1_2.length c1_2] rfl ar ?_; (with_reducible refine (laws_eqIntS.calls k _ _ l0_2 _ _ l1_2 false _ ?side1 ?side2 ?side3 ?side4 A6.out).mono ?_); (case side1 => repeat (first | exact (Kd.C_below HR0_2.out (bw HB.out)) | (with_reducible refine Kd.C_alloc ?_ _) | (with_reducible refine Kd.C_drewN ?_ _) | (with_reducible refine Kd.C_drew ?_))); (case side2 => exact HC0_2.out); (case side3 => repeat (first | exact (Kd.C_below HR1_2.out (bw HB.out)) | (with_reducible refine Kd.C_alloc ?_ _) | (with_reducible refine Kd.C_drewN ?_ _) | (with_reducible refine Kd.C_drew ?_))); (case side4 => exact HC1_2.out); rintro e w' ⟨rfl, ⟨nd, rfl⟩⟩; refine ⟨_, rfl, ?_⟩))
    go_ret
    exact ⟨rr_, bw HB.out⟩
  ·
   rw [if_neg c5] at H
   have c5b0 : (a0_1 == a1_1) = false := beq_eq_false_iff_ne.mpr c5
   have c5b1 : (a0_1 != a1_1) = true := bne_iff_ne.mpr c5
   obtain rfl := Option.some.inj H
   simp only [Option.some.injEq, Prod.mk.injEq] at H
   obtain ⟨rfl⟩ := H
   go_enter Try.func7, Try.ntmps7
   go_wp2_with (first | ((with_reducible refine gate_dst (N := 2) rfl ?_); refine box_event ?hg (N := 2) ?hd (cs := #[.slice A0_0 l0_0.length c0_0, .int .i64 a0_1, .slice A0_2 l0_2.length c0_2, .slice A0_3 l0_3.length c0_3]) (t := 25) ?hr ?_; (case hd => rfl); (case hg => rfl); (case hr => first | (go_simp; done) | (go_simp; rfl)); intro gb347 hg w27 hbox hb; have n0_ := Aside0.mk (below_step (bw HB.out) hb); have n1_ := Aside0.mk (hbox); have n2_ := Aside0.mk ((sz_ hg (bw HB.out) : w.heap.size ≤ gb347)); have n3_ := Aside0.mk ((sz_ hg (bw HB.out) : w.heap.size ≤ gb347)); clear HB; have HB := n0_; have BK347 := n1_; have GW347 := n2_; have GE347 := n3_; clear n0_ n1_ n2_ n3_; clear hb hbox hg) | ((with_reducible refine gate_dst (N := 3) rfl ?_); refine box_event ?hg (N := 3) ?hd (cs := #[.slice A1_0 l1_0.length c1_0, .int .i64 a1_1, .slice A1_2 l1_2.length c1_2, .slice A1_3 l1_3.length c1_3]) (t := 25) ?hr ?_; (case hd => rfl); (case hg => rfl); (case hr => first | (go_simp; done) | (go_simp; rfl)); intro gb348 hg w28 hbox hb; have n0_ := Aside0.mk (blk_below (g := gb347) (o := .cells #[.slice A0_0 l0_0.length c0_0, .int .i64 a0_1, .slice A0_2 l0_2.length c0_2, .slice A0_3 l0_3.length c0_3] 25 (0, 0)) (bk BK347.out) hb); have n1_ := Aside0.mk (below_step (bw HB.out) hb); have n2_ := Aside0.mk (hbox); have n3_ := Aside0.mk ((sz_ hg (bw HB.out) : w.heap.size ≤ gb348)); have n4_ := Aside0.mk ((sz_ hg (bw HB.out) : w.heap.size ≤ gb348)); have n5_ := Aside0.mk ((by rw [hg]; exact Nat.ne_of_lt (blk_lt (g := gb347) (o := .cells #[.slice A0_0 l0_0.length c0_0, .int .i64 a0_1, .slice A0_2 l0_2.length c0_2, .slice A0_3 l0_3.length c0_3] 25 (0, 0)) (bk BK347.out)) : gb347 ≠ gb348)); have n6_ := Aside0.mk ((by rw [hg]; exact Nat.ne_of_gt (blk_lt (g := gb347) (o := .cells #[.slice A0_0 l0_0.length c0_0, .int .i64 a0_1, .slice A0_2 l0_2.length c0_2, .slice A0_3 l0_3.length c0_3] 25 (0, 0)) (bk BK347.out)) : gb348 ≠ gb347)); clear BK347; clear HB; have BK347 := n0_; have HB := n1_; have BK348 := n2_; have GW348 := n3_; have GE348 := n4_; have NB347_348 := n5_; have NB348_347 := n6_; clear n0_ n1_ n2_ n3_ n4_ n5_ n6_; clear hb hbox hg; have hnb29 := NB347_348.out; have hnc29 := NB348_347.out; obtain ⟨hcz30_0, hcz30_1, hcz30_2, hcz30_3⟩ := cs4_ BK347.out; obtain ⟨hfz30_0, hfz30_1, hfz30_2, hfz30_3⟩ := fz4_ BK347.out; obtain ⟨hcz31_0, hcz31_1, hcz31_2, hcz31_3⟩ := cs4_ BK348.out; obtain ⟨hfz31_0, hfz31_1, hfz31_2, hfz31_3⟩ := fz4_ BK348.out) | ((with_reducible refine gate_callee (f := 21) rfl ?_); refine goesL_ (some 9) rfl rfl Try.func21 (by kernel_rfl) rfl #[.slice A0_0 l0_0.length c0_0, .slice A1_0 l1_0.length c1_0] rfl ar ?_; (with_reducible refine (laws_eqIntS.calls k _ _ l0_0 _ _ l1_0 true _ ?side1 ?side2 ?side3 ?side4 A3.out).mono ?_); (case side1 => repeat (first | exact (Kd.C_below HR0_0.out HB.out) | (with_reducible refine Kd.C_alloc ?_ _) | (with_reducible refine Kd.C_drewN ?_ _) | (with_reducible refine Kd.C_drew ?_))); (case side2 => exact HC0_0.out); (case side3 => repeat (first | exact (Kd.C_below HR1_0.out HB.out) | (with_reducible refine Kd.C_alloc ?_ _) | (with_reducible refine Kd.C_drewN ?_ _) | (with_reducible refine Kd.C_drew ?_))); (case side4 => exact HC1_0.out); rintro e w' ⟨rfl, ⟨nd, rfl⟩⟩; refine ⟨_, rfl, ?_⟩))
   go_ret
   exact ⟨rr_, bw HB.out⟩
 ·
  replace c4 := Bool.eq_false_iff.mpr c4
  subst c4
  have H1 : (some false) = some r := by rw [if_neg (show ¬ (false = true) by decide)] at H; exact H
  clear H
  have H := H1
  clear H1
  obtain rfl := Option.some.inj H
  simp only [Option.some.injEq, Prod.mk.injEq] at H
  obtain ⟨rfl⟩ := H
  go_enter Try.func7, Try.ntmps7
  go_wp2_with (first | ((with_reducible refine gate_dst (N := 2) rfl ?_); refine box_event ?hg (N := 2) ?hd (cs := #[.slice A0_0 l0_0.length c0_0, .int .i64 a0_1, .slice A0_2 l0_2.length c0_2, .slice A0_3 l0_3.length c0_3]) (t := 25) ?hr ?_; (case hd => rfl); (case hg => rfl); (case hr => first | (go_simp; done) | (go_simp; rfl)); intro gb347 hg w32 hbox hb; have n0_ := Aside0.mk (below_step (bw HB.out) hb); have n1_ := Aside0.mk (hbox); have n2_ := Aside0.mk ((sz_ hg (bw HB.out) : w.heap.size ≤ gb347)); have n3_ := Aside0.mk ((sz_ hg (bw HB.out) : w.heap.size ≤ gb347)); clear HB; have HB := n0_; have BK347 := n1_; have GW347 := n2_; have GE347 := n3_; clear n0_ n1_ n2_ n3_; clear hb hbox hg) | ((with_reducible refine gate_dst (N := 3) rfl ?_); refine box_event ?hg (N := 3) ?hd (cs := #[.slice A1_0 l1_0.length c1_0, .int .i64 a1_1, .slice A1_2 l1_2.length c1_2, .slice A1_3 l1_3.length c1_3]) (t := 25) ?hr ?_; (case hd => rfl); (case hg => rfl); (case hr => first | (go_simp; done) | (go_simp; rfl)); intro gb348 hg w33 hbox hb; have n0_ := Aside0.mk (blk_below (g := gb347) (o := .cells #[.slice A0_0 l0_0.length c0_0, .int .i64 a0_1, .slice A0_2 l0_2.length c0_2, .slice A0_3 l0_3.length c0_3] 25 (0, 0)) (bk BK347.out) hb); have n1_ := Aside0.mk (below_step (bw HB.out) hb); have n2_ := Aside0.mk (hbox); have n3_ := Aside0.mk ((sz_ hg (bw HB.out) : w.heap.size ≤ gb348)); have n4_ := Aside0.mk ((sz_ hg (bw HB.out) : w.heap.size ≤ gb348)); have n5_ := Aside0.mk ((by rw [hg]; exact Nat.ne_of_lt (blk_lt (g := gb347) (o := .cells #[.slice A0_0 l0_0.length c0_0, .int .i64 a0_1, .slice A0_2 l0_2.length c0_2, .slice A0_3 l0_3.length c0_3] 25 (0, 0)) (bk BK347.out)) : gb347 ≠ gb348)); have n6_ := Aside0.mk ((by rw [hg]; exact Nat.ne_of_gt (blk_lt (g := gb347) (o := .cells #[.slice A0_0 l0_0.length c0_0, .int .i64 a0_1, .slice A0_2 l0_2.length c0_2, .slice A0_3 l0_3.length c0_3] 25 (0, 0)) (bk BK347.out)) : gb348 ≠ gb347)); clear BK347; clear HB; have BK347 := n0_; have HB := n1_; have BK348 := n2_; have GW348 := n3_; have GE348 := n4_; have NB347_348 := n5_; have NB348_347 := n6_; clear n0_ n1_ n2_ n3_ n4_ n5_ n6_; clear hb hbox hg; have hnb34 := NB347_348.out; have hnc34 := NB348_347.out; obtain ⟨hcz35_0, hcz35_1, hcz35_2, hcz35_3⟩ := cs4_ BK347.out; obtain ⟨hfz35_0, hfz35_1, hfz35_2, hfz35_3⟩ := fz4_ BK347.out; obtain ⟨hcz36_0, hcz36_1, hcz36_2, hcz36_3⟩ := cs4_ BK348.out; obtain ⟨hfz36_0, hfz36_1, hfz36_2, hfz36_3⟩ := fz4_ BK348.out) | ((with_reducible refine gate_callee (f := 21) rfl ?_); refine goesL_ (some 9) rfl rfl Try.func21 (by kernel_rfl) rfl #[.slice A0_0 l0_0.length c0_0, .slice A1_0 l1_0.length c1_0] rfl ar ?_; (with_reducible refine (laws_eqIntS.calls k _ _ l0_0 _ _ l1_0 false _ ?side1 ?side2 ?side3 ?side4 A3.out).mono ?_); (case side1 => repeat (first | exact (Kd.C_below HR0_0.out HB.out) | (with_reducible refine Kd.C_alloc ?_ _) | (with_reducible refine Kd.C_drewN ?_ _) | (with_reducible refine Kd.C_drew ?_))); (case side2 => exact HC0_0.out); (case side3 => repeat (first | exact (Kd.C_below HR1_0.out HB.out) | (with_reducible refine Kd.C_alloc ?_ _) | (with_reducible refine Kd.C_drewN ?_ _) | (with_reducible refine Kd.C_drew ?_))); (case side4 => exact HC1_0.out); rintro e w' ⟨rfl, ⟨nd, rfl⟩⟩; refine ⟨_, rfl, ?_⟩))
  go_ret
  exact ⟨rr_, bw HB.out⟩


/-! ### laws_markIntS: function 23 -/
def laws_markIntS.l0 : Nat → List Int → Int → Int → Option (Int × List Int)
 | 0, _, _, _ => none
 | k + 1, x0, x1, x5 => if x5 < (x0.length : Int) then (if 0 ≤ x5 then (laws_markIntS.l0 k (x0.set (x5 : Int).toNat x1) (wrap64 (x1 + 1)) (wrap64 (x5 + 1))) else (none)) else (some (x1, x0))
def laws_markIntS.f (k : Nat) (l0 : List Int) (a1 : Int) : Option (Int × List Int) := laws_markIntS.l0 k l0 a1 0
set_option maxHeartbeats 8000000 in
set_option maxRecDepth 100000 in
theorem laws_markIntS.calls (k : Nat) (P0_ : Nat → Prop) (u9000_ : Value) (l0 : List Int) (a1 : Int) (r1 : Int) (r2 : List Int) (w0 w : World) (hB : Below w0.heap.size w0 w) (ho0 : Kd.R (Kd.int .i64) 3 w w0.heap.size P0_ u9000_ l0) (h : laws_markIntS.f k l0 a1 = some (r1, r2)) :
  Calls Try.prog 23 #[u9000_, .int .i64 a1] w fun e w' => e = .returned (.int .i64 r1) ∧ Kd.R (Kd.int .i64) 3 w' w0.heap.size (fun k_ => (P0_ k_ ∨ w.heap.size ≤ k_)) u9000_ r2 ∧ Below w0.heap.size w0 w' ∧ Kept w w' (fun k_ => P0_ k_) := by
 have HO0 := Aside0.mk (show Kd.R (Kd.int .i64) 3 w w0.heap.size (fun k_ => (P0_ k_ ∨ w.heap.size ≤ k_)) u9000_ l0 from Kd.R_mono ho0 (fun k_ hk => (.inl hk)))
 have HK := Aside0.mk (Kept.refl w (fun k_ => P0_ k_))
 have HW0 := Aside0.mk hB.size
 have HB := Aside0.mk hB
 clear hB
 have H : (laws_markIntS.l0 k l0 a1 0) = some (r1, r2) := h
 clear h
 have H' := Aside0.mk H
 clear H
 go_enter Try.func23, Try.ntmps23
 go_wp2
 (try simp only [Act.put, List.setIfInBounds_toArray, List.set_cons_zero, List.set_cons_succ])
 go_loopg [1, 5] k (fun kq v1 v5 w' => ∃ (x0_1 : List Int) (x1_1 : Int) (x5_1 : Int), v1 = .int .i64 x1_1 ∧ v5 = .int .i64 x5_1 ∧ Aside0 (laws_markIntS.l0 kq x0_1 x1_1 x5_1 = some (r1, r2)) ∧ Aside0 (kq ≤ k) ∧ Aside0 (Kd.R (Kd.int .i64) 3 w' w0.heap.size (fun k_ => (P0_ k_ ∨ w.heap.size ≤ k_)) u9000_ x0_1) ∧ Aside0 (Kept w w' (fun k_ => P0_ k_)) ∧ Aside0 (Below w0.heap.size w0 w'))
 case atStart => exact ⟨(l0), (a1), (0), (by first | rfl | (simp; done) | (simp [*]; done)), (by first | rfl | (simp; done) | (simp [*]; done)), H', ⟨Nat.le_refl _⟩, ⟨kr_ HO0.out⟩, ⟨y10 HK.out⟩, ⟨bw HB.out⟩⟩
 case round =>
  clear H'
  obtain ⟨x0_1, x1_1, x5_1, rfl, rfl, HA, HK1, HO_0, HK, HB⟩ := hrel
  cases gk with
  | zero => exact absurd HA.out (by simp [laws_markIntS.l0])
  | succ k1 =>
   have H := HA.out
   clear HA
   simp only [laws_markIntS.l0] at H
   by_cases c3 : x5_1 < (x0_1.length : Int)
   ·
    rw [if_pos c3] at H
    have c3b0 : decide (x5_1 < (x0_1.length : Int)) = true := decide_eq_true c3
    clear c3
    by_cases c4 : 0 ≤ x5_1
    ·
     rw [if_pos c4] at H
     have c4b0 : decide (0 ≤ x5_1) = true := decide_eq_true c4
     clear c4
     obtain ⟨y352, hy352⟩ : ∃ y_ : List Int, y_ = (x0_1.set (x5_1 : Int).toNat x1_1) := ⟨_, rfl⟩
     replace H : (laws_markIntS.l0 k1 y352 (wrap64 (x1_1 + 1)) (wrap64 (x5_1 + 1))) = some (r1, r2) := by first | (rw [hy352]; with_reducible exact H) | (have H2_ := (Option.bind_some _ _).symm.trans H; rw [hy352]; with_reducible exact H2_) | (have H2_ := (Option.bind_some _ _).symm.trans H; with_reducible exact H2_) | with_reducible exact H | (rw [hy352]; exact H) | exact H
     have Ny352 := Aside0.mk hy352
     clear hy352
     have H' := Aside0.mk H
     clear H
     obtain ⟨Ao6, co6, eo6⟩ := Kd.R_slice HO_0.out
     subst eo6
     have p5 : 0 ≤ (x5_1 : Int) := od_
     have q5 : (x5_1 : Int) < ((x0_1.length : Int) : Int) := od_
     obtain ⟨go5, co5, eo5, gb5, gl5, cl5, HG5⟩ := Kd.R_form HO_0.out (by omega)
     (first | cases eo5 | (injection eo5 with ea_ en_ ec_; (first | subst ea_ | (injection ea_ with ea_; subst ea_)); subst ec_; clear en_))
     have GB5 := Aside0.mk gb5
     have GG5 := Aside0.mk HG5
     clear gb5 gl5 HG5
     have HMgo5 := Aside0.mk (show (P0_ go5 ∨ w.heap.size ≤ go5) from (HO_0.out.1 _ rfl))
     obtain ⟨hx5_0, hf5_0⟩ := Kd.R_celln 0 HO_0.out (x5_1 : Int) p5 q5
     replace p5 := eq_true p5
     replace q5 := eq_true q5
     have HP7 := Kd.R_putg HO_0.out (x5_1 : Int) x1_1
     go_wp2_with (first | ((with_reducible refine gate_store (t := 3) (p := 15) rfl ?_); refine store_event (t := 3) (p := 15) (v := ?vo_w8) (w1 := (wr.setCell ⟨go5, (x5_1 : Int).toNat, none⟩ (.int .i64 x1_1))) ?hg ?ho ?hn ?hr ?_; (case ho => rfl); (case hg => rfl); (case hn => rfl); (case hr => first | (go_simp; done) | (go_simp; rfl)); intro w8 hw; have hg : wr.grownBy w8 (some go5) := (by rw [hw]; exact HP7.2); have hp_ : Kd.R (Kd.int .i64) 3 w8 w0.heap.size (fun k_ => (P0_ k_ ∨ w.heap.size ≤ k_)) (.slice (some ⟨go5, 0, none⟩) x0_1.length co6) y352 := (by rw [hw, Ny352.out]; exact HP7.1); clear HP7; have n0_ := Aside0.mk (hp_); have n1_ := Aside0.mk ((by rw [hw]; exact below_set (HB.out) GB5.out : Below w0.heap.size w0 w8)); have n2_ := Aside0.mk (Kept.of_grown (S := (fun k_ => P0_ k_)) hg (y10 HK.out) (fun k_ e_ => (HO_0.out.1 k_ e_))); clear HO_0; clear HB; clear HK; have HO_0 := n0_; have HB := n1_; have HK := n2_; clear n0_ n1_ n2_; clear hg hw hp_))
     go_roundg k1
     case measure => have := HK1.out; omega
     case rel => exact ⟨(y352), (wrap64 (x1_1 + 1)), (wrap64 (x5_1 + 1)), (by first | rfl | (simp; done) | (simp [*]; done)), (by first | rfl | (simp; done) | (simp [*]; done)), H', ⟨by have := HK1.out; omega⟩, ⟨kr_ HO_0.out⟩, ⟨y10 HK.out⟩, ⟨bw HB.out⟩⟩
    ·
     rw [if_neg c4] at H
     exact absurd H (by simp)
   ·
    rw [if_neg c3] at H
    have c3b0 : decide (x5_1 < (x0_1.length : Int)) = false := decide_eq_false c3
    clear c3
    simp only [Option.some.injEq, Prod.mk.injEq] at H
    obtain ⟨rfl, rfl⟩ := H
    obtain ⟨Ao9, co9, eo9⟩ := Kd.R_slice HO_0.out
    subst eo9
    go_wp2
    go_ret
    exact ⟨rr_, kr_ HO_0.out, bw HB.out, y10 HK.out⟩


/-! ### laws_markInsS: function 24 -/
def laws_markInsS.l0 : Nat → List (S44) → Int → Int → Option (Int × (List (S44)))
 | 0, _, _, _ => none
 | k + 1, x0, x1, x5 => if x5 < (x0.length : Int) then (if 0 ≤ x5 then ((some (x0.set (x5 : Int).toNat (⟨x1, (rd_T44 x0 x5).f1⟩ : S44) : List (S44))).bind fun y353 => (laws_markInsS.l0 k (y353.set (x5 : Int).toNat (⟨(rd_T44 y353 x5).f0, wrap64 (x1 + 1)⟩ : S44)) (wrap64 ((wrap64 (x1 + 1)) + 1)) (wrap64 (x5 + 1)))) else (none)) else (some (x1, x0))
def laws_markInsS.f (k : Nat) (l0 : List (S44)) (a1 : Int) : Option (Int × (List (S44))) := laws_markInsS.l0 k l0 a1 0
set_option maxHeartbeats 8000000 in
set_option maxRecDepth 100000 in
theorem laws_markInsS.calls (k : Nat) (P0_ : Nat → Prop) (u9000_ : Value) (l0 : List (S44)) (a1 : Int) (r1 : Int) (r2 : List (S44)) (w0 w : World) (hB : Below w0.heap.size w0 w) (ho0 : Kd.R k44 44 w w0.heap.size P0_ u9000_ l0) (h : laws_markInsS.f k l0 a1 = some (r1, r2)) :
  Calls Try.prog 24 #[u9000_, .int .i64 a1] w fun e w' => e = .returned (.int .i64 r1) ∧ Kd.R k44 44 w' w0.heap.size (fun k_ => (P0_ k_ ∨ w.heap.size ≤ k_)) u9000_ r2 ∧ Below w0.heap.size w0 w' ∧ Kept w w' (fun k_ => P0_ k_) := by
 have HO0 := Aside0.mk (show Kd.R k44 44 w w0.heap.size (fun k_ => (P0_ k_ ∨ w.heap.size ≤ k_)) u9000_ l0 from Kd.R_mono ho0 (fun k_ hk => (.inl hk)))
 have HK := Aside0.mk (Kept.refl w (fun k_ => P0_ k_))
 have HW0 := Aside0.mk hB.size
 have HB := Aside0.mk hB
 clear hB
 have H : (laws_markInsS.l0 k l0 a1 0) = some (r1, r2) := h
 clear h
 have H' := Aside0.mk H
 clear H
 go_enter Try.func24, Try.ntmps24
 go_wp2
 (try simp only [Act.put, List.setIfInBounds_toArray, List.set_cons_zero, List.set_cons_succ])
 go_loopg [1, 5] k (fun kq v1 v5 w' => ∃ (x0_1 : List (S44)) (x1_1 : Int) (x5_1 : Int), v1 = .int .i64 x1_1 ∧ v5 = .int .i64 x5_1 ∧ Aside0 (laws_markInsS.l0 kq x0_1 x1_1 x5_1 = some (r1, r2)) ∧ Aside0 (kq ≤ k) ∧ Aside0 (Kd.R k44 44 w' w0.heap.size (fun k_ => (P0_ k_ ∨ w.heap.size ≤ k_)) u9000_ x0_1) ∧ Aside0 (Kept w w' (fun k_ => P0_ k_)) ∧ Aside0 (Below w0.heap.size w0 w'))
 case atStart => exact ⟨(l0), (a1), (0), (by first | rfl | (simp; done) | (simp [*]; done)), (by first | rfl | (simp; done) | (simp [*]; done)), H', ⟨Nat.le_refl _⟩, ⟨kr_ HO0.out⟩, ⟨y10 HK.out⟩, ⟨bw HB.out⟩⟩
 case round =>
  clear H'
  obtain ⟨x0_1, x1_1, x5_1, rfl, rfl, HA, HK1, HO_0, HK, HB⟩ := hrel
  cases gk with
  | zero => exact absurd HA.out (by simp [laws_markInsS.l0])
  | succ k1 =>
   have H := HA.out
   clear HA
   simp only [laws_markInsS.l0] at H
   by_cases c3 : x5_1 < (x0_1.length : Int)
   ·
    rw [if_pos c3] at H
    have c3b0 : decide (x5_1 < (x0_1.length : Int)) = true := decide_eq_true c3
    clear c3
    by_cases c4 : 0 ≤ x5_1
    ·
     rw [if_pos c4] at H
     have c4b0 : decide (0 ≤ x5_1) = true := decide_eq_true c4
     clear c4
     obtain ⟨y353, hy353⟩ : ∃ y_ : List (S44), y_ = (x0_1.set (x5_1 : Int).toNat (⟨x1_1, (rd_T44 x0_1 x5_1).f1⟩ : S44)) := ⟨_, rfl⟩
     replace H : (laws_markInsS.l0 k1 (y353.set (x5_1 : Int).toNat (⟨(rd_T44 y353 x5_1).f0, wrap64 (x1_1 + 1)⟩ : S44)) (wrap64 ((wrap64 (x1_1 + 1)) + 1)) (wrap64 (x5_1 + 1))) = some (r1, r2) := by first | (rw [hy353]; with_reducible exact H) | (have H2_ := (Option.bind_some _ _).symm.trans H; rw [hy353]; with_reducible exact H2_) | (have H2_ := (Option.bind_some _ _).symm.trans H; with_reducible exact H2_) | with_reducible exact H | (rw [hy353]; exact H) | exact H
     have Ny353 := Aside0.mk hy353
     clear hy353
     obtain ⟨y354, hy354⟩ : ∃ y_ : List (S44), y_ = (y353.set (x5_1 : Int).toNat (⟨(rd_T44 y353 x5_1).f0, wrap64 (x1_1 + 1)⟩ : S44)) := ⟨_, rfl⟩
     replace H : (laws_markInsS.l0 k1 y354 (wrap64 ((wrap64 (x1_1 + 1)) + 1)) (wrap64 (x5_1 + 1))) = some (r1, r2) := by first | (rw [hy354]; with_reducible exact H) | (have H2_ := (Option.bind_some _ _).symm.trans H; rw [hy354]; with_reducible exact H2_) | (have H2_ := (Option.bind_some _ _).symm.trans H; with_reducible exact H2_) | with_reducible exact H | (rw [hy354]; exact H) | exact H
     have Ny354 := Aside0.mk hy354
     clear hy354
     have H' := Aside0.mk H
     clear H
     obtain ⟨Ao7, co7, eo7⟩ := Kd.R_slice HO_0.out
     subst eo7
     have p5 : 0 ≤ (x5_1 : Int) := od_
     have q5 : (x5_1 : Int) < ((x0_1.length : Int) : Int) := od_
     obtain ⟨go5, co5, eo5, gb5, gl5, cl5, HG5⟩ := Kd.R_form HO_0.out (by omega)
     (first | cases eo5 | (injection eo5 with ea_ en_ ec_; (first | subst ea_ | (injection ea_ with ea_; subst ea_)); subst ec_; clear en_))
     have GB5 := Aside0.mk gb5
     have GG5 := Aside0.mk HG5
     clear gb5 gl5 HG5
     have HMgo5 := Aside0.mk (show (P0_ go5 ∨ w.heap.size ≤ go5) from (HO_0.out.1 _ rfl))
     obtain ⟨ce5, hcl5, hM5, hcc5, hfr5⟩ := Kd.R_elem HO_0.out z44 (x5_1 : Int) p5 q5
     obtain rfl := k44_openM hM5
     have hx5_0 : wr.cell? ⟨go5, (x5_1 : Int).toNat * 2, none⟩ = some (.int .i64 ((rd_T44 x0_1 x5_1).f0)) := hcc5 0 _ rfl
     have hx5_1 : wr.cell? ⟨go5, (x5_1 : Int).toNat * 2 + 1, none⟩ = some (.int .i64 ((rd_T44 x0_1 x5_1).f1)) := hcc5 1 _ rfl
     have hf5_0 : wr.frozen? ⟨go5, (x5_1 : Int).toNat * 2, none⟩ = false := hfr5 0
     have hf5_1 : wr.frozen? ⟨go5, (x5_1 : Int).toNat * 2 + 1, none⟩ = false := hfr5 1
     clear hcl5 hcc5 hfr5 hM5
     replace p5 := eq_true p5
     replace q5 := eq_true q5
     have HX8 := Aside0.mk (show Kd.R k44 44 wr w0.heap.size (fun k_ => (P0_ k_ ∨ w.heap.size ≤ k_)) (.slice (some ⟨go5, 0, none⟩) x0_1.length co7) x0_1 from (kr_ HO_0.out))
     obtain ⟨ce8, hcl8, hM8, hcc8, hfr8⟩ := Kd.R_elem HX8.out z44 (x5_1 : Int) (od_) (by have h_ : (x5_1 : Int) < ((x0_1.length : Int) : Int) := od_; first | exact h_ | (have e_ := (Kd.R_reads' HO_0.out).1; omega) | simpa using h_)
     obtain rfl := k44_openM hM8
     have HP8 := Kd.R_seg HX8.out (x5_1 : Int) (od_) (by have h_ : (x5_1 : Int) < ((x0_1.length : Int) : Int) := od_; first | exact h_ | (have e_ := (Kd.R_reads' HO_0.out).1; omega) | simpa using h_) (seg := [.int .i64 x1_1]) (j := 0) hcl8 hcc8 (show 1 ≤ 2 from by decide) (x' := (⟨x1_1, (rd_T44 x0_1 x5_1).f1⟩ : S44)) (k44_mkM _ _ _ (⟨x1_1, (rd_T44 x0_1 x5_1).f1⟩ : S44) ) (fun _ hk => hk)
     have hx8_0 := hcc8 0 _ rfl
     (try simp only [show (k44).sz = 2 from rfl, Nat.mul_one, Nat.add_zero] at hx8_0)
     have hf8_0 := hfr8 0
     (try simp only [show (k44).sz = 2 from rfl, Nat.mul_one, Nat.add_zero] at hf8_0)
     clear hcl8 hcc8 hfr8 hM8
     go_wp2_with (first | ((with_reducible refine gate_store (t := 3) (p := 16) rfl ?_); refine store_event (t := 3) (p := 16) (v := ?vo_w9) (w1 := (wr.setCell ⟨go5, (x5_1 : Int).toNat * 2, none⟩ (.int .i64 x1_1))) ?hg ?ho ?hn ?hr ?_; (case ho => rfl); (case hg => rfl); (case hn => rfl); (case hr => first | (go_simp; done) | (go_simp; rfl)); intro w9 hw; have hg : wr.grownBy w9 (some go5) := (by rw [hw]; exact HP8.2); have hp_ : Kd.R k44 44 w9 w0.heap.size (fun k_ => (P0_ k_ ∨ w.heap.size ≤ k_)) (.slice (some ⟨go5, 0, none⟩) x0_1.length co7) y353 := (by rw [hw, Ny353.out]; exact HP8.1); clear HP8; have n0_ := Aside0.mk (hp_); have n1_ := Aside0.mk ((by rw [hw]; exact below_set (HB.out) GB5.out : Below w0.heap.size w0 w9)); have n2_ := Aside0.mk (Kept.of_grown (S := (fun k_ => P0_ k_)) hg (y10 HK.out) (fun k_ e_ => (HO_0.out.1 k_ e_))); clear HO_0; clear HB; clear HK; have HO_0 := n0_; have HB := n1_; have HK := n2_; clear n0_ n1_ n2_; clear hg hw hp_; have p6 : 0 ≤ (x5_1 : Int) := od_; have q6 : (x5_1 : Int) < ((x0_1.length : Int) : Int) := od_; obtain ⟨ce6, hcl6, hM6, hcc6, hfr6⟩ := Kd.R_elem HO_0.out z44 (x5_1 : Int) p6 q6; obtain rfl := k44_openM hM6; have hx6_0 : w9.cell? ⟨go5, (x5_1 : Int).toNat * 2, none⟩ = some (.int .i64 ((rd_T44 y353 x5_1).f0)) := hcc6 0 _ rfl; have hx6_1 : w9.cell? ⟨go5, (x5_1 : Int).toNat * 2 + 1, none⟩ = some (.int .i64 ((rd_T44 y353 x5_1).f1)) := hcc6 1 _ rfl; have hf6_0 : w9.frozen? ⟨go5, (x5_1 : Int).toNat * 2, none⟩ = false := hfr6 0; have hf6_1 : w9.frozen? ⟨go5, (x5_1 : Int).toNat * 2 + 1, none⟩ = false := hfr6 1; clear hcl6 hcc6 hfr6 hM6; replace p6 := eq_true p6; replace q6 := eq_true q6; have HX10 := Aside0.mk (show Kd.R k44 44 w9 w0.heap.size (fun k_ => (P0_ k_ ∨ w.heap.size ≤ k_)) (.slice (some ⟨go5, 0, none⟩) x0_1.length co7) y353 from (kr_ HO_0.out)); obtain ⟨ce10, hcl10, hM10, hcc10, hfr10⟩ := Kd.R_elem HX10.out z44 (x5_1 : Int) (od_) (by have h_ : (x5_1 : Int) < ((x0_1.length : Int) : Int) := od_; first | exact h_ | (have e_ := (Kd.R_reads' HO_0.out).1; omega) | simpa using h_); obtain rfl := k44_openM hM10; have HP10 := Kd.R_seg HX10.out (x5_1 : Int) (od_) (by have h_ : (x5_1 : Int) < ((x0_1.length : Int) : Int) := od_; first | exact h_ | (have e_ := (Kd.R_reads' HO_0.out).1; omega) | simpa using h_) (seg := [.int .i64 (wrap64 (x1_1 + 1))]) (j := 1) hcl10 hcc10 (show 2 ≤ 2 from by decide) (x' := (⟨(rd_T44 y353 x5_1).f0, wrap64 (x1_1 + 1)⟩ : S44)) (k44_mkM _ _ _ (⟨(rd_T44 y353 x5_1).f0, wrap64 (x1_1 + 1)⟩ : S44) ) (fun _ hk => hk); have hx10_1 := hcc10 1 _ rfl; (try simp only [show (k44).sz = 2 from rfl, Nat.mul_one, Nat.add_zero] at hx10_1); have hf10_1 := hfr10 1; (try simp only [show (k44).sz = 2 from rfl, Nat.mul_one, Nat.add_zero] at hf10_1); clear hcl10 hcc10 hfr10 hM10) | ((with_reducible refine gate_store (t := 3) (p := 23) rfl ?_); refine store_event (t := 3) (p := 23) (v := ?vo_w11) (w1 := (w9.setCell ⟨go5, (x5_1 : Int).toNat * 2 + 1, none⟩ (.int .i64 (wrap64 (x1_1 + 1))))) ?hg ?ho ?hn ?hr ?_; (case ho => rfl); (case hg => rfl); (case hn => rfl); (case hr => first | (go_simp; done) | (go_simp; rfl)); intro w11 hw; have hg : w9.grownBy w11 (some go5) := (by rw [hw]; exact HP10.2); have hp_ : Kd.R k44 44 w11 w0.heap.size (fun k_ => (P0_ k_ ∨ w.heap.size ≤ k_)) (.slice (some ⟨go5, 0, none⟩) x0_1.length co7) y354 := (by rw [hw, Ny354.out]; exact HP10.1); clear HP10; have n0_ := Aside0.mk (hp_); have n1_ := Aside0.mk ((by rw [hw]; exact below_set (HB.out) GB5.out : Below w0.heap.size w0 w11)); have n2_ := Aside0.mk (Kept.of_grown (S := (fun k_ => P0_ k_)) hg (y10 HK.out) (fun k_ e_ => (HO_0.out.1 k_ e_))); clear HO_0; clear HB; clear HK; have HO_0 := n0_; have HB := n1_; have HK := n2_; clear n0_ n1_ n2_; clear hg hw hp_))
     go_roundg k1
     case measure => have := HK1.out; omega
     case rel => exact ⟨(y354), (wrap64 ((wrap64 (x1_1 + 1)) + 1)), (wrap64 (x5_1 + 1)), (by first | rfl | (simp; done) | (simp [*]; done)), (by first | rfl | (simp; done) | (simp [*]; done)), H', ⟨by have := HK1.out; omega⟩, ⟨kr_ HO_0.out⟩, ⟨y10 HK.out⟩, ⟨bw HB.out⟩⟩
    ·
     rw [if_neg c4] at H
     exact absurd H (by simp)
   ·
    rw [if_neg c3] at H
    have c3b0 : decide (x5_1 < (x0_1.length : Int)) = false := decide_eq_false c3
    clear c3
    simp only [Option.some.injEq, Prod.mk.injEq] at H
    obtain ⟨rfl, rfl⟩ := H
    obtain ⟨Ao12, co12, eo12⟩ := Kd.R_slice HO_0.out
    subst eo12
    go_wp2
    go_ret
    exact ⟨rr_, kr_ HO_0.out, bw HB.out, y10 HK.out⟩


/-! ### laws_markFunc: function 8 -/
def laws_markFunc.f (k : Nat) (l0_0 : List Int) (a0_1 : Int) (l0_2 : List Int) (l0_3 : List (S44)) (a1 : Int) : Option (Int × List Int × List Int × (List (S44))) := (laws_markIntS.f k l0_0 a1).bind fun bt356 => ((laws_markIntS.f k l0_2 bt356.1).bind fun bt358 => ((laws_markInsS.f k l0_3 bt358.1).bind fun bt360 => (some (bt360.1, bt356.2, bt358.2, bt360.2))))
set_option maxHeartbeats 8000000 in
set_option maxRecDepth 100000 in
theorem laws_markFunc.calls (k : Nat) (P0_0_ : Nat → Prop) (u9000_ : Value) (l0_0 : List Int) (a0_1 : Int) (P0_2_ : Nat → Prop) (u9001_ : Value) (l0_2 : List Int) (P0_3_ : Nat → Prop) (u9002_ : Value) (l0_3 : List (S44)) (a1 : Int) (r1 : Int) (r2 : List Int) (r3 : List Int) (r4 : List (S44)) (w0 w : World) (hB : Below w0.heap.size w0 w) (ho0_0 : Kd.R (Kd.int .i64) 3 w w0.heap.size P0_0_ u9000_ l0_0) (hp0_0_0_2 : ∀ k_, P0_0_ k_ → ¬ P0_2_ k_) (ho0_2 : Kd.R (Kd.int .i64) 3 w w0.heap.size P0_2_ u9001_ l0_2) (hp0_2_0_0 : ∀ k_, P0_2_ k_ → ¬ P0_0_ k_) (ho0_3 : Kd.R k44 44 w w0.heap.size P0_3_ u9002_ l0_3) (h : laws_markFunc.f k l0_0 a0_1 l0_2 l0_3 a1 = some (r1, r2, r3, r4)) :
  Calls Try.prog 8 #[.agg #[u9000_, .int .i64 a0_1, u9001_, u9002_], .int .i64 a1] w fun e w' => e = .returned (.int .i64 r1) ∧ Kd.R (Kd.int .i64) 3 w' w0.heap.size (fun k_ => ((P0_0_ k_ ∨ P0_2_ k_ ∨ P0_3_ k_) ∨ w.heap.size ≤ k_)) u9000_ r2 ∧ Kd.R (Kd.int .i64) 3 w' w0.heap.size (fun k_ => ((P0_0_ k_ ∨ P0_2_ k_ ∨ P0_3_ k_) ∨ w.heap.size ≤ k_)) u9001_ r3 ∧ Kd.R k44 44 w' w0.heap.size (fun k_ => ((P0_0_ k_ ∨ P0_2_ k_ ∨ P0_3_ k_) ∨ w.heap.size ≤ k_)) u9002_ r4 ∧ Below w0.heap.size w0 w' ∧ Kept w w' (fun k_ => P0_0_ k_ ∨ P0_2_ k_ ∨ P0_3_ k_) := by
 have hu25 := Try.underlying25
 have HO0_0 := Aside0.mk (show Kd.R (Kd.int .i64) 3 w w0.heap.size (fun k_ => ((P0_0_ k_ ∨ P0_2_ k_ ∨ P0_3_ k_) ∨ w.heap.size ≤ k_) ∧ some k_ ≠ (u9001_ : Value).ownBlock) u9000_ l0_0 from Kd.R_mono ho0_0 (fun k_ hk => ⟨(.inl (.inl hk)), fun e_ => hp0_0_0_2 k_ hk (ho0_2.1 k_ e_.symm)⟩))
 have HO0_2 := Aside0.mk (show Kd.R (Kd.int .i64) 3 w w0.heap.size (fun k_ => ((P0_0_ k_ ∨ P0_2_ k_ ∨ P0_3_ k_) ∨ w.heap.size ≤ k_) ∧ some k_ ≠ (u9000_ : Value).ownBlock) u9001_ l0_2 from Kd.R_mono ho0_2 (fun k_ hk => ⟨(.inl (.inr (.inl hk))), fun e_ => hp0_2_0_0 k_ hk (ho0_0.1 k_ e_.symm)⟩))
 have HO0_3 := Aside0.mk (show Kd.R k44 44 w w0.heap.size (fun k_ => ((P0_0_ k_ ∨ P0_2_ k_ ∨ P0_3_ k_) ∨ w.heap.size ≤ k_)) u9002_ l0_3 from Kd.R_mono ho0_3 (fun k_ hk => (.inl (.inr (.inr hk)))))
 have HK := Aside0.mk (Kept.refl w (fun k_ => P0_0_ k_ ∨ P0_2_ k_ ∨ P0_3_ k_))
 have HW0 := Aside0.mk hB.size
 have HB := Aside0.mk hB
 clear hB
 have H : ((laws_markIntS.f k l0_0 a1).bind fun bt356 => ((laws_markIntS.f k l0_2 bt356.1).bind fun bt358 => ((laws_markInsS.f k l0_3 bt358.1).bind fun bt360 => (some (bt360.1, bt356.2, bt358.2, bt360.2))))) = some (r1, r2, r3, r4) := h
 clear h
 replace H := Option.bind_eq_some_iff.mp H
 obtain ⟨⟨t356, t357⟩, A30, H⟩ := H
 replace H : ((laws_markIntS.f k l0_2 t356).bind fun bt358 => ((laws_markInsS.f k l0_3 bt358.1).bind fun bt360 => (some (bt360.1, t357, bt358.2, bt360.2)))) = some (r1, r2, r3, r4) := H
 have A3 := Aside0.mk A30
 clear A30
 replace H := Option.bind_eq_some_iff.mp H
 obtain ⟨⟨t358, t359⟩, A40, H⟩ := H
 replace H : ((laws_markInsS.f k l0_3 t358).bind fun bt360 => (some (bt360.1, t357, t359, bt360.2))) = some (r1, r2, r3, r4) := H
 have A4 := Aside0.mk A40
 clear A40
 replace H := Option.bind_eq_some_iff.mp H
 obtain ⟨⟨t360, t361⟩, A50, H⟩ := H
 replace H : (some (t360, t357, t359, t361)) = some (r1, r2, r3, r4) := H
 have A5 := Aside0.mk A50
 clear A50
 simp only [Option.some.injEq, Prod.mk.injEq] at H
 obtain ⟨rfl, rfl, rfl, rfl⟩ := H
 obtain ⟨Ao6, co6, eo6⟩ := Kd.R_slice HO0_0.out
 subst eo6
 obtain ⟨Ao7, co7, eo7⟩ := Kd.R_slice HO0_2.out
 subst eo7
 obtain ⟨Ao8, co8, eo8⟩ := Kd.R_slice HO0_3.out
 subst eo8
 go_enter Try.func8, Try.ntmps8
 go_wp2_with (first | ((with_reducible refine gate_dst (N := 2) rfl ?_); refine box_event ?hg (N := 2) ?hd (cs := #[.slice Ao6 l0_0.length co6, .int .i64 a0_1, .slice Ao7 l0_2.length co7, .slice Ao8 l0_3.length co8]) (t := 25) ?hr ?_; (case hd => rfl); (case hg => rfl); (case hr => first | (go_simp; done) | (go_simp; rfl)); intro gb355 hg w9 hbox hb; have n0_ := Aside0.mk (Kd.R_below (kr_ HO0_0.out) hb); have n1_ := Aside0.mk (Kd.R_below (kr_ HO0_2.out) hb); have n2_ := Aside0.mk (Kd.R_below (kr_ HO0_3.out) hb); have n3_ := Aside0.mk (Kept.below (S := (fun k_ => P0_0_ k_ ∨ P0_2_ k_ ∨ P0_3_ k_)) (y10 HK.out) hb); have n4_ := Aside0.mk (below_step (bw HB.out) hb); have n5_ := Aside0.mk (hbox); have n6_ := Aside0.mk ((by rw [hg]; exact (by first | exact HK.out.1 | exact (show Kept w _ (fun k_ => P0_0_ k_ ∨ P0_2_ k_ ∨ P0_3_ k_) from y10 HK.out).1) : w.heap.size ≤ gb355)); have n7_ := Aside0.mk ((by rw [hg]; exact (below_size (bw HB.out)) : w0.heap.size ≤ gb355)); clear HO0_0; clear HO0_2; clear HO0_3; clear HK; clear HB; have HO0_0 := n0_; have HO0_2 := n1_; have HO0_3 := n2_; have HK := n3_; have HB := n4_; have BK355 := n5_; have GW355 := n6_; have GE355 := n7_; clear n0_ n1_ n2_ n3_ n4_ n5_ n6_ n7_; clear hb hbox hg; obtain ⟨hcz10_0, hcz10_1, hcz10_2, hcz10_3⟩ := cs4_ BK355.out; obtain ⟨hfz10_0, hfz10_1, hfz10_2, hfz10_3⟩ := fz4_ BK355.out) | ((with_reducible refine gate_callee (f := 23) rfl ?_); refine goesL_ (some 8) rfl rfl Try.func23 (by kernel_rfl) rfl #[.slice Ao6 l0_0.length co6, .int .i64 a1] rfl ar ?_; (with_reducible refine (laws_markIntS.calls k (fun k_ => some k_ = (.slice Ao6 l0_0.length co6 : Value).ownBlock) (.slice Ao6 l0_0.length co6) l0_0 a1 t356 t357 w0 _ ?side1 ?side2 A3.out).mono ?_); (case side1 => repeat (first | (with_reducible first | exact HB.out | apply below_alloc | apply pw_below_drewN | apply below_drew1 | refine below_set ?_ GE355.out) | exact HB.out)); (case side2 => exact Kd.R_tight rfl HO0_0.out); rintro e w11 ⟨rfl, hy0, hb, hkp⟩; refine ⟨_, rfl, ?_⟩; have n0_ := Aside0.mk (Kd.R_reok rfl hy0 (fun k_ e_ => HO0_0.out.1 k_ e_)); have n1_ := Aside0.mk (Kd.R_mono (ok' := fun k_ => ((P0_0_ k_ ∨ P0_2_ k_ ∨ P0_3_ k_) ∨ w.heap.size ≤ k_) ∧ some k_ ≠ (.slice Ao6 l0_0.length co6 : Value).ownBlock) (Kd.R_keptB (HO0_2.out) hkp (fun k_ hk_ hs_ => (hk_.2) hs_)) (fun k_ hk_ => ⟨hk_.1.1, hk_.1.2⟩)); have n2_ := Aside0.mk (Kd.R_mono (ok' := fun k_ => ((P0_0_ k_ ∨ P0_2_ k_ ∨ P0_3_ k_) ∨ w.heap.size ≤ k_)) (Kd.R_keptB ((Kd.R_apart' HO0_3.out (Kd.R_typed HO0_0.out) (by decide))) hkp (fun k_ hk_ hs_ => (hk_.2) hs_)) (fun k_ hk_ => hk_.1.1)); have n3_ := Aside0.mk (blk_kept (bk BK355.out) hkp (fun hs_ => (fun e_ => (Kd.R_ne HO0_0.out BK355.out (by decide)) e_) hs_)); have n4_ := Aside0.mk (Kept.then_ (S := (fun k_ => P0_0_ k_ ∨ P0_2_ k_ ∨ P0_3_ k_)) (y11 HK.out) hkp (fun k_ hs_ => (fun e_ => (HO0_0.out.1 k_ e_.symm).1) hs_)); have n5_ := Aside0.mk (hb); clear HO0_0; clear HO0_2; clear HO0_3; clear BK355; clear HK; clear HB; have HO0_0 := n0_; have HO0_2 := n1_; have HO0_3 := n2_; have BK355 := n3_; have HK := n4_; have HB := n5_; clear n0_ n1_ n2_ n3_ n4_ n5_; (try clear hb); (try clear hkp); (try clear hy0); obtain ⟨hcz12_0, hcz12_1, hcz12_2, hcz12_3⟩ := cs4_ BK355.out; obtain ⟨hfz12_0, hfz12_1, hfz12_2, hfz12_3⟩ := fz4_ BK355.out) | ((with_reducible refine gate_callee (f := 23) rfl ?_); refine goesL_ (some 12) rfl rfl Try.func23 (by kernel_rfl) rfl #[.slice Ao7 l0_2.length co7, .int .i64 t356] rfl ar ?_; (with_reducible refine (laws_markIntS.calls k (fun k_ => some k_ = (.slice Ao7 l0_2.length co7 : Value).ownBlock) (.slice Ao7 l0_2.length co7) l0_2 t356 t358 t359 w0 _ ?side1 ?side2 A4.out).mono ?_); (case side1 => repeat (first | (with_reducible first | exact HB.out | apply below_alloc | apply pw_below_drewN | apply below_drew1 | refine below_set ?_ GE355.out) | exact HB.out)); (case side2 => exact Kd.R_tight rfl HO0_2.out); rintro e w13 ⟨rfl, hy0, hb, hkp⟩; refine ⟨_, rfl, ?_⟩; have n0_ := Aside0.mk (Kd.R_mono (ok' := fun k_ => ((P0_0_ k_ ∨ P0_2_ k_ ∨ P0_3_ k_) ∨ w.heap.size ≤ k_) ∧ some k_ ≠ (.slice Ao7 l0_2.length co7 : Value).ownBlock) (Kd.R_keptB (HO0_0.out) hkp (fun k_ hk_ hs_ => (hk_.2) hs_)) (fun k_ hk_ => ⟨hk_.1.1, hk_.1.2⟩)); have n1_ := Aside0.mk (Kd.R_reok rfl hy0 (fun k_ e_ => HO0_2.out.1 k_ e_)); have n2_ := Aside0.mk (Kd.R_mono (ok' := fun k_ => ((P0_0_ k_ ∨ P0_2_ k_ ∨ P0_3_ k_) ∨ w.heap.size ≤ k_)) (Kd.R_keptB ((Kd.R_apart' HO0_3.out (Kd.R_typed HO0_2.out) (by decide))) hkp (fun k_ hk_ hs_ => (hk_.2) hs_)) (fun k_ hk_ => hk_.1.1)); have n3_ := Aside0.mk (blk_kept (bk BK355.out) hkp (fun hs_ => (fun e_ => (Kd.R_ne HO0_2.out BK355.out (by decide)) e_) hs_)); have n4_ := Aside0.mk (Kept.then_ (S := (fun k_ => P0_0_ k_ ∨ P0_2_ k_ ∨ P0_3_ k_)) (y11 HK.out) hkp (fun k_ hs_ => (fun e_ => (HO0_2.out.1 k_ e_.symm).1) hs_)); have n5_ := Aside0.mk (hb); clear HO0_0; clear HO0_2; clear HO0_3; clear BK355; clear HK; clear HB; have HO0_0 := n0_; have HO0_2 := n1_; have HO0_3 := n2_; have BK355 := n3_; have HK := n4_; have HB := n5_; clear n0_ n1_ n2_ n3_ n4_ n5_; (try clear hb); (try clear hkp); (try clear hy0); obtain ⟨hcz14_0, hcz14_1, hcz14_2, hcz14_3⟩ := cs4_ BK355.out; obtain ⟨hfz14_0, hfz14_1, hfz14_2, hfz14_3⟩ := fz4_ BK355.out) | ((with_reducible refine gate_callee (f := 24) rfl ?_); refine goesL_ (some 16) rfl rfl Try.func24 (by kernel_rfl) rfl #[.slice Ao8 l0_3.length co8, .int .i64 t358] rfl ar ?_; (with_reducible refine (laws_markInsS.calls k (fun k_ => some k_ = (.slice Ao8 l0_3.length co8 : Value).ownBlock) (.slice Ao8 l0_3.length co8) l0_3 t358 t360 t361 w0 _ ?side1 ?side2 A5.out).mono ?_); (case side1 => repeat (first | (with_reducible first | exact HB.out | apply below_alloc | apply pw_below_drewN | apply below_drew1 | refine below_set ?_ GE355.out) | exact HB.out)); (case side2 => exact Kd.R_tight rfl HO0_3.out); rintro e w15 ⟨rfl, hy0, hb, hkp⟩; refine ⟨_, rfl, ?_⟩; have n0_ := Aside0.mk (Kd.R_mono (ok' := fun k_ => ((P0_0_ k_ ∨ P0_2_ k_ ∨ P0_3_ k_) ∨ w.heap.size ≤ k_) ∧ some k_ ≠ (.slice Ao7 l0_2.length co7 : Value).ownBlock) (Kd.R_keptB ((Kd.R_apart' HO0_0.out (Kd.R_typed HO0_3.out) (by decide))) hkp (fun k_ hk_ hs_ => (hk_.2) hs_)) (fun k_ hk_ => ⟨hk_.1.1.1, hk_.1.1.2⟩)); have n1_ := Aside0.mk (Kd.R_mono (ok' := fun k_ => ((P0_0_ k_ ∨ P0_2_ k_ ∨ P0_3_ k_) ∨ w.heap.size ≤ k_) ∧ some k_ ≠ (.slice Ao6 l0_0.length co6 : Value).ownBlock) (Kd.R_keptB ((Kd.R_apart' HO0_2.out (Kd.R_typed HO0_3.out) (by decide))) hkp (fun k_ hk_ hs_ => (hk_.2) hs_)) (fun k_ hk_ => ⟨hk_.1.1.1, hk_.1.1.2⟩)); have n2_ := Aside0.mk (Kd.R_reok rfl hy0 (fun k_ e_ => HO0_3.out.1 k_ e_)); have n3_ := Aside0.mk (blk_kept (bk BK355.out) hkp (fun hs_ => (fun e_ => (Kd.R_ne HO0_3.out BK355.out (by decide)) e_) hs_)); have n4_ := Aside0.mk (Kept.then_ (S := (fun k_ => P0_0_ k_ ∨ P0_2_ k_ ∨ P0_3_ k_)) (y11 HK.out) hkp (fun k_ hs_ => (fun e_ => (HO0_3.out.1 k_ e_.symm)) hs_)); have n5_ := Aside0.mk (hb); clear HO0_0; clear HO0_2; clear HO0_3; clear BK355; clear HK; clear HB; have HO0_0 := n0_; have HO0_2 := n1_; have HO0_3 := n2_; have BK355 := n3_; have HK := n4_; have HB := n5_; clear n0_ n1_ n2_ n3_ n4_ n5_; (try clear hb); (try clear hkp); (try clear hy0)))
 go_ret
 exact ⟨rr_, by (with_reducible repeat (first | apply Kd.R_alloc | apply Kd.R_drewN | apply Kd.R_drew)); exact Kd.R_mono HO0_0.out (fun _ hk => hk.1), by (with_reducible repeat (first | apply Kd.R_alloc | apply Kd.R_drewN | apply Kd.R_drew)); exact Kd.R_mono HO0_2.out (fun _ hk => hk.1), kr_ HO0_3.out, bw HB.out, y11 HK.out⟩


/-! ### laws_heldIntS: function 25 -/
def laws_heldIntS.l0 : Nat → List Int → Int → Int → Option (Int)
 | 0, _, _, _ => none
 | k + 1, x0, x1, x5 => if x5 < (x0.length : Int) then (if 0 ≤ x5 then (if (rd x0 x5) = x1 then (laws_heldIntS.l0 k x0 (wrap64 (x1 + 1)) (wrap64 (x5 + 1))) else (some (-1))) else (none)) else (some x1)
def laws_heldIntS.f (k : Nat) (l0 : List Int) (a1 : Int) : Option (Int) := laws_heldIntS.l0 k l0 a1 0
set_option maxHeartbeats 8000000 in
set_option maxRecDepth 100000 in
theorem laws_heldIntS.calls (k : Nat) (A0 : Option Addr) (c0 : Nat) (l0 : List Int) (a1 : Int) (r : Int) (w : World) (hr0 : Kd.C (Kd.int .i64) w A0 l0.length l0) (hc0 : l0.length ≤ c0) (h : laws_heldIntS.f k l0 a1 = some r) :
  Calls Try.prog 25 #[.slice A0 l0.length c0, .int .i64 a1] w fun e w' => e = .returned (.int .i64 r) ∧ Drawn0 w w' := by
 have HR0 := Aside0.mk hr0
 have HC0 := Aside0.mk hc0
 clear hr0 hc0
 have H : (laws_heldIntS.l0 k l0 a1 0) = some r := h
 clear h
 have H' := Aside0.mk H
 clear H
 go_enter Try.func25, Try.ntmps25
 go_wp2
 (try simp only [Act.put, List.setIfInBounds_toArray, List.set_cons_zero, List.set_cons_succ])
 go_loopg [1, 5] k (fun kq v1 v5 w' => ∃ (x1_1 : Int) (x5_1 : Int), v1 = .int .i64 x1_1 ∧ v5 = .int .i64 x5_1 ∧ Aside0 (laws_heldIntS.l0 kq l0 x1_1 x5_1 = some r) ∧ Aside0 (kq ≤ k) ∧ Drawn0 w w')
 case atStart => exact ⟨(a1), (0), (by first | rfl | (simp; done) | (simp [*]; done)), (by first | rfl | (simp; done) | (simp [*]; done)), H', ⟨Nat.le_refl _⟩, dr_⟩
 case round =>
  clear H'
  obtain ⟨x1_1, x5_1, rfl, rfl, HA, HK1, ⟨m1, rfl⟩⟩ := hrel
  cases gk with
  | zero => exact absurd HA.out (by simp [laws_heldIntS.l0])
  | succ k1 =>
   have H := HA.out
   clear HA
   simp only [laws_heldIntS.l0] at H
   by_cases c3 : x5_1 < (l0.length : Int)
   ·
    rw [if_pos c3] at H
    have c3b0 : decide (x5_1 < (l0.length : Int)) = true := decide_eq_true c3
    clear c3
    by_cases c4 : 0 ≤ x5_1
    ·
     rw [if_pos c4] at H
     have c4b0 : decide (0 ≤ x5_1) = true := decide_eq_true c4
     clear c4
     by_cases c5 : (rd l0 x5_1) = x1_1
     ·
      rw [if_pos c5] at H
      have c5b0 : ((rd l0 x5_1) == x1_1) = true := beq_iff_eq.mpr c5
      have c5b1 : ((rd l0 x5_1) != x1_1) = false := bne_eq_false_iff_eq.mpr c5
      clear c5
      have H' := Aside0.mk H
      clear H
      have p362 : 0 ≤ (x5_1 : Int) := od_
      have q362 : x5_1 < (l0.length : Int) := od_
      obtain ⟨ad362, e362, hx362_0⟩ := Kd.at_int HR0.out x5_1 p362 q362
      cases e362
      replace p362 := eq_true p362
      replace q362 := eq_true q362
      go_wp2
      go_roundg k1
      case measure => have := HK1.out; omega
      case rel => exact ⟨(wrap64 (x1_1 + 1)), (wrap64 (x5_1 + 1)), (by first | rfl | (simp; done) | (simp [*]; done)), (by first | rfl | (simp; done) | (simp [*]; done)), H', ⟨by have := HK1.out; omega⟩, dr_⟩
     ·
      rw [if_neg c5] at H
      have c5b0 : ((rd l0 x5_1) == x1_1) = false := beq_eq_false_iff_ne.mpr c5
      have c5b1 : ((rd l0 x5_1) != x1_1) = true := bne_iff_ne.mpr c5
      obtain rfl := Option.some.inj H
      simp only [Option.some.injEq, Prod.mk.injEq] at H
      obtain ⟨rfl⟩ := H
      have p362 : 0 ≤ (x5_1 : Int) := od_
      have q362 : x5_1 < (l0.length : Int) := od_
      obtain ⟨ad362, e362, hx362_0⟩ := Kd.at_int HR0.out x5_1 p362 q362
      cases e362
      replace p362 := eq_true p362
      replace q362 := eq_true q362
      go_wp2
      go_ret
      exact ⟨by first | rfl | (simp; done) | (simp [*]; done), dr_⟩
    ·
     rw [if_neg c4] at H
     exact absurd H (by simp)
   ·
    rw [if_neg c3] at H
    have c3b0 : decide (x5_1 < (l0.length : Int)) = false := decide_eq_false c3
    clear c3
    obtain rfl := Option.some.inj H
    simp only [Option.some.injEq, Prod.mk.injEq] at H
    obtain ⟨rfl⟩ := H
    go_wp2
    go_ret
    exact ⟨by first | rfl | (simp; done) | (simp [*]; done), dr_⟩


/-! ### laws_heldInsS: function 26 -/
def laws_heldInsS.l0 : Nat → List (S44) → Int → Int → Option (Int)
 | 0, _, _, _ => none
 | k + 1, x0, x1, x5 => if x5 < (x0.length : Int) then (if 0 ≤ x5 then (if ((rd_T44 x0 x5).f0) = x1 then (if ((rd_T44 x0 x5).f1) = (wrap64 (x1 + 1)) then (laws_heldInsS.l0 k x0 (wrap64 ((wrap64 (x1 + 1)) + 1)) (wrap64 (x5 + 1))) else (some (-1))) else (some (-1))) else (none)) else (some x1)
def laws_heldInsS.f (k : Nat) (l0 : List (S44)) (a1 : Int) : Option (Int) := laws_heldInsS.l0 k l0 a1 0
set_option maxHeartbeats 8000000 in
set_option maxRecDepth 100000 in
theorem laws_heldInsS.calls (k : Nat) (A0 : Option Addr) (c0 : Nat) (l0 : List (S44)) (a1 : Int) (r : Int) (w : World) (hr0 : Kd.C k44 w A0 l0.length l0) (hc0 : l0.length ≤ c0) (h : laws_heldInsS.f k l0 a1 = some r) :
  Calls Try.prog 26 #[.slice A0 l0.length c0, .int .i64 a1] w fun e w' => e = .returned (.int .i64 r) ∧ Drawn0 w w' := by
 have HR0 := Aside0.mk hr0
 have HC0 := Aside0.mk hc0
 clear hr0 hc0
 have H : (laws_heldInsS.l0 k l0 a1 0) = some r := h
 clear h
 have H' := Aside0.mk H
 clear H
 go_enter Try.func26, Try.ntmps26
 go_wp2
 (try simp only [Act.put, List.setIfInBounds_toArray, List.set_cons_zero, List.set_cons_succ])
 go_loopg [1, 5] k (fun kq v1 v5 w' => ∃ (x1_1 : Int) (x5_1 : Int), v1 = .int .i64 x1_1 ∧ v5 = .int .i64 x5_1 ∧ Aside0 (laws_heldInsS.l0 kq l0 x1_1 x5_1 = some r) ∧ Aside0 (kq ≤ k) ∧ Drawn0 w w')
 case atStart => exact ⟨(a1), (0), (by first | rfl | (simp; done) | (simp [*]; done)), (by first | rfl | (simp; done) | (simp [*]; done)), H', ⟨Nat.le_refl _⟩, dr_⟩
 case round =>
  clear H'
  obtain ⟨x1_1, x5_1, rfl, rfl, HA, HK1, ⟨m1, rfl⟩⟩ := hrel
  cases gk with
  | zero => exact absurd HA.out (by simp [laws_heldInsS.l0])
  | succ k1 =>
   have H := HA.out
   clear HA
   simp only [laws_heldInsS.l0] at H
   by_cases c3 : x5_1 < (l0.length : Int)
   ·
    rw [if_pos c3] at H
    have c3b0 : decide (x5_1 < (l0.length : Int)) = true := decide_eq_true c3
    clear c3
    by_cases c4 : 0 ≤ x5_1
    ·
     rw [if_pos c4] at H
     have c4b0 : decide (0 ≤ x5_1) = true := decide_eq_true c4
     clear c4
     by_cases c5 : ((rd_T44 l0 x5_1).f0) = x1_1
     ·
      rw [if_pos c5] at H
      have c5b0 : (((rd_T44 l0 x5_1).f0) == x1_1) = true := beq_iff_eq.mpr c5
      have c5b1 : (((rd_T44 l0 x5_1).f0) != x1_1) = false := bne_eq_false_iff_eq.mpr c5
      clear c5
      by_cases c6 : ((rd_T44 l0 x5_1).f1) = (wrap64 (x1_1 + 1))
      ·
       rw [if_pos c6] at H
       have c6b0 : (((rd_T44 l0 x5_1).f1) == (wrap64 (x1_1 + 1))) = true := beq_iff_eq.mpr c6
       have c6b1 : (((rd_T44 l0 x5_1).f1) != (wrap64 (x1_1 + 1))) = false := bne_eq_false_iff_eq.mpr c6
       clear c6
       have H' := Aside0.mk H
       clear H
       have p363 : 0 ≤ (x5_1 : Int) := od_
       have q363 : x5_1 < (l0.length : Int) := od_
       obtain ⟨ad363, e363, hx363_0, hx363_1⟩ := at_T44 HR0.out x5_1 p363 q363
       cases e363
       replace p363 := eq_true p363
       replace q363 := eq_true q363
       have p364 : 0 ≤ (x5_1 : Int) := od_
       have q364 : x5_1 < (l0.length : Int) := od_
       obtain ⟨ad364, e364, hx364_0, hx364_1⟩ := at_T44 HR0.out x5_1 p364 q364
       obtain rfl : ad363 = ad364 := (by injection e364)
       replace p364 := eq_true p364
       replace q364 := eq_true q364
       go_wp2
       go_roundg k1
       case measure => have := HK1.out; omega
       case rel => exact ⟨(wrap64 ((wrap64 (x1_1 + 1)) + 1)), (wrap64 (x5_1 + 1)), (by first | rfl | (simp; done) | (simp [*]; done)), (by first | rfl | (simp; done) | (simp [*]; done)), H', ⟨by have := HK1.out; omega⟩, dr_⟩
      ·
       rw [if_neg c6] at H
       have c6b0 : (((rd_T44 l0 x5_1).f1) == (wrap64 (x1_1 + 1))) = false := beq_eq_false_iff_ne.mpr c6
       have c6b1 : (((rd_T44 l0 x5_1).f1) != (wrap64 (x1_1 + 1))) = true := bne_iff_ne.mpr c6
       obtain rfl := Option.some.inj H
       simp only [Option.some.injEq, Prod.mk.injEq] at H
       obtain ⟨rfl⟩ := H
       have p363 : 0 ≤ (x5_1 : Int) := od_
       have q363 : x5_1 < (l0.length : Int) := od_
       obtain ⟨ad363, e363, hx363_0, hx363_1⟩ := at_T44 HR0.out x5_1 p363 q363
       cases e363
       replace p363 := eq_true p363
       replace q363 := eq_true q363
       have p364 : 0 ≤ (x5_1 : Int) := od_
       have q364 : x5_1 < (l0.length : Int) := od_
       obtain ⟨ad364, e364, hx364_0, hx364_1⟩ := at_T44 HR0.out x5_1 p364 q364
       obtain rfl : ad363 = ad364 := (by injection e364)
       replace p364 := eq_true p364
       replace q364 := eq_true q364
       go_wp2
       go_ret
       exact ⟨by first | rfl | (simp; done) | (simp [*]; done), dr_⟩
     ·
      rw [if_neg c5] at H
      have c5b0 : (((rd_T44 l0 x5_1).f0) == x1_1) = false := beq_eq_false_iff_ne.mpr c5
      have c5b1 : (((rd_T44 l0 x5_1).f0) != x1_1) = true := bne_iff_ne.mpr c5
      obtain rfl := Option.some.inj H
      simp only [Option.some.injEq, Prod.mk.injEq] at H
      obtain ⟨rfl⟩ := H
      have p363 : 0 ≤ (x5_1 : Int) := od_
      have q363 : x5_1 < (l0.length : Int) := od_
      obtain ⟨ad363, e363, hx363_0, hx363_1⟩ := at_T44 HR0.out x5_1 p363 q363
      cases e363
      replace p363 := eq_true p363
      replace q363 := eq_true q363
      go_wp2
      go_ret
      exact ⟨by first | rfl | (simp; done) | (simp [*]; done), dr_⟩
    ·
     rw [if_neg c4] at H
     exact absurd H (by simp)
   ·
    rw [if_neg c3] at H
    have c3b0 : decide (x5_1 < (l0.length : Int)) = false := decide_eq_false c3
    clear c3
    obtain rfl := Option.some.inj H
    simp only [Option.some.injEq, Prod.mk.injEq] at H
    obtain ⟨rfl⟩ := H
    go_wp2
    go_ret
    exact ⟨by first | rfl | (simp; done) | (simp [*]; done), dr_⟩


/-! ### laws_heldFunc: function 9 -/
def laws_heldFunc.f (k : Nat) (l0_0 : List Int) (a0_1 : Int) (l0_2 : List Int) (l0_3 : List (S44)) (a1 : Int) : Option (Int) := (laws_heldIntS.f k l0_0 a1).bind fun t366 => (if t366 < 0 then (some (-1)) else ((laws_heldIntS.f k l0_2 t366).bind fun t367 => (if t367 < 0 then (some (-1)) else ((laws_heldInsS.f k l0_3 t367).bind fun t368 => (if t368 < 0 then (some (-1)) else (some t368))))))
set_option maxHeartbeats 8000000 in
set_option maxRecDepth 100000 in
theorem laws_heldFunc.calls (k : Nat) (A0_0 : Option Addr) (c0_0 : Nat) (l0_0 : List Int) (a0_1 : Int) (A0_2 : Option Addr) (c0_2 : Nat) (l0_2 : List Int) (A0_3 : Option Addr) (c0_3 : Nat) (l0_3 : List (S44)) (a1 : Int) (r : Int) (w : World) (hr0_0 : Kd.C (Kd.int .i64) w A0_0 l0_0.length l0_0) (hc0_0 : l0_0.length ≤ c0_0) (hr0_2 : Kd.C (Kd.int .i64) w A0_2 l0_2.length l0_2) (hc0_2 : l0_2.length ≤ c0_2) (hr0_3 : Kd.C k44 w A0_3 l0_3.length l0_3) (hc0_3 : l0_3.length ≤ c0_3) (h : laws_heldFunc.f k l0_0 a0_1 l0_2 l0_3 a1 = some r) :
  Calls Try.prog 9 #[.agg #[.slice A0_0 l0_0.length c0_0, .int .i64 a0_1, .slice A0_2 l0_2.length c0_2, .slice A0_3 l0_3.length c0_3], .int .i64 a1] w fun e w' => e = .returned (.int .i64 r) ∧ Below w.heap.size w w' := by
 have hu25 := Try.underlying25
 have HR0_0 := Aside0.mk hr0_0
 have HC0_0 := Aside0.mk hc0_0
 clear hr0_0 hc0_0
 have HR0_2 := Aside0.mk hr0_2
 have HC0_2 := Aside0.mk hc0_2
 clear hr0_2 hc0_2
 have HR0_3 := Aside0.mk hr0_3
 have HC0_3 := Aside0.mk hc0_3
 clear hr0_3 hc0_3
 have HB := Aside0.mk (Below.refl w.heap.size w)
 have H : ((laws_heldIntS.f k l0_0 a1).bind fun t366 => (if t366 < 0 then (some (-1)) else ((laws_heldIntS.f k l0_2 t366).bind fun t367 => (if t367 < 0 then (some (-1)) else ((laws_heldInsS.f k l0_3 t367).bind fun t368 => (if t368 < 0 then (some (-1)) else (some t368))))))) = some r := h
 clear h
 replace H := Option.bind_eq_some_iff.mp H
 obtain ⟨t366, A30, H⟩ := H
 replace H : (if t366 < 0 then (some (-1)) else ((laws_heldIntS.f k l0_2 t366).bind fun t367 => (if t367 < 0 then (some (-1)) else ((laws_heldInsS.f k l0_3 t367).bind fun t368 => (if t368 < 0 then (some (-1)) else (some t368)))))) = some r := H
 have A3 := Aside0.mk A30
 clear A30
 by_cases c4 : t366 < 0
 ·
  rw [if_pos c4] at H
  have c4b0 : decide (t366 < 0) = true := decide_eq_true c4
  clear c4
  obtain rfl := Option.some.inj H
  simp only [Option.some.injEq, Prod.mk.injEq] at H
  obtain ⟨rfl⟩ := H
  go_enter Try.func9, Try.ntmps9
  go_wp2_with (first | ((with_reducible refine gate_dst (N := 2) rfl ?_); refine box_event ?hg (N := 2) ?hd (cs := #[.slice A0_0 l0_0.length c0_0, .int .i64 a0_1, .slice A0_2 l0_2.length c0_2, .slice A0_3 l0_3.length c0_3]) (t := 25) ?hr ?_; (case hd => rfl); (case hg => rfl); (case hr => first | (go_simp; done) | (go_simp; rfl)); intro gb365 hg w5 hbox hb; have n0_ := Aside0.mk (below_step (bw HB.out) hb); have n1_ := Aside0.mk (hbox); have n2_ := Aside0.mk ((sz_ hg (bw HB.out) : w.heap.size ≤ gb365)); have n3_ := Aside0.mk ((sz_ hg (bw HB.out) : w.heap.size ≤ gb365)); clear HB; have HB := n0_; have BK365 := n1_; have GW365 := n2_; have GE365 := n3_; clear n0_ n1_ n2_ n3_; clear hb hbox hg; obtain ⟨hcz6_0, hcz6_1, hcz6_2, hcz6_3⟩ := cs4_ BK365.out; obtain ⟨hfz6_0, hfz6_1, hfz6_2, hfz6_3⟩ := fz4_ BK365.out) | ((with_reducible refine gate_callee (f := 25) rfl ?_); refine goesL_ (some 8) rfl rfl Try.func25 (by kernel_rfl) rfl #[.slice A0_0 l0_0.length c0_0, .int .i64 a1] rfl ar ?_; (with_reducible refine (laws_heldIntS.calls k _ _ l0_0 a1 t366 _ ?side1 ?side2 A3.out).mono ?_); (case side1 => repeat (first | exact (Kd.C_below HR0_0.out HB.out) | (with_reducible refine Kd.C_alloc ?_ _) | (with_reducible refine Kd.C_drewN ?_ _) | (with_reducible refine Kd.C_drew ?_))); (case side2 => exact HC0_0.out); rintro e w' ⟨rfl, ⟨nd, rfl⟩⟩; refine ⟨_, rfl, ?_⟩))
  go_ret
  exact ⟨rr_, bw HB.out⟩
 ·
  rw [if_neg c4] at H
  have c4b0 : decide (t366 < 0) = false := decide_eq_false c4
  clear c4
  replace H := Option.bind_eq_some_iff.mp H
  obtain ⟨t367, A70, H⟩ := H
  replace H : (if t367 < 0 then (some (-1)) else ((laws_heldInsS.f k l0_3 t367).bind fun t368 => (if t368 < 0 then (some (-1)) else (some t368)))) = some r := H
  have A7 := Aside0.mk A70
  clear A70
  by_cases c8 : t367 < 0
  ·
   rw [if_pos c8] at H
   have c8b0 : decide (t367 < 0) = true := decide_eq_true c8
   clear c8
   obtain rfl := Option.some.inj H
   simp only [Option.some.injEq, Prod.mk.injEq] at H
   obtain ⟨rfl⟩ := H
   go_enter Try.func9, Try.ntmps9
   go_wp2_with (first | ((with_reducible refine gate_dst (N := 2) rfl ?_); refine box_event ?hg (N := 2) ?hd (cs := #[.slice A0_0 l0_0.length c0_0, .int .i64 a0_1, .slice A0_2 l0_2.length c0_2, .slice A0_3 l0_3.length c0_3]) (t := 25) ?hr ?_; (case hd => rfl); (case hg => rfl); (case hr => first | (go_simp; done) | (go_simp; rfl)); intro gb365 hg w9 hbox hb; have n0_ := Aside0.mk (below_step (bw HB.out) hb); have n1_ := Aside0.mk (hbox); have n2_ := Aside0.mk ((sz_ hg (bw HB.out) : w.heap.size ≤ gb365)); have n3_ := Aside0.mk ((sz_ hg (bw HB.out) : w.heap.size ≤ gb365)); clear HB; have HB := n0_; have BK365 := n1_; have GW365 := n2_; have GE365 := n3_; clear n0_ n1_ n2_ n3_; clear hb hbox hg; obtain ⟨hcz10_0, hcz10_1, hcz10_2, hcz10_3⟩ := cs4_ BK365.out; obtain ⟨hfz10_0, hfz10_1, hfz10_2, hfz10_3⟩ := fz4_ BK365.out) | ((with_reducible refine gate_callee (f := 25) rfl ?_); refine goesL_ (some 8) rfl rfl Try.func25 (by kernel_rfl) rfl #[.slice A0_0 l0_0.length c0_0, .int .i64 a1] rfl ar ?_; (with_reducible refine (laws_heldIntS.calls k _ _ l0_0 a1 t366 _ ?side1 ?side2 A3.out).mono ?_); (case side1 => repeat (first | exact (Kd.C_below HR0_0.out HB.out) | (with_reducible refine Kd.C_alloc ?_ _) | (with_reducible refine Kd.C_drewN ?_ _) | (with_reducible refine Kd.C_drew ?_))); (case side2 => exact HC0_0.out); rintro e w' ⟨rfl, ⟨nd, rfl⟩⟩; refine ⟨_, rfl, ?_⟩) | ((with_reducible refine gate_callee (f := 25) rfl ?_); refine goesL_ (some 14) rfl rfl Try.func25 (by kernel_rfl) rfl #[.slice A0_2 l0_2.length c0_2, .int .i64 t366] rfl ar ?_; (with_reducible refine (laws_heldIntS.calls k _ _ l0_2 t366 t367 _ ?side1 ?side2 A7.out).mono ?_); (case side1 => repeat (first | exact (Kd.C_below HR0_2.out (bw HB.out)) | (with_reducible refine Kd.C_alloc ?_ _) | (with_reducible refine Kd.C_drewN ?_ _) | (with_reducible refine Kd.C_drew ?_))); (case side2 => exact HC0_2.out); rintro e w' ⟨rfl, ⟨nd, rfl⟩⟩; refine ⟨_, rfl, ?_⟩))
   go_ret
   exact ⟨rr_, bw HB.out⟩
  ·
   rw [if_neg c8] at H
   have c8b0 : decide (t367 < 0) = false := decide_eq_false c8
   clear c8
   replace H := Option.bind_eq_some_iff.mp H
   obtain ⟨t368, A110, H⟩ := H
   replace H : (if t368 < 0 then (some (-1)) else (some t368)) = some r := H
   have A11 := Aside0.mk A110
   clear A110
   by_cases c12 : t368 < 0
   ·
    rw [if_pos c12] at H
    have c12b0 : decide (t368 < 0) = true := decide_eq_true c12
    clear c12
    obtain rfl := Option.some.inj H
    simp only [Option.some.injEq, Prod.mk.injEq] at H
    obtain ⟨rfl⟩ := H
    go_enter Try.func9, Try.ntmps9
    go_wp2_with (first | ((with_reducible refine gate_dst (N := 2) rfl ?_); refine box_event ?hg (N := 2) ?hd (cs := #[.slice A0_0 l0_0.length c0_0, .int .i64 a0_1, .slice A0_2 l0_2.length c0_2, .slice A0_3 l0_3.length c0_3]) (t := 25) ?hr ?_; (case hd => rfl); (case hg => rfl); (case hr => first | (go_simp; done) | (go_simp; rfl)); intro gb365 hg w13 hbox hb; have n0_ := Aside0.mk (below_step (bw HB.out) hb); have n1_ := Aside0.mk (hbox); have n2_ := Aside0.mk ((sz_ hg (bw HB.out) : w.heap.size ≤ gb365)); have n3_ := Aside0.mk ((sz_ hg (bw HB.out) : w.heap.size ≤ gb365)); clear HB; have HB := n0_; have BK365 := n1_; have GW365 := n2_; have GE365 := n3_; clear n0_ n1_ n2_ n3_; clear hb hbox hg; obtain ⟨hcz14_0, hcz14_1, hcz14_2, hcz14_3⟩ := cs4_ BK365.out; obtain ⟨hfz14_0, hfz14_1, hfz14_2, hfz14_3⟩ := fz4_ BK365.out) | ((with_reducible refine gate_callee (f := 25) rfl ?_); refine goesL_ (some 8) rfl rfl Try.func25 (by kernel_rfl) rfl #[.slice A0_0 l0_0.length c0_0, .int .i64 a1] rfl ar ?_; (with_reducible refine (laws_heldIntS.calls k _ _ l0_0 a1 t366 _ ?side1 ?side2 A3.out).mono ?_); (case side1 => repeat (first | exact (Kd.C_below HR0_0.out HB.out) | (with_reducible refine Kd.C_alloc ?_ _) | (with_reducible refine Kd.C_drewN ?_ _) | (with_reducible refine Kd.C_drew ?_))); (case side2 => exact HC0_0.out); rintro e w' ⟨rfl, ⟨nd, rfl⟩⟩; refine ⟨_, rfl, ?_⟩) | ((with_reducible refine gate_callee (f := 25) rfl ?_); refine goesL_ (some 14) rfl rfl Try.func25 (by kernel_rfl) rfl #[.slice A0_2 l0_2.length c0_2, .int .i64 t366] rfl ar ?_; (with_reducible refine (laws_heldIntS.calls k _ _ l0_2 t366 t367 _ ?side1 ?side2 A7.out).mono ?_); (case side1 => repeat (first | exact (Kd.C_below HR0_2.out (bw HB.out)) | (with_reducible refine Kd.C_alloc ?_ _) | (with_reducible refine Kd.C_drewN ?_ _) | (with_reducible refine Kd.C_drew ?_))); (case side2 => exact HC0_2.out); rintro e w' ⟨rfl, ⟨nd, rfl⟩⟩; refine ⟨_, rfl, ?_⟩) | ((with_reducible refine gate_callee (f := 26) rfl ?_); refine goesL_ (some 20) rfl rfl Try.func26 (by kernel_rfl) rfl #[.slice A0_3 l0_3.length c0_3, .int .i64 t367] rfl ar ?_; (with_reducible refine (laws_heldInsS.calls k _ _ l0_3 t367 t368 _ ?side1 ?side2 A11.out).mono ?_); (case side1 => repeat (first | exact (Kd.C_below HR0_3.out (bw HB.out)) | (with_reducible refine Kd.C_alloc ?_ _) | (with_reducible refine Kd.C_drewN ?_ _) | (with_reducible refine Kd.C_drew ?_))); (case side2 => exact HC0_3.out); rintro e w' ⟨rfl, ⟨nd, rfl⟩⟩; refine ⟨_, rfl, ?_⟩))
    go_ret
    exact ⟨rr_, bw HB.out⟩
   ·
    rw [if_neg c12] at H
    have c12b0 : decide (t368 < 0) = false := decide_eq_false c12
    clear c12
    obtain rfl := Option.some.inj H
    simp only [Option.some.injEq, Prod.mk.injEq] at H
    obtain ⟨rfl⟩ := H
    go_enter Try.func9, Try.ntmps9
    go_wp2_with (first | ((with_reducible refine gate_dst (N := 2) rfl ?_); refine box_event ?hg (N := 2) ?hd (cs := #[.slice A0_0 l0_0.length c0_0, .int .i64 a0_1, .slice A0_2 l0_2.length c0_2, .slice A0_3 l0_3.length c0_3]) (t := 25) ?hr ?_; (case hd => rfl); (case hg => rfl); (case hr => first | (go_simp; done) | (go_simp; rfl)); intro gb365 hg w15 hbox hb; have n0_ := Aside0.mk (below_step (bw HB.out) hb); have n1_ := Aside0.mk (hbox); have n2_ := Aside0.mk ((sz_ hg (bw HB.out) : w.heap.size ≤ gb365)); have n3_ := Aside0.mk ((sz_ hg (bw HB.out) : w.heap.size ≤ gb365)); clear HB; have HB := n0_; have BK365 := n1_; have GW365 := n2_; have GE365 := n3_; clear n0_ n1_ n2_ n3_; clear hb hbox hg; obtain ⟨hcz16_0, hcz16_1, hcz16_2, hcz16_3⟩ := cs4_ BK365.out; obtain ⟨hfz16_0, hfz16_1, hfz16_2, hfz16_3⟩ := fz4_ BK365.out) | ((with_reducible refine gate_callee (f := 25) rfl ?_); refine goesL_ (some 8) rfl rfl Try.func25 (by kernel_rfl) rfl #[.slice A0_0 l0_0.length c0_0, .int .i64 a1] rfl ar ?_; (with_reducible refine (laws_heldIntS.calls k _ _ l0_0 a1 t366 _ ?side1 ?side2 A3.out).mono ?_); (case side1 => repeat (first | exact (Kd.C_below HR0_0.out HB.out) | (with_reducible refine Kd.C_alloc ?_ _) | (with_reducible refine Kd.C_drewN ?_ _) | (with_reducible refine Kd.C_drew ?_))); (case side2 => exact HC0_0.out); rintro e w' ⟨rfl, ⟨nd, rfl⟩⟩; refine ⟨_, rfl, ?_⟩) | ((with_reducible refine gate_callee (f := 25) rfl ?_); refine goesL_ (some 14) rfl rfl Try.func25 (by kernel_rfl) rfl #[.slice A0_2 l0_2.length c0_2, .int .i64 t366] rfl ar ?_; (with_reducible refine (laws_heldIntS.calls k _ _ l0_2 t366 t367 _ ?side1 ?side2 A7.out).mono ?_); (case side1 => repeat (first | exact (Kd.C_below HR0_2.out (bw HB.out)) | (with_reducible refine Kd.C_alloc ?_ _) | (with_reducible refine Kd.C_drewN ?_ _) | (with_reducible refine Kd.C_drew ?_))); (case side2 => exact HC0_2.out); rintro e w' ⟨rfl, ⟨nd, rfl⟩⟩; refine ⟨_, rfl, ?_⟩) | ((with_reducible refine gate_callee (f := 26) rfl ?_); refine goesL_ (some 20) rfl rfl Try.func26 (by kernel_rfl) rfl #[.slice A0_3 l0_3.length c0_3, .int .i64 t367] rfl ar ?_; (with_reducible refine (laws_heldInsS.calls k _ _ l0_3 t367 t368 _ ?side1 ?side2 A11.out).mono ?_); (case side1 => repeat (first | exact (Kd.C_below HR0_3.out (bw HB.out)) | (with_reducible refine Kd.C_alloc ?_ _) | (with_reducible refine Kd.C_drewN ?_ _) | (with_reducible refine Kd.C_drew ?_))); (case side2 => exact HC0_3.out); rintro e w' ⟨rfl, ⟨nd, rfl⟩⟩; refine ⟨_, rfl, ?_⟩))
    go_ret
    exact ⟨rr_, bw HB.out⟩


/-! ### laws_FnExactTakeFunc: function 3 -/
mutual
def laws_FnExactTakeFunc.j0 : Nat → ByteArray → Int → Bool → List Int → Int → List Int → List (S44) → List Int → Int → List Int → List (S44) → Option (Bool)
 | 0, _, _, _, _, _, _, _, _, _, _, _ => none
 | k + 1, x0, x4, x32, x381000, x381001, x381002, x381003, x393000, x393001, x393002, x393003 => if x32 = true then (some false) else ((laws_markFunc.f k x393000 x393001 x393002 x393003 1).bind fun bt394 => ((laws_heldFunc.f k bt394.2.1 x393001 bt394.2.2.1 bt394.2.2.2 1).bind fun t398 => (if t398 < 0 then (some false) else (if t398 = bt394.1 then ((impl_TakeFunc.f k x0).bind fun bt399 => ((laws_eqFunc.f k bt399.1 bt399.2.1 bt399.2.2.1 bt399.2.2.2.1 x381000 x381001 x381002 x381003).bind fun t411 => (if t411 = true then (laws_FnExactTakeFunc.j1 k bt394.1 (bt399.2.2.2.2 != x4) bt394.2.1 x393001 bt394.2.2.1 bt394.2.2.2) else (laws_FnExactTakeFunc.j1 k bt394.1 true bt394.2.1 x393001 bt394.2.2.1 bt394.2.2.2)))) else (some false)))))
def laws_FnExactTakeFunc.j1 : Nat → Int → Bool → List Int → Int → List Int → List (S44) → Option (Bool)
 | 0, _, _, _, _, _, _ => none
 | k + 1, x7, x57, x393000, x393001, x393002, x393003 => if x57 = true then (some false) else ((laws_heldFunc.f k x393000 x393001 x393002 x393003 1).bind fun t412 => (if t412 < 0 then (some false) else (if t412 = x7 then (some true) else (some false))))
end
def laws_FnExactTakeFunc.f (k : Nat) (a0 : ByteArray) : Option (Bool) := if (a0.size : Int) > 1048576 then (some true) else ((spec_TakeFunc.f k a0).bind fun bt369 => ((impl_TakeFunc.f k a0).bind fun bt381 => ((laws_eqFunc.f k bt381.1 bt381.2.1 bt381.2.2.1 bt381.2.2.2.1 bt369.1 bt369.2.1 bt369.2.2.1 bt369.2.2.2.1).bind fun t393 => (if t393 = true then (laws_FnExactTakeFunc.j0 k a0 bt369.2.2.2.2 (bt381.2.2.2.2 != bt369.2.2.2.2) bt369.1 bt369.2.1 bt369.2.2.1 bt369.2.2.2.1 bt381.1 bt381.2.1 bt381.2.2.1 bt381.2.2.2.1) else (laws_FnExactTakeFunc.j0 k a0 bt369.2.2.2.2 true bt369.1 bt369.2.1 bt369.2.2.1 bt369.2.2.2.1 bt381.1 bt381.2.1 bt381.2.2.1 bt381.2.2.2.1)))))
set_option maxHeartbeats 8000000 in
set_option maxRecDepth 100000 in
theorem laws_FnExactTakeFunc.calls (k : Nat) (a0 : ByteArray) (r : Bool) (w : World) (hTrue : r = true) (h : laws_FnExactTakeFunc.f k a0 = some r) :
  Calls Try.prog 3 #[.string a0] w fun e w' => e = .returned (.bool r) ∧ Below w.heap.size w w' := by
 have hu25 := Try.underlying25
 have HB := Aside0.mk (Below.refl w.heap.size w)
 have H : (if (a0.size : Int) > 1048576 then (some true) else ((spec_TakeFunc.f k a0).bind fun bt369 => ((impl_TakeFunc.f k a0).bind fun bt381 => ((laws_eqFunc.f k bt381.1 bt381.2.1 bt381.2.2.1 bt381.2.2.2.1 bt369.1 bt369.2.1 bt369.2.2.1 bt369.2.2.2.1).bind fun t393 => (if t393 = true then (laws_FnExactTakeFunc.j0 k a0 bt369.2.2.2.2 (bt381.2.2.2.2 != bt369.2.2.2.2) bt369.1 bt369.2.1 bt369.2.2.1 bt369.2.2.2.1 bt381.1 bt381.2.1 bt381.2.2.1 bt381.2.2.2.1) else (laws_FnExactTakeFunc.j0 k a0 bt369.2.2.2.2 true bt369.1 bt369.2.1 bt369.2.2.1 bt369.2.2.2.1 bt381.1 bt381.2.1 bt381.2.2.1 bt381.2.2.2.1)))))) = some r := h
 clear h
 have HT := Aside0.mk hTrue
 clear hTrue
 by_cases c2 : (a0.size : Int) > 1048576
 ·
  rw [if_pos c2] at H
  have c2b0 : decide (1048576 < (a0.size : Int)) = true := decide_eq_true c2
  have c2b1 : decide (1048576 < a0.size) = true := decide_eq_true (by omega)
  clear c2
  obtain rfl := Option.some.inj H
  simp only [Option.some.injEq, Prod.mk.injEq] at H
  obtain ⟨rfl⟩ := H
  go_enter Try.func3, Try.ntmps3
  go_wp2
  go_ret
  exact ⟨rr_, bw HB.out⟩
 ·
  rw [if_neg c2] at H
  have c2b0 : decide (1048576 < (a0.size : Int)) = false := decide_eq_false c2
  have c2b1 : decide (1048576 < a0.size) = false := decide_eq_false (by omega)
  clear c2
  replace H := Option.bind_eq_some_iff.mp H
  obtain ⟨⟨t369, t372, t373, t376, t379⟩, A30, H⟩ := H
  replace H : ((impl_TakeFunc.f k a0).bind fun bt381 => ((laws_eqFunc.f k bt381.1 bt381.2.1 bt381.2.2.1 bt381.2.2.2.1 t369 t372 t373 t376).bind fun t393 => (if t393 = true then (laws_FnExactTakeFunc.j0 k a0 t379 (bt381.2.2.2.2 != t379) t369 t372 t373 t376 bt381.1 bt381.2.1 bt381.2.2.1 bt381.2.2.2.1) else (laws_FnExactTakeFunc.j0 k a0 t379 true t369 t372 t373 t376 bt381.1 bt381.2.1 bt381.2.2.1 bt381.2.2.2.1)))) = some r := H
  have A3 := Aside0.mk A30
  clear A30
  replace H := Option.bind_eq_some_iff.mp H
  obtain ⟨⟨t381, t384, t385, t388, t391⟩, A40, H⟩ := H
  replace H : ((laws_eqFunc.f k t381 t384 t385 t388 t369 t372 t373 t376).bind fun t393 => (if t393 = true then (laws_FnExactTakeFunc.j0 k a0 t379 (t391 != t379) t369 t372 t373 t376 t381 t384 t385 t388) else (laws_FnExactTakeFunc.j0 k a0 t379 true t369 t372 t373 t376 t381 t384 t385 t388))) = some r := H
  have A4 := Aside0.mk A40
  clear A40
  have HC5 := Aside0.mk H
  clear H
  go_enter Try.func3, Try.ntmps3
  go_upto_region 5 with (first | ((with_reducible refine gate_callee (f := 5) rfl ?_); refine goesL_ (some 16) rfl rfl Try.func5 (by kernel_rfl) rfl #[.string a0] rfl ar ?_; (with_reducible refine (spec_TakeFunc.calls k a0 t369 t372 t373 t376 t379 _ A3.out).mono ?_); rintro e w6 ⟨v370, v374, v377, rfl, ho0, ho1, ho2, hb⟩; refine ⟨_, rfl, ?_⟩; have n0_ := Aside0.mk (Kd.R_lower ho0 (below_size (bw HB.out))); have n1_ := Aside0.mk (Kd.R_lower ho1 (below_size (bw HB.out))); have n2_ := Aside0.mk (Kd.R_lower ho2 (below_size (bw HB.out))); have n3_ := Aside0.mk (below_step (bw HB.out) hb); clear HB; have HO371 := n0_; have HO375 := n1_; have HO378 := n2_; have HB := n3_; clear n0_ n1_ n2_ n3_; (try clear hb); (try clear hb2); (try clear hk); (try clear hi); (try clear ho0); (try clear ho1); (try clear ho2)) | ((with_reducible refine gate_dst (N := 3) rfl ?_); refine box_event ?hg (N := 3) ?hd (cs := #[.slice none 0 0, .int .i64 0, .slice none 0 0, .slice none 0 0]) (t := 25) ?hr ?_; (case hd => rfl); (case hg => rfl); (case hr => first | (go_simp; done) | (go_simp; rfl)); intro gb380 hg w7 hbox hb; have n0_ := Aside0.mk (Kd.R_below (kr_ HO371.out) hb); have n1_ := Aside0.mk (Kd.R_below (kr_ HO375.out) hb); have n2_ := Aside0.mk (Kd.R_below (kr_ HO378.out) hb); have n3_ := Aside0.mk (below_step (bw HB.out) hb); have n4_ := Aside0.mk (hbox); have n5_ := Aside0.mk ((sz_ hg (bw HB.out) : w.heap.size ≤ gb380)); have n6_ := Aside0.mk ((sz_ hg (bw HB.out) : w.heap.size ≤ gb380)); clear HO371; clear HO375; clear HO378; clear HB; have HO371 := n0_; have HO375 := n1_; have HO378 := n2_; have HB := n3_; have BK380 := n4_; have GW380 := n5_; have GE380 := n6_; clear n0_ n1_ n2_ n3_ n4_ n5_ n6_; clear hb hbox hg; obtain ⟨Ao8, co8, eo8⟩ := Kd.R_slice HO371.out; subst eo8; obtain ⟨hcz9_0, hcz9_1, hcz9_2, hcz9_3⟩ := cs4_ BK380.out; obtain ⟨hfz9_0, hfz9_1, hfz9_2, hfz9_3⟩ := fz4_ BK380.out; obtain ⟨Ao10, co10, eo10⟩ := Kd.R_slice HO375.out; subst eo10; obtain ⟨Ao11, co11, eo11⟩ := Kd.R_slice HO378.out; subst eo11) | ((with_reducible refine gate_callee (f := 6) rfl ?_); refine goesL_ (some 21) rfl rfl Try.func6 (by kernel_rfl) rfl #[.string a0] rfl ar ?_; (with_reducible refine (impl_TakeFunc.calls k a0 t381 t384 t385 t388 t391 _ A4.out).mono ?_); rintro e w12 ⟨v382, v386, v389, rfl, ho0, ho1, ho2, hb⟩; refine ⟨_, rfl, ?_⟩; have n0_ := Aside0.mk (Kd.R_mono (Kd.R_told (Kd.R_told (Kd.R_old (by (with_reducible repeat (first | apply Kd.R_alloc | apply Kd.R_drewN | apply Kd.R_drew)); exact (Kd.R_mono (Kd.R_far (p := ⟨gb380, 3, none⟩) (Kd.R_far (p := ⟨gb380, 2, none⟩) (Kd.R_far (p := ⟨gb380, 1, none⟩) (Kd.R_far (p := ⟨gb380, 0, none⟩) (Kd.R_types HO371.out BK380.out (by decide)) (fun _ hk => hk.2) (.slice Ao8 t369.length co8)) (fun _ hk => hk.2) (.int .i64 t372)) (fun _ hk => hk.2) (.slice Ao10 t373.length co10)) (fun _ hk => hk.2) (.slice Ao11 t376.length co11)) (fun _ h_ => h_.1))) hb) (Kd.R_base ho0)) (Kd.R_base ho1)) (fun _ h_ => h_.1)); have n1_ := Aside0.mk (Kd.R_mono (Kd.R_told (Kd.R_told (Kd.R_old (by (with_reducible repeat (first | apply Kd.R_alloc | apply Kd.R_drewN | apply Kd.R_drew)); exact (Kd.R_mono (Kd.R_far (p := ⟨gb380, 3, none⟩) (Kd.R_far (p := ⟨gb380, 2, none⟩) (Kd.R_far (p := ⟨gb380, 1, none⟩) (Kd.R_far (p := ⟨gb380, 0, none⟩) (Kd.R_types HO375.out BK380.out (by decide)) (fun _ hk => hk.2) (.slice Ao8 t369.length co8)) (fun _ hk => hk.2) (.int .i64 t372)) (fun _ hk => hk.2) (.slice Ao10 t373.length co10)) (fun _ hk => hk.2) (.slice Ao11 t376.length co11)) (fun _ h_ => h_.1))) hb) (Kd.R_base ho0)) (Kd.R_base ho1)) (fun _ h_ => h_.1)); have n2_ := Aside0.mk (Kd.R_elder' (by (with_reducible repeat (first | apply Kd.R_alloc | apply Kd.R_drewN | apply Kd.R_drew)); exact (Kd.R_mono (Kd.R_far (p := ⟨gb380, 3, none⟩) (Kd.R_far (p := ⟨gb380, 2, none⟩) (Kd.R_far (p := ⟨gb380, 1, none⟩) (Kd.R_far (p := ⟨gb380, 0, none⟩) (Kd.R_types HO378.out BK380.out (by decide)) (fun _ hk => hk.2) (.slice Ao8 t369.length co8)) (fun _ hk => hk.2) (.int .i64 t372)) (fun _ hk => hk.2) (.slice Ao10 t373.length co10)) (fun _ hk => hk.2) (.slice Ao11 t376.length co11)) (fun _ h_ => h_.1))) (Kd.R_base ho2) hb); have n3_ := Aside0.mk (Kd.R_lower (Kd.R_new' (Kd.R_new' ho0 (Kd.R_lt (by (with_reducible repeat (first | apply Kd.R_alloc | apply Kd.R_drewN | apply Kd.R_drew)); exact (Kd.R_mono (Kd.R_far (p := ⟨gb380, 3, none⟩) (Kd.R_far (p := ⟨gb380, 2, none⟩) (Kd.R_far (p := ⟨gb380, 1, none⟩) (Kd.R_far (p := ⟨gb380, 0, none⟩) (Kd.R_types HO371.out BK380.out (by decide)) (fun _ hk => hk.2) (.slice Ao8 t369.length co8)) (fun _ hk => hk.2) (.int .i64 t372)) (fun _ hk => hk.2) (.slice Ao10 t373.length co10)) (fun _ hk => hk.2) (.slice Ao11 t376.length co11)) (fun _ h_ => h_.1))))) (Kd.R_lt (by (with_reducible repeat (first | apply Kd.R_alloc | apply Kd.R_drewN | apply Kd.R_drew)); exact (Kd.R_mono (Kd.R_far (p := ⟨gb380, 3, none⟩) (Kd.R_far (p := ⟨gb380, 2, none⟩) (Kd.R_far (p := ⟨gb380, 1, none⟩) (Kd.R_far (p := ⟨gb380, 0, none⟩) (Kd.R_types HO375.out BK380.out (by decide)) (fun _ hk => hk.2) (.slice Ao8 t369.length co8)) (fun _ hk => hk.2) (.int .i64 t372)) (fun _ hk => hk.2) (.slice Ao10 t373.length co10)) (fun _ hk => hk.2) (.slice Ao11 t376.length co11)) (fun _ h_ => h_.1))))) (below_size (bw HB.out))); have n4_ := Aside0.mk (Kd.R_lower (Kd.R_new' (Kd.R_new' ho1 (Kd.R_lt (by (with_reducible repeat (first | apply Kd.R_alloc | apply Kd.R_drewN | apply Kd.R_drew)); exact (Kd.R_mono (Kd.R_far (p := ⟨gb380, 3, none⟩) (Kd.R_far (p := ⟨gb380, 2, none⟩) (Kd.R_far (p := ⟨gb380, 1, none⟩) (Kd.R_far (p := ⟨gb380, 0, none⟩) (Kd.R_types HO371.out BK380.out (by decide)) (fun _ hk => hk.2) (.slice Ao8 t369.length co8)) (fun _ hk => hk.2) (.int .i64 t372)) (fun _ hk => hk.2) (.slice Ao10 t373.length co10)) (fun _ hk => hk.2) (.slice Ao11 t376.length co11)) (fun _ h_ => h_.1))))) (Kd.R_lt (by (with_reducible repeat (first | apply Kd.R_alloc | apply Kd.R_drewN | apply Kd.R_drew)); exact (Kd.R_mono (Kd.R_far (p := ⟨gb380, 3, none⟩) (Kd.R_far (p := ⟨gb380, 2, none⟩) (Kd.R_far (p := ⟨gb380, 1, none⟩) (Kd.R_far (p := ⟨gb380, 0, none⟩) (Kd.R_types HO375.out BK380.out (by decide)) (fun _ hk => hk.2) (.slice Ao8 t369.length co8)) (fun _ hk => hk.2) (.int .i64 t372)) (fun _ hk => hk.2) (.slice Ao10 t373.length co10)) (fun _ hk => hk.2) (.slice Ao11 t376.length co11)) (fun _ h_ => h_.1))))) (below_size (bw HB.out))); have n5_ := Aside0.mk (Kd.R_lower (Kd.R_new' ho2 (Kd.R_lt (by (with_reducible repeat (first | apply Kd.R_alloc | apply Kd.R_drewN | apply Kd.R_drew)); exact (Kd.R_mono (Kd.R_far (p := ⟨gb380, 3, none⟩) (Kd.R_far (p := ⟨gb380, 2, none⟩) (Kd.R_far (p := ⟨gb380, 1, none⟩) (Kd.R_far (p := ⟨gb380, 0, none⟩) (Kd.R_types HO378.out BK380.out (by decide)) (fun _ hk => hk.2) (.slice Ao8 t369.length co8)) (fun _ hk => hk.2) (.int .i64 t372)) (fun _ hk => hk.2) (.slice Ao10 t373.length co10)) (fun _ hk => hk.2) (.slice Ao11 t376.length co11)) (fun _ h_ => h_.1))))) (below_size (bw HB.out))); have n6_ := Aside0.mk (blk_below (g := gb380) (o := .cells #[.slice Ao8 t369.length co8, .int .i64 t372, .slice Ao10 t373.length co10, .slice Ao11 t376.length co11] 25 (0, 0)) (by refine blk_put (cs := #[.slice Ao8 t369.length co8, .int .i64 t372, .slice Ao10 t373.length co10, .slice none 0 0]) ?_ 3 _ rfl; refine blk_put (cs := #[.slice Ao8 t369.length co8, .int .i64 t372, .slice none 0 0, .slice none 0 0]) ?_ 2 _ rfl; refine blk_put (cs := #[.slice Ao8 t369.length co8, .int .i64 0, .slice none 0 0, .slice none 0 0]) ?_ 1 _ rfl; refine blk_put (cs := #[.slice none 0 0, .int .i64 0, .slice none 0 0, .slice none 0 0]) ?_ 0 _ rfl; (with_reducible repeat (first | refine blk_drewN ?_ _ | refine blk_drew ?_ | refine blk_alloc ?_ _)); exact BK380.out) hb); have n7_ := Aside0.mk (below_step (bw HB.out) hb); clear HO371; clear HO375; clear HO378; clear BK380; clear HB; have HO371 := n0_; have HO375 := n1_; have HO378 := n2_; have HO383 := n3_; have HO387 := n4_; have HO390 := n5_; have BK380 := n6_; have HB := n7_; clear n0_ n1_ n2_ n3_ n4_ n5_ n6_ n7_; (try clear hb); (try clear hb2); (try clear hk); (try clear hi); (try clear ho0); (try clear ho1); (try clear ho2)) | ((with_reducible refine gate_dst (N := 5) rfl ?_); refine box_event ?hg (N := 5) ?hd (cs := #[.slice none 0 0, .int .i64 0, .slice none 0 0, .slice none 0 0]) (t := 25) ?hr ?_; (case hd => rfl); (case hg => rfl); (case hr => first | (go_simp; done) | (go_simp; rfl)); intro gb392 hg w13 hbox hb; have n0_ := Aside0.mk (Kd.R_below (kr_ HO371.out) hb); have n1_ := Aside0.mk (Kd.R_below (kr_ HO375.out) hb); have n2_ := Aside0.mk (Kd.R_below (kr_ HO378.out) hb); have n3_ := Aside0.mk (Kd.R_below (kr_ HO383.out) hb); have n4_ := Aside0.mk (Kd.R_below (kr_ HO387.out) hb); have n5_ := Aside0.mk (Kd.R_below (kr_ HO390.out) hb); have n6_ := Aside0.mk (blk_below (g := gb380) (o := .cells #[.slice Ao8 t369.length co8, .int .i64 t372, .slice Ao10 t373.length co10, .slice Ao11 t376.length co11] 25 (0, 0)) (bk BK380.out) hb); have n7_ := Aside0.mk (below_step (bw HB.out) hb); have n8_ := Aside0.mk (hbox); have n9_ := Aside0.mk ((sz_ hg (bw HB.out) : w.heap.size ≤ gb392)); have n10_ := Aside0.mk ((sz_ hg (bw HB.out) : w.heap.size ≤ gb392)); have n11_ := Aside0.mk ((by rw [hg]; exact Nat.ne_of_lt (blk_lt (g := gb380) (o := .cells #[.slice Ao8 t369.length co8, .int .i64 t372, .slice Ao10 t373.length co10, .slice Ao11 t376.length co11] 25 (0, 0)) (bk BK380.out)) : gb380 ≠ gb392)); have n12_ := Aside0.mk ((by rw [hg]; exact Nat.ne_of_gt (blk_lt (g := gb380) (o := .cells #[.slice Ao8 t369.length co8, .int .i64 t372, .slice Ao10 t373.length co10, .slice Ao11 t376.length co11] 25 (0, 0)) (bk BK380.out)) : gb392 ≠ gb380)); clear HO371; clear HO375; clear HO378; clear HO383; clear HO387; clear HO390; clear BK380; clear HB; have HO371 := n0_; have HO375 := n1_; have HO378 := n2_; have HO383 := n3_; have HO387 := n4_; have HO390 := n5_; have BK380 := n6_; have HB := n7_; have BK392 := n8_; have GW392 := n9_; have GE392 := n10_; have NB380_392 := n11_; have NB392_380 := n12_; clear n0_ n1_ n2_ n3_ n4_ n5_ n6_ n7_ n8_ n9_ n10_ n11_ n12_; clear hb hbox hg; obtain ⟨Ao14, co14, eo14⟩ := Kd.R_slice HO383.out; subst eo14; have hnb15 := NB392_380.out; have hnc15 := NB380_392.out; obtain ⟨hcz16_0, hcz16_1, hcz16_2, hcz16_3⟩ := cs4_ BK392.out; obtain ⟨hfz16_0, hfz16_1, hfz16_2, hfz16_3⟩ := fz4_ BK392.out; obtain ⟨Ao17, co17, eo17⟩ := Kd.R_slice HO387.out; subst eo17; obtain ⟨Ao18, co18, eo18⟩ := Kd.R_slice HO390.out; subst eo18))
  (try simp only [Act.put, List.setIfInBounds_toArray, List.set_cons_zero, List.set_cons_succ])
  go_cut [32] (fun v32 wc => ∃ (kq : Nat) (x32_4 : Bool), v32 = .bool x32_4 ∧ Aside0 (laws_FnExactTakeFunc.j0 kq a0 t379 x32_4 t369 t372 t373 t376 t381 t384 t385 t388 = some r) ∧ Aside0 (kq ≤ k) ∧ Aside0 (Kd.R (Kd.int .i64) 3 wc w.heap.size (fun k_ => some k_ ≠ ((.slice Ao10 t373.length co10) : Value).ownBlock ∧ some k_ ≠ ((.slice Ao14 t381.length co14) : Value).ownBlock ∧ some k_ ≠ ((.slice Ao17 t385.length co17) : Value).ownBlock) (.slice Ao8 t369.length co8) t369) ∧ Aside0 (Kd.R (Kd.int .i64) 3 wc w.heap.size (fun k_ => some k_ ≠ ((.slice Ao8 t369.length co8) : Value).ownBlock ∧ some k_ ≠ ((.slice Ao14 t381.length co14) : Value).ownBlock ∧ some k_ ≠ ((.slice Ao17 t385.length co17) : Value).ownBlock) (.slice Ao10 t373.length co10) t373) ∧ Aside0 (Kd.R k44 44 wc w.heap.size (fun k_ => some k_ ≠ ((.slice Ao18 t388.length co18) : Value).ownBlock) (.slice Ao11 t376.length co11) t376) ∧ Aside0 (Kd.R (Kd.int .i64) 3 wc w.heap.size (fun k_ => some k_ ≠ ((.slice Ao8 t369.length co8) : Value).ownBlock ∧ some k_ ≠ ((.slice Ao10 t373.length co10) : Value).ownBlock ∧ some k_ ≠ ((.slice Ao17 t385.length co17) : Value).ownBlock) (.slice Ao14 t381.length co14) t381) ∧ Aside0 (Kd.R (Kd.int .i64) 3 wc w.heap.size (fun k_ => some k_ ≠ ((.slice Ao8 t369.length co8) : Value).ownBlock ∧ some k_ ≠ ((.slice Ao10 t373.length co10) : Value).ownBlock ∧ some k_ ≠ ((.slice Ao14 t381.length co14) : Value).ownBlock) (.slice Ao17 t385.length co17) t385) ∧ Aside0 (Kd.R k44 44 wc w.heap.size (fun k_ => some k_ ≠ ((.slice Ao11 t376.length co11) : Value).ownBlock) (.slice Ao18 t388.length co18) t388) ∧ Aside0 (wc.heap[gb380]? = some (.cells #[(.slice Ao8 t369.length co8), .int .i64 t372, (.slice Ao10 t373.length co10), (.slice Ao11 t376.length co11)] 25 (0, 0))) ∧ Aside0 (wc.heap[gb392]? = some (.cells #[(.slice Ao14 t381.length co14), .int .i64 t384, (.slice Ao17 t385.length co17), (.slice Ao18 t388.length co18)] 25 (0, 0))) ∧ Aside0 (Below w.heap.size w wc))
  case first =>
   have H := HC5.out
   clear HC5
   replace H := Option.bind_eq_some_iff.mp H
   obtain ⟨t393, A190, H⟩ := H
   replace H : (if t393 = true then (laws_FnExactTakeFunc.j0 k a0 t379 (t391 != t379) t369 t372 t373 t376 t381 t384 t385 t388) else (laws_FnExactTakeFunc.j0 k a0 t379 true t369 t372 t373 t376 t381 t384 t385 t388)) = some r := H
   have A19 := Aside0.mk A190
   clear A190
   by_cases c20 : t393 = true
   ·
    subst c20
    have H1 : (laws_FnExactTakeFunc.j0 k a0 t379 (t391 != t379) t369 t372 t373 t376 t381 t384 t385 t388) = some r := by rw [if_pos rfl] at H; exact H
    clear H
    have H := H1
    clear H1
    have H' := Aside0.mk H
    clear H
    have hnb21 := NB392_380.out
    have hnc21 := NB380_392.out
    obtain ⟨hcz22_0, hcz22_1, hcz22_2, hcz22_3⟩ := cs4_ BK392.out
    obtain ⟨hfz22_0, hfz22_1, hfz22_2, hfz22_3⟩ := fz4_ BK392.out
    obtain ⟨hcz23_0, hcz23_1, hcz23_2, hcz23_3⟩ := cs4_ BK380.out
    obtain ⟨hfz23_0, hfz23_1, hfz23_2, hfz23_3⟩ := fz4_ BK380.out
    go_wp2_with (first | ((with_reducible refine gate_callee (f := 7) rfl ?_); refine goesL_ (some 26) rfl rfl Try.func7 (by kernel_rfl) rfl #[.agg #[.slice Ao14 t381.length co14, .int .i64 t384, .slice Ao17 t385.length co17, .slice Ao18 t388.length co18], .agg #[.slice Ao8 t369.length co8, .int .i64 t372, .slice Ao10 t373.length co10, .slice Ao11 t376.length co11]] rfl ar ?_; (with_reducible refine (laws_eqFunc.calls k _ _ t381 t384 _ _ t385 _ _ t388 _ _ t369 t372 _ _ t373 _ _ t376 true _ ?side1 ?side2 ?side3 ?side4 ?side5 ?side6 ?side7 ?side8 ?side9 ?side10 ?side11 ?side12 A19.out).mono ?_); (case side1 => refine (Kd.R_reads' (e := 3) (base := w.heap.size) (ok := fun k_ => ((some k_ ≠ (.slice Ao17 t385.length co17 : Value).ownBlock ∧ some k_ ≠ (.slice Ao8 t369.length co8 : Value).ownBlock) ∧ some k_ ≠ (.slice Ao10 t373.length co10 : Value).ownBlock)) (n := t381.length) (c := co14) ?_).2.2; exact (by (with_reducible repeat (first | apply Kd.R_alloc | apply Kd.R_drewN | apply Kd.R_drew)); exact (Kd.R_mono (Kd.R_far (p := ⟨gb392, 3, none⟩) (Kd.R_far (p := ⟨gb392, 2, none⟩) (Kd.R_far (p := ⟨gb392, 1, none⟩) (Kd.R_far (p := ⟨gb392, 0, none⟩) (Kd.R_types HO383.out BK392.out (by decide)) (fun _ hk => hk.2) (.slice Ao14 t381.length co14)) (fun _ hk => hk.2) (.int .i64 t384)) (fun _ hk => hk.2) (.slice Ao17 t385.length co17)) (fun _ hk => hk.2) (.slice Ao18 t388.length co18)) (fun _ h_ => h_.1)))); (case side2 => exact (Kd.R_reads' HO383.out).2.1); (case side3 => refine (Kd.R_reads' (e := 3) (base := w.heap.size) (ok := fun k_ => ((some k_ ≠ (.slice Ao14 t381.length co14 : Value).ownBlock ∧ some k_ ≠ (.slice Ao8 t369.length co8 : Value).ownBlock) ∧ some k_ ≠ (.slice Ao10 t373.length co10 : Value).ownBlock)) (n := t385.length) (c := co17) ?_).2.2; exact (by (with_reducible repeat (first | apply Kd.R_alloc | apply Kd.R_drewN | apply Kd.R_drew)); exact (Kd.R_mono (Kd.R_far (p := ⟨gb392, 3, none⟩) (Kd.R_far (p := ⟨gb392, 2, none⟩) (Kd.R_far (p := ⟨gb392, 1, none⟩) (Kd.R_far (p := ⟨gb392, 0, none⟩) (Kd.R_types HO387.out BK392.out (by decide)) (fun _ hk => hk.2) (.slice Ao14 t381.length co14)) (fun _ hk => hk.2) (.int .i64 t384)) (fun _ hk => hk.2) (.slice Ao17 t385.length co17)) (fun _ hk => hk.2) (.slice Ao18 t388.length co18)) (fun _ h_ => h_.1)))); (case side4 => exact (Kd.R_reads' HO387.out).2.1); (case side5 => refine (Kd.R_reads' (e := 44) (base := w.heap.size) (ok := fun k_ => (True ∧ some k_ ≠ (.slice Ao11 t376.length co11 : Value).ownBlock)) (n := t388.length) (c := co18) ?_).2.2; exact (by (with_reducible repeat (first | apply Kd.R_alloc | apply Kd.R_drewN | apply Kd.R_drew)); exact (Kd.R_mono (Kd.R_far (p := ⟨gb392, 3, none⟩) (Kd.R_far (p := ⟨gb392, 2, none⟩) (Kd.R_far (p := ⟨gb392, 1, none⟩) (Kd.R_far (p := ⟨gb392, 0, none⟩) (Kd.R_types HO390.out BK392.out (by decide)) (fun _ hk => hk.2) (.slice Ao14 t381.length co14)) (fun _ hk => hk.2) (.int .i64 t384)) (fun _ hk => hk.2) (.slice Ao17 t385.length co17)) (fun _ hk => hk.2) (.slice Ao18 t388.length co18)) (fun _ h_ => h_.1)))); (case side6 => exact (Kd.R_reads' HO390.out).2.1); (case side7 => refine (Kd.R_reads' (e := 3) (base := w.heap.size) (ok := fun k_ => ((some k_ ≠ (.slice Ao10 t373.length co10 : Value).ownBlock ∧ some k_ ≠ (.slice Ao14 t381.length co14 : Value).ownBlock) ∧ some k_ ≠ (.slice Ao17 t385.length co17 : Value).ownBlock)) (n := t369.length) (c := co8) ?_).2.2; exact (by (with_reducible repeat (first | apply Kd.R_alloc | apply Kd.R_drewN | apply Kd.R_drew)); exact (Kd.R_mono (Kd.R_far (p := ⟨gb392, 3, none⟩) (Kd.R_far (p := ⟨gb392, 2, none⟩) (Kd.R_far (p := ⟨gb392, 1, none⟩) (Kd.R_far (p := ⟨gb392, 0, none⟩) (Kd.R_types HO371.out BK392.out (by decide)) (fun _ hk => hk.2) (.slice Ao14 t381.length co14)) (fun _ hk => hk.2) (.int .i64 t384)) (fun _ hk => hk.2) (.slice Ao17 t385.length co17)) (fun _ hk => hk.2) (.slice Ao18 t388.length co18)) (fun _ h_ => h_.1)))); (case side8 => exact (Kd.R_reads' HO371.out).2.1); (case side9 => refine (Kd.R_reads' (e := 3) (base := w.heap.size) (ok := fun k_ => ((some k_ ≠ (.slice Ao8 t369.length co8 : Value).ownBlock ∧ some k_ ≠ (.slice Ao14 t381.length co14 : Value).ownBlock) ∧ some k_ ≠ (.slice Ao17 t385.length co17 : Value).ownBlock)) (n := t373.length) (c := co10) ?_).2.2; exact (by (with_reducible repeat (first | apply Kd.R_alloc | apply Kd.R_drewN | apply Kd.R_drew)); exact (Kd.R_mono (Kd.R_far (p := ⟨gb392, 3, none⟩) (Kd.R_far (p := ⟨gb392, 2, none⟩) (Kd.R_far (p := ⟨gb392, 1, none⟩) (Kd.R_far (p := ⟨gb392, 0, none⟩) (Kd.R_types HO375.out BK392.out (by decide)) (fun _ hk => hk.2) (.slice Ao14 t381.length co14)) (fun _ hk => hk.2) (.int .i64 t384)) (fun _ hk => hk.2) (.slice Ao17 t385.length co17)) (fun _ hk => hk.2) (.slice Ao18 t388.length co18)) (fun _ h_ => h_.1)))); (case side10 => exact (Kd.R_reads' HO375.out).2.1); (case side11 => refine (Kd.R_reads' (e := 44) (base := w.heap.size) (ok := fun k_ => (True ∧ some k_ ≠ (.slice Ao18 t388.length co18 : Value).ownBlock)) (n := t376.length) (c := co11) ?_).2.2; exact (by (with_reducible repeat (first | apply Kd.R_alloc | apply Kd.R_drewN | apply Kd.R_drew)); exact (Kd.R_mono (Kd.R_far (p := ⟨gb392, 3, none⟩) (Kd.R_far (p := ⟨gb392, 2, none⟩) (Kd.R_far (p := ⟨gb392, 1, none⟩) (Kd.R_far (p := ⟨gb392, 0, none⟩) (Kd.R_types HO378.out BK392.out (by decide)) (fun _ hk => hk.2) (.slice Ao14 t381.length co14)) (fun _ hk => hk.2) (.int .i64 t384)) (fun _ hk => hk.2) (.slice Ao17 t385.length co17)) (fun _ hk => hk.2) (.slice Ao18 t388.length co18)) (fun _ h_ => h_.1)))); (case side12 => exact (Kd.R_reads' HO378.out).2.1); rintro e w24 ⟨rfl, hb⟩; refine ⟨_, rfl, ?_⟩; have n0_ := Aside0.mk (Kd.R_below (by (with_reducible repeat (first | apply Kd.R_alloc | apply Kd.R_drewN | apply Kd.R_drew)); exact (Kd.R_mono (Kd.R_far (p := ⟨gb392, 3, none⟩) (Kd.R_far (p := ⟨gb392, 2, none⟩) (Kd.R_far (p := ⟨gb392, 1, none⟩) (Kd.R_far (p := ⟨gb392, 0, none⟩) (Kd.R_types HO371.out BK392.out (by decide)) (fun _ hk => hk.2) (.slice Ao14 t381.length co14)) (fun _ hk => hk.2) (.int .i64 t384)) (fun _ hk => hk.2) (.slice Ao17 t385.length co17)) (fun _ hk => hk.2) (.slice Ao18 t388.length co18)) (fun _ h_ => h_.1))) hb); have n1_ := Aside0.mk (Kd.R_below (by (with_reducible repeat (first | apply Kd.R_alloc | apply Kd.R_drewN | apply Kd.R_drew)); exact (Kd.R_mono (Kd.R_far (p := ⟨gb392, 3, none⟩) (Kd.R_far (p := ⟨gb392, 2, none⟩) (Kd.R_far (p := ⟨gb392, 1, none⟩) (Kd.R_far (p := ⟨gb392, 0, none⟩) (Kd.R_types HO375.out BK392.out (by decide)) (fun _ hk => hk.2) (.slice Ao14 t381.length co14)) (fun _ hk => hk.2) (.int .i64 t384)) (fun _ hk => hk.2) (.slice Ao17 t385.length co17)) (fun _ hk => hk.2) (.slice Ao18 t388.length co18)) (fun _ h_ => h_.1))) hb); have n2_ := Aside0.mk (Kd.R_below (by (with_reducible repeat (first | apply Kd.R_alloc | apply Kd.R_drewN | apply Kd.R_drew)); exact (Kd.R_mono (Kd.R_far (p := ⟨gb392, 3, none⟩) (Kd.R_far (p := ⟨gb392, 2, none⟩) (Kd.R_far (p := ⟨gb392, 1, none⟩) (Kd.R_far (p := ⟨gb392, 0, none⟩) (Kd.R_types HO378.out BK392.out (by decide)) (fun _ hk => hk.2) (.slice Ao14 t381.length co14)) (fun _ hk => hk.2) (.int .i64 t384)) (fun _ hk => hk.2) (.slice Ao17 t385.length co17)) (fun _ hk => hk.2) (.slice Ao18 t388.length co18)) (fun _ h_ => h_.1))) hb); have n3_ := Aside0.mk (Kd.R_below (by (with_reducible repeat (first | apply Kd.R_alloc | apply Kd.R_drewN | apply Kd.R_drew)); exact (Kd.R_mono (Kd.R_far (p := ⟨gb392, 3, none⟩) (Kd.R_far (p := ⟨gb392, 2, none⟩) (Kd.R_far (p := ⟨gb392, 1, none⟩) (Kd.R_far (p := ⟨gb392, 0, none⟩) (Kd.R_types HO383.out BK392.out (by decide)) (fun _ hk => hk.2) (.slice Ao14 t381.length co14)) (fun _ hk => hk.2) (.int .i64 t384)) (fun _ hk => hk.2) (.slice Ao17 t385.length co17)) (fun _ hk => hk.2) (.slice Ao18 t388.length co18)) (fun _ h_ => h_.1))) hb); have n4_ := Aside0.mk (Kd.R_below (by (with_reducible repeat (first | apply Kd.R_alloc | apply Kd.R_drewN | apply Kd.R_drew)); exact (Kd.R_mono (Kd.R_far (p := ⟨gb392, 3, none⟩) (Kd.R_far (p := ⟨gb392, 2, none⟩) (Kd.R_far (p := ⟨gb392, 1, none⟩) (Kd.R_far (p := ⟨gb392, 0, none⟩) (Kd.R_types HO387.out BK392.out (by decide)) (fun _ hk => hk.2) (.slice Ao14 t381.length co14)) (fun _ hk => hk.2) (.int .i64 t384)) (fun _ hk => hk.2) (.slice Ao17 t385.length co17)) (fun _ hk => hk.2) (.slice Ao18 t388.length co18)) (fun _ h_ => h_.1))) hb); have n5_ := Aside0.mk (Kd.R_below (by (with_reducible repeat (first | apply Kd.R_alloc | apply Kd.R_drewN | apply Kd.R_drew)); exact (Kd.R_mono (Kd.R_far (p := ⟨gb392, 3, none⟩) (Kd.R_far (p := ⟨gb392, 2, none⟩) (Kd.R_far (p := ⟨gb392, 1, none⟩) (Kd.R_far (p := ⟨gb392, 0, none⟩) (Kd.R_types HO390.out BK392.out (by decide)) (fun _ hk => hk.2) (.slice Ao14 t381.length co14)) (fun _ hk => hk.2) (.int .i64 t384)) (fun _ hk => hk.2) (.slice Ao17 t385.length co17)) (fun _ hk => hk.2) (.slice Ao18 t388.length co18)) (fun _ h_ => h_.1))) hb); have n6_ := Aside0.mk (blk_below (g := gb380) (o := .cells #[.slice Ao8 t369.length co8, .int .i64 t372, .slice Ao10 t373.length co10, .slice Ao11 t376.length co11] 25 (0, 0)) (by refine blk_far ?_ NB380_392.out _; refine blk_far ?_ NB380_392.out _; refine blk_far ?_ NB380_392.out _; refine blk_far ?_ NB380_392.out _; (with_reducible repeat (first | refine blk_drewN ?_ _ | refine blk_drew ?_ | refine blk_alloc ?_ _)); exact BK380.out) hb); have n7_ := Aside0.mk (blk_below (g := gb392) (o := .cells #[.slice Ao14 t381.length co14, .int .i64 t384, .slice Ao17 t385.length co17, .slice Ao18 t388.length co18] 25 (0, 0)) (by refine blk_put (cs := #[.slice Ao14 t381.length co14, .int .i64 t384, .slice Ao17 t385.length co17, .slice none 0 0]) ?_ 3 _ rfl; refine blk_put (cs := #[.slice Ao14 t381.length co14, .int .i64 t384, .slice none 0 0, .slice none 0 0]) ?_ 2 _ rfl; refine blk_put (cs := #[.slice Ao14 t381.length co14, .int .i64 0, .slice none 0 0, .slice none 0 0]) ?_ 1 _ rfl; refine blk_put (cs := #[.slice none 0 0, .int .i64 0, .slice none 0 0, .slice none 0 0]) ?_ 0 _ rfl; (with_reducible repeat (first | refine blk_drewN ?_ _ | refine blk_drew ?_ | refine blk_alloc ?_ _)); exact BK392.out) hb); have n8_ := Aside0.mk (below_step (bw HB.out) hb); clear HO371; clear HO375; clear HO378; clear HO383; clear HO387; clear HO390; clear BK380; clear BK392; clear HB; have HO371 := n0_; have HO375 := n1_; have HO378 := n2_; have HO383 := n3_; have HO387 := n4_; have HO390 := n5_; have BK380 := n6_; have BK392 := n7_; have HB := n8_; clear n0_ n1_ n2_ n3_ n4_ n5_ n6_ n7_ n8_; (try clear hb)))
    go_meet
    case rel => exact ⟨_, ((t391 != t379)), (by first | rfl | (simp; done) | (simp [*]; done)), H', ⟨by first | omega | exact Nat.le_refl _⟩, ⟨by (with_reducible repeat (first | apply Kd.R_alloc | apply Kd.R_drewN | apply Kd.R_drew)); exact Kd.R_mono HO371.out (fun _ hk => ⟨hk.1.1, ⟨hk.1.2, hk.2⟩⟩)⟩, ⟨by (with_reducible repeat (first | apply Kd.R_alloc | apply Kd.R_drewN | apply Kd.R_drew)); exact Kd.R_mono HO375.out (fun _ hk => ⟨hk.1.1, ⟨hk.1.2, hk.2⟩⟩)⟩, ⟨by (with_reducible repeat (first | apply Kd.R_alloc | apply Kd.R_drewN | apply Kd.R_drew)); exact Kd.R_mono HO378.out (fun _ hk => hk.2)⟩, ⟨by (with_reducible repeat (first | apply Kd.R_alloc | apply Kd.R_drewN | apply Kd.R_drew)); exact Kd.R_mono HO383.out (fun _ hk => ⟨hk.1.2, ⟨hk.2, hk.1.1⟩⟩)⟩, ⟨by (with_reducible repeat (first | apply Kd.R_alloc | apply Kd.R_drewN | apply Kd.R_drew)); exact Kd.R_mono HO387.out (fun _ hk => ⟨hk.1.2, ⟨hk.2, hk.1.1⟩⟩)⟩, ⟨by (with_reducible repeat (first | apply Kd.R_alloc | apply Kd.R_drewN | apply Kd.R_drew)); exact Kd.R_mono HO390.out (fun _ hk => hk.2)⟩, ⟨bk BK380.out⟩, ⟨bk BK392.out⟩, ⟨bw HB.out⟩⟩
   ·
    replace c20 := Bool.eq_false_iff.mpr c20
    subst c20
    have H1 : (laws_FnExactTakeFunc.j0 k a0 t379 true t369 t372 t373 t376 t381 t384 t385 t388) = some r := by rw [if_neg (show ¬ (false = true) by decide)] at H; exact H
    clear H
    have H := H1
    clear H1
    have H' := Aside0.mk H
    clear H
    have hnb25 := NB392_380.out
    have hnc25 := NB380_392.out
    obtain ⟨hcz26_0, hcz26_1, hcz26_2, hcz26_3⟩ := cs4_ BK392.out
    obtain ⟨hfz26_0, hfz26_1, hfz26_2, hfz26_3⟩ := fz4_ BK392.out
    obtain ⟨hcz27_0, hcz27_1, hcz27_2, hcz27_3⟩ := cs4_ BK380.out
    obtain ⟨hfz27_0, hfz27_1, hfz27_2, hfz27_3⟩ := fz4_ BK380.out
    go_wp2_with (first | ((with_reducible refine gate_callee (f := 7) rfl ?_); refine goesL_ (some 26) rfl rfl Try.func7 (by kernel_rfl) rfl #[.agg #[.slice Ao14 t381.length co14, .int .i64 t384, .slice Ao17 t385.length co17, .slice Ao18 t388.length co18], .agg #[.slice Ao8 t369.length co8, .int .i64 t372, .slice Ao10 t373.length co10, .slice Ao11 t376.length co11]] rfl ar ?_; (with_reducible refine (laws_eqFunc.calls k _ _ t381 t384 _ _ t385 _ _ t388 _ _ t369 t372 _ _ t373 _ _ t376 false _ ?side1 ?side2 ?side3 ?side4 ?side5 ?side6 ?side7 ?side8 ?side9 ?side10 ?side11 ?side12 A19.out).mono ?_); (case side1 => refine (Kd.R_reads' (e := 3) (base := w.heap.size) (ok := fun k_ => ((some k_ ≠ (.slice Ao17 t385.length co17 : Value).ownBlock ∧ some k_ ≠ (.slice Ao8 t369.length co8 : Value).ownBlock) ∧ some k_ ≠ (.slice Ao10 t373.length co10 : Value).ownBlock)) (n := t381.length) (c := co14) ?_).2.2; exact (by (with_reducible repeat (first | apply Kd.R_alloc | apply Kd.R_drewN | apply Kd.R_drew)); exact (Kd.R_mono (Kd.R_far (p := ⟨gb392, 3, none⟩) (Kd.R_far (p := ⟨gb392, 2, none⟩) (Kd.R_far (p := ⟨gb392, 1, none⟩) (Kd.R_far (p := ⟨gb392, 0, none⟩) (Kd.R_types HO383.out BK392.out (by decide)) (fun _ hk => hk.2) (.slice Ao14 t381.length co14)) (fun _ hk => hk.2) (.int .i64 t384)) (fun _ hk => hk.2) (.slice Ao17 t385.length co17)) (fun _ hk => hk.2) (.slice Ao18 t388.length co18)) (fun _ h_ => h_.1)))); (case side2 => exact (Kd.R_reads' HO383.out).2.1); (case side3 => refine (Kd.R_reads' (e := 3) (base := w.heap.size) (ok := fun k_ => ((some k_ ≠ (.slice Ao14 t381.length co14 : Value).ownBlock ∧ some k_ ≠ (.slice Ao8 t369.length co8 : Value).ownBlock) ∧ some k_ ≠ (.slice Ao10 t373.length co10 : Value).ownBlock)) (n := t385.length) (c := co17) ?_).2.2; exact (by (with_reducible repeat (first | apply Kd.R_alloc | apply Kd.R_drewN | apply Kd.R_drew)); exact (Kd.R_mono (Kd.R_far (p := ⟨gb392, 3, none⟩) (Kd.R_far (p := ⟨gb392, 2, none⟩) (Kd.R_far (p := ⟨gb392, 1, none⟩) (Kd.R_far (p := ⟨gb392, 0, none⟩) (Kd.R_types HO387.out BK392.out (by decide)) (fun _ hk => hk.2) (.slice Ao14 t381.length co14)) (fun _ hk => hk.2) (.int .i64 t384)) (fun _ hk => hk.2) (.slice Ao17 t385.length co17)) (fun _ hk => hk.2) (.slice Ao18 t388.length co18)) (fun _ h_ => h_.1)))); (case side4 => exact (Kd.R_reads' HO387.out).2.1); (case side5 => refine (Kd.R_reads' (e := 44) (base := w.heap.size) (ok := fun k_ => (True ∧ some k_ ≠ (.slice Ao11 t376.length co11 : Value).ownBlock)) (n := t388.length) (c := co18) ?_).2.2; exact (by (with_reducible repeat (first | apply Kd.R_alloc | apply Kd.R_drewN | apply Kd.R_drew)); exact (Kd.R_mono (Kd.R_far (p := ⟨gb392, 3, none⟩) (Kd.R_far (p := ⟨gb392, 2, none⟩) (Kd.R_far (p := ⟨gb392, 1, none⟩) (Kd.R_far (p := ⟨gb392, 0, none⟩) (Kd.R_types HO390.out BK392.out (by decide)) (fun _ hk => hk.2) (.slice Ao14 t381.length co14)) (fun _ hk => hk.2) (.int .i64 t384)) (fun _ hk => hk.2) (.slice Ao17 t385.length co17)) (fun _ hk => hk.2) (.slice Ao18 t388.length co18)) (fun _ h_ => h_.1)))); (case side6 => exact (Kd.R_reads' HO390.out).2.1); (case side7 => refine (Kd.R_reads' (e := 3) (base := w.heap.size) (ok := fun k_ => ((some k_ ≠ (.slice Ao10 t373.length co10 : Value).ownBlock ∧ some k_ ≠ (.slice Ao14 t381.length co14 : Value).ownBlock) ∧ some k_ ≠ (.slice Ao17 t385.length co17 : Value).ownBlock)) (n := t369.length) (c := co8) ?_).2.2; exact (by (with_reducible repeat (first | apply Kd.R_alloc | apply Kd.R_drewN | apply Kd.R_drew)); exact (Kd.R_mono (Kd.R_far (p := ⟨gb392, 3, none⟩) (Kd.R_far (p := ⟨gb392, 2, none⟩) (Kd.R_far (p := ⟨gb392, 1, none⟩) (Kd.R_far (p := ⟨gb392, 0, none⟩) (Kd.R_types HO371.out BK392.out (by decide)) (fun _ hk => hk.2) (.slice Ao14 t381.length co14)) (fun _ hk => hk.2) (.int .i64 t384)) (fun _ hk => hk.2) (.slice Ao17 t385.length co17)) (fun _ hk => hk.2) (.slice Ao18 t388.length co18)) (fun _ h_ => h_.1)))); (case side8 => exact (Kd.R_reads' HO371.out).2.1); (case side9 => refine (Kd.R_reads' (e := 3) (base := w.heap.size) (ok := fun k_ => ((some k_ ≠ (.slice Ao8 t369.length co8 : Value).ownBlock ∧ some k_ ≠ (.slice Ao14 t381.length co14 : Value).ownBlock) ∧ some k_ ≠ (.slice Ao17 t385.length co17 : Value).ownBlock)) (n := t373.length) (c := co10) ?_).2.2; exact (by (with_reducible repeat (first | apply Kd.R_alloc | apply Kd.R_drewN | apply Kd.R_drew)); exact (Kd.R_mono (Kd.R_far (p := ⟨gb392, 3, none⟩) (Kd.R_far (p := ⟨gb392, 2, none⟩) (Kd.R_far (p := ⟨gb392, 1, none⟩) (Kd.R_far (p := ⟨gb392, 0, none⟩) (Kd.R_types HO375.out BK392.out (by decide)) (fun _ hk => hk.2) (.slice Ao14 t381.length co14)) (fun _ hk => hk.2) (.int .i64 t384)) (fun _ hk => hk.2) (.slice Ao17 t385.length co17)) (fun _ hk => hk.2) (.slice Ao18 t388.length co18)) (fun _ h_ => h_.1)))); (case side10 => exact (Kd.R_reads' HO375.out).2.1); (case side11 => refine (Kd.R_reads' (e := 44) (base := w.heap.size) (ok := fun k_ => (True ∧ some k_ ≠ (.slice Ao18 t388.length co18 : Value).ownBlock)) (n := t376.length) (c := co11) ?_).2.2; exact (by (with_reducible repeat (first | apply Kd.R_alloc | apply Kd.R_drewN | apply Kd.R_drew)); exact (Kd.R_mono (Kd.R_far (p := ⟨gb392, 3, none⟩) (Kd.R_far (p := ⟨gb392, 2, none⟩) (Kd.R_far (p := ⟨gb392, 1, none⟩) (Kd.R_far (p := ⟨gb392, 0, none⟩) (Kd.R_types HO378.out BK392.out (by decide)) (fun _ hk => hk.2) (.slice Ao14 t381.length co14)) (fun _ hk => hk.2) (.int .i64 t384)) (fun _ hk => hk.2) (.slice Ao17 t385.length co17)) (fun _ hk => hk.2) (.slice Ao18 t388.length co18)) (fun _ h_ => h_.1)))); (case side12 => exact (Kd.R_reads' HO378.out).2.1); rintro e w28 ⟨rfl, hb⟩; refine ⟨_, rfl, ?_⟩; have n0_ := Aside0.mk (Kd.R_below (by (with_reducible repeat (first | apply Kd.R_alloc | apply Kd.R_drewN | apply Kd.R_drew)); exact (Kd.R_mono (Kd.R_far (p := ⟨gb392, 3, none⟩) (Kd.R_far (p := ⟨gb392, 2, none⟩) (Kd.R_far (p := ⟨gb392, 1, none⟩) (Kd.R_far (p := ⟨gb392, 0, none⟩) (Kd.R_types HO371.out BK392.out (by decide)) (fun _ hk => hk.2) (.slice Ao14 t381.length co14)) (fun _ hk => hk.2) (.int .i64 t384)) (fun _ hk => hk.2) (.slice Ao17 t385.length co17)) (fun _ hk => hk.2) (.slice Ao18 t388.length co18)) (fun _ h_ => h_.1))) hb); have n1_ := Aside0.mk (Kd.R_below (by (with_reducible repeat (first | apply Kd.R_alloc | apply Kd.R_drewN | apply Kd.R_drew)); exact (Kd.R_mono (Kd.R_far (p := ⟨gb392, 3, none⟩) (Kd.R_far (p := ⟨gb392, 2, none⟩) (Kd.R_far (p := ⟨gb392, 1, none⟩) (Kd.R_far (p := ⟨gb392, 0, none⟩) (Kd.R_types HO375.out BK392.out (by decide)) (fun _ hk => hk.2) (.slice Ao14 t381.length co14)) (fun _ hk => hk.2) (.int .i64 t384)) (fun _ hk => hk.2) (.slice Ao17 t385.length co17)) (fun _ hk => hk.2) (.slice Ao18 t388.length co18)) (fun _ h_ => h_.1))) hb); have n2_ := Aside0.mk (Kd.R_below (by (with_reducible repeat (first | apply Kd.R_alloc | apply Kd.R_drewN | apply Kd.R_drew)); exact (Kd.R_mono (Kd.R_far (p := ⟨gb392, 3, none⟩) (Kd.R_far (p := ⟨gb392, 2, none⟩) (Kd.R_far (p := ⟨gb392, 1, none⟩) (Kd.R_far (p := ⟨gb392, 0, none⟩) (Kd.R_types HO378.out BK392.out (by decide)) (fun _ hk => hk.2) (.slice Ao14 t381.length co14)) (fun _ hk => hk.2) (.int .i64 t384)) (fun _ hk => hk.2) (.slice Ao17 t385.length co17)) (fun _ hk => hk.2) (.slice Ao18 t388.length co18)) (fun _ h_ => h_.1))) hb); have n3_ := Aside0.mk (Kd.R_below (by (with_reducible repeat (first | apply Kd.R_alloc | apply Kd.R_drewN | apply Kd.R_drew)); exact (Kd.R_mono (Kd.R_far (p := ⟨gb392, 3, none⟩) (Kd.R_far (p := ⟨gb392, 2, none⟩) (Kd.R_far (p := ⟨gb392, 1, none⟩) (Kd.R_far (p := ⟨gb392, 0, none⟩) (Kd.R_types HO383.out BK392.out (by decide)) (fun _ hk => hk.2) (.slice Ao14 t381.length co14)) (fun _ hk => hk.2) (.int .i64 t384)) (fun _ hk => hk.2) (.slice Ao17 t385.length co17)) (fun _ hk => hk.2) (.slice Ao18 t388.length co18)) (fun _ h_ => h_.1))) hb); have n4_ := Aside0.mk (Kd.R_below (by (with_reducible repeat (first | apply Kd.R_alloc | apply Kd.R_drewN | apply Kd.R_drew)); exact (Kd.R_mono (Kd.R_far (p := ⟨gb392, 3, none⟩) (Kd.R_far (p := ⟨gb392, 2, none⟩) (Kd.R_far (p := ⟨gb392, 1, none⟩) (Kd.R_far (p := ⟨gb392, 0, none⟩) (Kd.R_types HO387.out BK392.out (by decide)) (fun _ hk => hk.2) (.slice Ao14 t381.length co14)) (fun _ hk => hk.2) (.int .i64 t384)) (fun _ hk => hk.2) (.slice Ao17 t385.length co17)) (fun _ hk => hk.2) (.slice Ao18 t388.length co18)) (fun _ h_ => h_.1))) hb); have n5_ := Aside0.mk (Kd.R_below (by (with_reducible repeat (first | apply Kd.R_alloc | apply Kd.R_drewN | apply Kd.R_drew)); exact (Kd.R_mono (Kd.R_far (p := ⟨gb392, 3, none⟩) (Kd.R_far (p := ⟨gb392, 2, none⟩) (Kd.R_far (p := ⟨gb392, 1, none⟩) (Kd.R_far (p := ⟨gb392, 0, none⟩) (Kd.R_types HO390.out BK392.out (by decide)) (fun _ hk => hk.2) (.slice Ao14 t381.length co14)) (fun _ hk => hk.2) (.int .i64 t384)) (fun _ hk => hk.2) (.slice Ao17 t385.length co17)) (fun _ hk => hk.2) (.slice Ao18 t388.length co18)) (fun _ h_ => h_.1))) hb); have n6_ := Aside0.mk (blk_below (g := gb380) (o := .cells #[.slice Ao8 t369.length co8, .int .i64 t372, .slice Ao10 t373.length co10, .slice Ao11 t376.length co11] 25 (0, 0)) (by refine blk_far ?_ NB380_392.out _; refine blk_far ?_ NB380_392.out _; refine blk_far ?_ NB380_392.out _; refine blk_far ?_ NB380_392.out _; (with_reducible repeat (first | refine blk_drewN ?_ _ | refine blk_drew ?_ | refine blk_alloc ?_ _)); exact BK380.out) hb); have n7_ := Aside0.mk (blk_below (g := gb392) (o := .cells #[.slice Ao14 t381.length co14, .int .i64 t384, .slice Ao17 t385.length co17, .slice Ao18 t388.length co18] 25 (0, 0)) (by refine blk_put (cs := #[.slice Ao14 t381.length co14, .int .i64 t384, .slice Ao17 t385.length co17, .slice none 0 0]) ?_ 3 _ rfl; refine blk_put (cs := #[.slice Ao14 t381.length co14, .int .i64 t384, .slice none 0 0, .slice none 0 0]) ?_ 2 _ rfl; refine blk_put (cs := #[.slice Ao14 t381.length co14, .int .i64 0, .slice none 0 0, .slice none 0 0]) ?_ 1 _ rfl; refine blk_put (cs := #[.slice none 0 0, .int .i64 0, .slice none 0 0, .slice none 0 0]) ?_ 0 _ rfl; (with_reducible repeat (first | refine blk_drewN ?_ _ | refine blk_drew ?_ | refine blk_alloc ?_ _)); exact BK392.out) hb); have n8_ := Aside0.mk (below_step (bw HB.out) hb); clear HO371; clear HO375; clear HO378; clear HO383; clear HO387; clear HO390; clear BK380; clear BK392; clear HB; have HO371 := n0_; have HO375 := n1_; have HO378 := n2_; have HO383 := n3_; have HO387 := n4_; have HO390 := n5_; have BK380 := n6_; have BK392 := n7_; have HB := n8_; clear n0_ n1_ n2_ n3_ n4_ n5_ n6_ n7_ n8_; (try clear hb)))
    go_meet
    case rel => exact ⟨_, (true), (by first | rfl | (simp; done) | (simp [*]; done)), H', ⟨by first | omega | exact Nat.le_refl _⟩, ⟨by (with_reducible repeat (first | apply Kd.R_alloc | apply Kd.R_drewN | apply Kd.R_drew)); exact Kd.R_mono HO371.out (fun _ hk => ⟨hk.1.1, ⟨hk.1.2, hk.2⟩⟩)⟩, ⟨by (with_reducible repeat (first | apply Kd.R_alloc | apply Kd.R_drewN | apply Kd.R_drew)); exact Kd.R_mono HO375.out (fun _ hk => ⟨hk.1.1, ⟨hk.1.2, hk.2⟩⟩)⟩, ⟨by (with_reducible repeat (first | apply Kd.R_alloc | apply Kd.R_drewN | apply Kd.R_drew)); exact Kd.R_mono HO378.out (fun _ hk => hk.2)⟩, ⟨by (with_reducible repeat (first | apply Kd.R_alloc | apply Kd.R_drewN | apply Kd.R_drew)); exact Kd.R_mono HO383.out (fun _ hk => ⟨hk.1.2, ⟨hk.2, hk.1.1⟩⟩)⟩, ⟨by (with_reducible repeat (first | apply Kd.R_alloc | apply Kd.R_drewN | apply Kd.R_drew)); exact Kd.R_mono HO387.out (fun _ hk => ⟨hk.1.2, ⟨hk.2, hk.1.1⟩⟩)⟩, ⟨by (with_reducible repeat (first | apply Kd.R_alloc | apply Kd.R_drewN | apply Kd.R_drew)); exact Kd.R_mono HO390.out (fun _ hk => hk.2)⟩, ⟨bk BK380.out⟩, ⟨bk BK392.out⟩, ⟨bw HB.out⟩⟩
  case rest =>
   clear HC5
   try clear c2
   try clear c2b0
   try clear c2b1
   try clear hcz16_0 hcz16_1 hcz16_2 hcz16_3
   try clear hcz9_0 hcz9_1 hcz9_2 hcz9_3
   try clear hfz16_0 hfz16_1 hfz16_2 hfz16_3
   try clear hfz9_0 hfz9_1 hfz9_2 hfz9_3
   obtain ⟨kq, x32_4, rfl, HA, HJ4, HO_381000, HO_381002, HO_381003, HO_393000, HO_393002, HO_393003, BK380, BK392, HB⟩ := hcut
   cases kq with
   | zero => exact absurd HA.out (by simp [laws_FnExactTakeFunc.j0])
   | succ kj4 =>
    have H := HA.out
    clear HA
    simp only [laws_FnExactTakeFunc.j0] at H
    by_cases c29 : x32_4 = true
    ·
     subst c29
     have H1 : (some false) = some r := by rw [if_pos rfl] at H; exact H
     clear H
     have H := H1
     clear H1
     obtain rfl := Option.some.inj H
     exact absurd HT.out (by decide)
    ·
     replace c29 := Bool.eq_false_iff.mpr c29
     subst c29
     have H1 : ((laws_markFunc.f kj4 t381 t384 t385 t388 1).bind fun bt394 => ((laws_heldFunc.f kj4 bt394.2.1 t384 bt394.2.2.1 bt394.2.2.2 1).bind fun t398 => (if t398 < 0 then (some false) else (if t398 = bt394.1 then ((impl_TakeFunc.f kj4 a0).bind fun bt399 => ((laws_eqFunc.f kj4 bt399.1 bt399.2.1 bt399.2.2.1 bt399.2.2.2.1 t369 t372 t373 t376).bind fun t411 => (if t411 = true then (laws_FnExactTakeFunc.j1 kj4 bt394.1 (bt399.2.2.2.2 != t379) bt394.2.1 t384 bt394.2.2.1 bt394.2.2.2) else (laws_FnExactTakeFunc.j1 kj4 bt394.1 true bt394.2.1 t384 bt394.2.2.1 bt394.2.2.2)))) else (some false))))) = some r := by rw [if_neg (show ¬ (false = true) by decide)] at H; exact H
     clear H
     have H := H1
     clear H1
     replace H := Option.bind_eq_some_iff.mp H
     obtain ⟨⟨t394, t395, t396, t397⟩, A300, H⟩ := H
     replace H : ((laws_heldFunc.f kj4 t395 t384 t396 t397 1).bind fun t398 => (if t398 < 0 then (some false) else (if t398 = t394 then ((impl_TakeFunc.f kj4 a0).bind fun bt399 => ((laws_eqFunc.f kj4 bt399.1 bt399.2.1 bt399.2.2.1 bt399.2.2.2.1 t369 t372 t373 t376).bind fun t411 => (if t411 = true then (laws_FnExactTakeFunc.j1 kj4 t394 (bt399.2.2.2.2 != t379) t395 t384 t396 t397) else (laws_FnExactTakeFunc.j1 kj4 t394 true t395 t384 t396 t397)))) else (some false)))) = some r := H
     have A30 := Aside0.mk A300
     clear A300
     replace H := Option.bind_eq_some_iff.mp H
     obtain ⟨t398, A310, H⟩ := H
     replace H : (if t398 < 0 then (some false) else (if t398 = t394 then ((impl_TakeFunc.f kj4 a0).bind fun bt399 => ((laws_eqFunc.f kj4 bt399.1 bt399.2.1 bt399.2.2.1 bt399.2.2.2.1 t369 t372 t373 t376).bind fun t411 => (if t411 = true then (laws_FnExactTakeFunc.j1 kj4 t394 (bt399.2.2.2.2 != t379) t395 t384 t396 t397) else (laws_FnExactTakeFunc.j1 kj4 t394 true t395 t384 t396 t397)))) else (some false))) = some r := H
     have A31 := Aside0.mk A310
     clear A310
     by_cases c32 : t398 < 0
     ·
      rw [if_pos c32] at H
      have c32b0 : decide (t398 < 0) = true := decide_eq_true c32
      clear c32
      obtain rfl := Option.some.inj H
      exact absurd HT.out (by decide)
     ·
      rw [if_neg c32] at H
      have c32b0 : decide (t398 < 0) = false := decide_eq_false c32
      clear c32
      by_cases c33 : t398 = t394
      ·
       rw [if_pos c33] at H
       have c33b0 : (t398 == t394) = true := beq_iff_eq.mpr c33
       have c33b1 : (t398 != t394) = false := bne_eq_false_iff_eq.mpr c33
       clear c33
       replace H := Option.bind_eq_some_iff.mp H
       obtain ⟨⟨t399, t402, t403, t406, t409⟩, A340, H⟩ := H
       replace H : ((laws_eqFunc.f kj4 t399 t402 t403 t406 t369 t372 t373 t376).bind fun t411 => (if t411 = true then (laws_FnExactTakeFunc.j1 kj4 t394 (t409 != t379) t395 t384 t396 t397) else (laws_FnExactTakeFunc.j1 kj4 t394 true t395 t384 t396 t397))) = some r := H
       have A34 := Aside0.mk A340
       clear A340
       have HC35 := Aside0.mk H
       clear H
       have hnb36 := NB392_380.out
       have hnc36 := NB380_392.out
       obtain ⟨hcz37_0, hcz37_1, hcz37_2, hcz37_3⟩ := cs4_ BK392.out
       obtain ⟨hfz37_0, hfz37_1, hfz37_2, hfz37_3⟩ := fz4_ BK392.out
       go_upto_region 16 with (first | ((with_reducible refine gate_callee (f := 8) rfl ?_); refine goesL_ (some 35) rfl rfl Try.func8 (by kernel_rfl) rfl #[.agg #[.slice Ao14 t381.length co14, .int .i64 t384, .slice Ao17 t385.length co17, .slice Ao18 t388.length co18], .int .i64 1] rfl ar ?_; (with_reducible refine (laws_markFunc.calls kj4 (fun k_ => some k_ = (.slice Ao14 t381.length co14 : Value).ownBlock) (.slice Ao14 t381.length co14) t381 t384 (fun k_ => some k_ = (.slice Ao17 t385.length co17 : Value).ownBlock) (.slice Ao17 t385.length co17) t385 (fun k_ => some k_ = (.slice Ao18 t388.length co18 : Value).ownBlock) (.slice Ao18 t388.length co18) t388 1 t394 t395 t396 t397 w _ ?side1 ?side2 ?side3 ?side4 ?side5 ?side6 A30.out).mono ?_); (case side1 => repeat (first | (with_reducible first | exact HB.out | apply below_alloc | apply pw_below_drewN | apply below_drew1 | refine below_set ?_ GE380.out | refine below_set ?_ GE392.out) | exact HB.out)); (case side2 => exact Kd.R_tight rfl HO_393000.out); (case side3 => exact fun k_ e_ => (HO_393000.out.1 k_ e_.symm).2.2); (case side4 => exact Kd.R_tight rfl HO_393002.out); (case side5 => exact fun k_ e_ => (HO_393002.out.1 k_ e_.symm).2.2); (case side6 => exact Kd.R_tight rfl HO_393003.out); rintro e w38 ⟨rfl, hy0, hy1, hy2, hb, hkp⟩; refine ⟨_, rfl, ?_⟩; have n0_ := Aside0.mk (Kd.R_mono (ok' := fun k_ => some k_ ≠ (.slice Ao10 t373.length co10 : Value).ownBlock ∧ some k_ ≠ (.slice Ao14 t381.length co14 : Value).ownBlock ∧ some k_ ≠ (.slice Ao17 t385.length co17 : Value).ownBlock) (Kd.R_keptB ((Kd.R_apart' HO_381000.out (Kd.R_typed HO_393003.out) (by decide))) hkp (fun k_ hk_ hs_ => Or.elim hs_ (fun e_ => (hk_.1.2.1) e_) (fun e_ => Or.elim e_ (fun e_ => (hk_.1.2.2) e_) (fun e_ => (hk_.2) e_)))) (fun k_ hk_ => ⟨hk_.1.1.1, hk_.1.1.2.1, hk_.1.1.2.2⟩)); have n1_ := Aside0.mk (Kd.R_mono (ok' := fun k_ => some k_ ≠ (.slice Ao8 t369.length co8 : Value).ownBlock ∧ some k_ ≠ (.slice Ao14 t381.length co14 : Value).ownBlock ∧ some k_ ≠ (.slice Ao17 t385.length co17 : Value).ownBlock) (Kd.R_keptB ((Kd.R_apart' HO_381002.out (Kd.R_typed HO_393003.out) (by decide))) hkp (fun k_ hk_ hs_ => Or.elim hs_ (fun e_ => (hk_.1.2.1) e_) (fun e_ => Or.elim e_ (fun e_ => (hk_.1.2.2) e_) (fun e_ => (hk_.2) e_)))) (fun k_ hk_ => ⟨hk_.1.1.1, hk_.1.1.2.1, hk_.1.1.2.2⟩)); have n2_ := Aside0.mk (Kd.R_mono (ok' := fun k_ => some k_ ≠ (.slice Ao18 t388.length co18 : Value).ownBlock) (Kd.R_keptB ((Kd.R_apart' (Kd.R_apart' HO_381003.out (Kd.R_typed HO_393000.out) (by decide)) (Kd.R_typed HO_393002.out) (by decide))) hkp (fun k_ hk_ hs_ => Or.elim hs_ (fun e_ => (hk_.1.2) e_) (fun e_ => Or.elim e_ (fun e_ => (hk_.2) e_) (fun e_ => (hk_.1.1) e_)))) (fun k_ hk_ => hk_.1.1.1)); have n3_ := Aside0.mk (Kd.R_reok rfl hy0 (fun k_ e_ => HO_393000.out.1 k_ e_)); have n4_ := Aside0.mk (Kd.R_reok rfl hy1 (fun k_ e_ => HO_393002.out.1 k_ e_)); have n5_ := Aside0.mk (Kd.R_reok rfl hy2 (fun k_ e_ => HO_393003.out.1 k_ e_)); have n6_ := Aside0.mk (blk_kept (bk BK380.out) hkp (fun hs_ => Or.elim hs_ (fun e_ => (fun e_ => (Kd.R_ne HO_393000.out BK380.out (by decide)) e_) e_) (fun e_ => Or.elim e_ (fun e_ => (fun e_ => (Kd.R_ne HO_393002.out BK380.out (by decide)) e_) e_) (fun e_ => (fun e_ => (Kd.R_ne HO_393003.out BK380.out (by decide)) e_) e_)))); have n7_ := Aside0.mk (blk_kept (bk BK392.out) hkp (fun hs_ => Or.elim hs_ (fun e_ => (fun e_ => (Kd.R_ne HO_393000.out BK392.out (by decide)) e_) e_) (fun e_ => Or.elim e_ (fun e_ => (fun e_ => (Kd.R_ne HO_393002.out BK392.out (by decide)) e_) e_) (fun e_ => (fun e_ => (Kd.R_ne HO_393003.out BK392.out (by decide)) e_) e_)))); have n8_ := Aside0.mk (hb); clear HO_381000; clear HO_381002; clear HO_381003; clear HO_393000; clear HO_393002; clear HO_393003; clear BK380; clear BK392; clear HB; have HO_381000 := n0_; have HO_381002 := n1_; have HO_381003 := n2_; have HO_393000 := n3_; have HO_393002 := n4_; have HO_393003 := n5_; have BK380 := n6_; have BK392 := n7_; have HB := n8_; clear n0_ n1_ n2_ n3_ n4_ n5_ n6_ n7_ n8_; (try clear hb); (try clear hkp); (try clear hy0); (try clear hy1); (try clear hy2); obtain ⟨hcz39_0, hcz39_1, hcz39_2, hcz39_3⟩ := cs4_ BK392.out; obtain ⟨hfz39_0, hfz39_1, hfz39_2, hfz39_3⟩ := fz4_ BK392.out) | ((with_reducible refine gate_callee (f := 9) rfl ?_); refine goesL_ (some 38) rfl rfl Try.func9 (by kernel_rfl) rfl #[.agg #[.slice Ao14 t395.length co14, .int .i64 t384, .slice Ao17 t396.length co17, .slice Ao18 t397.length co18], .int .i64 1] rfl (by (try simp only [List.map_toArray, List.map_cons, List.map_nil]); first | done | (rw [show t395.length = t381.length from (Kd.R_reads' HO_393000.out).1.symm, show t396.length = t385.length from (Kd.R_reads' HO_393002.out).1.symm, show t397.length = t388.length from (Kd.R_reads' HO_393003.out).1.symm] <;> rfl) | rfl | (simp only [List.length_drop, List.length_take]; rfl)) ?_; (with_reducible refine (laws_heldFunc.calls kj4 _ _ t395 t384 _ _ t396 _ _ t397 1 t398 _ ?side1 ?side2 ?side3 ?side4 ?side5 ?side6 A31.out).mono ?_); (case side1 => repeat (first | exact (Kd.R_reads' HO_393000.out).2.2 | (with_reducible refine Kd.C_alloc ?_ _) | (with_reducible refine Kd.C_drewN ?_ _) | (with_reducible refine Kd.C_drew ?_))); (case side2 => rw [show t395.length = t381.length from (Kd.R_reads' HO_393000.out).1.symm]; exact (Kd.R_reads' HO_393000.out).2.1); (case side3 => repeat (first | exact (Kd.R_reads' HO_393002.out).2.2 | (with_reducible refine Kd.C_alloc ?_ _) | (with_reducible refine Kd.C_drewN ?_ _) | (with_reducible refine Kd.C_drew ?_))); (case side4 => rw [show t396.length = t385.length from (Kd.R_reads' HO_393002.out).1.symm]; exact (Kd.R_reads' HO_393002.out).2.1); (case side5 => repeat (first | exact (Kd.R_reads' HO_393003.out).2.2 | (with_reducible refine Kd.C_alloc ?_ _) | (with_reducible refine Kd.C_drewN ?_ _) | (with_reducible refine Kd.C_drew ?_))); (case side6 => rw [show t397.length = t388.length from (Kd.R_reads' HO_393003.out).1.symm]; exact (Kd.R_reads' HO_393003.out).2.1); rintro e w40 ⟨rfl, hb⟩; refine ⟨_, rfl, ?_⟩; have n0_ := Aside0.mk (Kd.R_below (kr_ HO_381000.out) hb); have n1_ := Aside0.mk (Kd.R_below (kr_ HO_381002.out) hb); have n2_ := Aside0.mk (Kd.R_below (kr_ HO_381003.out) hb); have n3_ := Aside0.mk (Kd.R_below (kr_ HO_393000.out) hb); have n4_ := Aside0.mk (Kd.R_below (kr_ HO_393002.out) hb); have n5_ := Aside0.mk (Kd.R_below (kr_ HO_393003.out) hb); have n6_ := Aside0.mk (blk_below (g := gb380) (o := .cells #[.slice Ao8 t369.length co8, .int .i64 t372, .slice Ao10 t373.length co10, .slice Ao11 t376.length co11] 25 (0, 0)) (bk BK380.out) hb); have n7_ := Aside0.mk (blk_below (g := gb392) (o := .cells #[.slice Ao14 t381.length co14, .int .i64 t384, .slice Ao17 t385.length co17, .slice Ao18 t388.length co18] 25 (0, 0)) (bk BK392.out) hb); have n8_ := Aside0.mk (below_step (bw HB.out) hb); clear HO_381000; clear HO_381002; clear HO_381003; clear HO_393000; clear HO_393002; clear HO_393003; clear BK380; clear BK392; clear HB; have HO_381000 := n0_; have HO_381002 := n1_; have HO_381003 := n2_; have HO_393000 := n3_; have HO_393002 := n4_; have HO_393003 := n5_; have BK380 := n6_; have BK392 := n7_; have HB := n8_; clear n0_ n1_ n2_ n3_ n4_ n5_ n6_ n7_ n8_; (try clear hb)) | ((with_reducible refine gate_callee (f := 6) rfl ?_); refine goesL_ (some 46) rfl rfl Try.func6 (by kernel_rfl) rfl #[.string a0] rfl ar ?_; (with_reducible refine (impl_TakeFunc.calls kj4 a0 t399 t402 t403 t406 t409 _ A34.out).mono ?_); rintro e w41 ⟨v400, v404, v407, rfl, ho0, ho1, ho2, hb⟩; refine ⟨_, rfl, ?_⟩; have n0_ := Aside0.mk (Kd.R_mono (Kd.R_told (Kd.R_told (Kd.R_old (kr_ HO_381000.out) hb) (Kd.R_base ho0)) (Kd.R_base ho1)) (fun _ h_ => h_.1)); have n1_ := Aside0.mk (Kd.R_mono (Kd.R_told (Kd.R_told (Kd.R_old (kr_ HO_381002.out) hb) (Kd.R_base ho0)) (Kd.R_base ho1)) (fun _ h_ => h_.1)); have n2_ := Aside0.mk (Kd.R_elder' (kr_ HO_381003.out) (Kd.R_base ho2) hb); have n3_ := Aside0.mk (Kd.R_mono (Kd.R_told (Kd.R_told (Kd.R_old (kr_ HO_393000.out) hb) (Kd.R_base ho0)) (Kd.R_base ho1)) (fun _ h_ => h_.1)); have n4_ := Aside0.mk (Kd.R_mono (Kd.R_told (Kd.R_told (Kd.R_old (kr_ HO_393002.out) hb) (Kd.R_base ho0)) (Kd.R_base ho1)) (fun _ h_ => h_.1)); have n5_ := Aside0.mk (Kd.R_elder' (kr_ HO_393003.out) (Kd.R_base ho2) hb); have n6_ := Aside0.mk (Kd.R_lower (Kd.R_new' (Kd.R_new' (Kd.R_new' (Kd.R_new' ho0 (Kd.R_lt (kr_ HO_381000.out))) (Kd.R_lt (kr_ HO_381002.out))) (Kd.R_lt (kr_ HO_393000.out))) (Kd.R_lt (kr_ HO_393002.out))) (below_size (bw HB.out))); have n7_ := Aside0.mk (Kd.R_lower (Kd.R_new' (Kd.R_new' (Kd.R_new' (Kd.R_new' ho1 (Kd.R_lt (kr_ HO_381000.out))) (Kd.R_lt (kr_ HO_381002.out))) (Kd.R_lt (kr_ HO_393000.out))) (Kd.R_lt (kr_ HO_393002.out))) (below_size (bw HB.out))); have n8_ := Aside0.mk (Kd.R_lower (Kd.R_new' (Kd.R_new' ho2 (Kd.R_lt (kr_ HO_381003.out))) (Kd.R_lt (kr_ HO_393003.out))) (below_size (bw HB.out))); have n9_ := Aside0.mk (blk_below (g := gb380) (o := .cells #[.slice Ao8 t369.length co8, .int .i64 t372, .slice Ao10 t373.length co10, .slice Ao11 t376.length co11] 25 (0, 0)) (bk BK380.out) hb); have n10_ := Aside0.mk (blk_below (g := gb392) (o := .cells #[.slice Ao14 t381.length co14, .int .i64 t384, .slice Ao17 t385.length co17, .slice Ao18 t388.length co18] 25 (0, 0)) (bk BK392.out) hb); have n11_ := Aside0.mk (below_step (bw HB.out) hb); clear HO_381000; clear HO_381002; clear HO_381003; clear HO_393000; clear HO_393002; clear HO_393003; clear BK380; clear BK392; clear HB; have HO_381000 := n0_; have HO_381002 := n1_; have HO_381003 := n2_; have HO_393000 := n3_; have HO_393002 := n4_; have HO_393003 := n5_; have HO401 := n6_; have HO405 := n7_; have HO408 := n8_; have BK380 := n9_; have BK392 := n10_; have HB := n11_; clear n0_ n1_ n2_ n3_ n4_ n5_ n6_ n7_ n8_ n9_ n10_ n11_; (try clear hb); (try clear hb2); (try clear hk); (try clear hi); (try clear ho0); (try clear ho1); (try clear ho2)) | ((with_reducible refine gate_dst (N := 9) rfl ?_); refine box_event ?hg (N := 9) ?hd (cs := #[.slice none 0 0, .int .i64 0, .slice none 0 0, .slice none 0 0]) (t := 25) ?hr ?_; (case hd => rfl); (case hg => rfl); (case hr => first | (go_simp; done) | (go_simp; rfl)); intro gb410 hg w42 hbox hb; have n0_ := Aside0.mk (Kd.R_below (kr_ HO_381000.out) hb); have n1_ := Aside0.mk (Kd.R_below (kr_ HO_381002.out) hb); have n2_ := Aside0.mk (Kd.R_below (kr_ HO_381003.out) hb); have n3_ := Aside0.mk (Kd.R_below (kr_ HO_393000.out) hb); have n4_ := Aside0.mk (Kd.R_below (kr_ HO_393002.out) hb); have n5_ := Aside0.mk (Kd.R_below (kr_ HO_393003.out) hb); have n6_ := Aside0.mk (Kd.R_below (kr_ HO401.out) hb); have n7_ := Aside0.mk (Kd.R_below (kr_ HO405.out) hb); have n8_ := Aside0.mk (Kd.R_below (kr_ HO408.out) hb); have n9_ := Aside0.mk (blk_below (g := gb380) (o := .cells #[.slice Ao8 t369.length co8, .int .i64 t372, .slice Ao10 t373.length co10, .slice Ao11 t376.length co11] 25 (0, 0)) (bk BK380.out) hb); have n10_ := Aside0.mk (blk_below (g := gb392) (o := .cells #[.slice Ao14 t381.length co14, .int .i64 t384, .slice Ao17 t385.length co17, .slice Ao18 t388.length co18] 25 (0, 0)) (bk BK392.out) hb); have n11_ := Aside0.mk (below_step (bw HB.out) hb); have n12_ := Aside0.mk (hbox); have n13_ := Aside0.mk ((sz_ hg (bw HB.out) : w.heap.size ≤ gb410)); have n14_ := Aside0.mk ((sz_ hg (bw HB.out) : w.heap.size ≤ gb410)); have n15_ := Aside0.mk ((by rw [hg]; exact Nat.ne_of_lt (blk_lt (g := gb380) (o := .cells #[.slice Ao8 t369.length co8, .int .i64 t372, .slice Ao10 t373.length co10, .slice Ao11 t376.length co11] 25 (0, 0)) (bk BK380.out)) : gb380 ≠ gb410)); have n16_ := Aside0.mk ((by rw [hg]; exact Nat.ne_of_gt (blk_lt (g := gb380) (o := .cells #[.slice Ao8 t369.length co8, .int .i64 t372, .slice Ao10 t373.length co10, .slice Ao11 t376.length co11] 25 (0, 0)) (bk BK380.out)) : gb410 ≠ gb380)); have n17_ := Aside0.mk ((by rw [hg]; exact Nat.ne_of_lt (blk_lt (g := gb392) (o := .cells #[.slice Ao14 t381.length co14, .int .i64 t384, .slice Ao17 t385.length co17, .slice Ao18 t388.length co18] 25 (0, 0)) (bk BK392.out)) : gb392 ≠ gb410)); have n18_ := Aside0.mk ((by rw [hg]; exact Nat.ne_of_gt (blk_lt (g := gb392) (o := .cells #[.slice Ao14 t381.length co14, .int .i64 t384, .slice Ao17 t385.length co17, .slice Ao18 t388.length co18] 25 (0, 0)) (bk BK392.out)) : gb410 ≠ gb392)); clear HO_381000; clear HO_381002; clear HO_381003; clear HO_393000; clear HO_393002; clear HO_393003; clear HO401; clear HO405; clear HO408; clear BK380; clear BK392; clear HB; have HO_381000 := n0_; have HO_381002 := n1_; have HO_381003 := n2_; have HO_393000 := n3_; have HO_393002 := n4_; have HO_393003 := n5_; have HO401 := n6_; have HO405 := n7_; have HO408 := n8_; have BK380 := n9_; have BK392 := n10_; have HB := n11_; have BK410 := n12_; have GW410 := n13_; have GE410 := n14_; have NB380_410 := n15_; have NB410_380 := n16_; have NB392_410 := n17_; have NB410_392 := n18_; clear n0_ n1_ n2_ n3_ n4_ n5_ n6_ n7_ n8_ n9_ n10_ n11_ n12_ n13_ n14_ n15_ n16_ n17_ n18_; clear hb hbox hg; obtain ⟨Ao43, co43, eo43⟩ := Kd.R_slice HO401.out; subst eo43; have hnb44 := NB410_380.out; have hnc44 := NB380_410.out; have hnb45 := NB410_392.out; have hnc45 := NB392_410.out; obtain ⟨hcz46_0, hcz46_1, hcz46_2, hcz46_3⟩ := cs4_ BK410.out; obtain ⟨hfz46_0, hfz46_1, hfz46_2, hfz46_3⟩ := fz4_ BK410.out; obtain ⟨Ao47, co47, eo47⟩ := Kd.R_slice HO405.out; subst eo47; obtain ⟨Ao48, co48, eo48⟩ := Kd.R_slice HO408.out; subst eo48))
       (try simp only [Act.put, List.setIfInBounds_toArray, List.set_cons_zero, List.set_cons_succ])
       go_cut [57] (fun v57 wc => ∃ (kq : Nat) (x57_34 : Bool), v57 = .bool x57_34 ∧ Aside0 (laws_FnExactTakeFunc.j1 kq t394 x57_34 t395 t384 t396 t397 = some r) ∧ Aside0 (kq ≤ kj4) ∧ Aside0 (Kd.R (Kd.int .i64) 3 wc w.heap.size (fun k_ => some k_ ≠ ((.slice Ao10 t373.length co10) : Value).ownBlock ∧ some k_ ≠ ((.slice Ao14 t381.length co14) : Value).ownBlock ∧ some k_ ≠ ((.slice Ao17 t385.length co17) : Value).ownBlock ∧ some k_ ≠ ((.slice Ao43 t399.length co43) : Value).ownBlock ∧ some k_ ≠ ((.slice Ao47 t403.length co47) : Value).ownBlock) (.slice Ao8 t369.length co8) t369) ∧ Aside0 (Kd.R (Kd.int .i64) 3 wc w.heap.size (fun k_ => some k_ ≠ ((.slice Ao8 t369.length co8) : Value).ownBlock ∧ some k_ ≠ ((.slice Ao14 t381.length co14) : Value).ownBlock ∧ some k_ ≠ ((.slice Ao17 t385.length co17) : Value).ownBlock ∧ some k_ ≠ ((.slice Ao43 t399.length co43) : Value).ownBlock ∧ some k_ ≠ ((.slice Ao47 t403.length co47) : Value).ownBlock) (.slice Ao10 t373.length co10) t373) ∧ Aside0 (Kd.R k44 44 wc w.heap.size (fun k_ => some k_ ≠ ((.slice Ao18 t388.length co18) : Value).ownBlock ∧ some k_ ≠ ((.slice Ao48 t406.length co48) : Value).ownBlock) (.slice Ao11 t376.length co11) t376) ∧ Aside0 (Kd.R (Kd.int .i64) 3 wc w.heap.size (fun k_ => some k_ ≠ ((.slice Ao8 t369.length co8) : Value).ownBlock ∧ some k_ ≠ ((.slice Ao10 t373.length co10) : Value).ownBlock ∧ some k_ ≠ ((.slice Ao17 t385.length co17) : Value).ownBlock ∧ some k_ ≠ ((.slice Ao43 t399.length co43) : Value).ownBlock ∧ some k_ ≠ ((.slice Ao47 t403.length co47) : Value).ownBlock) (.slice Ao14 t381.length co14) t395) ∧ Aside0 (Kd.R (Kd.int .i64) 3 wc w.heap.size (fun k_ => some k_ ≠ ((.slice Ao8 t369.length co8) : Value).ownBlock ∧ some k_ ≠ ((.slice Ao10 t373.length co10) : Value).ownBlock ∧ some k_ ≠ ((.slice Ao14 t381.length co14) : Value).ownBlock ∧ some k_ ≠ ((.slice Ao43 t399.length co43) : Value).ownBlock ∧ some k_ ≠ ((.slice Ao47 t403.length co47) : Value).ownBlock) (.slice Ao17 t385.length co17) t396) ∧ Aside0 (Kd.R k44 44 wc w.heap.size (fun k_ => some k_ ≠ ((.slice Ao11 t376.length co11) : Value).ownBlock ∧ some k_ ≠ ((.slice Ao48 t406.length co48) : Value).ownBlock) (.slice Ao18 t388.length co18) t397) ∧ Aside0 (Kd.R (Kd.int .i64) 3 wc w.heap.size (fun k_ => some k_ ≠ ((.slice Ao8 t369.length co8) : Value).ownBlock ∧ some k_ ≠ ((.slice Ao10 t373.length co10) : Value).ownBlock ∧ some k_ ≠ ((.slice Ao14 t381.length co14) : Value).ownBlock ∧ some k_ ≠ ((.slice Ao17 t385.length co17) : Value).ownBlock ∧ some k_ ≠ ((.slice Ao47 t403.length co47) : Value).ownBlock) (.slice Ao43 t399.length co43) t399) ∧ Aside0 (Kd.R (Kd.int .i64) 3 wc w.heap.size (fun k_ => some k_ ≠ ((.slice Ao8 t369.length co8) : Value).ownBlock ∧ some k_ ≠ ((.slice Ao10 t373.length co10) : Value).ownBlock ∧ some k_ ≠ ((.slice Ao14 t381.length co14) : Value).ownBlock ∧ some k_ ≠ ((.slice Ao17 t385.length co17) : Value).ownBlock ∧ some k_ ≠ ((.slice Ao43 t399.length co43) : Value).ownBlock) (.slice Ao47 t403.length co47) t403) ∧ Aside0 (Kd.R k44 44 wc w.heap.size (fun k_ => some k_ ≠ ((.slice Ao11 t376.length co11) : Value).ownBlock ∧ some k_ ≠ ((.slice Ao18 t388.length co18) : Value).ownBlock) (.slice Ao48 t406.length co48) t406) ∧ Aside0 (wc.heap[gb380]? = some (.cells #[(.slice Ao8 t369.length co8), .int .i64 t372, (.slice Ao10 t373.length co10), (.slice Ao11 t376.length co11)] 25 (0, 0))) ∧ Aside0 (wc.heap[gb392]? = some (.cells #[(.slice Ao14 t381.length co14), .int .i64 t384, (.slice Ao17 t385.length co17), (.slice Ao18 t388.length co18)] 25 (0, 0))) ∧ Aside0 (wc.heap[gb410]? = some (.cells #[(.slice Ao43 t399.length co43), .int .i64 t402, (.slice Ao47 t403.length co47), (.slice Ao48 t406.length co48)] 25 (0, 0))) ∧ Aside0 (Below w.heap.size w wc))
       case first =>
        have H := HC35.out
        clear HC35
        replace H := Option.bind_eq_some_iff.mp H
        obtain ⟨t411, A490, H⟩ := H
        replace H : (if t411 = true then (laws_FnExactTakeFunc.j1 kj4 t394 (t409 != t379) t395 t384 t396 t397) else (laws_FnExactTakeFunc.j1 kj4 t394 true t395 t384 t396 t397)) = some r := H
        have A49 := Aside0.mk A490
        clear A490
        by_cases c50 : t411 = true
        ·
         subst c50
         have H1 : (laws_FnExactTakeFunc.j1 kj4 t394 (t409 != t379) t395 t384 t396 t397) = some r := by rw [if_pos rfl] at H; exact H
         clear H
         have H := H1
         clear H1
         have H' := Aside0.mk H
         clear H
         have hnb51 := NB410_380.out
         have hnc51 := NB380_410.out
         have hnb52 := NB410_392.out
         have hnc52 := NB392_410.out
         obtain ⟨hcz53_0, hcz53_1, hcz53_2, hcz53_3⟩ := cs4_ BK410.out
         obtain ⟨hfz53_0, hfz53_1, hfz53_2, hfz53_3⟩ := fz4_ BK410.out
         have hnb54 := NB380_392.out
         have hnc54 := NB392_380.out
         obtain ⟨hcz55_0, hcz55_1, hcz55_2, hcz55_3⟩ := cs4_ BK380.out
         obtain ⟨hfz55_0, hfz55_1, hfz55_2, hfz55_3⟩ := fz4_ BK380.out
         go_wp2_with (first | ((with_reducible refine gate_callee (f := 7) rfl ?_); refine goesL_ (some 51) rfl rfl Try.func7 (by kernel_rfl) rfl #[.agg #[.slice Ao43 t399.length co43, .int .i64 t402, .slice Ao47 t403.length co47, .slice Ao48 t406.length co48], .agg #[.slice Ao8 t369.length co8, .int .i64 t372, .slice Ao10 t373.length co10, .slice Ao11 t376.length co11]] rfl ar ?_; (with_reducible refine (laws_eqFunc.calls kj4 _ _ t399 t402 _ _ t403 _ _ t406 _ _ t369 t372 _ _ t373 _ _ t376 true _ ?side1 ?side2 ?side3 ?side4 ?side5 ?side6 ?side7 ?side8 ?side9 ?side10 ?side11 ?side12 A49.out).mono ?_); (case side1 => refine (Kd.R_reads' (e := 3) (base := w.heap.size) (ok := fun k_ => ((((some k_ ≠ (.slice Ao47 t403.length co47 : Value).ownBlock ∧ some k_ ≠ (.slice Ao8 t369.length co8 : Value).ownBlock) ∧ some k_ ≠ (.slice Ao10 t373.length co10 : Value).ownBlock) ∧ some k_ ≠ (.slice Ao14 t381.length co14 : Value).ownBlock) ∧ some k_ ≠ (.slice Ao17 t385.length co17 : Value).ownBlock)) (n := t399.length) (c := co43) ?_).2.2; exact (by (with_reducible repeat (first | apply Kd.R_alloc | apply Kd.R_drewN | apply Kd.R_drew)); exact (Kd.R_mono (Kd.R_far (p := ⟨gb410, 3, none⟩) (Kd.R_far (p := ⟨gb410, 2, none⟩) (Kd.R_far (p := ⟨gb410, 1, none⟩) (Kd.R_far (p := ⟨gb410, 0, none⟩) (Kd.R_types HO401.out BK410.out (by decide)) (fun _ hk => hk.2) (.slice Ao43 t399.length co43)) (fun _ hk => hk.2) (.int .i64 t402)) (fun _ hk => hk.2) (.slice Ao47 t403.length co47)) (fun _ hk => hk.2) (.slice Ao48 t406.length co48)) (fun _ h_ => h_.1)))); (case side2 => exact (Kd.R_reads' HO401.out).2.1); (case side3 => refine (Kd.R_reads' (e := 3) (base := w.heap.size) (ok := fun k_ => ((((some k_ ≠ (.slice Ao43 t399.length co43 : Value).ownBlock ∧ some k_ ≠ (.slice Ao8 t369.length co8 : Value).ownBlock) ∧ some k_ ≠ (.slice Ao10 t373.length co10 : Value).ownBlock) ∧ some k_ ≠ (.slice Ao14 t381.length co14 : Value).ownBlock) ∧ some k_ ≠ (.slice Ao17 t385.length co17 : Value).ownBlock)) (n := t403.length) (c := co47) ?_).2.2; exact (by (with_reducible repeat (first | apply Kd.R_alloc | apply Kd.R_drewN | apply Kd.R_drew)); exact (Kd.R_mono (Kd.R_far (p := ⟨gb410, 3, none⟩) (Kd.R_far (p := ⟨gb410, 2, none⟩) (Kd.R_far (p := ⟨gb410, 1, none⟩) (Kd.R_far (p := ⟨gb410, 0, none⟩) (Kd.R_types HO405.out BK410.out (by decide)) (fun _ hk => hk.2) (.slice Ao43 t399.length co43)) (fun _ hk => hk.2) (.int .i64 t402)) (fun _ hk => hk.2) (.slice Ao47 t403.length co47)) (fun _ hk => hk.2) (.slice Ao48 t406.length co48)) (fun _ h_ => h_.1)))); (case side4 => exact (Kd.R_reads' HO405.out).2.1); (case side5 => refine (Kd.R_reads' (e := 44) (base := w.heap.size) (ok := fun k_ => ((True ∧ some k_ ≠ (.slice Ao11 t376.length co11 : Value).ownBlock) ∧ some k_ ≠ (.slice Ao18 t388.length co18 : Value).ownBlock)) (n := t406.length) (c := co48) ?_).2.2; exact (by (with_reducible repeat (first | apply Kd.R_alloc | apply Kd.R_drewN | apply Kd.R_drew)); exact (Kd.R_mono (Kd.R_far (p := ⟨gb410, 3, none⟩) (Kd.R_far (p := ⟨gb410, 2, none⟩) (Kd.R_far (p := ⟨gb410, 1, none⟩) (Kd.R_far (p := ⟨gb410, 0, none⟩) (Kd.R_types HO408.out BK410.out (by decide)) (fun _ hk => hk.2) (.slice Ao43 t399.length co43)) (fun _ hk => hk.2) (.int .i64 t402)) (fun _ hk => hk.2) (.slice Ao47 t403.length co47)) (fun _ hk => hk.2) (.slice Ao48 t406.length co48)) (fun _ h_ => h_.1)))); (case side6 => exact (Kd.R_reads' HO408.out).2.1); (case side7 => refine (Kd.R_reads' (e := 3) (base := w.heap.size) (ok := fun k_ => (((some k_ ≠ (.slice Ao10 t373.length co10 : Value).ownBlock ∧ (some k_ ≠ (.slice Ao14 t381.length co14 : Value).ownBlock ∧ some k_ ≠ (.slice Ao17 t385.length co17 : Value).ownBlock)) ∧ some k_ ≠ (.slice Ao43 t399.length co43 : Value).ownBlock) ∧ some k_ ≠ (.slice Ao47 t403.length co47 : Value).ownBlock)) (n := t369.length) (c := co8) ?_).2.2; exact (by (with_reducible repeat (first | apply Kd.R_alloc | apply Kd.R_drewN | apply Kd.R_drew)); exact (Kd.R_mono (Kd.R_far (p := ⟨gb410, 3, none⟩) (Kd.R_far (p := ⟨gb410, 2, none⟩) (Kd.R_far (p := ⟨gb410, 1, none⟩) (Kd.R_far (p := ⟨gb410, 0, none⟩) (Kd.R_types HO_381000.out BK410.out (by decide)) (fun _ hk => hk.2) (.slice Ao43 t399.length co43)) (fun _ hk => hk.2) (.int .i64 t402)) (fun _ hk => hk.2) (.slice Ao47 t403.length co47)) (fun _ hk => hk.2) (.slice Ao48 t406.length co48)) (fun _ h_ => h_.1)))); (case side8 => exact (Kd.R_reads' HO_381000.out).2.1); (case side9 => refine (Kd.R_reads' (e := 3) (base := w.heap.size) (ok := fun k_ => (((some k_ ≠ (.slice Ao8 t369.length co8 : Value).ownBlock ∧ (some k_ ≠ (.slice Ao14 t381.length co14 : Value).ownBlock ∧ some k_ ≠ (.slice Ao17 t385.length co17 : Value).ownBlock)) ∧ some k_ ≠ (.slice Ao43 t399.length co43 : Value).ownBlock) ∧ some k_ ≠ (.slice Ao47 t403.length co47 : Value).ownBlock)) (n := t373.length) (c := co10) ?_).2.2; exact (by (with_reducible repeat (first | apply Kd.R_alloc | apply Kd.R_drewN | apply Kd.R_drew)); exact (Kd.R_mono (Kd.R_far (p := ⟨gb410, 3, none⟩) (Kd.R_far (p := ⟨gb410, 2, none⟩) (Kd.R_far (p := ⟨gb410, 1, none⟩) (Kd.R_far (p := ⟨gb410, 0, none⟩) (Kd.R_types HO_381002.out BK410.out (by decide)) (fun _ hk => hk.2) (.slice Ao43 t399.length co43)) (fun _ hk => hk.2) (.int .i64 t402)) (fun _ hk => hk.2) (.slice Ao47 t403.length co47)) (fun _ hk => hk.2) (.slice Ao48 t406.length co48)) (fun _ h_ => h_.1)))); (case side10 => exact (Kd.R_reads' HO_381002.out).2.1); (case side11 => refine (Kd.R_reads' (e := 44) (base := w.heap.size) (ok := fun k_ => (some k_ ≠ (.slice Ao18 t388.length co18 : Value).ownBlock ∧ some k_ ≠ (.slice Ao48 t406.length co48 : Value).ownBlock)) (n := t376.length) (c := co11) ?_).2.2; exact (by (with_reducible repeat (first | apply Kd.R_alloc | apply Kd.R_drewN | apply Kd.R_drew)); exact (Kd.R_mono (Kd.R_far (p := ⟨gb410, 3, none⟩) (Kd.R_far (p := ⟨gb410, 2, none⟩) (Kd.R_far (p := ⟨gb410, 1, none⟩) (Kd.R_far (p := ⟨gb410, 0, none⟩) (Kd.R_types HO_381003.out BK410.out (by decide)) (fun _ hk => hk.2) (.slice Ao43 t399.length co43)) (fun _ hk => hk.2) (.int .i64 t402)) (fun _ hk => hk.2) (.slice Ao47 t403.length co47)) (fun _ hk => hk.2) (.slice Ao48 t406.length co48)) (fun _ h_ => h_.1)))); (case side12 => exact (Kd.R_reads' HO_381003.out).2.1); rintro e w56 ⟨rfl, hb⟩; refine ⟨_, rfl, ?_⟩; have n0_ := Aside0.mk (Kd.R_below (by (with_reducible repeat (first | apply Kd.R_alloc | apply Kd.R_drewN | apply Kd.R_drew)); exact (Kd.R_mono (Kd.R_far (p := ⟨gb410, 3, none⟩) (Kd.R_far (p := ⟨gb410, 2, none⟩) (Kd.R_far (p := ⟨gb410, 1, none⟩) (Kd.R_far (p := ⟨gb410, 0, none⟩) (Kd.R_types HO_381000.out BK410.out (by decide)) (fun _ hk => hk.2) (.slice Ao43 t399.length co43)) (fun _ hk => hk.2) (.int .i64 t402)) (fun _ hk => hk.2) (.slice Ao47 t403.length co47)) (fun _ hk => hk.2) (.slice Ao48 t406.length co48)) (fun _ h_ => h_.1))) hb); have n1_ := Aside0.mk (Kd.R_below (by (with_reducible repeat (first | apply Kd.R_alloc | apply Kd.R_drewN | apply Kd.R_drew)); exact (Kd.R_mono (Kd.R_far (p := ⟨gb410, 3, none⟩) (Kd.R_far (p := ⟨gb410, 2, none⟩) (Kd.R_far (p := ⟨gb410, 1, none⟩) (Kd.R_far (p := ⟨gb410, 0, none⟩) (Kd.R_types HO_381002.out BK410.out (by decide)) (fun _ hk => hk.2) (.slice Ao43 t399.length co43)) (fun _ hk => hk.2) (.int .i64 t402)) (fun _ hk => hk.2) (.slice Ao47 t403.length co47)) (fun _ hk => hk.2) (.slice Ao48 t406.length co48)) (fun _ h_ => h_.1))) hb); have n2_ := Aside0.mk (Kd.R_below (by (with_reducible repeat (first | apply Kd.R_alloc | apply Kd.R_drewN | apply Kd.R_drew)); exact (Kd.R_mono (Kd.R_far (p := ⟨gb410, 3, none⟩) (Kd.R_far (p := ⟨gb410, 2, none⟩) (Kd.R_far (p := ⟨gb410, 1, none⟩) (Kd.R_far (p := ⟨gb410, 0, none⟩) (Kd.R_types HO_381003.out BK410.out (by decide)) (fun _ hk => hk.2) (.slice Ao43 t399.length co43)) (fun _ hk => hk.2) (.int .i64 t402)) (fun _ hk => hk.2) (.slice Ao47 t403.length co47)) (fun _ hk => hk.2) (.slice Ao48 t406.length co48)) (fun _ h_ => h_.1))) hb); have n3_ := Aside0.mk (Kd.R_below (by (with_reducible repeat (first | apply Kd.R_alloc | apply Kd.R_drewN | apply Kd.R_drew)); exact (Kd.R_mono (Kd.R_far (p := ⟨gb410, 3, none⟩) (Kd.R_far (p := ⟨gb410, 2, none⟩) (Kd.R_far (p := ⟨gb410, 1, none⟩) (Kd.R_far (p := ⟨gb410, 0, none⟩) (Kd.R_types HO_393000.out BK410.out (by decide)) (fun _ hk => hk.2) (.slice Ao43 t399.length co43)) (fun _ hk => hk.2) (.int .i64 t402)) (fun _ hk => hk.2) (.slice Ao47 t403.length co47)) (fun _ hk => hk.2) (.slice Ao48 t406.length co48)) (fun _ h_ => h_.1))) hb); have n4_ := Aside0.mk (Kd.R_below (by (with_reducible repeat (first | apply Kd.R_alloc | apply Kd.R_drewN | apply Kd.R_drew)); exact (Kd.R_mono (Kd.R_far (p := ⟨gb410, 3, none⟩) (Kd.R_far (p := ⟨gb410, 2, none⟩) (Kd.R_far (p := ⟨gb410, 1, none⟩) (Kd.R_far (p := ⟨gb410, 0, none⟩) (Kd.R_types HO_393002.out BK410.out (by decide)) (fun _ hk => hk.2) (.slice Ao43 t399.length co43)) (fun _ hk => hk.2) (.int .i64 t402)) (fun _ hk => hk.2) (.slice Ao47 t403.length co47)) (fun _ hk => hk.2) (.slice Ao48 t406.length co48)) (fun _ h_ => h_.1))) hb); have n5_ := Aside0.mk (Kd.R_below (by (with_reducible repeat (first | apply Kd.R_alloc | apply Kd.R_drewN | apply Kd.R_drew)); exact (Kd.R_mono (Kd.R_far (p := ⟨gb410, 3, none⟩) (Kd.R_far (p := ⟨gb410, 2, none⟩) (Kd.R_far (p := ⟨gb410, 1, none⟩) (Kd.R_far (p := ⟨gb410, 0, none⟩) (Kd.R_types HO_393003.out BK410.out (by decide)) (fun _ hk => hk.2) (.slice Ao43 t399.length co43)) (fun _ hk => hk.2) (.int .i64 t402)) (fun _ hk => hk.2) (.slice Ao47 t403.length co47)) (fun _ hk => hk.2) (.slice Ao48 t406.length co48)) (fun _ h_ => h_.1))) hb); have n6_ := Aside0.mk (Kd.R_below (by (with_reducible repeat (first | apply Kd.R_alloc | apply Kd.R_drewN | apply Kd.R_drew)); exact (Kd.R_mono (Kd.R_far (p := ⟨gb410, 3, none⟩) (Kd.R_far (p := ⟨gb410, 2, none⟩) (Kd.R_far (p := ⟨gb410, 1, none⟩) (Kd.R_far (p := ⟨gb410, 0, none⟩) (Kd.R_types HO401.out BK410.out (by decide)) (fun _ hk => hk.2) (.slice Ao43 t399.length co43)) (fun _ hk => hk.2) (.int .i64 t402)) (fun _ hk => hk.2) (.slice Ao47 t403.length co47)) (fun _ hk => hk.2) (.slice Ao48 t406.length co48)) (fun _ h_ => h_.1))) hb); have n7_ := Aside0.mk (Kd.R_below (by (with_reducible repeat (first | apply Kd.R_alloc | apply Kd.R_drewN | apply Kd.R_drew)); exact (Kd.R_mono (Kd.R_far (p := ⟨gb410, 3, none⟩) (Kd.R_far (p := ⟨gb410, 2, none⟩) (Kd.R_far (p := ⟨gb410, 1, none⟩) (Kd.R_far (p := ⟨gb410, 0, none⟩) (Kd.R_types HO405.out BK410.out (by decide)) (fun _ hk => hk.2) (.slice Ao43 t399.length co43)) (fun _ hk => hk.2) (.int .i64 t402)) (fun _ hk => hk.2) (.slice Ao47 t403.length co47)) (fun _ hk => hk.2) (.slice Ao48 t406.length co48)) (fun _ h_ => h_.1))) hb); have n8_ := Aside0.mk (Kd.R_below (by (with_reducible repeat (first | apply Kd.R_alloc | apply Kd.R_drewN | apply Kd.R_drew)); exact (Kd.R_mono (Kd.R_far (p := ⟨gb410, 3, none⟩) (Kd.R_far (p := ⟨gb410, 2, none⟩) (Kd.R_far (p := ⟨gb410, 1, none⟩) (Kd.R_far (p := ⟨gb410, 0, none⟩) (Kd.R_types HO408.out BK410.out (by decide)) (fun _ hk => hk.2) (.slice Ao43 t399.length co43)) (fun _ hk => hk.2) (.int .i64 t402)) (fun _ hk => hk.2) (.slice Ao47 t403.length co47)) (fun _ hk => hk.2) (.slice Ao48 t406.length co48)) (fun _ h_ => h_.1))) hb); have n9_ := Aside0.mk (blk_below (g := gb380) (o := .cells #[.slice Ao8 t369.length co8, .int .i64 t372, .slice Ao10 t373.length co10, .slice Ao11 t376.length co11] 25 (0, 0)) (by refine blk_far ?_ NB380_410.out _; refine blk_far ?_ NB380_410.out _; refine blk_far ?_ NB380_410.out _; refine blk_far ?_ NB380_410.out _; (with_reducible repeat (first | refine blk_drewN ?_ _ | refine blk_drew ?_ | refine blk_alloc ?_ _)); exact BK380.out) hb); have n10_ := Aside0.mk (blk_below (g := gb392) (o := .cells #[.slice Ao14 t381.length co14, .int .i64 t384, .slice Ao17 t385.length co17, .slice Ao18 t388.length co18] 25 (0, 0)) (by refine blk_far ?_ NB392_410.out _; refine blk_far ?_ NB392_410.out _; refine blk_far ?_ NB392_410.out _; refine blk_far ?_ NB392_410.out _; (with_reducible repeat (first | refine blk_drewN ?_ _ | refine blk_drew ?_ | refine blk_alloc ?_ _)); exact BK392.out) hb); have n11_ := Aside0.mk (blk_below (g := gb410) (o := .cells #[.slice Ao43 t399.length co43, .int .i64 t402, .slice Ao47 t403.length co47, .slice Ao48 t406.length co48] 25 (0, 0)) (by refine blk_put (cs := #[.slice Ao43 t399.length co43, .int .i64 t402, .slice Ao47 t403.length co47, .slice none 0 0]) ?_ 3 _ rfl; refine blk_put (cs := #[.slice Ao43 t399.length co43, .int .i64 t402, .slice none 0 0, .slice none 0 0]) ?_ 2 _ rfl; refine blk_put (cs := #[.slice Ao43 t399.length co43, .int .i64 0, .slice none 0 0, .slice none 0 0]) ?_ 1 _ rfl; refine blk_put (cs := #[.slice none 0 0, .int .i64 0, .slice none 0 0, .slice none 0 0]) ?_ 0 _ rfl; (with_reducible repeat (first | refine blk_drewN ?_ _ | refine blk_drew ?_ | refine blk_alloc ?_ _)); exact BK410.out) hb); have n12_ := Aside0.mk (below_step (bw HB.out) hb); clear HO_381000; clear HO_381002; clear HO_381003; clear HO_393000; clear HO_393002; clear HO_393003; clear HO401; clear HO405; clear HO408; clear BK380; clear BK392; clear BK410; clear HB; have HO_381000 := n0_; have HO_381002 := n1_; have HO_381003 := n2_; have HO_393000 := n3_; have HO_393002 := n4_; have HO_393003 := n5_; have HO401 := n6_; have HO405 := n7_; have HO408 := n8_; have BK380 := n9_; have BK392 := n10_; have BK410 := n11_; have HB := n12_; clear n0_ n1_ n2_ n3_ n4_ n5_ n6_ n7_ n8_ n9_ n10_ n11_ n12_; (try clear hb)))
         go_meet
         case rel => exact ⟨_, ((t409 != t379)), (by first | rfl | (simp; done) | (simp [*]; done)), H', ⟨by have := HJ4.out; first | omega | exact Nat.le_refl _⟩, ⟨by (with_reducible repeat (first | apply Kd.R_alloc | apply Kd.R_drewN | apply Kd.R_drew)); exact Kd.R_mono HO_381000.out (fun _ hk => ⟨hk.1.1.1, ⟨hk.1.1.2.1, ⟨hk.1.1.2.2, ⟨hk.1.2, hk.2⟩⟩⟩⟩)⟩, ⟨by (with_reducible repeat (first | apply Kd.R_alloc | apply Kd.R_drewN | apply Kd.R_drew)); exact Kd.R_mono HO_381002.out (fun _ hk => ⟨hk.1.1.1, ⟨hk.1.1.2.1, ⟨hk.1.1.2.2, ⟨hk.1.2, hk.2⟩⟩⟩⟩)⟩, ⟨kr_ HO_381003.out⟩, ⟨by (with_reducible repeat (first | apply Kd.R_alloc | apply Kd.R_drewN | apply Kd.R_drew)); exact Kd.R_mono HO_393000.out (fun _ hk => ⟨hk.1.1.1, ⟨hk.1.1.2.1, ⟨hk.1.1.2.2, ⟨hk.1.2, hk.2⟩⟩⟩⟩)⟩, ⟨by (with_reducible repeat (first | apply Kd.R_alloc | apply Kd.R_drewN | apply Kd.R_drew)); exact Kd.R_mono HO_393002.out (fun _ hk => ⟨hk.1.1.1, ⟨hk.1.1.2.1, ⟨hk.1.1.2.2, ⟨hk.1.2, hk.2⟩⟩⟩⟩)⟩, ⟨kr_ HO_393003.out⟩, ⟨by (with_reducible repeat (first | apply Kd.R_alloc | apply Kd.R_drewN | apply Kd.R_drew)); exact Kd.R_mono HO401.out (fun _ hk => ⟨hk.1.1.1.2, ⟨hk.1.1.2, ⟨hk.1.2, ⟨hk.2, hk.1.1.1.1⟩⟩⟩⟩)⟩, ⟨by (with_reducible repeat (first | apply Kd.R_alloc | apply Kd.R_drewN | apply Kd.R_drew)); exact Kd.R_mono HO405.out (fun _ hk => ⟨hk.1.1.1.2, ⟨hk.1.1.2, ⟨hk.1.2, ⟨hk.2, hk.1.1.1.1⟩⟩⟩⟩)⟩, ⟨by (with_reducible repeat (first | apply Kd.R_alloc | apply Kd.R_drewN | apply Kd.R_drew)); exact Kd.R_mono HO408.out (fun _ hk => ⟨hk.1.2, hk.2⟩)⟩, ⟨bk BK380.out⟩, ⟨bk BK392.out⟩, ⟨bk BK410.out⟩, ⟨bw HB.out⟩⟩
        ·
         replace c50 := Bool.eq_false_iff.mpr c50
         subst c50
         have H1 : (laws_FnExactTakeFunc.j1 kj4 t394 true t395 t384 t396 t397) = some r := by rw [if_neg (show ¬ (false = true) by decide)] at H; exact H
         clear H
         have H := H1
         clear H1
         have H' := Aside0.mk H
         clear H
         have hnb57 := NB410_380.out
         have hnc57 := NB380_410.out
         have hnb58 := NB410_392.out
         have hnc58 := NB392_410.out
         obtain ⟨hcz59_0, hcz59_1, hcz59_2, hcz59_3⟩ := cs4_ BK410.out
         obtain ⟨hfz59_0, hfz59_1, hfz59_2, hfz59_3⟩ := fz4_ BK410.out
         have hnb60 := NB380_392.out
         have hnc60 := NB392_380.out
         obtain ⟨hcz61_0, hcz61_1, hcz61_2, hcz61_3⟩ := cs4_ BK380.out
         obtain ⟨hfz61_0, hfz61_1, hfz61_2, hfz61_3⟩ := fz4_ BK380.out
         go_wp2_with (first | ((with_reducible refine gate_callee (f := 7) rfl ?_); refine goesL_ (some 51) rfl rfl Try.func7 (by kernel_rfl) rfl #[.agg #[.slice Ao43 t399.length co43, .int .i64 t402, .slice Ao47 t403.length co47, .slice Ao48 t406.length co48], .agg #[.slice Ao8 t369.length co8, .int .i64 t372, .slice Ao10 t373.length co10, .slice Ao11 t376.length co11]] rfl ar ?_; (with_reducible refine (laws_eqFunc.calls kj4 _ _ t399 t402 _ _ t403 _ _ t406 _ _ t369 t372 _ _ t373 _ _ t376 false _ ?side1 ?side2 ?side3 ?side4 ?side5 ?side6 ?side7 ?side8 ?side9 ?side10 ?side11 ?side12 A49.out).mono ?_); (case side1 => refine (Kd.R_reads' (e := 3) (base := w.heap.size) (ok := fun k_ => ((((some k_ ≠ (.slice Ao47 t403.length co47 : Value).ownBlock ∧ some k_ ≠ (.slice Ao8 t369.length co8 : Value).ownBlock) ∧ some k_ ≠ (.slice Ao10 t373.length co10 : Value).ownBlock) ∧ some k_ ≠ (.slice Ao14 t381.length co14 : Value).ownBlock) ∧ some k_ ≠ (.slice Ao17 t385.length co17 : Value).ownBlock)) (n := t399.length) (c := co43) ?_).2.2; exact (by (with_reducible repeat (first | apply Kd.R_alloc | apply Kd.R_drewN | apply Kd.R_drew)); exact (Kd.R_mono (Kd.R_far (p := ⟨gb410, 3, none⟩) (Kd.R_far (p := ⟨gb410, 2, none⟩) (Kd.R_far (p := ⟨gb410, 1, none⟩) (Kd.R_far (p := ⟨gb410, 0, none⟩) (Kd.R_types HO401.out BK410.out (by decide)) (fun _ hk => hk.2) (.slice Ao43 t399.length co43)) (fun _ hk => hk.2) (.int .i64 t402)) (fun _ hk => hk.2) (.slice Ao47 t403.length co47)) (fun _ hk => hk.2) (.slice Ao48 t406.length co48)) (fun _ h_ => h_.1)))); (case side2 => exact (Kd.R_reads' HO401.out).2.1); (case side3 => refine (Kd.R_reads' (e := 3) (base := w.heap.size) (ok := fun k_ => ((((some k_ ≠ (.slice Ao43 t399.length co43 : Value).ownBlock ∧ some k_ ≠ (.slice Ao8 t369.length co8 : Value).ownBlock) ∧ some k_ ≠ (.slice Ao10 t373.length co10 : Value).ownBlock) ∧ some k_ ≠ (.slice Ao14 t381.length co14 : Value).ownBlock) ∧ some k_ ≠ (.slice Ao17 t385.length co17 : Value).ownBlock)) (n := t403.length) (c := co47) ?_).2.2; exact (by (with_reducible repeat (first | apply Kd.R_alloc | apply Kd.R_drewN | apply Kd.R_drew)); exact (Kd.R_mono (Kd.R_far (p := ⟨gb410, 3, none⟩) (Kd.R_far (p := ⟨gb410, 2, none⟩) (Kd.R_far (p := ⟨gb410, 1, none⟩) (Kd.R_far (p := ⟨gb410, 0, none⟩) (Kd.R_types HO405.out BK410.out (by decide)) (fun _ hk => hk.2) (.slice Ao43 t399.length co43)) (fun _ hk => hk.2) (.int .i64 t402)) (fun _ hk => hk.2) (.slice Ao47 t403.length co47)) (fun _ hk => hk.2) (.slice Ao48 t406.length co48)) (fun _ h_ => h_.1)))); (case side4 => exact (Kd.R_reads' HO405.out).2.1); (case side5 => refine (Kd.R_reads' (e := 44) (base := w.heap.size) (ok := fun k_ => ((True ∧ some k_ ≠ (.slice Ao11 t376.length co11 : Value).ownBlock) ∧ some k_ ≠ (.slice Ao18 t388.length co18 : Value).ownBlock)) (n := t406.length) (c := co48) ?_).2.2; exact (by (with_reducible repeat (first | apply Kd.R_alloc | apply Kd.R_drewN | apply Kd.R_drew)); exact (Kd.R_mono (Kd.R_far (p := ⟨gb410, 3, none⟩) (Kd.R_far (p := ⟨gb410, 2, none⟩) (Kd.R_far (p := ⟨gb410, 1, none⟩) (Kd.R_far (p := ⟨gb410, 0, none⟩) (Kd.R_types HO408.out BK410.out (by decide)) (fun _ hk => hk.2) (.slice Ao43 t399.length co43)) (fun _ hk => hk.2) (.int .i64 t402)) (fun _ hk => hk.2) (.slice Ao47 t403.length co47)) (fun _ hk => hk.2) (.slice Ao48 t406.length co48)) (fun _ h_ => h_.1)))); (case side6 => exact (Kd.R_reads' HO408.out).2.1); (case side7 => refine (Kd.R_reads' (e := 3) (base := w.heap.size) (ok := fun k_ => (((some k_ ≠ (.slice Ao10 t373.length co10 : Value).ownBlock ∧ (some k_ ≠ (.slice Ao14 t381.length co14 : Value).ownBlock ∧ some k_ ≠ (.slice Ao17 t385.length co17 : Value).ownBlock)) ∧ some k_ ≠ (.slice Ao43 t399.length co43 : Value).ownBlock) ∧ some k_ ≠ (.slice Ao47 t403.length co47 : Value).ownBlock)) (n := t369.length) (c := co8) ?_).2.2; exact (by (with_reducible repeat (first | apply Kd.R_alloc | apply Kd.R_drewN | apply Kd.R_drew)); exact (Kd.R_mono (Kd.R_far (p := ⟨gb410, 3, none⟩) (Kd.R_far (p := ⟨gb410, 2, none⟩) (Kd.R_far (p := ⟨gb410, 1, none⟩) (Kd.R_far (p := ⟨gb410, 0, none⟩) (Kd.R_types HO_381000.out BK410.out (by decide)) (fun _ hk => hk.2) (.slice Ao43 t399.length co43)) (fun _ hk => hk.2) (.int .i64 t402)) (fun _ hk => hk.2) (.slice Ao47 t403.length co47)) (fun _ hk => hk.2) (.slice Ao48 t406.length co48)) (fun _ h_ => h_.1)))); (case side8 => exact (Kd.R_reads' HO_381000.out).2.1); (case side9 => refine (Kd.R_reads' (e := 3) (base := w.heap.size) (ok := fun k_ => (((some k_ ≠ (.slice Ao8 t369.length co8 : Value).ownBlock ∧ (some k_ ≠ (.slice Ao14 t381.length co14 : Value).ownBlock ∧ some k_ ≠ (.slice Ao17 t385.length co17 : Value).ownBlock)) ∧ some k_ ≠ (.slice Ao43 t399.length co43 : Value).ownBlock) ∧ some k_ ≠ (.slice Ao47 t403.length co47 : Value).ownBlock)) (n := t373.length) (c := co10) ?_).2.2; exact (by (with_reducible repeat (first | apply Kd.R_alloc | apply Kd.R_drewN | apply Kd.R_drew)); exact (Kd.R_mono (Kd.R_far (p := ⟨gb410, 3, none⟩) (Kd.R_far (p := ⟨gb410, 2, none⟩) (Kd.R_far (p := ⟨gb410, 1, none⟩) (Kd.R_far (p := ⟨gb410, 0, none⟩) (Kd.R_types HO_381002.out BK410.out (by decide)) (fun _ hk => hk.2) (.slice Ao43 t399.length co43)) (fun _ hk => hk.2) (.int .i64 t402)) (fun _ hk => hk.2) (.slice Ao47 t403.length co47)) (fun _ hk => hk.2) (.slice Ao48 t406.length co48)) (fun _ h_ => h_.1)))); (case side10 => exact (Kd.R_reads' HO_381002.out).2.1); (case side11 => refine (Kd.R_reads' (e := 44) (base := w.heap.size) (ok := fun k_ => (some k_ ≠ (.slice Ao18 t388.length co18 : Value).ownBlock ∧ some k_ ≠ (.slice Ao48 t406.length co48 : Value).ownBlock)) (n := t376.length) (c := co11) ?_).2.2; exact (by (with_reducible repeat (first | apply Kd.R_alloc | apply Kd.R_drewN | apply Kd.R_drew)); exact (Kd.R_mono (Kd.R_far (p := ⟨gb410, 3, none⟩) (Kd.R_far (p := ⟨gb410, 2, none⟩) (Kd.R_far (p := ⟨gb410, 1, none⟩) (Kd.R_far (p := ⟨gb410, 0, none⟩) (Kd.R_types HO_381003.out BK410.out (by decide)) (fun _ hk => hk.2) (.slice Ao43 t399.length co43)) (fun _ hk => hk.2) (.int .i64 t402)) (fun _ hk => hk.2) (.slice Ao47 t403.length co47)) (fun _ hk => hk.2) (.slice Ao48 t406.length co48)) (fun _ h_ => h_.1)))); (case side12 => exact (Kd.R_reads' HO_381003.out).2.1); rintro e w62 ⟨rfl, hb⟩; refine ⟨_, rfl, ?_⟩; have n0_ := Aside0.mk (Kd.R_below (by (with_reducible repeat (first | apply Kd.R_alloc | apply Kd.R_drewN | apply Kd.R_drew)); exact (Kd.R_mono (Kd.R_far (p := ⟨gb410, 3, none⟩) (Kd.R_far (p := ⟨gb410, 2, none⟩) (Kd.R_far (p := ⟨gb410, 1, none⟩) (Kd.R_far (p := ⟨gb410, 0, none⟩) (Kd.R_types HO_381000.out BK410.out (by decide)) (fun _ hk => hk.2) (.slice Ao43 t399.length co43)) (fun _ hk => hk.2) (.int .i64 t402)) (fun _ hk => hk.2) (.slice Ao47 t403.length co47)) (fun _ hk => hk.2) (.slice Ao48 t406.length co48)) (fun _ h_ => h_.1))) hb); have n1_ := Aside0.mk (Kd.R_below (by (with_reducible repeat (first | apply Kd.R_alloc | apply Kd.R_drewN | apply Kd.R_drew)); exact (Kd.R_mono (Kd.R_far (p := ⟨gb410, 3, none⟩) (Kd.R_far (p := ⟨gb410, 2, none⟩) (Kd.R_far (p := ⟨gb410, 1, none⟩) (Kd.R_far (p := ⟨gb410, 0, none⟩) (Kd.R_types HO_381002.out BK410.out (by decide)) (fun _ hk => hk.2) (.slice Ao43 t399.length co43)) (fun _ hk => hk.2) (.int .i64 t402)) (fun _ hk => hk.2) (.slice Ao47 t403.length co47)) (fun _ hk => hk.2) (.slice Ao48 t406.length co48)) (fun _ h_ => h_.1))) hb); have n2_ := Aside0.mk (Kd.R_below (by (with_reducible repeat (first | apply Kd.R_alloc | apply Kd.R_drewN | apply Kd.R_drew)); exact (Kd.R_mono (Kd.R_far (p := ⟨gb410, 3, none⟩) (Kd.R_far (p := ⟨gb410, 2, none⟩) (Kd.R_far (p := ⟨gb410, 1, none⟩) (Kd.R_far (p := ⟨gb410, 0, none⟩) (Kd.R_types HO_381003.out BK410.out (by decide)) (fun _ hk => hk.2) (.slice Ao43 t399.length co43)) (fun _ hk => hk.2) (.int .i64 t402)) (fun _ hk => hk.2) (.slice Ao47 t403.length co47)) (fun _ hk => hk.2) (.slice Ao48 t406.length co48)) (fun _ h_ => h_.1))) hb); have n3_ := Aside0.mk (Kd.R_below (by (with_reducible repeat (first | apply Kd.R_alloc | apply Kd.R_drewN | apply Kd.R_drew)); exact (Kd.R_mono (Kd.R_far (p := ⟨gb410, 3, none⟩) (Kd.R_far (p := ⟨gb410, 2, none⟩) (Kd.R_far (p := ⟨gb410, 1, none⟩) (Kd.R_far (p := ⟨gb410, 0, none⟩) (Kd.R_types HO_393000.out BK410.out (by decide)) (fun _ hk => hk.2) (.slice Ao43 t399.length co43)) (fun _ hk => hk.2) (.int .i64 t402)) (fun _ hk => hk.2) (.slice Ao47 t403.length co47)) (fun _ hk => hk.2) (.slice Ao48 t406.length co48)) (fun _ h_ => h_.1))) hb); have n4_ := Aside0.mk (Kd.R_below (by (with_reducible repeat (first | apply Kd.R_alloc | apply Kd.R_drewN | apply Kd.R_drew)); exact (Kd.R_mono (Kd.R_far (p := ⟨gb410, 3, none⟩) (Kd.R_far (p := ⟨gb410, 2, none⟩) (Kd.R_far (p := ⟨gb410, 1, none⟩) (Kd.R_far (p := ⟨gb410, 0, none⟩) (Kd.R_types HO_393002.out BK410.out (by decide)) (fun _ hk => hk.2) (.slice Ao43 t399.length co43)) (fun _ hk => hk.2) (.int .i64 t402)) (fun _ hk => hk.2) (.slice Ao47 t403.length co47)) (fun _ hk => hk.2) (.slice Ao48 t406.length co48)) (fun _ h_ => h_.1))) hb); have n5_ := Aside0.mk (Kd.R_below (by (with_reducible repeat (first | apply Kd.R_alloc | apply Kd.R_drewN | apply Kd.R_drew)); exact (Kd.R_mono (Kd.R_far (p := ⟨gb410, 3, none⟩) (Kd.R_far (p := ⟨gb410, 2, none⟩) (Kd.R_far (p := ⟨gb410, 1, none⟩) (Kd.R_far (p := ⟨gb410, 0, none⟩) (Kd.R_types HO_393003.out BK410.out (by decide)) (fun _ hk => hk.2) (.slice Ao43 t399.length co43)) (fun _ hk => hk.2) (.int .i64 t402)) (fun _ hk => hk.2) (.slice Ao47 t403.length co47)) (fun _ hk => hk.2) (.slice Ao48 t406.length co48)) (fun _ h_ => h_.1))) hb); have n6_ := Aside0.mk (Kd.R_below (by (with_reducible repeat (first | apply Kd.R_alloc | apply Kd.R_drewN | apply Kd.R_drew)); exact (Kd.R_mono (Kd.R_far (p := ⟨gb410, 3, none⟩) (Kd.R_far (p := ⟨gb410, 2, none⟩) (Kd.R_far (p := ⟨gb410, 1, none⟩) (Kd.R_far (p := ⟨gb410, 0, none⟩) (Kd.R_types HO401.out BK410.out (by decide)) (fun _ hk => hk.2) (.slice Ao43 t399.length co43)) (fun _ hk => hk.2) (.int .i64 t402)) (fun _ hk => hk.2) (.slice Ao47 t403.length co47)) (fun _ hk => hk.2) (.slice Ao48 t406.length co48)) (fun _ h_ => h_.1))) hb); have n7_ := Aside0.mk (Kd.R_below (by (with_reducible repeat (first | apply Kd.R_alloc | apply Kd.R_drewN | apply Kd.R_drew)); exact (Kd.R_mono (Kd.R_far (p := ⟨gb410, 3, none⟩) (Kd.R_far (p := ⟨gb410, 2, none⟩) (Kd.R_far (p := ⟨gb410, 1, none⟩) (Kd.R_far (p := ⟨gb410, 0, none⟩) (Kd.R_types HO405.out BK410.out (by decide)) (fun _ hk => hk.2) (.slice Ao43 t399.length co43)) (fun _ hk => hk.2) (.int .i64 t402)) (fun _ hk => hk.2) (.slice Ao47 t403.length co47)) (fun _ hk => hk.2) (.slice Ao48 t406.length co48)) (fun _ h_ => h_.1))) hb); have n8_ := Aside0.mk (Kd.R_below (by (with_reducible repeat (first | apply Kd.R_alloc | apply Kd.R_drewN | apply Kd.R_drew)); exact (Kd.R_mono (Kd.R_far (p := ⟨gb410, 3, none⟩) (Kd.R_far (p := ⟨gb410, 2, none⟩) (Kd.R_far (p := ⟨gb410, 1, none⟩) (Kd.R_far (p := ⟨gb410, 0, none⟩) (Kd.R_types HO408.out BK410.out (by decide)) (fun _ hk => hk.2) (.slice Ao43 t399.length co43)) (fun _ hk => hk.2) (.int .i64 t402)) (fun _ hk => hk.2) (.slice Ao47 t403.length co47)) (fun _ hk => hk.2) (.slice Ao48 t406.length co48)) (fun _ h_ => h_.1))) hb); have n9_ := Aside0.mk (blk_below (g := gb380) (o := .cells #[.slice Ao8 t369.length co8, .int .i64 t372, .slice Ao10 t373.length co10, .slice Ao11 t376.length co11] 25 (0, 0)) (by refine blk_far ?_ NB380_410.out _; refine blk_far ?_ NB380_410.out _; refine blk_far ?_ NB380_410.out _; refine blk_far ?_ NB380_410.out _; (with_reducible repeat (first | refine blk_drewN ?_ _ | refine blk_drew ?_ | refine blk_alloc ?_ _)); exact BK380.out) hb); have n10_ := Aside0.mk (blk_below (g := gb392) (o := .cells #[.slice Ao14 t381.length co14, .int .i64 t384, .slice Ao17 t385.length co17, .slice Ao18 t388.length co18] 25 (0, 0)) (by refine blk_far ?_ NB392_410.out _; refine blk_far ?_ NB392_410.out _; refine blk_far ?_ NB392_410.out _; refine blk_far ?_ NB392_410.out _; (with_reducible repeat (first | refine blk_drewN ?_ _ | refine blk_drew ?_ | refine blk_alloc ?_ _)); exact BK392.out) hb); have n11_ := Aside0.mk (blk_below (g := gb410) (o := .cells #[.slice Ao43 t399.length co43, .int .i64 t402, .slice Ao47 t403.length co47, .slice Ao48 t406.length co48] 25 (0, 0)) (by refine blk_put (cs := #[.slice Ao43 t399.length co43, .int .i64 t402, .slice Ao47 t403.length co47, .slice none 0 0]) ?_ 3 _ rfl; refine blk_put (cs := #[.slice Ao43 t399.length co43, .int .i64 t402, .slice none 0 0, .slice none 0 0]) ?_ 2 _ rfl; refine blk_put (cs := #[.slice Ao43 t399.length co43, .int .i64 0, .slice none 0 0, .slice none 0 0]) ?_ 1 _ rfl; refine blk_put (cs := #[.slice none 0 0, .int .i64 0, .slice none 0 0, .slice none 0 0]) ?_ 0 _ rfl; (with_reducible repeat (first | refine blk_drewN ?_ _ | refine blk_drew ?_ | refine blk_alloc ?_ _)); exact BK410.out) hb); have n12_ := Aside0.mk (below_step (bw HB.out) hb); clear HO_381000; clear HO_381002; clear HO_381003; clear HO_393000; clear HO_393002; clear HO_393003; clear HO401; clear HO405; clear HO408; clear BK380; clear BK392; clear BK410; clear HB; have HO_381000 := n0_; have HO_381002 := n1_; have HO_381003 := n2_; have HO_393000 := n3_; have HO_393002 := n4_; have HO_393003 := n5_; have HO401 := n6_; have HO405 := n7_; have HO408 := n8_; have BK380 := n9_; have BK392 := n10_; have BK410 := n11_; have HB := n12_; clear n0_ n1_ n2_ n3_ n4_ n5_ n6_ n7_ n8_ n9_ n10_ n11_ n12_; (try clear hb)))
         go_meet
         case rel => exact ⟨_, (true), (by first | rfl | (simp; done) | (simp [*]; done)), H', ⟨by have := HJ4.out; first | omega | exact Nat.le_refl _⟩, ⟨by (with_reducible repeat (first | apply Kd.R_alloc | apply Kd.R_drewN | apply Kd.R_drew)); exact Kd.R_mono HO_381000.out (fun _ hk => ⟨hk.1.1.1, ⟨hk.1.1.2.1, ⟨hk.1.1.2.2, ⟨hk.1.2, hk.2⟩⟩⟩⟩)⟩, ⟨by (with_reducible repeat (first | apply Kd.R_alloc | apply Kd.R_drewN | apply Kd.R_drew)); exact Kd.R_mono HO_381002.out (fun _ hk => ⟨hk.1.1.1, ⟨hk.1.1.2.1, ⟨hk.1.1.2.2, ⟨hk.1.2, hk.2⟩⟩⟩⟩)⟩, ⟨kr_ HO_381003.out⟩, ⟨by (with_reducible repeat (first | apply Kd.R_alloc | apply Kd.R_drewN | apply Kd.R_drew)); exact Kd.R_mono HO_393000.out (fun _ hk => ⟨hk.1.1.1, ⟨hk.1.1.2.1, ⟨hk.1.1.2.2, ⟨hk.1.2, hk.2⟩⟩⟩⟩)⟩, ⟨by (with_reducible repeat (first | apply Kd.R_alloc | apply Kd.R_drewN | apply Kd.R_drew)); exact Kd.R_mono HO_393002.out (fun _ hk => ⟨hk.1.1.1, ⟨hk.1.1.2.1, ⟨hk.1.1.2.2, ⟨hk.1.2, hk.2⟩⟩⟩⟩)⟩, ⟨kr_ HO_393003.out⟩, ⟨by (with_reducible repeat (first | apply Kd.R_alloc | apply Kd.R_drewN | apply Kd.R_drew)); exact Kd.R_mono HO401.out (fun _ hk => ⟨hk.1.1.1.2, ⟨hk.1.1.2, ⟨hk.1.2, ⟨hk.2, hk.1.1.1.1⟩⟩⟩⟩)⟩, ⟨by (with_reducible repeat (first | apply Kd.R_alloc | apply Kd.R_drewN | apply Kd.R_drew)); exact Kd.R_mono HO405.out (fun _ hk => ⟨hk.1.1.1.2, ⟨hk.1.1.2, ⟨hk.1.2, ⟨hk.2, hk.1.1.1.1⟩⟩⟩⟩)⟩, ⟨by (with_reducible repeat (first | apply Kd.R_alloc | apply Kd.R_drewN | apply Kd.R_drew)); exact Kd.R_mono HO408.out (fun _ hk => ⟨hk.1.2, hk.2⟩)⟩, ⟨bk BK380.out⟩, ⟨bk BK392.out⟩, ⟨bk BK410.out⟩, ⟨bw HB.out⟩⟩
       case rest =>
        clear HC35
        try clear c2
        try clear c2b0
        try clear c2b1
        try clear c29
        try clear c32
        try clear c32b0
        try clear c33
        try clear c33b0
        try clear c33b1
        try clear hcz16_0 hcz16_1 hcz16_2 hcz16_3
        try clear hcz37_0 hcz37_1 hcz37_2 hcz37_3
        try clear hcz39_0 hcz39_1 hcz39_2 hcz39_3
        try clear hcz46_0 hcz46_1 hcz46_2 hcz46_3
        try clear hcz9_0 hcz9_1 hcz9_2 hcz9_3
        try clear hfz16_0 hfz16_1 hfz16_2 hfz16_3
        try clear hfz37_0 hfz37_1 hfz37_2 hfz37_3
        try clear hfz39_0 hfz39_1 hfz39_2 hfz39_3
        try clear hfz46_0 hfz46_1 hfz46_2 hfz46_3
        try clear hfz9_0 hfz9_1 hfz9_2 hfz9_3
        obtain ⟨kq, x57_34, rfl, HA, HJ34, HO_381000, HO_381002, HO_381003, HO_393000, HO_393002, HO_393003, HO_411000, HO_411002, HO_411003, BK380, BK392, BK410, HB⟩ := hcut
        have hl393000_34 := (Kd.R_reads' HO_393000.out).1
        rw [hl393000_34] at HO_393000
        (try simp only [hl393000_34])
        (try simp only [hl393000_34] at BK380)
        (try simp only [hl393000_34] at BK392)
        (try simp only [hl393000_34] at BK410)
        (try simp only [hl393000_34] at HO_381000)
        (try simp only [hl393000_34] at HO_381002)
        (try simp only [hl393000_34] at HO_381003)
        (try simp only [hl393000_34] at HO_393002)
        (try simp only [hl393000_34] at HO_393003)
        (try simp only [hl393000_34] at HO_411000)
        (try simp only [hl393000_34] at HO_411002)
        (try simp only [hl393000_34] at HO_411003)
        have hl393002_34 := (Kd.R_reads' HO_393002.out).1
        rw [hl393002_34] at HO_393002
        (try simp only [hl393002_34])
        (try simp only [hl393002_34] at BK380)
        (try simp only [hl393002_34] at BK392)
        (try simp only [hl393002_34] at BK410)
        (try simp only [hl393002_34] at HO_381000)
        (try simp only [hl393002_34] at HO_381002)
        (try simp only [hl393002_34] at HO_381003)
        (try simp only [hl393002_34] at HO_393000)
        (try simp only [hl393002_34] at HO_393003)
        (try simp only [hl393002_34] at HO_411000)
        (try simp only [hl393002_34] at HO_411002)
        (try simp only [hl393002_34] at HO_411003)
        have hl393003_34 := (Kd.R_reads' HO_393003.out).1
        rw [hl393003_34] at HO_393003
        (try simp only [hl393003_34])
        (try simp only [hl393003_34] at BK380)
        (try simp only [hl393003_34] at BK392)
        (try simp only [hl393003_34] at BK410)
        (try simp only [hl393003_34] at HO_381000)
        (try simp only [hl393003_34] at HO_381002)
        (try simp only [hl393003_34] at HO_381003)
        (try simp only [hl393003_34] at HO_393000)
        (try simp only [hl393003_34] at HO_393002)
        (try simp only [hl393003_34] at HO_411000)
        (try simp only [hl393003_34] at HO_411002)
        (try simp only [hl393003_34] at HO_411003)
        cases kq with
        | zero => exact absurd HA.out (by simp [laws_FnExactTakeFunc.j1])
        | succ kj34 =>
         have H := HA.out
         clear HA
         simp only [laws_FnExactTakeFunc.j1] at H
         by_cases c63 : x57_34 = true
         ·
          subst c63
          have H1 : (some false) = some r := by rw [if_pos rfl] at H; exact H
          clear H
          have H := H1
          clear H1
          obtain rfl := Option.some.inj H
          exact absurd HT.out (by decide)
         ·
          replace c63 := Bool.eq_false_iff.mpr c63
          subst c63
          have H1 : ((laws_heldFunc.f kj34 t395 t384 t396 t397 1).bind fun t412 => (if t412 < 0 then (some false) else (if t412 = t394 then (some true) else (some false)))) = some r := by rw [if_neg (show ¬ (false = true) by decide)] at H; exact H
          clear H
          have H := H1
          clear H1
          replace H := Option.bind_eq_some_iff.mp H
          obtain ⟨t412, A640, H⟩ := H
          replace H : (if t412 < 0 then (some false) else (if t412 = t394 then (some true) else (some false))) = some r := H
          have A64 := Aside0.mk A640
          clear A640
          by_cases c65 : t412 < 0
          ·
           rw [if_pos c65] at H
           have c65b0 : decide (t412 < 0) = true := decide_eq_true c65
           clear c65
           obtain rfl := Option.some.inj H
           exact absurd HT.out (by decide)
          ·
           rw [if_neg c65] at H
           have c65b0 : decide (t412 < 0) = false := decide_eq_false c65
           clear c65
           by_cases c66 : t412 = t394
           ·
            rw [if_pos c66] at H
            have c66b0 : (t412 == t394) = true := beq_iff_eq.mpr c66
            have c66b1 : (t412 != t394) = false := bne_eq_false_iff_eq.mpr c66
            clear c66
            obtain rfl := Option.some.inj H
            simp only [Option.some.injEq, Prod.mk.injEq] at H
            obtain ⟨rfl⟩ := H
            have hnb67 := NB392_380.out
            have hnc67 := NB380_392.out
            have hnb68 := NB392_410.out
            have hnc68 := NB410_392.out
            obtain ⟨hcz69_0, hcz69_1, hcz69_2, hcz69_3⟩ := cs4_ BK392.out
            obtain ⟨hfz69_0, hfz69_1, hfz69_2, hfz69_3⟩ := fz4_ BK392.out
            go_wp2_with (first | ((with_reducible refine gate_callee (f := 9) rfl ?_); refine goesL_ (some 60) rfl rfl Try.func9 (by kernel_rfl) rfl #[.agg #[.slice Ao14 t395.length co14, .int .i64 t384, .slice Ao17 t396.length co17, .slice Ao18 t397.length co18], .int .i64 1] rfl ar ?_; (with_reducible refine (laws_heldFunc.calls kj34 _ _ t395 t384 _ _ t396 _ _ t397 1 t412 _ ?side1 ?side2 ?side3 ?side4 ?side5 ?side6 A64.out).mono ?_); (case side1 => repeat (first | exact (Kd.R_reads' HO_393000.out).2.2 | (with_reducible refine Kd.C_alloc ?_ _) | (with_reducible refine Kd.C_drewN ?_ _) | (with_reducible refine Kd.C_drew ?_))); (case side2 => exact (Kd.R_reads' HO_393000.out).2.1); (case side3 => repeat (first | exact (Kd.R_reads' HO_393002.out).2.2 | (with_reducible refine Kd.C_alloc ?_ _) | (with_reducible refine Kd.C_drewN ?_ _) | (with_reducible refine Kd.C_drew ?_))); (case side4 => exact (Kd.R_reads' HO_393002.out).2.1); (case side5 => repeat (first | exact (Kd.R_reads' HO_393003.out).2.2 | (with_reducible refine Kd.C_alloc ?_ _) | (with_reducible refine Kd.C_drewN ?_ _) | (with_reducible refine Kd.C_drew ?_))); (case side6 => exact (Kd.R_reads' HO_393003.out).2.1); rintro e w70 ⟨rfl, hb⟩; refine ⟨_, rfl, ?_⟩; have n0_ := Aside0.mk (Kd.R_below (kr_ HO_381000.out) hb); have n1_ := Aside0.mk (Kd.R_below (kr_ HO_381002.out) hb); have n2_ := Aside0.mk (Kd.R_below (kr_ HO_381003.out) hb); have n3_ := Aside0.mk (Kd.R_below (kr_ HO_393000.out) hb); have n4_ := Aside0.mk (Kd.R_below (kr_ HO_393002.out) hb); have n5_ := Aside0.mk (Kd.R_below (kr_ HO_393003.out) hb); have n6_ := Aside0.mk (Kd.R_below (kr_ HO_411000.out) hb); have n7_ := Aside0.mk (Kd.R_below (kr_ HO_411002.out) hb); have n8_ := Aside0.mk (Kd.R_below (kr_ HO_411003.out) hb); have n9_ := Aside0.mk (blk_below (g := gb380) (o := .cells #[.slice Ao8 t369.length co8, .int .i64 t372, .slice Ao10 t373.length co10, .slice Ao11 t376.length co11] 25 (0, 0)) (bk BK380.out) hb); have n10_ := Aside0.mk (blk_below (g := gb392) (o := .cells #[.slice Ao14 t395.length co14, .int .i64 t384, .slice Ao17 t396.length co17, .slice Ao18 t397.length co18] 25 (0, 0)) (bk BK392.out) hb); have n11_ := Aside0.mk (blk_below (g := gb410) (o := .cells #[.slice Ao43 t399.length co43, .int .i64 t402, .slice Ao47 t403.length co47, .slice Ao48 t406.length co48] 25 (0, 0)) (bk BK410.out) hb); have n12_ := Aside0.mk (below_step (bw HB.out) hb); clear HO_381000; clear HO_381002; clear HO_381003; clear HO_393000; clear HO_393002; clear HO_393003; clear HO_411000; clear HO_411002; clear HO_411003; clear BK380; clear BK392; clear BK410; clear HB; have HO_381000 := n0_; have HO_381002 := n1_; have HO_381003 := n2_; have HO_393000 := n3_; have HO_393002 := n4_; have HO_393003 := n5_; have HO_411000 := n6_; have HO_411002 := n7_; have HO_411003 := n8_; have BK380 := n9_; have BK392 := n10_; have BK410 := n11_; have HB := n12_; clear n0_ n1_ n2_ n3_ n4_ n5_ n6_ n7_ n8_ n9_ n10_ n11_ n12_; (try clear hb)))
            go_ret
            exact ⟨rr_, bw HB.out⟩
           ·
            rw [if_neg c66] at H
            have c66b0 : (t412 == t394) = false := beq_eq_false_iff_ne.mpr c66
            have c66b1 : (t412 != t394) = true := bne_iff_ne.mpr c66
            obtain rfl := Option.some.inj H
            exact absurd HT.out (by decide)
      ·
       rw [if_neg c33] at H
       have c33b0 : (t398 == t394) = false := beq_eq_false_iff_ne.mpr c33
       have c33b1 : (t398 != t394) = true := bne_iff_ne.mpr c33
       obtain rfl := Option.some.inj H
       exact absurd HT.out (by decide)

/-- THE ONE PURE STATEMENT of laws_FnExactTakeFunc: yours. -/
def laws_FnExactTakeFunc.Pure : Prop := ∀ (a0 : ByteArray), a0.size ≤ 140737488351232 → ∃ k, laws_FnExactTakeFunc.f k a0 = some true
theorem laws_FnExactTakeFunc.walk (P : laws_FnExactTakeFunc.Pure) (a0 : ByteArray) (w : World) (w0 : a0.size ≤ 140737488351232) :
  Calls Try.prog 3 #[.string a0] w fun e w' => e = .returned (.bool true) ∧ Below w.heap.size w w' := by
 obtain ⟨k, h⟩ := P a0 w0
 refine (laws_FnExactTakeFunc.calls k a0 true w rfl h).mono ?_
 rintro e w' ⟨rfl, hd⟩
 exact ⟨rfl, hd⟩

end Go.Proofs.Ytmmlgkepnjelnaa.Q

