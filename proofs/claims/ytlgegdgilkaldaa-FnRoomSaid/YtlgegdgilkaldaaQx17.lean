-- Written by a program of this session; it walks the functions that the law reaches.
import Derived.Test.YtlgegdgilkaldaaQx0
import Derived.Test.YtlgegdgilkaldaaQx9
import Derived.Test.YtlgegdgilkaldaaQx2
import Derived.Test.YtlgegdgilkaldaaQx4
import Derived.Test.YtlgegdgilkaldaaQx6
namespace Go.Proofs.Ytlgegdgilkaldaa.Q
open Go.RowKit Go.Proofs.YtlgegdgilkaldaaW.PrintWords Go.Proofs.YtlgegdgilkaldaaW.PrintLast Go.Proofs.YtlgegdgilkaldaaW.PrintMore
attribute [local go_sem] max2_int min2_int max_two min_two max_three min_three max_four min_four   -- for this text's walks alone
set_option linter.unusedVariables false
set_option linter.unusedSimpArgs false

/-! ### spec_l11Numbered: function 55 -/
def spec_l11Numbered.f (a0 : Int) : Option (Bool) := if a0 = 15 then (some true) else (if a0 = 17 then (some true) else (some (a0 == 18)))
set_option maxHeartbeats 8000000 in
set_option maxRecDepth 100000 in
theorem spec_l11Numbered.calls (a0 : Int) (r : Bool) (w : World) (h : spec_l11Numbered.f a0 = some r) :
  Calls Try.prog 55 #[.int .i64 a0] w fun e w' => e = .returned (.bool r) ∧ Drawn0 w w' := by
 have H : (if a0 = 15 then (some true) else (if a0 = 17 then (some true) else (some (a0 == 18)))) = some r := h
 clear h
 by_cases c2 : a0 = 15
 ·
  rw [if_pos c2] at H
  have c2b0 : (a0 == 15) = true := beq_iff_eq.mpr c2
  have c2b1 : (a0 != 15) = false := bne_eq_false_iff_eq.mpr c2
  clear c2
  obtain rfl := Option.some.inj H
  simp only [Option.some.injEq, Prod.mk.injEq] at H
  obtain ⟨rfl⟩ := H
  go_enter Try.func55, Try.ntmps55
  go_wp2
  go_ret
  exact ⟨by first | rfl | (simp; done) | (simp [*]; done), by repeat (first | exact Drawn0.refl _ | apply Drawn0.step)⟩
 ·
  rw [if_neg c2] at H
  have c2b0 : (a0 == 15) = false := beq_eq_false_iff_ne.mpr c2
  have c2b1 : (a0 != 15) = true := bne_iff_ne.mpr c2
  by_cases c3 : a0 = 17
  ·
   rw [if_pos c3] at H
   have c3b0 : (a0 == 17) = true := beq_iff_eq.mpr c3
   have c3b1 : (a0 != 17) = false := bne_eq_false_iff_eq.mpr c3
   clear c3
   obtain rfl := Option.some.inj H
   simp only [Option.some.injEq, Prod.mk.injEq] at H
   obtain ⟨rfl⟩ := H
   go_enter Try.func55, Try.ntmps55
   go_wp2
   go_ret
   exact ⟨by first | rfl | (simp; done) | (simp [*]; done), by repeat (first | exact Drawn0.refl _ | apply Drawn0.step)⟩
  ·
   rw [if_neg c3] at H
   have c3b0 : (a0 == 17) = false := beq_eq_false_iff_ne.mpr c3
   have c3b1 : (a0 != 17) = true := bne_iff_ne.mpr c3
   obtain rfl := Option.some.inj H
   simp only [Option.some.injEq, Prod.mk.injEq] at H
   obtain ⟨rfl⟩ := H
   go_enter Try.func55, Try.ntmps55
   go_wp2
   go_ret
   exact ⟨by first | rfl | (simp; done) | (simp [*]; done), by repeat (first | exact Drawn0.refl _ | apply Drawn0.step)⟩

end Go.Proofs.Ytlgegdgilkaldaa.Q

namespace Go.Proofs.Ytlgegdgilkaldaa.Q
open Go.RowKit Go.Proofs.YtlgegdgilkaldaaW.PrintWords Go.Proofs.YtlgegdgilkaldaaW.PrintLast Go.Proofs.YtlgegdgilkaldaaW.PrintMore
attribute [local go_sem] max2_int min2_int max_two min_two max_three min_three max_four min_four   -- for this text's walks alone
set_option linter.unusedVariables false
set_option linter.unusedSimpArgs false

/-! ### spec_l11Places: function 56 -/
mutual
def spec_l11Places.l0 : Nat → List Int → Int → List (S52) → Int → Int → Option (List Int)
 | 0, _, _, _, _, _ => none
 | k + 1, x3, x4, x15, x16, x17 => if x17 < x16 then (if 0 ≤ x17 then (if x17 < (x15.length : Int) then ((spec_l11Room.f k ((rd_T52 x15 x17).f0) ((rd_T52 x15 x17).f1) ((rd_T52 x15 x17).f2)).bind fun bt416 => ((spec_l11Up.f x4 bt416.2).bind fun t418 => (if x3.length < 17592186044416 then (spec_l11Places.l0 k (x3 ++ [t418]) (wrap64 (t418 + bt416.1)) x15 x16 (wrap64 (x17 + 1))) else (none)))) else (none)) else (none)) else (some x3)
def spec_l11Places.l1 : Nat → List Int → Int → Int → Int → Option (List Int)
 | 0, _, _, _, _ => none
 | k + 1, x3, x10, x45, x46 => if x46 < x45 then ((spec_l11Up.f 1 x10).bind fun t424 => (if x3.length < 17592186044416 then (spec_l11Places.l1 k (x3 ++ [t424]) x10 x45 (wrap64 (x46 + 1))) else (none))) else (some x3)
end
def spec_l11Places.f (k : Nat) (a0_0 : Int) (a0_1 : Int) (l0_2 : List (S52)) : Option (List Int) := if a0_0 = 14 then (spec_l11Places.l0 k ([] : List Int) 0 l0_2 (l0_2.length : Int) 0) else ((spec_l11Room.f k a0_0 a0_1 l0_2).bind fun bt422 => (spec_l11Places.l1 k ([] : List Int) bt422.2 (l0_2.length : Int) 0))
theorem spec_l11Places.mono_l : ∀ k, (∀ y0 y1 y2 y3 y4, LeO (spec_l11Places.l0 k y0 y1 y2 y3 y4) (spec_l11Places.l0 (k + 1) y0 y1 y2 y3 y4)) ∧ (∀ y0 y1 y2 y3, LeO (spec_l11Places.l1 k y0 y1 y2 y3) (spec_l11Places.l1 (k + 1) y0 y1 y2 y3))
 | 0 => ⟨fun _ _ _ _ _ r h => by simp [spec_l11Places.l0] at h, fun _ _ _ _ r h => by simp [spec_l11Places.l1] at h⟩
 | k + 1 => by
  obtain ⟨ih0, ih1⟩ := spec_l11Places.mono_l k
  refine ⟨?_, ?_⟩
  ·
   intro y0 y1 y2 y3 y4
   unfold spec_l11Places.l0
   repeat' first
   | (with_reducible exact ih0 _ _ _ _ _)
   | (with_reducible exact ih1 _ _ _ _)
   | (with_reducible exact spec_l11Room.mono _ _ _ _)
   | (with_reducible exact LeO.refl _)
   | (with_reducible exact LeO.none _)
   | (with_reducible refine LeO.ite ?_ ?_)
   | (with_reducible refine LeO.bind ?_ (fun _ => ?_))
   | exact ih0 _ _ _ _ _
   | exact ih1 _ _ _ _
   | exact spec_l11Room.mono _ _ _ _
   | exact LeO.none _
   | refine LeO.ite ?_ ?_
   | refine LeO.bind ?_ (fun _ => ?_)
  ·
   intro y0 y1 y2 y3
   unfold spec_l11Places.l1
   repeat' first
   | (with_reducible exact ih0 _ _ _ _ _)
   | (with_reducible exact ih1 _ _ _ _)
   | (with_reducible exact spec_l11Room.mono _ _ _ _)
   | (with_reducible exact LeO.refl _)
   | (with_reducible exact LeO.none _)
   | (with_reducible refine LeO.ite ?_ ?_)
   | (with_reducible refine LeO.bind ?_ (fun _ => ?_))
   | exact ih0 _ _ _ _ _
   | exact ih1 _ _ _ _
   | exact spec_l11Room.mono _ _ _ _
   | exact LeO.none _
   | refine LeO.ite ?_ ?_
   | refine LeO.bind ?_ (fun _ => ?_)
theorem spec_l11Places.mono : ∀ a0 a1 a2 k, LeO (spec_l11Places.f k a0 a1 a2) (spec_l11Places.f (k + 1) a0 a1 a2) := by
 intro a0 a1 a2 k
 obtain ⟨ih0, ih1⟩ := spec_l11Places.mono_l k
 unfold spec_l11Places.f
 repeat' first
   | (with_reducible exact ih0 _ _ _ _ _)
   | (with_reducible exact ih1 _ _ _ _)
   | (with_reducible exact spec_l11Room.mono _ _ _ _)
   | (with_reducible exact LeO.refl _)
   | (with_reducible exact LeO.none _)
   | (with_reducible refine LeO.ite ?_ ?_)
   | (with_reducible refine LeO.bind ?_ (fun _ => ?_))
   | exact ih0 _ _ _ _ _
   | exact ih1 _ _ _ _
   | exact spec_l11Room.mono _ _ _ _
   | exact LeO.none _
   | refine LeO.ite ?_ ?_
   | refine LeO.bind ?_ (fun _ => ?_)
set_option maxHeartbeats 8000000 in
set_option maxRecDepth 100000 in
theorem spec_l11Places.calls (k : Nat) (a0_0 : Int) (a0_1 : Int) (A0_2 : Option Addr) (c0_2 : Nat) (l0_2 : List (S52)) (r : List Int) (w : World) (hr0_2 : Kd.C k52 w A0_2 l0_2.length l0_2) (hc0_2 : l0_2.length ≤ c0_2) (h : spec_l11Places.f k a0_0 a0_1 l0_2 = some r) :
  Calls Try.prog 56 #[.agg #[.int .i64 a0_0, .int .i64 a0_1, .slice A0_2 l0_2.length c0_2]] w fun e w' => ∃ v0_ : Value, e = .returned (v0_) ∧ Kd.R (Kd.int .i64) 3 w' w.heap.size (fun _ => True) v0_ r ∧ Below w.heap.size w w' := by
 have hu52 := Try.underlying52
 have HR0_2 := Aside0.mk hr0_2
 have HC0_2 := Aside0.mk hc0_2
 clear hr0_2 hc0_2
 have HB := Aside0.mk (Below.refl w.heap.size w)
 have H : (if a0_0 = 14 then (spec_l11Places.l0 k ([] : List Int) 0 l0_2 (l0_2.length : Int) 0) else ((spec_l11Room.f k a0_0 a0_1 l0_2).bind fun bt422 => (spec_l11Places.l1 k ([] : List Int) bt422.2 (l0_2.length : Int) 0))) = some r := h
 clear h
 by_cases c2 : a0_0 = 14
 ·
  rw [if_pos c2] at H
  have c2b0 : (a0_0 == 14) = true := beq_iff_eq.mpr c2
  have c2b1 : (a0_0 != 14) = false := bne_eq_false_iff_eq.mpr c2
  clear c2
  have H' := Aside0.mk H
  clear H
  go_enter Try.func56, Try.ntmps56
  go_wp2_with (first | ((with_reducible refine gate_dst (N := 1) rfl ?_); refine box_event ?hg (N := 1) ?hd (cs := #[.int .i64 a0_0, .int .i64 a0_1, .slice A0_2 l0_2.length c0_2]) (t := 52) ?hr ?_; (case hd => rfl); (case hg => rfl); (case hr => first | (go_simp; done) | (go_simp; rfl)); intro gb413 hg w3 hbox hb; have n0_ := Aside0.mk (below_step (bw HB.out) hb); have n1_ := Aside0.mk (hbox); have n2_ := Aside0.mk ((by rw [hg]; exact (below_size (bw HB.out)) : w.heap.size ≤ gb413)); have n3_ := Aside0.mk ((by rw [hg]; exact (below_size (bw HB.out)) : w.heap.size ≤ gb413)); clear HB; have HB := n0_; have BK413 := n1_; have GW413 := n2_; have GE413 := n3_; clear n0_ n1_ n2_ n3_; clear hb hbox hg; have hcz4_0 : w3.cell? ⟨gb413, 0, none⟩ = some (.int .i64 a0_0) := (blk_cell BK413.out 0).trans rfl; have hcz4_1 : w3.cell? ⟨gb413, 1, none⟩ = some (.int .i64 a0_1) := (blk_cell BK413.out 1).trans rfl; have hcz4_2 : w3.cell? ⟨gb413, 2, none⟩ = some (.slice A0_2 l0_2.length c0_2) := (blk_cell BK413.out 2).trans rfl; have hfz4_0 := blk_frozen BK413.out 0; have hfz4_1 := blk_frozen BK413.out 1; have hfz4_2 := blk_frozen BK413.out 2))
  (try simp only [Act.put, List.setIfInBounds_toArray, List.set_cons_zero, List.set_cons_succ])
  go_loopg [3, 4, 17] k (fun kq v3 v4 v17 w' => ∃ (x3_1 : List Int) (x4_1 : Int) (x17_1 : Int), v4 = .int .i64 x4_1 ∧ v17 = .int .i64 x17_1 ∧ Aside0 (spec_l11Places.l0 kq x3_1 x4_1 l0_2 (l0_2.length : Int) x17_1 = some r) ∧ Aside0 (kq ≤ k) ∧ Aside0 (Kd.R (Kd.int .i64) 3 w' w.heap.size (fun _ => True) v3 x3_1) ∧ Aside0 (w'.heap[gb413]? = some (.cells #[.int .i64 a0_0, .int .i64 a0_1, (.slice A0_2 l0_2.length c0_2)] 52 (0, 0))) ∧ Aside0 (Below w.heap.size w w'))
  case atStart => exact ⟨(([] : List Int)), (0), (0), (by first | rfl | (simp; done) | (simp [*]; done)), (by first | rfl | (simp; done) | (simp [*]; done)), H', ⟨Nat.le_refl _⟩, ⟨by first | exact Kd.R_nil _ _ _ _ _ | exact Kd.N_nil _ _ _ _ _ | exact Kd.V_nil _ _ _ _ _ | exact Kd.Q_nil _ _ _ _ _ | exact Kd.S_nil _ _ _ _ _⟩, ⟨bk BK413.out⟩, ⟨bw HB.out⟩⟩
  case round =>
   clear H'
   try clear c2
   try clear c2b0
   try clear c2b1
   try clear p2
   try clear hcz4_0 hcz4_1 hcz4_2
   try clear hfz4_0 hfz4_1 hfz4_2
   obtain ⟨x3_1, x4_1, x17_1, rfl, rfl, HA, HK1, HO_3, BK413, HB⟩ := hrel
   cases gk with
   | zero => exact absurd HA.out (by simp [spec_l11Places.l0])
   | succ k1 =>
    have H := HA.out
    clear HA
    simp only [spec_l11Places.l0] at H
    by_cases c5 : x17_1 < (l0_2.length : Int)
    ·
     rw [if_pos c5] at H
     have c5b0 : decide (x17_1 < (l0_2.length : Int)) = true := decide_eq_true c5
     clear c5
     by_cases c6 : 0 ≤ x17_1
     ·
      rw [if_pos c6] at H
      have c6b0 : decide (0 ≤ x17_1) = true := decide_eq_true c6
      clear c6
      by_cases c7 : x17_1 < (l0_2.length : Int)
      ·
       rw [if_pos c7] at H
       have c7b0 : decide (x17_1 < (l0_2.length : Int)) = true := decide_eq_true c7
       clear c7
       replace H := Option.bind_eq_some_iff.mp H
       obtain ⟨⟨t416, t417⟩, A80, H⟩ := H
       replace H : ((spec_l11Up.f x4_1 t417).bind fun t418 => (if x3_1.length < 17592186044416 then (spec_l11Places.l0 k1 (x3_1 ++ [t418]) (wrap64 (t418 + t416)) l0_2 (l0_2.length : Int) (wrap64 (x17_1 + 1))) else (none))) = some r := H
       have A8 := Aside0.mk A80
       clear A80
       replace H := Option.bind_eq_some_iff.mp H
       obtain ⟨t418, A90, H⟩ := H
       replace H : (if x3_1.length < 17592186044416 then (spec_l11Places.l0 k1 (x3_1 ++ [t418]) (wrap64 (t418 + t416)) l0_2 (l0_2.length : Int) (wrap64 (x17_1 + 1))) else (none)) = some r := H
       have A9 := Aside0.mk A90
       clear A90
       by_cases c10 : x3_1.length < 17592186044416
       ·
        rw [if_pos c10] at H
        have LMc10 := Aside0.mk c10
        clear c10
        obtain ⟨y419, hy419⟩ : ∃ y_ : List Int, y_ = (x3_1 ++ [t418]) := ⟨_, rfl⟩
        replace H : (spec_l11Places.l0 k1 y419 (wrap64 (t418 + t416)) l0_2 (l0_2.length : Int) (wrap64 (x17_1 + 1))) = some r := by first | (rw [hy419]; with_reducible exact H) | (have H2_ := (Option.bind_some _ _).symm.trans H; rw [hy419]; with_reducible exact H2_) | (have H2_ := (Option.bind_some _ _).symm.trans H; with_reducible exact H2_) | with_reducible exact H | (rw [hy419]; exact H) | exact H
        have Ny419 := Aside0.mk hy419
        clear hy419
        have H' := Aside0.mk H
        clear H
        have p414 : 0 ≤ (x17_1 : Int) := of_decide_eq_true (by first | (with_reducible assumption) | assumption)
        have q414 : x17_1 < (l0_2.length : Int) := of_decide_eq_true (by first | (with_reducible assumption) | assumption)
        obtain ⟨ad414, A414_2, c414_2, e414, hx414_0, hx414_1, hx414_2, hl414_2, hi414_2⟩ := at_T52 HR0_2.out x17_1 p414 q414
        cases e414
        replace hx414_0 := (HB.out.cell (World.block_lt_of_cell? w _ hx414_0)).trans hx414_0
        replace hx414_1 := (HB.out.cell (World.block_lt_of_cell? w _ hx414_1)).trans hx414_1
        replace hx414_2 := (HB.out.cell (World.block_lt_of_cell? w _ hx414_2)).trans hx414_2
        have HR414_2 := Aside0.mk hi414_2
        have HC414_2 := Aside0.mk hl414_2
        clear hi414_2 hl414_2
        replace p414 := eq_true p414
        replace q414 := eq_true q414
        go_wp2_with (first | ((with_reducible refine gate_dst (N := 6) rfl ?_); refine box_event ?hg (N := 6) ?hd (cs := #[.int .i64 0, .int .i64 0, .slice none 0 0]) (t := 52) ?hr ?_; (case hd => rfl); (case hg => rfl); (case hr => first | (go_simp; done) | (go_simp; rfl)); intro gb415 hg w11 hbox hb; have n0_ := Aside0.mk (Kd.R_below (by (with_reducible repeat (first | apply Kd.R_alloc | apply Kd.R_drewN | apply Kd.R_drew)); exact HO_3.out) hb); have n1_ := Aside0.mk (blk_below (g := gb413) (o := .cells #[.int .i64 a0_0, .int .i64 a0_1, .slice (some ad414) l0_2.length c0_2] 52 (0, 0)) (bk BK413.out) hb); have n2_ := Aside0.mk (below_step (bw HB.out) hb); have n3_ := Aside0.mk (hbox); have n4_ := Aside0.mk ((by rw [hg]; exact (below_size (bw HB.out)) : w.heap.size ≤ gb415)); have n5_ := Aside0.mk ((by rw [hg]; exact (below_size (bw HB.out)) : w.heap.size ≤ gb415)); have n6_ := Aside0.mk ((by rw [hg]; exact Nat.ne_of_lt (blk_lt (g := gb413) (o := .cells #[.int .i64 a0_0, .int .i64 a0_1, .slice (some ad414) l0_2.length c0_2] 52 (0, 0)) (bk BK413.out)) : gb413 ≠ gb415)); have n7_ := Aside0.mk ((by rw [hg]; exact Nat.ne_of_gt (blk_lt (g := gb413) (o := .cells #[.int .i64 a0_0, .int .i64 a0_1, .slice (some ad414) l0_2.length c0_2] 52 (0, 0)) (bk BK413.out)) : gb415 ≠ gb413)); clear HO_3; clear BK413; clear HB; have HO_3 := n0_; have BK413 := n1_; have HB := n2_; have BK415 := n3_; have GW415 := n4_; have GE415 := n5_; have NB413_415 := n6_; have NB415_413 := n7_; clear n0_ n1_ n2_ n3_ n4_ n5_ n6_ n7_; clear hb hbox hg; have hnb12 := NB415_413.out; have hnc12 := NB413_415.out; have hcz13_0 : w11.cell? ⟨gb415, 0, none⟩ = some (.int .i64 0) := (blk_cell BK415.out 0).trans rfl; have hcz13_1 : w11.cell? ⟨gb415, 1, none⟩ = some (.int .i64 0) := (blk_cell BK415.out 1).trans rfl; have hcz13_2 : w11.cell? ⟨gb415, 2, none⟩ = some (.slice none 0 0) := (blk_cell BK415.out 2).trans rfl; have hfz13_0 := blk_frozen BK415.out 0; have hfz13_1 := blk_frozen BK415.out 1; have hfz13_2 := blk_frozen BK415.out 2) | ((with_reducible refine gate_callee (f := 46) rfl ?_); refine goesL_ (some 23) rfl rfl Try.func46 (by kernel_rfl) rfl #[.agg #[.int .i64 ((rd_T52 l0_2 x17_1).f0), .int .i64 ((rd_T52 l0_2 x17_1).f1), .slice A414_2 ((rd_T52 l0_2 x17_1).f2).length c414_2]] rfl ar ?_; (with_reducible refine (spec_l11Room.calls k1 ((rd_T52 l0_2 x17_1).f0) ((rd_T52 l0_2 x17_1).f1) _ _ ((rd_T52 l0_2 x17_1).f2) t416 t417 _ ?side1 ?side2 A8.out).mono ?_); (case side1 => exact Kd.C_below HR414_2.out (bw HB.out)); (case side2 => exact HC414_2.out); rintro e w14 ⟨rfl, hb⟩; refine ⟨_, rfl, ?_⟩; have n0_ := Aside0.mk (Kd.R_below (by (with_reducible repeat (first | apply Kd.R_alloc | apply Kd.R_drewN | apply Kd.R_drew)); exact (Kd.R_mono (Kd.R_far (p := ⟨gb415, 2, none⟩) (Kd.R_far (p := ⟨gb415, 1, none⟩) (Kd.R_far (p := ⟨gb415, 0, none⟩) (Kd.R_types HO_3.out BK415.out (by decide)) (fun _ hk => hk.2) (.int .i64 ((rd_T52 l0_2 x17_1).f0))) (fun _ hk => hk.2) (.int .i64 ((rd_T52 l0_2 x17_1).f1))) (fun _ hk => hk.2) (.slice A414_2 ((rd_T52 l0_2 x17_1).f2).length c414_2)) (fun _ h_ => h_.1))) hb); have n1_ := Aside0.mk (blk_below (g := gb413) (o := .cells #[.int .i64 a0_0, .int .i64 a0_1, .slice (some ad414) l0_2.length c0_2] 52 (0, 0)) (by (with_reducible repeat (first | refine blk_drewN ?_ _ | refine blk_drew ?_ | refine blk_alloc ?_ _)); refine blk_far ?_ NB413_415.out _; (with_reducible repeat (first | refine blk_drewN ?_ _ | refine blk_drew ?_ | refine blk_alloc ?_ _)); refine blk_far ?_ NB413_415.out _; (with_reducible repeat (first | refine blk_drewN ?_ _ | refine blk_drew ?_ | refine blk_alloc ?_ _)); refine blk_far ?_ NB413_415.out _; (with_reducible repeat (first | refine blk_drewN ?_ _ | refine blk_drew ?_ | refine blk_alloc ?_ _)); exact BK413.out) hb); have n2_ := Aside0.mk (blk_below (g := gb415) (o := .cells #[.int .i64 ((rd_T52 l0_2 x17_1).f0), .int .i64 ((rd_T52 l0_2 x17_1).f1), .slice A414_2 ((rd_T52 l0_2 x17_1).f2).length c414_2] 52 (0, 0)) (by (with_reducible repeat (first | refine blk_drewN ?_ _ | refine blk_drew ?_ | refine blk_alloc ?_ _)); refine blk_put (cs := #[.int .i64 ((rd_T52 l0_2 x17_1).f0), .int .i64 ((rd_T52 l0_2 x17_1).f1), .slice none 0 0]) ?_ 2 _ rfl; (with_reducible repeat (first | refine blk_drewN ?_ _ | refine blk_drew ?_ | refine blk_alloc ?_ _)); refine blk_put (cs := #[.int .i64 ((rd_T52 l0_2 x17_1).f0), .int .i64 0, .slice none 0 0]) ?_ 1 _ rfl; (with_reducible repeat (first | refine blk_drewN ?_ _ | refine blk_drew ?_ | refine blk_alloc ?_ _)); refine blk_put (cs := #[.int .i64 0, .int .i64 0, .slice none 0 0]) ?_ 0 _ rfl; (with_reducible repeat (first | refine blk_drewN ?_ _ | refine blk_drew ?_ | refine blk_alloc ?_ _)); exact BK415.out) hb); have n3_ := Aside0.mk (below_step (bw HB.out) hb); clear HO_3; clear BK413; clear BK415; clear HB; have HO_3 := n0_; have BK413 := n1_; have BK415 := n2_; have HB := n3_; clear n0_ n1_ n2_ n3_; (try clear hb)) | ((with_reducible refine gate_callee (f := 67) rfl ?_); refine goesL_ (some 28) rfl rfl Try.func67 (by kernel_rfl) rfl #[.int .i64 x4_1, .int .i64 t417] rfl ar ?_; (with_reducible refine (spec_l11Up.calls x4_1 t417 t418 _ A9.out).mono ?_); rintro e w' ⟨rfl, ⟨nd, rfl⟩⟩; refine ⟨_, rfl, ?_⟩) | ((with_reducible refine gate_builtin (b := .append) (xs := #[.tmp 29, .tmp 31]) rfl ?_); at_builtin; refine Kd.R_append (Kd.int .i64) (w0 := w) w.heap.size rfl (.tmp 29) (.tmp 31) 38 3 (.int .i64 0) 8 rfl Try.underlying38 info3 rfl (by decide) (by omega) u3 x3_1 t418 [.int .i64 t418] (fun _ => True) (fun _ => False) rfl rfl ?aP (fun _ hk => hk.elim) ?aF ?aO ?aB ?aS ?aL ?_; (case aP => exact rfl); (case aB => exact (bw HB.out)); (case aF => exact (fun _ _ => trivial)); (case aO => exact (by (with_reducible repeat (first | apply Kd.R_alloc | apply Kd.R_drewN | apply Kd.R_drew)); exact HO_3.out)); (case aS => exact (below_size (bw HB.out))); (case aL => have := LMc10.out; omega); intro v420 w15 ho hb hg hat; rw [← Ny419.out] at ho; have n0_ := Aside0.mk (blk_grown (g := gb413) (o := .cells #[.int .i64 a0_0, .int .i64 a0_1, .slice (some ad414) l0_2.length c0_2] 52 (0, 0)) (bk BK413.out) hg (Kd.R_ne HO_3.out BK413.out (by decide))); have n1_ := Aside0.mk (blk_grown (g := gb415) (o := .cells #[.int .i64 ((rd_T52 l0_2 x17_1).f0), .int .i64 ((rd_T52 l0_2 x17_1).f1), .slice A414_2 ((rd_T52 l0_2 x17_1).f2).length c414_2] 52 (0, 0)) (bk BK415.out) hg (Kd.R_ne HO_3.out BK415.out (by decide))); have n2_ := Aside0.mk (hb); have n3_ := Aside0.mk (ho); clear BK413; clear BK415; clear HB; clear HO_3; have BK413 := n0_; have BK415 := n1_; have HB := n2_; have HO421 := n3_; clear n0_ n1_ n2_ n3_; clear ho hb hg hat))
        go_roundg k1
        case measure => have := HK1.out; omega
        case rel => exact ⟨(y419), (wrap64 (t418 + t416)), (wrap64 (x17_1 + 1)), (by first | rfl | (simp; done) | (simp [*]; done)), (by first | rfl | (simp; done) | (simp [*]; done)), H', ⟨by have := HK1.out; omega⟩, ⟨by (with_reducible repeat (first | apply Kd.R_alloc | apply Kd.R_drewN | apply Kd.R_drew)); exact HO421.out⟩, ⟨bk BK413.out⟩, ⟨bw HB.out⟩⟩
       ·
        rw [if_neg c10] at H
        exact absurd H (by simp)
      ·
       rw [if_neg c7] at H
       exact absurd H (by simp)
     ·
      rw [if_neg c6] at H
      exact absurd H (by simp)
    ·
     rw [if_neg c5] at H
     have c5b0 : decide (x17_1 < (l0_2.length : Int)) = false := decide_eq_false c5
     clear c5
     obtain rfl := Option.some.inj H
     simp only [Option.some.injEq, Prod.mk.injEq] at H
     obtain ⟨rfl⟩ := H
     go_wp2
     go_ret
     exact ⟨_, by first | rfl | (simp [errW_none, errW_some] <;> rfl) | (simp [*, errW_none, errW_some] <;> rfl), by (with_reducible repeat (first | apply Kd.R_alloc | apply Kd.R_drewN | apply Kd.R_drew)); exact HO_3.out, bw HB.out⟩
 ·
  rw [if_neg c2] at H
  have c2b0 : (a0_0 == 14) = false := beq_eq_false_iff_ne.mpr c2
  have c2b1 : (a0_0 != 14) = true := bne_iff_ne.mpr c2
  replace H := Option.bind_eq_some_iff.mp H
  obtain ⟨⟨t422, t423⟩, A160, H⟩ := H
  replace H : (spec_l11Places.l1 k ([] : List Int) t423 (l0_2.length : Int) 0) = some r := H
  have A16 := Aside0.mk A160
  clear A160
  have H' := Aside0.mk H
  clear H
  go_enter Try.func56, Try.ntmps56
  go_wp2_with (first | ((with_reducible refine gate_dst (N := 1) rfl ?_); refine box_event ?hg (N := 1) ?hd (cs := #[.int .i64 a0_0, .int .i64 a0_1, .slice A0_2 l0_2.length c0_2]) (t := 52) ?hr ?_; (case hd => rfl); (case hg => rfl); (case hr => first | (go_simp; done) | (go_simp; rfl)); intro gb413 hg w17 hbox hb; have n0_ := Aside0.mk (below_step (bw HB.out) hb); have n1_ := Aside0.mk (hbox); have n2_ := Aside0.mk ((by rw [hg]; exact (below_size (bw HB.out)) : w.heap.size ≤ gb413)); have n3_ := Aside0.mk ((by rw [hg]; exact (below_size (bw HB.out)) : w.heap.size ≤ gb413)); clear HB; have HB := n0_; have BK413 := n1_; have GW413 := n2_; have GE413 := n3_; clear n0_ n1_ n2_ n3_; clear hb hbox hg; have hcz18_0 : w17.cell? ⟨gb413, 0, none⟩ = some (.int .i64 a0_0) := (blk_cell BK413.out 0).trans rfl; have hcz18_1 : w17.cell? ⟨gb413, 1, none⟩ = some (.int .i64 a0_1) := (blk_cell BK413.out 1).trans rfl; have hcz18_2 : w17.cell? ⟨gb413, 2, none⟩ = some (.slice A0_2 l0_2.length c0_2) := (blk_cell BK413.out 2).trans rfl; have hfz18_0 := blk_frozen BK413.out 0; have hfz18_1 := blk_frozen BK413.out 1; have hfz18_2 := blk_frozen BK413.out 2) | ((with_reducible refine gate_callee (f := 46) rfl ?_); refine goesL_ (some 40) rfl rfl Try.func46 (by kernel_rfl) rfl #[.agg #[.int .i64 a0_0, .int .i64 a0_1, .slice A0_2 l0_2.length c0_2]] rfl ar ?_; (with_reducible refine (spec_l11Room.calls k a0_0 a0_1 _ _ l0_2 t422 t423 _ ?side1 ?side2 A16.out).mono ?_); (case side1 => repeat (first | exact (Kd.C_below HR0_2.out HB.out) | (with_reducible refine Kd.C_alloc ?_ _) | (with_reducible refine Kd.C_drewN ?_ _) | (with_reducible refine Kd.C_drew ?_))); (case side2 => exact HC0_2.out); rintro e w19 ⟨rfl, hb⟩; refine ⟨_, rfl, ?_⟩; have n0_ := Aside0.mk (blk_below (g := gb413) (o := .cells #[.int .i64 a0_0, .int .i64 a0_1, .slice A0_2 l0_2.length c0_2] 52 (0, 0)) (bk BK413.out) hb); have n1_ := Aside0.mk (below_step (bw HB.out) hb); clear BK413; clear HB; have BK413 := n0_; have HB := n1_; clear n0_ n1_; (try clear hb); have hcz20_0 : w19.cell? ⟨gb413, 0, none⟩ = some (.int .i64 a0_0) := (blk_cell BK413.out 0).trans rfl; have hcz20_1 : w19.cell? ⟨gb413, 1, none⟩ = some (.int .i64 a0_1) := (blk_cell BK413.out 1).trans rfl; have hcz20_2 : w19.cell? ⟨gb413, 2, none⟩ = some (.slice A0_2 l0_2.length c0_2) := (blk_cell BK413.out 2).trans rfl; have hfz20_0 := blk_frozen BK413.out 0; have hfz20_1 := blk_frozen BK413.out 1; have hfz20_2 := blk_frozen BK413.out 2))
  (try simp only [Act.put, List.setIfInBounds_toArray, List.set_cons_zero, List.set_cons_succ])
  go_loopg [3, 46] k (fun kq v3 v46 w' => ∃ (x3_1 : List Int) (x46_1 : Int), v46 = .int .i64 x46_1 ∧ Aside0 (spec_l11Places.l1 kq x3_1 t423 (l0_2.length : Int) x46_1 = some r) ∧ Aside0 (kq ≤ k) ∧ Aside0 (Kd.R (Kd.int .i64) 3 w' w.heap.size (fun _ => True) v3 x3_1) ∧ Aside0 (w'.heap[gb413]? = some (.cells #[.int .i64 a0_0, .int .i64 a0_1, (.slice A0_2 l0_2.length c0_2)] 52 (0, 0))) ∧ Aside0 (Below w.heap.size w w'))
  case atStart => exact ⟨(([] : List Int)), (0), (by first | rfl | (simp; done) | (simp [*]; done)), H', ⟨Nat.le_refl _⟩, ⟨by first | exact Kd.R_nil _ _ _ _ _ | exact Kd.N_nil _ _ _ _ _ | exact Kd.V_nil _ _ _ _ _ | exact Kd.Q_nil _ _ _ _ _ | exact Kd.S_nil _ _ _ _ _⟩, ⟨bk BK413.out⟩, ⟨bw HB.out⟩⟩
  case round =>
   clear H'
   try clear c1
   try clear c2
   try clear c2b0
   try clear c2b1
   try clear p2
   try clear c4
   try clear p4
   try clear q4
   try clear hx4
   try clear c5
   try clear c5b0
   try clear c6
   try clear c6b0
   try clear p6
   try clear c7
   try clear c7b0
   try clear c10
   try clear c12
   try clear hcz13_0 hcz13_1 hcz13_2
   try clear hcz18_0 hcz18_1 hcz18_2
   try clear hcz20_0 hcz20_1 hcz20_2
   try clear hcz4_0 hcz4_1 hcz4_2
   try clear hfz13_0 hfz13_1 hfz13_2
   try clear hfz18_0 hfz18_1 hfz18_2
   try clear hfz20_0 hfz20_1 hfz20_2
   try clear hfz4_0 hfz4_1 hfz4_2
   try clear hx414_0
   try clear hx414_1
   try clear hx414_2
   try clear p2
   try clear p414
   try clear q414
   obtain ⟨x3_1, x46_1, rfl, HA, HK1, HO_3, BK413, HB⟩ := hrel
   cases gk with
   | zero => exact absurd HA.out (by simp [spec_l11Places.l1])
   | succ k1 =>
    have H := HA.out
    clear HA
    simp only [spec_l11Places.l1] at H
    by_cases c21 : x46_1 < (l0_2.length : Int)
    ·
     rw [if_pos c21] at H
     have c21b0 : decide (x46_1 < (l0_2.length : Int)) = true := decide_eq_true c21
     clear c21
     replace H := Option.bind_eq_some_iff.mp H
     obtain ⟨t424, A220, H⟩ := H
     replace H : (if x3_1.length < 17592186044416 then (spec_l11Places.l1 k1 (x3_1 ++ [t424]) t423 (l0_2.length : Int) (wrap64 (x46_1 + 1))) else (none)) = some r := H
     have A22 := Aside0.mk A220
     clear A220
     by_cases c23 : x3_1.length < 17592186044416
     ·
      rw [if_pos c23] at H
      have LMc23 := Aside0.mk c23
      clear c23
      obtain ⟨y425, hy425⟩ : ∃ y_ : List Int, y_ = (x3_1 ++ [t424]) := ⟨_, rfl⟩
      replace H : (spec_l11Places.l1 k1 y425 t423 (l0_2.length : Int) (wrap64 (x46_1 + 1))) = some r := by first | (rw [hy425]; with_reducible exact H) | (have H2_ := (Option.bind_some _ _).symm.trans H; rw [hy425]; with_reducible exact H2_) | (have H2_ := (Option.bind_some _ _).symm.trans H; with_reducible exact H2_) | with_reducible exact H | (rw [hy425]; exact H) | exact H
      have Ny425 := Aside0.mk hy425
      clear hy425
      have H' := Aside0.mk H
      clear H
      go_wp2_with (first | ((with_reducible refine gate_callee (f := 67) rfl ?_); refine goesL_ (some 50) rfl rfl Try.func67 (by kernel_rfl) rfl #[.int .i64 1, .int .i64 t423] rfl ar ?_; (with_reducible refine (spec_l11Up.calls 1 t423 t424 _ A22.out).mono ?_); rintro e w' ⟨rfl, ⟨nd, rfl⟩⟩; refine ⟨_, rfl, ?_⟩) | ((with_reducible refine gate_builtin (b := .append) (xs := #[.tmp 48, .tmp 51]) rfl ?_); at_builtin; refine Kd.R_append (Kd.int .i64) (w0 := w) w.heap.size rfl (.tmp 48) (.tmp 51) 38 3 (.int .i64 0) 8 rfl Try.underlying38 info3 rfl (by decide) (by omega) u3 x3_1 t424 [.int .i64 t424] (fun _ => True) (fun _ => False) rfl rfl ?aP (fun _ hk => hk.elim) ?aF ?aO ?aB ?aS ?aL ?_; (case aP => exact rfl); (case aB => exact (bw HB.out)); (case aF => exact (fun _ _ => trivial)); (case aO => exact (by (with_reducible repeat (first | apply Kd.R_alloc | apply Kd.R_drewN | apply Kd.R_drew)); exact HO_3.out)); (case aS => exact (below_size (bw HB.out))); (case aL => have := LMc23.out; omega); intro v426 w24 ho hb hg hat; rw [← Ny425.out] at ho; have n0_ := Aside0.mk (blk_grown (g := gb413) (o := .cells #[.int .i64 a0_0, .int .i64 a0_1, .slice A0_2 l0_2.length c0_2] 52 (0, 0)) (bk BK413.out) hg (Kd.R_ne HO_3.out BK413.out (by decide))); have n1_ := Aside0.mk (hb); have n2_ := Aside0.mk (ho); clear BK413; clear HB; clear HO_3; have BK413 := n0_; have HB := n1_; have HO427 := n2_; clear n0_ n1_ n2_; clear ho hb hg hat))
      go_roundg k1
      case measure => have := HK1.out; omega
      case rel => exact ⟨(y425), (wrap64 (x46_1 + 1)), (by first | rfl | (simp; done) | (simp [*]; done)), H', ⟨by have := HK1.out; omega⟩, ⟨by (with_reducible repeat (first | apply Kd.R_alloc | apply Kd.R_drewN | apply Kd.R_drew)); exact HO427.out⟩, ⟨bk BK413.out⟩, ⟨bw HB.out⟩⟩
     ·
      rw [if_neg c23] at H
      exact absurd H (by simp)
    ·
     rw [if_neg c21] at H
     have c21b0 : decide (x46_1 < (l0_2.length : Int)) = false := decide_eq_false c21
     clear c21
     obtain rfl := Option.some.inj H
     simp only [Option.some.injEq, Prod.mk.injEq] at H
     obtain ⟨rfl⟩ := H
     go_wp2
     go_ret
     exact ⟨_, by first | rfl | (simp [errW_none, errW_some] <;> rfl) | (simp [*, errW_none, errW_some] <;> rfl), by (with_reducible repeat (first | apply Kd.R_alloc | apply Kd.R_drewN | apply Kd.R_drew)); exact HO_3.out, bw HB.out⟩

end Go.Proofs.Ytlgegdgilkaldaa.Q

namespace Go.Proofs.Ytlgegdgilkaldaa.Q
open Go.RowKit Go.Proofs.YtlgegdgilkaldaaW.PrintWords Go.Proofs.YtlgegdgilkaldaaW.PrintLast Go.Proofs.YtlgegdgilkaldaaW.PrintMore
attribute [local go_sem] max2_int min2_int max_two min_two max_three min_three max_four min_four   -- for this text's walks alone
set_option linter.unusedVariables false
set_option linter.unusedSimpArgs false

/-! ### spec_OffsetsOf: function 33 -/
def spec_OffsetsOf.j0 : Nat → List (S46) → Bool → Option (List Int × Bool)
 | 0, _, _ => none
 | k + 1, x0, x21 => if x21 = true then (some (([] : List Int), false)) else ((spec_l11Tree.f k x0 0).bind fun bt432 => ((spec_l11Places.f k bt432.1 bt432.2.1 bt432.2.2).bind fun t437 => (some (t437, true))))
def spec_OffsetsOf.f (k : Nat) (l0 : List (S46)) : Option (List Int × Bool) := (spec_GoodType.f k l0).bind fun t428 => (if t428 = true then (if 0 < (l0.length : Int) then (if ((rd_T46 l0 0).f0) = 14 then (spec_OffsetsOf.j0 k l0 false) else ((spec_l11Numbered.f ((rd_T46 l0 0).f0)).bind fun t431 => (spec_OffsetsOf.j0 k l0 (!t431)))) else (none)) else (spec_OffsetsOf.j0 k l0 true))
theorem spec_OffsetsOf.mono_l : ∀ k, (∀ y0 y1, LeO (spec_OffsetsOf.j0 k y0 y1) (spec_OffsetsOf.j0 (k + 1) y0 y1))
 | 0 => fun _ _ r h => by simp [spec_OffsetsOf.j0] at h
 | k + 1 => by
  have ih0 := spec_OffsetsOf.mono_l k
  ·
   intro y0 y1
   unfold spec_OffsetsOf.j0
   repeat' first
   | (with_reducible exact ih0 _ _)
   | (with_reducible exact spec_GoodType.mono _ _)
   | (with_reducible exact spec_l11Places.mono _ _ _ _)
   | (with_reducible exact spec_l11Tree.mono _ _ _)
   | (with_reducible exact LeO.refl _)
   | (with_reducible exact LeO.none _)
   | (with_reducible refine LeO.ite ?_ ?_)
   | (with_reducible refine LeO.bind ?_ (fun _ => ?_))
   | exact ih0 _ _
   | exact spec_GoodType.mono _ _
   | exact spec_l11Places.mono _ _ _ _
   | exact spec_l11Tree.mono _ _ _
   | exact LeO.none _
   | refine LeO.ite ?_ ?_
   | refine LeO.bind ?_ (fun _ => ?_)
theorem spec_OffsetsOf.mono : ∀ a0 k, LeO (spec_OffsetsOf.f k a0) (spec_OffsetsOf.f (k + 1) a0) := by
 intro a0 k
 have ih0 := spec_OffsetsOf.mono_l k
 unfold spec_OffsetsOf.f
 repeat' first
   | (with_reducible exact ih0 _ _)
   | (with_reducible exact spec_GoodType.mono _ _)
   | (with_reducible exact spec_l11Places.mono _ _ _ _)
   | (with_reducible exact spec_l11Tree.mono _ _ _)
   | (with_reducible exact LeO.refl _)
   | (with_reducible exact LeO.none _)
   | (with_reducible refine LeO.ite ?_ ?_)
   | (with_reducible refine LeO.bind ?_ (fun _ => ?_))
   | exact ih0 _ _
   | exact spec_GoodType.mono _ _
   | exact spec_l11Places.mono _ _ _ _
   | exact spec_l11Tree.mono _ _ _
   | exact LeO.none _
   | refine LeO.ite ?_ ?_
   | refine LeO.bind ?_ (fun _ => ?_)
set_option maxHeartbeats 8000000 in
set_option maxRecDepth 100000 in
theorem spec_OffsetsOf.calls (k : Nat) (A0 : Option Addr) (c0 : Nat) (l0 : List (S46)) (r1 : List Int) (r2 : Bool) (w : World) (hr0 : Kd.C k46 w A0 l0.length l0) (hc0 : l0.length ≤ c0) (h : spec_OffsetsOf.f k l0 = some (r1, r2)) :
  Calls Try.prog 33 #[.slice A0 l0.length c0] w fun e w' => ∃ v0_ : Value, e = .returned (.tuple #[v0_, .bool r2]) ∧ Kd.R (Kd.int .i64) 3 w' w.heap.size (fun _ => True) v0_ r1 ∧ Below w.heap.size w w' := by
 have HR0 := Aside0.mk hr0
 have HC0 := Aside0.mk hc0
 clear hr0 hc0
 have HB := Aside0.mk (Below.refl w.heap.size w)
 have H : ((spec_GoodType.f k l0).bind fun t428 => (if t428 = true then (if 0 < (l0.length : Int) then (if ((rd_T46 l0 0).f0) = 14 then (spec_OffsetsOf.j0 k l0 false) else ((spec_l11Numbered.f ((rd_T46 l0 0).f0)).bind fun t431 => (spec_OffsetsOf.j0 k l0 (!t431)))) else (none)) else (spec_OffsetsOf.j0 k l0 true))) = some (r1, r2) := h
 clear h
 have HC2 := Aside0.mk H
 clear H
 go_enter Try.func33, Try.ntmps33
 go_upto_region 1 with (fail)
 go_cut [21] (fun v21 wc => ∃ (kq : Nat) (x21_1 : Bool), v21 = .bool x21_1 ∧ Aside0 (spec_OffsetsOf.j0 kq l0 x21_1 = some (r1, r2)) ∧ Aside0 (kq ≤ k) ∧ Aside0 (Below w.heap.size w wc))
 case first =>
  have H := HC2.out
  clear HC2
  replace H := Option.bind_eq_some_iff.mp H
  obtain ⟨t428, A30, H⟩ := H
  replace H : (if t428 = true then (if 0 < (l0.length : Int) then (if ((rd_T46 l0 0).f0) = 14 then (spec_OffsetsOf.j0 k l0 false) else ((spec_l11Numbered.f ((rd_T46 l0 0).f0)).bind fun t431 => (spec_OffsetsOf.j0 k l0 (!t431)))) else (none)) else (spec_OffsetsOf.j0 k l0 true)) = some (r1, r2) := H
  have A3 := Aside0.mk A30
  clear A30
  by_cases c4 : t428 = true
  ·
   subst c4
   have H1 : (if 0 < (l0.length : Int) then (if ((rd_T46 l0 0).f0) = 14 then (spec_OffsetsOf.j0 k l0 false) else ((spec_l11Numbered.f ((rd_T46 l0 0).f0)).bind fun t431 => (spec_OffsetsOf.j0 k l0 (!t431)))) else (none)) = some (r1, r2) := by rw [if_pos rfl] at H; exact H
   clear H
   have H := H1
   clear H1
   by_cases c5 : 0 < (l0.length : Int)
   ·
    rw [if_pos c5] at H
    have c5b0 : decide (0 < (l0.length : Int)) = true := decide_eq_true c5
    have c5b1 : decide (0 < l0.length) = true := decide_eq_true (by omega)
    clear c5
    (first | rw [c5b0] | (simp only [i64_w, i32_w]; rw [c5b0]) | skip)
    by_cases c6 : ((rd_T46 l0 0).f0) = 14
    ·
     rw [if_pos c6] at H
     have c6b0 : (((rd_T46 l0 0).f0) == 14) = true := beq_iff_eq.mpr c6
     have c6b1 : (((rd_T46 l0 0).f0) != 14) = false := bne_eq_false_iff_eq.mpr c6
     clear c6
     have H' := Aside0.mk H
     clear H
     go_wp2_with (first | ((with_reducible refine gate_callee (f := 37) rfl ?_); refine goesL_ (some 5) rfl rfl Try.func37 (by kernel_rfl) rfl #[.slice A0 l0.length c0] rfl ar ?_; (with_reducible refine (spec_GoodType.calls k _ _ l0 true _ ?side1 ?side2 A3.out).mono ?_); (case side1 => repeat (first | exact (Kd.C_below HR0.out HB.out) | (with_reducible refine Kd.C_alloc ?_ _) | (with_reducible refine Kd.C_drewN ?_ _) | (with_reducible refine Kd.C_drew ?_))); (case side2 => exact HC0.out); rintro e w7 ⟨rfl, hb⟩; refine ⟨_, rfl, ?_⟩; have n0_ := Aside0.mk (below_step (bw HB.out) hb); clear HB; have HB := n0_; clear n0_; (try clear hb); have p429 : 0 ≤ (0 : Int) := (by omega); have q429 : 0 < (l0.length : Int) := of_decide_eq_true (by first | (with_reducible assumption) | assumption); obtain ⟨ad429, e429, hx429_0, hx429_1, hx429_2⟩ := at_T46 HR0.out 0 p429 q429; cases e429; have qi429 : (0 < l0.length) = True := eq_true (by omega); (try rw [show ((0 : Int)).toNat = 0 from rfl] at hx429_0); (try rw [show 0 * 3 = 0 from rfl] at hx429_0); (try rw [Addr.add_zero'] at hx429_0); (try rw [show ((0 : Int)).toNat = 0 from rfl] at hx429_1); (try rw [show 0 * 3 = 0 from rfl] at hx429_1); (try rw [Addr.add_zero'] at hx429_1); (try rw [show ((0 : Int)).toNat = 0 from rfl] at hx429_2); (try rw [show 0 * 3 = 0 from rfl] at hx429_2); (try rw [Addr.add_zero'] at hx429_2); replace hx429_0 := (HB.out.cell (World.block_lt_of_cell? w _ hx429_0)).trans hx429_0; replace hx429_1 := (HB.out.cell (World.block_lt_of_cell? w _ hx429_1)).trans hx429_1; replace hx429_2 := (HB.out.cell (World.block_lt_of_cell? w _ hx429_2)).trans hx429_2; replace p429 := eq_true p429; replace q429 := eq_true q429))
     go_meet
     case rel => exact ⟨_, (false), (by first | rfl | (simp; done) | (simp [*]; done)), H', ⟨by first | omega | exact Nat.le_refl _⟩, ⟨bw HB.out⟩⟩
    ·
     rw [if_neg c6] at H
     have c6b0 : (((rd_T46 l0 0).f0) == 14) = false := beq_eq_false_iff_ne.mpr c6
     have c6b1 : (((rd_T46 l0 0).f0) != 14) = true := bne_iff_ne.mpr c6
     replace H := Option.bind_eq_some_iff.mp H
     obtain ⟨t431, A80, H⟩ := H
     replace H : (spec_OffsetsOf.j0 k l0 (!t431)) = some (r1, r2) := H
     have A8 := Aside0.mk A80
     clear A80
     have H' := Aside0.mk H
     clear H
     go_wp2_with (first | ((with_reducible refine gate_callee (f := 37) rfl ?_); refine goesL_ (some 5) rfl rfl Try.func37 (by kernel_rfl) rfl #[.slice A0 l0.length c0] rfl ar ?_; (with_reducible refine (spec_GoodType.calls k _ _ l0 true _ ?side1 ?side2 A3.out).mono ?_); (case side1 => repeat (first | exact (Kd.C_below HR0.out HB.out) | (with_reducible refine Kd.C_alloc ?_ _) | (with_reducible refine Kd.C_drewN ?_ _) | (with_reducible refine Kd.C_drew ?_))); (case side2 => exact HC0.out); rintro e w9 ⟨rfl, hb⟩; refine ⟨_, rfl, ?_⟩; have n0_ := Aside0.mk (below_step (bw HB.out) hb); clear HB; have HB := n0_; clear n0_; (try clear hb); have p429 : 0 ≤ (0 : Int) := (by omega); have q429 : 0 < (l0.length : Int) := of_decide_eq_true (by first | (with_reducible assumption) | assumption); obtain ⟨ad429, e429, hx429_0, hx429_1, hx429_2⟩ := at_T46 HR0.out 0 p429 q429; cases e429; have qi429 : (0 < l0.length) = True := eq_true (by omega); (try rw [show ((0 : Int)).toNat = 0 from rfl] at hx429_0); (try rw [show 0 * 3 = 0 from rfl] at hx429_0); (try rw [Addr.add_zero'] at hx429_0); (try rw [show ((0 : Int)).toNat = 0 from rfl] at hx429_1); (try rw [show 0 * 3 = 0 from rfl] at hx429_1); (try rw [Addr.add_zero'] at hx429_1); (try rw [show ((0 : Int)).toNat = 0 from rfl] at hx429_2); (try rw [show 0 * 3 = 0 from rfl] at hx429_2); (try rw [Addr.add_zero'] at hx429_2); replace hx429_0 := (HB.out.cell (World.block_lt_of_cell? w _ hx429_0)).trans hx429_0; replace hx429_1 := (HB.out.cell (World.block_lt_of_cell? w _ hx429_1)).trans hx429_1; replace hx429_2 := (HB.out.cell (World.block_lt_of_cell? w _ hx429_2)).trans hx429_2; replace p429 := eq_true p429; replace q429 := eq_true q429; have p430 : 0 ≤ (0 : Int) := (by omega); have q430 : 0 < (l0.length : Int) := of_decide_eq_true (by first | (with_reducible assumption) | assumption); obtain ⟨ad430, e430, hx430_0, hx430_1, hx430_2⟩ := at_T46 HR0.out 0 p430 q430; obtain rfl : ad429 = ad430 := (by injection e430); have qi430 : (0 < l0.length) = True := eq_true (by omega); (try rw [show ((0 : Int)).toNat = 0 from rfl] at hx430_0); (try rw [show 0 * 3 = 0 from rfl] at hx430_0); (try rw [Addr.add_zero'] at hx430_0); (try rw [show ((0 : Int)).toNat = 0 from rfl] at hx430_1); (try rw [show 0 * 3 = 0 from rfl] at hx430_1); (try rw [Addr.add_zero'] at hx430_1); (try rw [show ((0 : Int)).toNat = 0 from rfl] at hx430_2); (try rw [show 0 * 3 = 0 from rfl] at hx430_2); (try rw [Addr.add_zero'] at hx430_2); replace hx430_0 := (HB.out.cell (World.block_lt_of_cell? w _ hx430_0)).trans hx430_0; replace hx430_1 := (HB.out.cell (World.block_lt_of_cell? w _ hx430_1)).trans hx430_1; replace hx430_2 := (HB.out.cell (World.block_lt_of_cell? w _ hx430_2)).trans hx430_2; replace p430 := eq_true p430; replace q430 := eq_true q430) | (go_at_call 55; (with_reducible refine (spec_l11Numbered.calls ((rd_T46 l0 0).f0) t431 _ A8.out).mono ?_); rintro e w' ⟨rfl, ⟨nd, rfl⟩⟩))
     go_meet
     case rel => exact ⟨_, (!t431), (by first | rfl | (simp; done) | (simp [*]; done)), H', ⟨by first | omega | exact Nat.le_refl _⟩, ⟨bw HB.out⟩⟩
   ·
    rw [if_neg c5] at H
    exact absurd H (by simp)
  ·
   replace c4 := Bool.eq_false_iff.mpr c4
   subst c4
   have H1 : (spec_OffsetsOf.j0 k l0 true) = some (r1, r2) := by rw [if_neg (show ¬ (false = true) by decide)] at H; exact H
   clear H
   have H := H1
   clear H1
   have H' := Aside0.mk H
   clear H
   go_wp2_with (first | ((with_reducible refine gate_callee (f := 37) rfl ?_); refine goesL_ (some 5) rfl rfl Try.func37 (by kernel_rfl) rfl #[.slice A0 l0.length c0] rfl ar ?_; (with_reducible refine (spec_GoodType.calls k _ _ l0 false _ ?side1 ?side2 A3.out).mono ?_); (case side1 => repeat (first | exact (Kd.C_below HR0.out HB.out) | (with_reducible refine Kd.C_alloc ?_ _) | (with_reducible refine Kd.C_drewN ?_ _) | (with_reducible refine Kd.C_drew ?_))); (case side2 => exact HC0.out); rintro e w10 ⟨rfl, hb⟩; refine ⟨_, rfl, ?_⟩; have n0_ := Aside0.mk (below_step (bw HB.out) hb); clear HB; have HB := n0_; clear n0_; (try clear hb)))
   go_meet
   case rel => exact ⟨_, (true), (by first | rfl | (simp; done) | (simp [*]; done)), H', ⟨by first | omega | exact Nat.le_refl _⟩, ⟨bw HB.out⟩⟩
 case rest =>
  clear HC2
  try clear p2
  try clear c3
  try clear c4
  try clear p4
  try clear q4
  try clear hx4
  try clear qi4
  try clear c5
  try clear c5b0
  try clear c5b1
  try clear c6
  try clear c6b0
  try clear c6b1
  try clear hx429_0
  try clear hx429_1
  try clear hx429_2
  try clear hx430_0
  try clear hx430_1
  try clear hx430_2
  try clear p429
  try clear p430
  try clear q429
  try clear q430
  obtain ⟨kq, x21_1, rfl, HA, HJ1, HB⟩ := hcut
  cases kq with
  | zero => exact absurd HA.out (by simp [spec_OffsetsOf.j0])
  | succ kj1 =>
   have H := HA.out
   clear HA
   simp only [spec_OffsetsOf.j0] at H
   by_cases c11 : x21_1 = true
   ·
    subst c11
    have H1 : (some (([] : List Int), false)) = some (r1, r2) := by rw [if_pos rfl] at H; exact H
    clear H
    have H := H1
    clear H1
    simp only [Option.some.injEq, Prod.mk.injEq] at H
    obtain ⟨rfl, rfl⟩ := H
    go_wp2
    go_ret2
    exact ⟨_, by first | rfl | (simp [errW_none, errW_some] <;> rfl) | (simp [*, errW_none, errW_some] <;> rfl), by first | exact Kd.R_nil _ _ _ _ _ | exact Kd.N_nil _ _ _ _ _ | exact Kd.V_nil _ _ _ _ _ | exact Kd.Q_nil _ _ _ _ _ | exact Kd.S_nil _ _ _ _ _, bw HB.out⟩
   ·
    replace c11 := Bool.eq_false_iff.mpr c11
    subst c11
    have H1 : ((spec_l11Tree.f kj1 l0 0).bind fun bt432 => ((spec_l11Places.f kj1 bt432.1 bt432.2.1 bt432.2.2).bind fun t437 => (some (t437, true)))) = some (r1, r2) := by rw [if_neg (show ¬ (false = true) by decide)] at H; exact H
    clear H
    have H := H1
    clear H1
    replace H := Option.bind_eq_some_iff.mp H
    obtain ⟨⟨t432, t433, t434⟩, A120, H⟩ := H
    replace H : ((spec_l11Places.f kj1 t432 t433 t434).bind fun t437 => (some (t437, true))) = some (r1, r2) := H
    have A12 := Aside0.mk A120
    clear A120
    replace H := Option.bind_eq_some_iff.mp H
    obtain ⟨t437, A130, H⟩ := H
    replace H : (some (t437, true)) = some (r1, r2) := H
    have A13 := Aside0.mk A130
    clear A130
    simp only [Option.some.injEq, Prod.mk.injEq] at H
    obtain ⟨rfl, rfl⟩ := H
    go_wp2_with (first | ((with_reducible refine gate_callee (f := 39) rfl ?_); refine goesL_ (some 23) rfl rfl Try.func39 (by kernel_rfl) rfl #[.slice A0 l0.length c0, .int .i64 0] rfl ar ?_; (with_reducible refine (spec_l11Tree.calls kj1 _ _ l0 0 t432 t433 t434 _ ?side1 ?side2 A12.out).mono ?_); (case side1 => repeat (first | exact (Kd.C_below HR0.out HB.out) | (with_reducible refine Kd.C_alloc ?_ _) | (with_reducible refine Kd.C_drewN ?_ _) | (with_reducible refine Kd.C_drew ?_))); (case side2 => exact HC0.out); rintro e w14 ⟨v435, rfl, ho0, hb⟩; refine ⟨_, rfl, ?_⟩; have n0_ := Aside0.mk (Kd.R_lower ho0 (below_size (bw HB.out))); have n1_ := Aside0.mk (below_step (bw HB.out) hb); clear HB; have HO436 := n0_; have HB := n1_; clear n0_ n1_; (try clear hb); (try clear hb2); (try clear hk); (try clear hi); (try clear ho0); obtain ⟨Ao15, co15, eo15⟩ := Kd.R_slice HO436.out; subst eo15) | ((with_reducible refine gate_callee (f := 56) rfl ?_); refine goesL_ (some 24) rfl rfl Try.func56 (by kernel_rfl) rfl #[.agg #[.int .i64 t432, .int .i64 t433, .slice Ao15 t434.length co15]] rfl ar ?_; (with_reducible refine (spec_l11Places.calls kj1 t432 t433 _ _ t434 t437 _ ?side1 ?side2 A13.out).mono ?_); (case side1 => repeat (first | exact (Kd.R_reads' HO436.out).2.2 | (with_reducible refine Kd.C_alloc ?_ _) | (with_reducible refine Kd.C_drewN ?_ _) | (with_reducible refine Kd.C_drew ?_))); (case side2 => exact (Kd.R_reads' HO436.out).2.1); rintro e w16 ⟨v438, rfl, ho0, hb⟩; refine ⟨_, rfl, ?_⟩; have n0_ := Aside0.mk (Kd.R_below (by (with_reducible repeat (first | apply Kd.R_alloc | apply Kd.R_drewN | apply Kd.R_drew)); exact HO436.out) hb); have n1_ := Aside0.mk (Kd.R_lower ho0 (below_size (bw HB.out))); have n2_ := Aside0.mk (below_step (bw HB.out) hb); clear HO436; clear HB; have HO436 := n0_; have HO439 := n1_; have HB := n2_; clear n0_ n1_ n2_; (try clear hb); (try clear hb2); (try clear hk); (try clear hi); (try clear ho0)))
    go_ret2
    exact ⟨_, by first | rfl | (simp [errW_none, errW_some] <;> rfl) | (simp [*, errW_none, errW_some] <;> rfl), by (with_reducible repeat (first | apply Kd.R_alloc | apply Kd.R_drewN | apply Kd.R_drew)); exact HO439.out, bw HB.out⟩

end Go.Proofs.Ytlgegdgilkaldaa.Q

namespace Go.Proofs.Ytlgegdgilkaldaa.Q
open Go.RowKit Go.Proofs.YtlgegdgilkaldaaW.PrintWords Go.Proofs.YtlgegdgilkaldaaW.PrintLast Go.Proofs.YtlgegdgilkaldaaW.PrintMore
attribute [local go_sem] max2_int min2_int max_two min_two max_three min_three max_four min_four   -- for this text's walks alone
set_option linter.unusedVariables false
set_option linter.unusedSimpArgs false


/-! ### impl_shape_places: function 58 (walked by hand) -/

/-! Places. -/
def rowN (f : Nat → Int) (len j : Nat) : List Int := (List.range j).map f ++ List.replicate (len - j) 0
theorem rowN_len (f : Nat → Int) (len j : Nat) (h : j ≤ len) : (rowN f len j).length = len := by
 unfold rowN; rw [List.length_append, List.length_map, List.length_range, List.length_replicate]; omega
theorem rowN_set (f : Nat → Int) (len j : Nat) (h : j < len) : (rowN f len j).set j (f j) = rowN f len (j + 1) := by
 unfold rowN
 have e : len - j = (len - (j + 1)) + 1 := by omega
 rw [e, List.replicate_succ, List.range_succ, List.map_append, List.set_append, List.length_map, List.length_range, if_neg (by omega), Nat.sub_self, List.set_cons_zero]
 simp
theorem rowN_get (f : Nat → Int) (len j : Nat) (h : j < len) : rd (rowN f len (j + 1)) (j : Int) = f j := by
 unfold rd rowN
 rw [Int.toNat_natCast, List.range_succ, List.map_append, List.append_assoc, List.getD_eq_getElem?_getD, List.getElem?_append_right (by simp)]
 simp
theorem rowN_full (f : Nat → Int) (len : Nat) : rowN f len len = (List.range len).map f := by unfold rowN; simp
def stepA (r : S52 → Int × Int) (at_ : Int) (p : S52) : Int := wrap64 (upT at_ (r p).2 + (r p).1)
def psAt (r : S52 → Int × Int) (l : List S52) (j : Nat) : Int := upT ((l.take j).foldl (stepA r) 0) (r (l.getD j z52)).2
def placesT (n : Nat) (t : S52) : List Int :=
 if chosenB t.f0 = true then (List.range t.f2.length).map (fun _ => upT 1 (roomT (n + 1) t).2) else (List.range t.f2.length).map (psAt (roomT n) t.f2)

set_option maxHeartbeats 8000000 in
set_option maxRecDepth 100000 in
theorem places_any (n : Nat) (t : S52) (b o : Nat) (w : World) (h : TreeAt w (n + 1) b o t) :
  Calls Try.prog 58 #[.pointer (some ⟨b, o, none⟩)] w fun e w' => ∃ v0 : Value, e = .returned v0 ∧ Kd.R (Kd.int .i64) 3 w' w.heap.size (fun _ => True) v0 (placesT n t) ∧ Below w.heap.size w w' := by
 have HTT := Aside0.mk h
 obtain ⟨h0, h1, hl, A, c, h2, hc, hk⟩ := h
 by_cases hch : chosenB t.f0 = true
 ·
  have E : placesT n t = (List.range t.f2.length).map (fun _ => upT 1 (roomT (n + 1) t).2) := by rw [placesT, if_pos hch]
  rw [E, ← rowN_full]; clear E
  have HC := Aside0.mk hch
  clear hch
  go_enter Try.func58, Try.ntmps58
  go_wp2_with (first | ((with_reducible refine gate_dst (N := 16) rfl ?_); refine Kd.R_make (Kd.int .i64) w.heap.size 3 rfl (N := 16) rfl 38 _ _ rfl (t.f2.length : Int) rfl rfl Try.underlying38 (.int .i64 0) 8 info3 rfl (by decide) (by omega) 0 (ok := fun _ => True) (okp := fun _ => True) rfl (fun _ hk => hk) trivial (by omega) (by omega) (Below.refl _ _) (Nat.le_refl _) ?_; intro v1 w1 ho hb hg_ hnew_; clear hg_ hnew_; rw [Int.toNat_natCast] at ho; have HO := Aside0.mk ho; have HB := Aside0.mk hb; clear ho hb; have g2 := (HB.out.cell (World.block_lt_of_cell? w _ h2)).trans h2))
  go_loopg [22] t.f2.length (fun kq v22 w' => ∃ j : Nat, j + kq = t.f2.length ∧ v22 = .int .i64 j ∧ Aside0 (Kd.R (Kd.int .i64) 3 w' w.heap.size (fun _ => True) v1 (rowN (fun _ => upT 1 (roomT (n + 1) t).2) t.f2.length j)) ∧ Aside0 (Below w.heap.size w w'))
  case atStart => exact ⟨0, by omega, rfl, ⟨HO.out⟩, ⟨HB.out⟩⟩
  case round =>
   clear g2 HO HB
   obtain ⟨j, hj, rfl, HO, HB⟩ := hrel
   by_cases hlt : j < t.f2.length
   ·
    obtain ⟨ad, pb, po, hA, hp, hT⟩ := hk j t.f2[j] (List.getElem?_eq_getElem hlt)
    subst hA
    have gp := (HB.out.cell (World.block_lt_of_cell? w _ hp)).trans hp
    have HT := Aside0.mk (treeAt_below HB.out hT)
    have HT2 := Aside0.mk (treeAt_below HB.out HTT.out)
    have G0 := Aside0.mk ((HB.out.cell (World.block_lt_of_cell? w _ h0)).trans h0)
    clear hp hT hk h0 h1 h2 HTT
    have HNL := rowN_len (fun _ => upT 1 (roomT (n + 1) t).2) t.f2.length j (by omega)
    obtain ⟨g, cap, e1, gb, gl, cl, HG⟩ := Kd.R_form HO.out (by omega)
    rw [HNL] at e1
    subst e1
    have GB := Aside0.mk gb
    clear gb gl HG cl
    obtain ⟨hy, hf⟩ := Kd.R_celln 0 HO.out (j : Int) (by omega) (by omega)
    have HP := Aside0.mk (Kd.R_putg HO.out (j : Int) (upT 1 (roomT (n + 1) t).2))
    rw [Int.toNat_natCast] at hy hf HP
    rw [rowN_set (fun _ => upT 1 (roomT (n + 1) t).2) t.f2.length j hlt] at HP
    generalize rdOf 0 (rowN (fun _ => upT 1 (roomT (n + 1) t).2) t.f2.length j) (j : Int) = x at hy
    have hpos := room_pos (n + 1) t
    clear HNL
    go_wp2_with (first
     | (go_at_call_of 47 (Value.pointer (some ⟨pb, po, none⟩)); refine (room_any n t.f2[j] pb po _ HT.out).mono ?_; rintro e w' ⟨rfl, rfl⟩)
     | (go_at_call 57; refine (chosen_any t.f0 b o _ true HC.out G0.out).mono ?_; rintro e w' ⟨rfl, rfl⟩)
     | (go_at_call 47; refine (room_any (n + 1) t b o _ HT2.out).mono ?_; rintro e w' ⟨rfl, rfl⟩)
     | (go_at_call 70; refine (upTo_any _ _ _ (by omega)).mono ?_; rintro e w' ⟨rfl, rfl⟩)
     | ((with_reducible refine gate_store (t := 3) (p := 43) rfl ?_); refine store_event (t := 3) (p := 43) (v := ?vo) (w1 := (wr.setCell ⟨g, j, none⟩ (.int .i64 (upT 1 (roomT (n + 1) t).2)))) ?hg ?ho ?hn ?hr ?_; (case ho => rfl); (case hg => rfl); (case hn => rfl); (case hr => first | (go_simp; done) | (go_simp; rfl)); intro w2 hw; have n0_ := Aside0.mk (show Kd.R (Kd.int .i64) 3 w2 w.heap.size _ _ _ from by rw [hw]; exact HP.out.1); have n3_ := Aside0.mk (show Below w.heap.size w w2 from by rw [hw]; exact below_set HB.out GB.out); clear HO HB HP hw; have HO := n0_; have HB := n3_; clear n0_ n3_))
    go_roundg (t.f2.length - (j + 1))
    case measure => omega
    case rel => exact ⟨j + 1, by omega, by go_num, ⟨HO.out⟩, ⟨HB.out⟩⟩
   ·
    obtain rfl : j = t.f2.length := by omega
    clear hk h0 h1 h2 HTT
    go_wp2
    go_ret
    exact ⟨_, rfl, HO.out, HB.out⟩
 ·
  have E : placesT n t = (List.range t.f2.length).map (psAt (roomT n) t.f2) := by rw [placesT, if_neg hch]
  rw [E, ← rowN_full]; clear E
  have HC := Aside0.mk (show chosenB t.f0 = false by simpa using hch)
  clear hch
  go_enter Try.func58, Try.ntmps58
  go_wp2_with (first | ((with_reducible refine gate_dst (N := 16) rfl ?_); refine Kd.R_make (Kd.int .i64) w.heap.size 3 rfl (N := 16) rfl 38 _ _ rfl (t.f2.length : Int) rfl rfl Try.underlying38 (.int .i64 0) 8 info3 rfl (by decide) (by omega) 0 (ok := fun _ => True) (okp := fun _ => True) rfl (fun _ hk => hk) trivial (by omega) (by omega) (Below.refl _ _) (Nat.le_refl _) ?_; intro v1 w1 ho hb hg_ hnew_; clear hg_ hnew_; rw [Int.toNat_natCast] at ho; have HO := Aside0.mk ho; have HB := Aside0.mk hb; clear ho hb; have g2 := (HB.out.cell (World.block_lt_of_cell? w _ h2)).trans h2))
  go_loopg [4, 22] t.f2.length (fun kq v4 v22 w' => ∃ j : Nat, j + kq = t.f2.length ∧ v22 = .int .i64 j ∧ v4 = .int .i64 ((t.f2.take j).foldl (stepA (roomT n)) 0) ∧ Aside0 (Kd.R (Kd.int .i64) 3 w' w.heap.size (fun _ => True) v1 (rowN (psAt (roomT n) t.f2) t.f2.length j)) ∧ Aside0 (Below w.heap.size w w'))
  case atStart => exact ⟨0, by omega, rfl, rfl, ⟨HO.out⟩, ⟨HB.out⟩⟩
  case round =>
   clear g2 HO HB
   obtain ⟨j, hj, rfl, rfl, HO, HB⟩ := hrel
   by_cases hlt : j < t.f2.length
   ·
    obtain ⟨ad, pb, po, hA, hp, hT⟩ := hk j t.f2[j] (List.getElem?_eq_getElem hlt)
    subst hA
    have gp := (HB.out.cell (World.block_lt_of_cell? w _ hp)).trans hp
    have HT := Aside0.mk (treeAt_below HB.out hT)
    have G0 := Aside0.mk ((HB.out.cell (World.block_lt_of_cell? w _ h0)).trans h0)
    clear hp hT hk h0 h1 h2 HTT
    have HNL := rowN_len (psAt (roomT n) t.f2) t.f2.length j (by omega)
    obtain ⟨g, cap, e1, gb, gl, cl, HG⟩ := Kd.R_form HO.out (by omega)
    rw [HNL] at e1
    subst e1
    have GB := Aside0.mk gb
    clear gb gl HG cl
    obtain ⟨hy, hf⟩ := Kd.R_celln 0 HO.out (j : Int) (by omega) (by omega)
    have HP := Aside0.mk (Kd.R_putg HO.out (j : Int) (psAt (roomT n) t.f2 j))
    rw [Int.toNat_natCast] at hy hf HP
    rw [rowN_set (psAt (roomT n) t.f2) t.f2.length j hlt] at HP
    generalize rdOf 0 (rowN (psAt (roomT n) t.f2) t.f2.length j) (j : Int) = x at hy
    have HPS := Aside0.mk (show psAt (roomT n) t.f2 j = upT ((t.f2.take j).foldl (stepA (roomT n)) 0) (roomT n t.f2[j]).2 by rw [psAt, List.getD_eq_getElem?_getD, List.getElem?_eq_getElem hlt]; rfl)
    have HF := Aside0.mk (fold_take (stepA (roomT n)) 0 t.f2 j hlt)
    have hpos := room_pos n t.f2[j]
    rw [HPS.out] at HP
    generalize (t.f2.take j).foldl (stepA (roomT n)) 0 = at_ at HF HP
    clear HNL HPS
    go_wp2_with (first
     | (go_at_call 47; refine (room_any n t.f2[j] pb po _ HT.out).mono ?_; rintro e w' ⟨rfl, rfl⟩)
     | (go_at_call 57; refine (chosen_any t.f0 b o _ false HC.out G0.out).mono ?_; rintro e w' ⟨rfl, rfl⟩)
     | (go_at_call 70; refine (upTo_any _ _ _ (by omega)).mono ?_; rintro e w' ⟨rfl, rfl⟩))
    go_roundg (t.f2.length - (j + 1))
    case measure => omega
    case rel => exact ⟨j + 1, by omega, by go_num, by rw [HF.out]; rfl, ⟨HP.out.1⟩, ⟨below_set HB.out GB.out⟩⟩
   ·
    obtain rfl : j = t.f2.length := by omega
    clear hk h0 h1 h2 HTT
    go_wp2
    go_ret
    exact ⟨_, rfl, HO.out, HB.out⟩


end Go.Proofs.Ytlgegdgilkaldaa.Q

namespace Go.Proofs.Ytlgegdgilkaldaa.Q
open Go.RowKit Go.Proofs.YtlgegdgilkaldaaW.PrintWords Go.Proofs.YtlgegdgilkaldaaW.PrintLast Go.Proofs.YtlgegdgilkaldaaW.PrintMore
attribute [local go_sem] max2_int min2_int max_two min_two max_three min_three max_four min_four   -- for this text's walks alone
set_option linter.unusedVariables false
set_option linter.unusedSimpArgs false


/-! ### impl_OffsetsOf: function 34 (walked by hand) -/
def impl_OffsetsOf.f (k : Nat) (l0 : List S46) : Option (List Int × Bool) := (shapeF k l0).bind fun r => match r with | none => some ([], false) | some t => if t.f0 = 14 ∨ chosenB t.f0 = true then some (placesT 8 t, true) else some ([], false)
theorem impl_OffsetsOf.mono : ∀ a0 k, LeO (impl_OffsetsOf.f k a0) (impl_OffsetsOf.f (k + 1) a0) := fun l k => LeO.bind (shapeF.mono l k) (fun _ => LeO.refl _)
set_option maxHeartbeats 4000000 in
set_option maxRecDepth 100000 in
theorem impl_OffsetsOf.calls (k : Nat) (A0 : Option Addr) (c0 : Nat) (l0 : List (S46)) (r1 : List Int) (r2 : Bool) (w : World) (hr0 : Kd.C k46 w A0 l0.length l0) (hc0 : l0.length ≤ c0) (h : impl_OffsetsOf.f k l0 = some (r1, r2)) :
  Calls Try.prog 34 #[.slice A0 l0.length c0] w fun e w' => ∃ v0_ : Value, e = .returned (.tuple #[v0_, .bool r2]) ∧ Kd.R (Kd.int .i64) 3 w' w.heap.size (fun _ => True) v0_ r1 ∧ Below w.heap.size w w' := by
 obtain ⟨r, hs, h⟩ := Option.bind_eq_some_iff.1 h
 cases r with
 | none =>
  obtain ⟨rfl, rfl⟩ := Prod.mk.inj (Option.some.inj h)
  clear h
  go_enter Try.func34, Try.ntmps34
  go_wp2_with (first | (go_at_call 41; refine (shape_no k A0 c0 l0 _ hr0 hc0 hs).mono ?_; rintro e w' ⟨rfl, hb⟩; have HB := Aside0.mk hb; clear hb))
  go_ret2
  exact ⟨_, rfl, Kd.R_nil _ _ _ _ _, HB.out⟩
 | some t =>
  by_cases hr : t.f0 = 14
  ·
   have h' : some (placesT 8 t, true) = some (r1, r2) := by rw [← h]; exact (if_pos (.inl hr)).symm
   obtain ⟨rfl, rfl⟩ := Prod.mk.inj (Option.some.inj h')
   clear h h'
   have k1 : (t.f0 != 14) = false := bne_eq_false_iff_eq.mpr hr
   have HC := Aside0.mk (show chosenB t.f0 = false by rw [hr]; rfl)
   clear hr
   go_enter Try.func34, Try.ntmps34
   go_wp2_with (first | (go_at_call 41; refine (shape_yes k A0 c0 l0 t _ hr0 hc0 hs).mono ?_; rintro e w' ⟨g, rfl, ht, hb⟩; have HT := Aside0.mk ht; have g0 := ht.1; have HB := Aside0.mk hb; clear ht hb) | (go_at_call 57; refine (chosen_any t.f0 g 0 _ false HC.out HT.out.1).mono ?_; rintro e w' ⟨rfl, rfl⟩) | (go_at_call 58; refine (places_any 8 t g 0 _ HT.out).mono ?_; rintro e w' ⟨v0, rfl, ho, hb⟩; have n0_ := Aside0.mk (HB.out.trans (hb.mono HB.out.size)); have n1_ := Aside0.mk (Kd.R_lower ho HB.out.size); clear HB HT hb ho; have HB := n0_; have HO := n1_; clear n0_ n1_))
   go_ret2
   exact ⟨_, rfl, HO.out, HB.out⟩
  ·
   have k1 : (t.f0 != 14) = true := bne_iff_ne.mpr hr
   by_cases hch : chosenB t.f0 = true
   ·
    have h' : some (placesT 8 t, true) = some (r1, r2) := by rw [← h]; exact (if_pos (.inr hch)).symm
    obtain ⟨rfl, rfl⟩ := Prod.mk.inj (Option.some.inj h')
    clear h h' hr
    have HC := Aside0.mk hch
    clear hch
    go_enter Try.func34, Try.ntmps34
    go_wp2_with (first | (go_at_call 41; refine (shape_yes k A0 c0 l0 t _ hr0 hc0 hs).mono ?_; rintro e w' ⟨g, rfl, ht, hb⟩; have HT := Aside0.mk ht; have g0 := ht.1; have HB := Aside0.mk hb; clear ht hb) | (go_at_call 57; refine (chosen_any t.f0 g 0 _ true HC.out HT.out.1).mono ?_; rintro e w' ⟨rfl, rfl⟩) | (go_at_call 58; refine (places_any 8 t g 0 _ HT.out).mono ?_; rintro e w' ⟨v0, rfl, ho, hb⟩; have n0_ := Aside0.mk (HB.out.trans (hb.mono HB.out.size)); have n1_ := Aside0.mk (Kd.R_lower ho HB.out.size); clear HB HT hb ho; have HB := n0_; have HO := n1_; clear n0_ n1_))
    go_ret2
    exact ⟨_, rfl, HO.out, HB.out⟩
   ·
    have h' : some (([] : List Int), false) = some (r1, r2) := by rw [← h]; exact (if_neg (fun h => h.elim hr hch)).symm
    obtain ⟨rfl, rfl⟩ := Prod.mk.inj (Option.some.inj h')
    clear h h' hr
    have HC := Aside0.mk (show chosenB t.f0 = false by simpa using hch)
    clear hch
    go_enter Try.func34, Try.ntmps34
    go_wp2_with (first | (go_at_call 41; refine (shape_yes k A0 c0 l0 t _ hr0 hc0 hs).mono ?_; rintro e w' ⟨g, rfl, ht, hb⟩; have HT := Aside0.mk ht; have g0 := ht.1; have HB := Aside0.mk hb; clear ht hb) | (go_at_call 57; refine (chosen_any t.f0 g 0 _ false HC.out HT.out.1).mono ?_; rintro e w' ⟨rfl, rfl⟩) | (go_at_call 58; refine (places_any 8 t g 0 _ HT.out).mono ?_; rintro e w' ⟨v0, rfl, ho, hb⟩; have n0_ := Aside0.mk (HB.out.trans (hb.mono HB.out.size)); have n1_ := Aside0.mk (Kd.R_lower ho HB.out.size); clear HB HT hb ho; have HB := n0_; have HO := n1_; clear n0_ n1_))
    go_ret2
    exact ⟨_, rfl, Kd.R_nil _ _ _ _ _, HB.out⟩


end Go.Proofs.Ytlgegdgilkaldaa.Q

