-- Written by a program of this session; it walks the functions that the law reaches.
import Derived.Test.YtlgegdgilkaldaaQx0
import Derived.Test.YtlgegdgilkaldaaQx8
import Derived.Test.YtlgegdgilkaldaaQx1
import Derived.Test.YtlgegdgilkaldaaQx3
import Derived.Test.YtlgegdgilkaldaaQx5
import Derived.Test.YtlgegdgilkaldaaQx11
namespace Go.Proofs.Ytlgegdgilkaldaa.Q
open Go.RowKit Go.Proofs.YtlgegdgilkaldaaW.PrintWords Go.Proofs.YtlgegdgilkaldaaW.PrintLast Go.Proofs.YtlgegdgilkaldaaW.PrintMore
attribute [local go_sem] max2_int min2_int max_two min_two max_three min_three max_four min_four   -- for this text's walks alone
set_option linter.unusedVariables false
set_option linter.unusedSimpArgs false

/-! ### spec_l11Numbered: function 55 -/
def spec_l11Numbered.f (a0 : Int) : Option (Bool) := if a0 = 15 then (some true) else (if a0 = 17 then (some true) else (some (a0 == 18)))
set_option maxHeartbeats 8000000 in
set_option maxRecDepth 100000 in
theorem spec_l11Numbered.calls (a0 : Int) (r : Bool) (w : World) (h : spec_l11Numbered.f a0 = some r) :
  Calls Try.prog 55 #[.int .i64 a0] w fun e w' => e = .returned (.bool r) ∧ Drawn0 w w' := by
 have H : (if a0 = 15 then (some true) else (if a0 = 17 then (some true) else (some (a0 == 18)))) = some r := h
 clear h
 by_cases c2 : a0 = 15
 ·
  rw [if_pos c2] at H
  have c2b0 : (a0 == 15) = true := beq_iff_eq.mpr c2
  have c2b1 : (a0 != 15) = false := bne_eq_false_iff_eq.mpr c2
  clear c2
  obtain rfl := Option.some.inj H
  simp only [Option.some.injEq, Prod.mk.injEq] at H
  obtain ⟨rfl⟩ := H
  go_enter Try.func55, Try.ntmps55
  go_wp2
  go_ret
  exact ⟨by first | rfl | (simp; done) | (simp [*]; done), by repeat (first | exact Drawn0.refl _ | apply Drawn0.step)⟩
 ·
  rw [if_neg c2] at H
  have c2b0 : (a0 == 15) = false := beq_eq_false_iff_ne.mpr c2
  have c2b1 : (a0 != 15) = true := bne_iff_ne.mpr c2
  by_cases c3 : a0 = 17
  ·
   rw [if_pos c3] at H
   have c3b0 : (a0 == 17) = true := beq_iff_eq.mpr c3
   have c3b1 : (a0 != 17) = false := bne_eq_false_iff_eq.mpr c3
   clear c3
   obtain rfl := Option.some.inj H
   simp only [Option.some.injEq, Prod.mk.injEq] at H
   obtain ⟨rfl⟩ := H
   go_enter Try.func55, Try.ntmps55
   go_wp2
   go_ret
   exact ⟨by first | rfl | (simp; done) | (simp [*]; done), by repeat (first | exact Drawn0.refl _ | apply Drawn0.step)⟩
  ·
   rw [if_neg c3] at H
   have c3b0 : (a0 == 17) = false := beq_eq_false_iff_ne.mpr c3
   have c3b1 : (a0 != 17) = true := bne_iff_ne.mpr c3
   obtain rfl := Option.some.inj H
   simp only [Option.some.injEq, Prod.mk.injEq] at H
   obtain ⟨rfl⟩ := H
   go_enter Try.func55, Try.ntmps55
   go_wp2
   go_ret
   exact ⟨by first | rfl | (simp; done) | (simp [*]; done), by repeat (first | exact Drawn0.refl _ | apply Drawn0.step)⟩

end Go.Proofs.Ytlgegdgilkaldaa.Q

namespace Go.Proofs.Ytlgegdgilkaldaa.Q
open Go.RowKit Go.Proofs.YtlgegdgilkaldaaW.PrintWords Go.Proofs.YtlgegdgilkaldaaW.PrintLast Go.Proofs.YtlgegdgilkaldaaW.PrintMore
attribute [local go_sem] max2_int min2_int max_two min_two max_three min_three max_four min_four   -- for this text's walks alone
set_option linter.unusedVariables false
set_option linter.unusedSimpArgs false

/-! ### spec_l11Places: function 56 -/
mutual
def spec_l11Places.l0 : Nat → List Int → Int → List (S52) → Int → Int → Option (List Int)
 | 0, _, _, _, _, _ => none
 | k + 1, x3, x4, x15, x16, x17 => if x17 < x16 then (if 0 ≤ x17 then (if x17 < (x15.length : Int) then ((spec_l11Room.f k ((rd_T52 x15 x17).f0) ((rd_T52 x15 x17).f1) ((rd_T52 x15 x17).f2)).bind fun bt455 => ((spec_l11Up.f x4 bt455.2).bind fun t457 => (if x3.length < 17592186044416 then (spec_l11Places.l0 k (x3 ++ [t457]) (wrap64 (t457 + bt455.1)) x15 x16 (wrap64 (x17 + 1))) else (none)))) else (none)) else (none)) else (some x3)
def spec_l11Places.l1 : Nat → List Int → Int → Int → Int → Option (List Int)
 | 0, _, _, _, _ => none
 | k + 1, x3, x10, x45, x46 => if x46 < x45 then ((spec_l11Up.f 1 x10).bind fun t463 => (if x3.length < 17592186044416 then (spec_l11Places.l1 k (x3 ++ [t463]) x10 x45 (wrap64 (x46 + 1))) else (none))) else (some x3)
end
def spec_l11Places.f (k : Nat) (a0_0 : Int) (a0_1 : Int) (l0_2 : List (S52)) : Option (List Int) := if a0_0 = 14 then (spec_l11Places.l0 k ([] : List Int) 0 l0_2 (l0_2.length : Int) 0) else ((spec_l11Room.f k a0_0 a0_1 l0_2).bind fun bt461 => (spec_l11Places.l1 k ([] : List Int) bt461.2 (l0_2.length : Int) 0))
theorem spec_l11Places.mono_l : ∀ k, (∀ y0 y1 y2 y3 y4, LeO (spec_l11Places.l0 k y0 y1 y2 y3 y4) (spec_l11Places.l0 (k + 1) y0 y1 y2 y3 y4)) ∧ (∀ y0 y1 y2 y3, LeO (spec_l11Places.l1 k y0 y1 y2 y3) (spec_l11Places.l1 (k + 1) y0 y1 y2 y3))
 | 0 => ⟨fun _ _ _ _ _ r h => by simp [spec_l11Places.l0] at h, fun _ _ _ _ r h => by simp [spec_l11Places.l1] at h⟩
 | k + 1 => by
  obtain ⟨ih0, ih1⟩ := spec_l11Places.mono_l k
  refine ⟨?_, ?_⟩
  ·
   intro y0 y1 y2 y3 y4
   unfold spec_l11Places.l0
   repeat' first
   | (with_reducible exact ih0 _ _ _ _ _)
   | (with_reducible exact ih1 _ _ _ _)
   | (with_reducible exact spec_l11Room.mono _ _ _ _)
   | (with_reducible exact LeO.refl _)
   | (with_reducible exact LeO.none _)
   | (with_reducible refine LeO.ite ?_ ?_)
   | (with_reducible refine LeO.bind ?_ (fun _ => ?_))
   | exact ih0 _ _ _ _ _
   | exact ih1 _ _ _ _
   | exact spec_l11Room.mono _ _ _ _
   | exact LeO.none _
   | refine LeO.ite ?_ ?_
   | refine LeO.bind ?_ (fun _ => ?_)
  ·
   intro y0 y1 y2 y3
   unfold spec_l11Places.l1
   repeat' first
   | (with_reducible exact ih0 _ _ _ _ _)
   | (with_reducible exact ih1 _ _ _ _)
   | (with_reducible exact spec_l11Room.mono _ _ _ _)
   | (with_reducible exact LeO.refl _)
   | (with_reducible exact LeO.none _)
   | (with_reducible refine LeO.ite ?_ ?_)
   | (with_reducible refine LeO.bind ?_ (fun _ => ?_))
   | exact ih0 _ _ _ _ _
   | exact ih1 _ _ _ _
   | exact spec_l11Room.mono _ _ _ _
   | exact LeO.none _
   | refine LeO.ite ?_ ?_
   | refine LeO.bind ?_ (fun _ => ?_)
theorem spec_l11Places.mono : ∀ a0 a1 a2 k, LeO (spec_l11Places.f k a0 a1 a2) (spec_l11Places.f (k + 1) a0 a1 a2) := by
 intro a0 a1 a2 k
 obtain ⟨ih0, ih1⟩ := spec_l11Places.mono_l k
 unfold spec_l11Places.f
 repeat' first
   | (with_reducible exact ih0 _ _ _ _ _)
   | (with_reducible exact ih1 _ _ _ _)
   | (with_reducible exact spec_l11Room.mono _ _ _ _)
   | (with_reducible exact LeO.refl _)
   | (with_reducible exact LeO.none _)
   | (with_reducible refine LeO.ite ?_ ?_)
   | (with_reducible refine LeO.bind ?_ (fun _ => ?_))
   | exact ih0 _ _ _ _ _
   | exact ih1 _ _ _ _
   | exact spec_l11Room.mono _ _ _ _
   | exact LeO.none _
   | refine LeO.ite ?_ ?_
   | refine LeO.bind ?_ (fun _ => ?_)
set_option maxHeartbeats 8000000 in
set_option maxRecDepth 100000 in
theorem spec_l11Places.calls (k : Nat) (a0_0 : Int) (a0_1 : Int) (A0_2 : Option Addr) (c0_2 : Nat) (l0_2 : List (S52)) (r : List Int) (w : World) (hr0_2 : Kd.C k52 w A0_2 l0_2.length l0_2) (hc0_2 : l0_2.length ≤ c0_2) (h : spec_l11Places.f k a0_0 a0_1 l0_2 = some r) :
  Calls Try.prog 56 #[.agg #[.int .i64 a0_0, .int .i64 a0_1, .slice A0_2 l0_2.length c0_2]] w fun e w' => ∃ v0_ : Value, e = .returned (v0_) ∧ Kd.R (Kd.int .i64) 3 w' w.heap.size (fun _ => True) v0_ r ∧ Below w.heap.size w w' := by
 have hu52 := Try.underlying52
 have HR0_2 := Aside0.mk hr0_2
 have HC0_2 := Aside0.mk hc0_2
 clear hr0_2 hc0_2
 have HB := Aside0.mk (Below.refl w.heap.size w)
 have H : (if a0_0 = 14 then (spec_l11Places.l0 k ([] : List Int) 0 l0_2 (l0_2.length : Int) 0) else ((spec_l11Room.f k a0_0 a0_1 l0_2).bind fun bt461 => (spec_l11Places.l1 k ([] : List Int) bt461.2 (l0_2.length : Int) 0))) = some r := h
 clear h
 by_cases c2 : a0_0 = 14
 ·
  rw [if_pos c2] at H
  have c2b0 : (a0_0 == 14) = true := beq_iff_eq.mpr c2
  have c2b1 : (a0_0 != 14) = false := bne_eq_false_iff_eq.mpr c2
  clear c2
  have H' := Aside0.mk H
  clear H
  go_enter Try.func56, Try.ntmps56
  go_wp2_with (first | ((with_reducible refine gate_dst (N := 1) rfl ?_); refine box_event ?hg (N := 1) ?hd (cs := #[.int .i64 a0_0, .int .i64 a0_1, .slice A0_2 l0_2.length c0_2]) (t := 52) ?hr ?_; (case hd => rfl); (case hg => rfl); (case hr => first | (go_simp; done) | (go_simp; rfl)); intro gb452 hg w3 hbox hb; have n0_ := Aside0.mk (below_step (bw HB.out) hb); have n1_ := Aside0.mk (hbox); have n2_ := Aside0.mk ((by rw [hg]; exact (below_size (bw HB.out)) : w.heap.size ≤ gb452)); have n3_ := Aside0.mk ((by rw [hg]; exact (below_size (bw HB.out)) : w.heap.size ≤ gb452)); clear HB; have HB := n0_; have BK452 := n1_; have GW452 := n2_; have GE452 := n3_; clear n0_ n1_ n2_ n3_; clear hb hbox hg; have hcz4_0 : w3.cell? ⟨gb452, 0, none⟩ = some (.int .i64 a0_0) := (blk_cell BK452.out 0).trans rfl; have hcz4_1 : w3.cell? ⟨gb452, 1, none⟩ = some (.int .i64 a0_1) := (blk_cell BK452.out 1).trans rfl; have hcz4_2 : w3.cell? ⟨gb452, 2, none⟩ = some (.slice A0_2 l0_2.length c0_2) := (blk_cell BK452.out 2).trans rfl; have hfz4_0 := blk_frozen BK452.out 0; have hfz4_1 := blk_frozen BK452.out 1; have hfz4_2 := blk_frozen BK452.out 2))
  (try simp only [Act.put, List.setIfInBounds_toArray, List.set_cons_zero, List.set_cons_succ])
  go_loopg [3, 4, 17] k (fun kq v3 v4 v17 w' => ∃ (x3_1 : List Int) (x4_1 : Int) (x17_1 : Int), v4 = .int .i64 x4_1 ∧ v17 = .int .i64 x17_1 ∧ Aside0 (spec_l11Places.l0 kq x3_1 x4_1 l0_2 (l0_2.length : Int) x17_1 = some r) ∧ Aside0 (kq ≤ k) ∧ Aside0 (Kd.R (Kd.int .i64) 3 w' w.heap.size (fun _ => True) v3 x3_1) ∧ Aside0 (w'.heap[gb452]? = some (.cells #[.int .i64 a0_0, .int .i64 a0_1, (.slice A0_2 l0_2.length c0_2)] 52 (0, 0))) ∧ Aside0 (Below w.heap.size w w'))
  case atStart => exact ⟨(([] : List Int)), (0), (0), (by first | rfl | (simp; done) | (simp [*]; done)), (by first | rfl | (simp; done) | (simp [*]; done)), H', ⟨Nat.le_refl _⟩, ⟨by first | exact Kd.R_nil _ _ _ _ _ | exact Kd.N_nil _ _ _ _ _ | exact Kd.V_nil _ _ _ _ _ | exact Kd.Q_nil _ _ _ _ _ | exact Kd.S_nil _ _ _ _ _⟩, ⟨bk BK452.out⟩, ⟨bw HB.out⟩⟩
  case round =>
   clear H'
   try clear c2
   try clear c2b0
   try clear c2b1
   try clear p2
   try clear hcz4_0 hcz4_1 hcz4_2
   try clear hfz4_0 hfz4_1 hfz4_2
   obtain ⟨x3_1, x4_1, x17_1, rfl, rfl, HA, HK1, HO_3, BK452, HB⟩ := hrel
   cases gk with
   | zero => exact absurd HA.out (by simp [spec_l11Places.l0])
   | succ k1 =>
    have H := HA.out
    clear HA
    simp only [spec_l11Places.l0] at H
    by_cases c5 : x17_1 < (l0_2.length : Int)
    ·
     rw [if_pos c5] at H
     have c5b0 : decide (x17_1 < (l0_2.length : Int)) = true := decide_eq_true c5
     clear c5
     by_cases c6 : 0 ≤ x17_1
     ·
      rw [if_pos c6] at H
      have c6b0 : decide (0 ≤ x17_1) = true := decide_eq_true c6
      clear c6
      by_cases c7 : x17_1 < (l0_2.length : Int)
      ·
       rw [if_pos c7] at H
       have c7b0 : decide (x17_1 < (l0_2.length : Int)) = true := decide_eq_true c7
       clear c7
       replace H := Option.bind_eq_some_iff.mp H
       obtain ⟨⟨t455, t456⟩, A80, H⟩ := H
       replace H : ((spec_l11Up.f x4_1 t456).bind fun t457 => (if x3_1.length < 17592186044416 then (spec_l11Places.l0 k1 (x3_1 ++ [t457]) (wrap64 (t457 + t455)) l0_2 (l0_2.length : Int) (wrap64 (x17_1 + 1))) else (none))) = some r := H
       have A8 := Aside0.mk A80
       clear A80
       replace H := Option.bind_eq_some_iff.mp H
       obtain ⟨t457, A90, H⟩ := H
       replace H : (if x3_1.length < 17592186044416 then (spec_l11Places.l0 k1 (x3_1 ++ [t457]) (wrap64 (t457 + t455)) l0_2 (l0_2.length : Int) (wrap64 (x17_1 + 1))) else (none)) = some r := H
       have A9 := Aside0.mk A90
       clear A90
       by_cases c10 : x3_1.length < 17592186044416
       ·
        rw [if_pos c10] at H
        have LMc10 := Aside0.mk c10
        clear c10
        obtain ⟨y458, hy458⟩ : ∃ y_ : List Int, y_ = (x3_1 ++ [t457]) := ⟨_, rfl⟩
        replace H : (spec_l11Places.l0 k1 y458 (wrap64 (t457 + t455)) l0_2 (l0_2.length : Int) (wrap64 (x17_1 + 1))) = some r := by first | (rw [hy458]; with_reducible exact H) | (have H2_ := (Option.bind_some _ _).symm.trans H; rw [hy458]; with_reducible exact H2_) | (have H2_ := (Option.bind_some _ _).symm.trans H; with_reducible exact H2_) | with_reducible exact H | (rw [hy458]; exact H) | exact H
        have Ny458 := Aside0.mk hy458
        clear hy458
        have H' := Aside0.mk H
        clear H
        have p453 : 0 ≤ (x17_1 : Int) := of_decide_eq_true (by first | (with_reducible assumption) | assumption)
        have q453 : x17_1 < (l0_2.length : Int) := of_decide_eq_true (by first | (with_reducible assumption) | assumption)
        obtain ⟨ad453, A453_2, c453_2, e453, hx453_0, hx453_1, hx453_2, hl453_2, hi453_2⟩ := at_T52 HR0_2.out x17_1 p453 q453
        cases e453
        replace hx453_0 := (HB.out.cell (World.block_lt_of_cell? w _ hx453_0)).trans hx453_0
        replace hx453_1 := (HB.out.cell (World.block_lt_of_cell? w _ hx453_1)).trans hx453_1
        replace hx453_2 := (HB.out.cell (World.block_lt_of_cell? w _ hx453_2)).trans hx453_2
        have HR453_2 := Aside0.mk hi453_2
        have HC453_2 := Aside0.mk hl453_2
        clear hi453_2 hl453_2
        replace p453 := eq_true p453
        replace q453 := eq_true q453
        go_wp2_with (first | ((with_reducible refine gate_dst (N := 6) rfl ?_); refine box_event ?hg (N := 6) ?hd (cs := #[.int .i64 0, .int .i64 0, .slice none 0 0]) (t := 52) ?hr ?_; (case hd => rfl); (case hg => rfl); (case hr => first | (go_simp; done) | (go_simp; rfl)); intro gb454 hg w11 hbox hb; have n0_ := Aside0.mk (Kd.R_below (by (with_reducible repeat (first | apply Kd.R_alloc | apply Kd.R_drewN | apply Kd.R_drew)); exact HO_3.out) hb); have n1_ := Aside0.mk (blk_below (g := gb452) (o := .cells #[.int .i64 a0_0, .int .i64 a0_1, .slice (some ad453) l0_2.length c0_2] 52 (0, 0)) (bk BK452.out) hb); have n2_ := Aside0.mk (below_step (bw HB.out) hb); have n3_ := Aside0.mk (hbox); have n4_ := Aside0.mk ((by rw [hg]; exact (below_size (bw HB.out)) : w.heap.size ≤ gb454)); have n5_ := Aside0.mk ((by rw [hg]; exact (below_size (bw HB.out)) : w.heap.size ≤ gb454)); have n6_ := Aside0.mk ((by rw [hg]; exact Nat.ne_of_lt (blk_lt (g := gb452) (o := .cells #[.int .i64 a0_0, .int .i64 a0_1, .slice (some ad453) l0_2.length c0_2] 52 (0, 0)) (bk BK452.out)) : gb452 ≠ gb454)); have n7_ := Aside0.mk ((by rw [hg]; exact Nat.ne_of_gt (blk_lt (g := gb452) (o := .cells #[.int .i64 a0_0, .int .i64 a0_1, .slice (some ad453) l0_2.length c0_2] 52 (0, 0)) (bk BK452.out)) : gb454 ≠ gb452)); clear HO_3; clear BK452; clear HB; have HO_3 := n0_; have BK452 := n1_; have HB := n2_; have BK454 := n3_; have GW454 := n4_; have GE454 := n5_; have NB452_454 := n6_; have NB454_452 := n7_; clear n0_ n1_ n2_ n3_ n4_ n5_ n6_ n7_; clear hb hbox hg; have hnb12 := NB454_452.out; have hnc12 := NB452_454.out; have hcz13_0 : w11.cell? ⟨gb454, 0, none⟩ = some (.int .i64 0) := (blk_cell BK454.out 0).trans rfl; have hcz13_1 : w11.cell? ⟨gb454, 1, none⟩ = some (.int .i64 0) := (blk_cell BK454.out 1).trans rfl; have hcz13_2 : w11.cell? ⟨gb454, 2, none⟩ = some (.slice none 0 0) := (blk_cell BK454.out 2).trans rfl; have hfz13_0 := blk_frozen BK454.out 0; have hfz13_1 := blk_frozen BK454.out 1; have hfz13_2 := blk_frozen BK454.out 2) | ((with_reducible refine gate_callee (f := 46) rfl ?_); refine goesL_ (some 23) rfl rfl Try.func46 (by kernel_rfl) rfl #[.agg #[.int .i64 ((rd_T52 l0_2 x17_1).f0), .int .i64 ((rd_T52 l0_2 x17_1).f1), .slice A453_2 ((rd_T52 l0_2 x17_1).f2).length c453_2]] rfl ar ?_; (with_reducible refine (spec_l11Room.calls k1 ((rd_T52 l0_2 x17_1).f0) ((rd_T52 l0_2 x17_1).f1) _ _ ((rd_T52 l0_2 x17_1).f2) t455 t456 _ ?side1 ?side2 A8.out).mono ?_); (case side1 => exact Kd.C_below HR453_2.out (bw HB.out)); (case side2 => exact HC453_2.out); rintro e w14 ⟨rfl, hb⟩; refine ⟨_, rfl, ?_⟩; have n0_ := Aside0.mk (Kd.R_below (by (with_reducible repeat (first | apply Kd.R_alloc | apply Kd.R_drewN | apply Kd.R_drew)); exact (Kd.R_mono (Kd.R_far (p := ⟨gb454, 2, none⟩) (Kd.R_far (p := ⟨gb454, 1, none⟩) (Kd.R_far (p := ⟨gb454, 0, none⟩) (Kd.R_types HO_3.out BK454.out (by decide)) (fun _ hk => hk.2) (.int .i64 ((rd_T52 l0_2 x17_1).f0))) (fun _ hk => hk.2) (.int .i64 ((rd_T52 l0_2 x17_1).f1))) (fun _ hk => hk.2) (.slice A453_2 ((rd_T52 l0_2 x17_1).f2).length c453_2)) (fun _ h_ => h_.1))) hb); have n1_ := Aside0.mk (blk_below (g := gb452) (o := .cells #[.int .i64 a0_0, .int .i64 a0_1, .slice (some ad453) l0_2.length c0_2] 52 (0, 0)) (by (with_reducible repeat (first | refine blk_drewN ?_ _ | refine blk_drew ?_ | refine blk_alloc ?_ _)); refine blk_far ?_ NB452_454.out _; (with_reducible repeat (first | refine blk_drewN ?_ _ | refine blk_drew ?_ | refine blk_alloc ?_ _)); refine blk_far ?_ NB452_454.out _; (with_reducible repeat (first | refine blk_drewN ?_ _ | refine blk_drew ?_ | refine blk_alloc ?_ _)); refine blk_far ?_ NB452_454.out _; (with_reducible repeat (first | refine blk_drewN ?_ _ | refine blk_drew ?_ | refine blk_alloc ?_ _)); exact BK452.out) hb); have n2_ := Aside0.mk (blk_below (g := gb454) (o := .cells #[.int .i64 ((rd_T52 l0_2 x17_1).f0), .int .i64 ((rd_T52 l0_2 x17_1).f1), .slice A453_2 ((rd_T52 l0_2 x17_1).f2).length c453_2] 52 (0, 0)) (by (with_reducible repeat (first | refine blk_drewN ?_ _ | refine blk_drew ?_ | refine blk_alloc ?_ _)); refine blk_put (cs := #[.int .i64 ((rd_T52 l0_2 x17_1).f0), .int .i64 ((rd_T52 l0_2 x17_1).f1), .slice none 0 0]) ?_ 2 _ rfl; (with_reducible repeat (first | refine blk_drewN ?_ _ | refine blk_drew ?_ | refine blk_alloc ?_ _)); refine blk_put (cs := #[.int .i64 ((rd_T52 l0_2 x17_1).f0), .int .i64 0, .slice none 0 0]) ?_ 1 _ rfl; (with_reducible repeat (first | refine blk_drewN ?_ _ | refine blk_drew ?_ | refine blk_alloc ?_ _)); refine blk_put (cs := #[.int .i64 0, .int .i64 0, .slice none 0 0]) ?_ 0 _ rfl; (with_reducible repeat (first | refine blk_drewN ?_ _ | refine blk_drew ?_ | refine blk_alloc ?_ _)); exact BK454.out) hb); have n3_ := Aside0.mk (below_step (bw HB.out) hb); clear HO_3; clear BK452; clear BK454; clear HB; have HO_3 := n0_; have BK452 := n1_; have BK454 := n2_; have HB := n3_; clear n0_ n1_ n2_ n3_; (try clear hb)) | ((with_reducible refine gate_callee (f := 67) rfl ?_); refine goesL_ (some 28) rfl rfl Try.func67 (by kernel_rfl) rfl #[.int .i64 x4_1, .int .i64 t456] rfl ar ?_; (with_reducible refine (spec_l11Up.calls x4_1 t456 t457 _ A9.out).mono ?_); rintro e w' ⟨rfl, ⟨nd, rfl⟩⟩; refine ⟨_, rfl, ?_⟩) | ((with_reducible refine gate_builtin (b := .append) (xs := #[.tmp 29, .tmp 31]) rfl ?_); at_builtin; refine Kd.R_append (Kd.int .i64) (w0 := w) w.heap.size rfl (.tmp 29) (.tmp 31) 38 3 (.int .i64 0) 8 rfl Try.underlying38 info3 rfl (by decide) (by omega) u3 x3_1 t457 [.int .i64 t457] (fun _ => True) (fun _ => False) rfl rfl ?aP (fun _ hk => hk.elim) ?aF ?aO ?aB ?aS ?aL ?_; (case aP => exact rfl); (case aB => exact (bw HB.out)); (case aF => exact (fun _ _ => trivial)); (case aO => exact (by (with_reducible repeat (first | apply Kd.R_alloc | apply Kd.R_drewN | apply Kd.R_drew)); exact HO_3.out)); (case aS => exact (below_size (bw HB.out))); (case aL => have := LMc10.out; omega); intro v459 w15 ho hb hg hat; rw [← Ny458.out] at ho; have n0_ := Aside0.mk (blk_grown (g := gb452) (o := .cells #[.int .i64 a0_0, .int .i64 a0_1, .slice (some ad453) l0_2.length c0_2] 52 (0, 0)) (bk BK452.out) hg (Kd.R_ne HO_3.out BK452.out (by decide))); have n1_ := Aside0.mk (blk_grown (g := gb454) (o := .cells #[.int .i64 ((rd_T52 l0_2 x17_1).f0), .int .i64 ((rd_T52 l0_2 x17_1).f1), .slice A453_2 ((rd_T52 l0_2 x17_1).f2).length c453_2] 52 (0, 0)) (bk BK454.out) hg (Kd.R_ne HO_3.out BK454.out (by decide))); have n2_ := Aside0.mk (hb); have n3_ := Aside0.mk (ho); clear BK452; clear BK454; clear HB; clear HO_3; have BK452 := n0_; have BK454 := n1_; have HB := n2_; have HO460 := n3_; clear n0_ n1_ n2_ n3_; clear ho hb hg hat))
        go_roundg k1
        case measure => have := HK1.out; omega
        case rel => exact ⟨(y458), (wrap64 (t457 + t455)), (wrap64 (x17_1 + 1)), (by first | rfl | (simp; done) | (simp [*]; done)), (by first | rfl | (simp; done) | (simp [*]; done)), H', ⟨by have := HK1.out; omega⟩, ⟨by (with_reducible repeat (first | apply Kd.R_alloc | apply Kd.R_drewN | apply Kd.R_drew)); exact HO460.out⟩, ⟨bk BK452.out⟩, ⟨bw HB.out⟩⟩
       ·
        rw [if_neg c10] at H
        exact absurd H (by simp)
      ·
       rw [if_neg c7] at H
       exact absurd H (by simp)
     ·
      rw [if_neg c6] at H
      exact absurd H (by simp)
    ·
     rw [if_neg c5] at H
     have c5b0 : decide (x17_1 < (l0_2.length : Int)) = false := decide_eq_false c5
     clear c5
     obtain rfl := Option.some.inj H
     simp only [Option.some.injEq, Prod.mk.injEq] at H
     obtain ⟨rfl⟩ := H
     go_wp2
     go_ret
     exact ⟨_, by first | rfl | (simp [errW_none, errW_some] <;> rfl) | (simp [*, errW_none, errW_some] <;> rfl), by (with_reducible repeat (first | apply Kd.R_alloc | apply Kd.R_drewN | apply Kd.R_drew)); exact HO_3.out, bw HB.out⟩
 ·
  rw [if_neg c2] at H
  have c2b0 : (a0_0 == 14) = false := beq_eq_false_iff_ne.mpr c2
  have c2b1 : (a0_0 != 14) = true := bne_iff_ne.mpr c2
  replace H := Option.bind_eq_some_iff.mp H
  obtain ⟨⟨t461, t462⟩, A160, H⟩ := H
  replace H : (spec_l11Places.l1 k ([] : List Int) t462 (l0_2.length : Int) 0) = some r := H
  have A16 := Aside0.mk A160
  clear A160
  have H' := Aside0.mk H
  clear H
  go_enter Try.func56, Try.ntmps56
  go_wp2_with (first | ((with_reducible refine gate_dst (N := 1) rfl ?_); refine box_event ?hg (N := 1) ?hd (cs := #[.int .i64 a0_0, .int .i64 a0_1, .slice A0_2 l0_2.length c0_2]) (t := 52) ?hr ?_; (case hd => rfl); (case hg => rfl); (case hr => first | (go_simp; done) | (go_simp; rfl)); intro gb452 hg w17 hbox hb; have n0_ := Aside0.mk (below_step (bw HB.out) hb); have n1_ := Aside0.mk (hbox); have n2_ := Aside0.mk ((by rw [hg]; exact (below_size (bw HB.out)) : w.heap.size ≤ gb452)); have n3_ := Aside0.mk ((by rw [hg]; exact (below_size (bw HB.out)) : w.heap.size ≤ gb452)); clear HB; have HB := n0_; have BK452 := n1_; have GW452 := n2_; have GE452 := n3_; clear n0_ n1_ n2_ n3_; clear hb hbox hg; have hcz18_0 : w17.cell? ⟨gb452, 0, none⟩ = some (.int .i64 a0_0) := (blk_cell BK452.out 0).trans rfl; have hcz18_1 : w17.cell? ⟨gb452, 1, none⟩ = some (.int .i64 a0_1) := (blk_cell BK452.out 1).trans rfl; have hcz18_2 : w17.cell? ⟨gb452, 2, none⟩ = some (.slice A0_2 l0_2.length c0_2) := (blk_cell BK452.out 2).trans rfl; have hfz18_0 := blk_frozen BK452.out 0; have hfz18_1 := blk_frozen BK452.out 1; have hfz18_2 := blk_frozen BK452.out 2) | ((with_reducible refine gate_callee (f := 46) rfl ?_); refine goesL_ (some 40) rfl rfl Try.func46 (by kernel_rfl) rfl #[.agg #[.int .i64 a0_0, .int .i64 a0_1, .slice A0_2 l0_2.length c0_2]] rfl ar ?_; (with_reducible refine (spec_l11Room.calls k a0_0 a0_1 _ _ l0_2 t461 t462 _ ?side1 ?side2 A16.out).mono ?_); (case side1 => repeat (first | exact (Kd.C_below HR0_2.out HB.out) | (with_reducible refine Kd.C_alloc ?_ _) | (with_reducible refine Kd.C_drewN ?_ _) | (with_reducible refine Kd.C_drew ?_))); (case side2 => exact HC0_2.out); rintro e w19 ⟨rfl, hb⟩; refine ⟨_, rfl, ?_⟩; have n0_ := Aside0.mk (blk_below (g := gb452) (o := .cells #[.int .i64 a0_0, .int .i64 a0_1, .slice A0_2 l0_2.length c0_2] 52 (0, 0)) (bk BK452.out) hb); have n1_ := Aside0.mk (below_step (bw HB.out) hb); clear BK452; clear HB; have BK452 := n0_; have HB := n1_; clear n0_ n1_; (try clear hb); have hcz20_0 : w19.cell? ⟨gb452, 0, none⟩ = some (.int .i64 a0_0) := (blk_cell BK452.out 0).trans rfl; have hcz20_1 : w19.cell? ⟨gb452, 1, none⟩ = some (.int .i64 a0_1) := (blk_cell BK452.out 1).trans rfl; have hcz20_2 : w19.cell? ⟨gb452, 2, none⟩ = some (.slice A0_2 l0_2.length c0_2) := (blk_cell BK452.out 2).trans rfl; have hfz20_0 := blk_frozen BK452.out 0; have hfz20_1 := blk_frozen BK452.out 1; have hfz20_2 := blk_frozen BK452.out 2))
  (try simp only [Act.put, List.setIfInBounds_toArray, List.set_cons_zero, List.set_cons_succ])
  go_loopg [3, 46] k (fun kq v3 v46 w' => ∃ (x3_1 : List Int) (x46_1 : Int), v46 = .int .i64 x46_1 ∧ Aside0 (spec_l11Places.l1 kq x3_1 t462 (l0_2.length : Int) x46_1 = some r) ∧ Aside0 (kq ≤ k) ∧ Aside0 (Kd.R (Kd.int .i64) 3 w' w.heap.size (fun _ => True) v3 x3_1) ∧ Aside0 (w'.heap[gb452]? = some (.cells #[.int .i64 a0_0, .int .i64 a0_1, (.slice A0_2 l0_2.length c0_2)] 52 (0, 0))) ∧ Aside0 (Below w.heap.size w w'))
  case atStart => exact ⟨(([] : List Int)), (0), (by first | rfl | (simp; done) | (simp [*]; done)), H', ⟨Nat.le_refl _⟩, ⟨by first | exact Kd.R_nil _ _ _ _ _ | exact Kd.N_nil _ _ _ _ _ | exact Kd.V_nil _ _ _ _ _ | exact Kd.Q_nil _ _ _ _ _ | exact Kd.S_nil _ _ _ _ _⟩, ⟨bk BK452.out⟩, ⟨bw HB.out⟩⟩
  case round =>
   clear H'
   try clear c1
   try clear c2
   try clear c2b0
   try clear c2b1
   try clear p2
   try clear c4
   try clear p4
   try clear q4
   try clear hx4
   try clear c5
   try clear c5b0
   try clear c6
   try clear c6b0
   try clear p6
   try clear c7
   try clear c7b0
   try clear c10
   try clear c12
   try clear hcz13_0 hcz13_1 hcz13_2
   try clear hcz18_0 hcz18_1 hcz18_2
   try clear hcz20_0 hcz20_1 hcz20_2
   try clear hcz4_0 hcz4_1 hcz4_2
   try clear hfz13_0 hfz13_1 hfz13_2
   try clear hfz18_0 hfz18_1 hfz18_2
   try clear hfz20_0 hfz20_1 hfz20_2
   try clear hfz4_0 hfz4_1 hfz4_2
   try clear hx453_0
   try clear hx453_1
   try clear hx453_2
   try clear p2
   try clear p453
   try clear q453
   obtain ⟨x3_1, x46_1, rfl, HA, HK1, HO_3, BK452, HB⟩ := hrel
   cases gk with
   | zero => exact absurd HA.out (by simp [spec_l11Places.l1])
   | succ k1 =>
    have H := HA.out
    clear HA
    simp only [spec_l11Places.l1] at H
    by_cases c21 : x46_1 < (l0_2.length : Int)
    ·
     rw [if_pos c21] at H
     have c21b0 : decide (x46_1 < (l0_2.length : Int)) = true := decide_eq_true c21
     clear c21
     replace H := Option.bind_eq_some_iff.mp H
     obtain ⟨t463, A220, H⟩ := H
     replace H : (if x3_1.length < 17592186044416 then (spec_l11Places.l1 k1 (x3_1 ++ [t463]) t462 (l0_2.length : Int) (wrap64 (x46_1 + 1))) else (none)) = some r := H
     have A22 := Aside0.mk A220
     clear A220
     by_cases c23 : x3_1.length < 17592186044416
     ·
      rw [if_pos c23] at H
      have LMc23 := Aside0.mk c23
      clear c23
      obtain ⟨y464, hy464⟩ : ∃ y_ : List Int, y_ = (x3_1 ++ [t463]) := ⟨_, rfl⟩
      replace H : (spec_l11Places.l1 k1 y464 t462 (l0_2.length : Int) (wrap64 (x46_1 + 1))) = some r := by first | (rw [hy464]; with_reducible exact H) | (have H2_ := (Option.bind_some _ _).symm.trans H; rw [hy464]; with_reducible exact H2_) | (have H2_ := (Option.bind_some _ _).symm.trans H; with_reducible exact H2_) | with_reducible exact H | (rw [hy464]; exact H) | exact H
      have Ny464 := Aside0.mk hy464
      clear hy464
      have H' := Aside0.mk H
      clear H
      go_wp2_with (first | ((with_reducible refine gate_callee (f := 67) rfl ?_); refine goesL_ (some 50) rfl rfl Try.func67 (by kernel_rfl) rfl #[.int .i64 1, .int .i64 t462] rfl ar ?_; (with_reducible refine (spec_l11Up.calls 1 t462 t463 _ A22.out).mono ?_); rintro e w' ⟨rfl, ⟨nd, rfl⟩⟩; refine ⟨_, rfl, ?_⟩) | ((with_reducible refine gate_builtin (b := .append) (xs := #[.tmp 48, .tmp 51]) rfl ?_); at_builtin; refine Kd.R_append (Kd.int .i64) (w0 := w) w.heap.size rfl (.tmp 48) (.tmp 51) 38 3 (.int .i64 0) 8 rfl Try.underlying38 info3 rfl (by decide) (by omega) u3 x3_1 t463 [.int .i64 t463] (fun _ => True) (fun _ => False) rfl rfl ?aP (fun _ hk => hk.elim) ?aF ?aO ?aB ?aS ?aL ?_; (case aP => exact rfl); (case aB => exact (bw HB.out)); (case aF => exact (fun _ _ => trivial)); (case aO => exact (by (with_reducible repeat (first | apply Kd.R_alloc | apply Kd.R_drewN | apply Kd.R_drew)); exact HO_3.out)); (case aS => exact (below_size (bw HB.out))); (case aL => have := LMc23.out; omega); intro v465 w24 ho hb hg hat; rw [← Ny464.out] at ho; have n0_ := Aside0.mk (blk_grown (g := gb452) (o := .cells #[.int .i64 a0_0, .int .i64 a0_1, .slice A0_2 l0_2.length c0_2] 52 (0, 0)) (bk BK452.out) hg (Kd.R_ne HO_3.out BK452.out (by decide))); have n1_ := Aside0.mk (hb); have n2_ := Aside0.mk (ho); clear BK452; clear HB; clear HO_3; have BK452 := n0_; have HB := n1_; have HO466 := n2_; clear n0_ n1_ n2_; clear ho hb hg hat))
      go_roundg k1
      case measure => have := HK1.out; omega
      case rel => exact ⟨(y464), (wrap64 (x46_1 + 1)), (by first | rfl | (simp; done) | (simp [*]; done)), H', ⟨by have := HK1.out; omega⟩, ⟨by (with_reducible repeat (first | apply Kd.R_alloc | apply Kd.R_drewN | apply Kd.R_drew)); exact HO466.out⟩, ⟨bk BK452.out⟩, ⟨bw HB.out⟩⟩
     ·
      rw [if_neg c23] at H
      exact absurd H (by simp)
    ·
     rw [if_neg c21] at H
     have c21b0 : decide (x46_1 < (l0_2.length : Int)) = false := decide_eq_false c21
     clear c21
     obtain rfl := Option.some.inj H
     simp only [Option.some.injEq, Prod.mk.injEq] at H
     obtain ⟨rfl⟩ := H
     go_wp2
     go_ret
     exact ⟨_, by first | rfl | (simp [errW_none, errW_some] <;> rfl) | (simp [*, errW_none, errW_some] <;> rfl), by (with_reducible repeat (first | apply Kd.R_alloc | apply Kd.R_drewN | apply Kd.R_drew)); exact HO_3.out, bw HB.out⟩

end Go.Proofs.Ytlgegdgilkaldaa.Q

namespace Go.Proofs.Ytlgegdgilkaldaa.Q
open Go.RowKit Go.Proofs.YtlgegdgilkaldaaW.PrintWords Go.Proofs.YtlgegdgilkaldaaW.PrintLast Go.Proofs.YtlgegdgilkaldaaW.PrintMore
attribute [local go_sem] max2_int min2_int max_two min_two max_three min_three max_four min_four   -- for this text's walks alone
set_option linter.unusedVariables false
set_option linter.unusedSimpArgs false

/-! ### spec_OffsetsOf: function 33 -/
def spec_OffsetsOf.j0 : Nat → List (S46) → Bool → Option (List Int × Bool)
 | 0, _, _ => none
 | k + 1, x0, x21 => if x21 = true then (some (([] : List Int), false)) else ((spec_l11Tree.f k x0 0).bind fun bt471 => ((spec_l11Places.f k bt471.1 bt471.2.1 bt471.2.2).bind fun t476 => (some (t476, true))))
def spec_OffsetsOf.f (k : Nat) (l0 : List (S46)) : Option (List Int × Bool) := (spec_GoodType.f k l0).bind fun t467 => (if t467 = true then (if 0 < (l0.length : Int) then (if ((rd_T46 l0 0).f0) = 14 then (spec_OffsetsOf.j0 k l0 false) else ((spec_l11Numbered.f ((rd_T46 l0 0).f0)).bind fun t470 => (spec_OffsetsOf.j0 k l0 (!t470)))) else (none)) else (spec_OffsetsOf.j0 k l0 true))
theorem spec_OffsetsOf.mono_l : ∀ k, (∀ y0 y1, LeO (spec_OffsetsOf.j0 k y0 y1) (spec_OffsetsOf.j0 (k + 1) y0 y1))
 | 0 => fun _ _ r h => by simp [spec_OffsetsOf.j0] at h
 | k + 1 => by
  have ih0 := spec_OffsetsOf.mono_l k
  ·
   intro y0 y1
   unfold spec_OffsetsOf.j0
   repeat' first
   | (with_reducible exact ih0 _ _)
   | (with_reducible exact spec_GoodType.mono _ _)
   | (with_reducible exact spec_l11Places.mono _ _ _ _)
   | (with_reducible exact spec_l11Tree.mono _ _ _)
   | (with_reducible exact LeO.refl _)
   | (with_reducible exact LeO.none _)
   | (with_reducible refine LeO.ite ?_ ?_)
   | (with_reducible refine LeO.bind ?_ (fun _ => ?_))
   | exact ih0 _ _
   | exact spec_GoodType.mono _ _
   | exact spec_l11Places.mono _ _ _ _
   | exact spec_l11Tree.mono _ _ _
   | exact LeO.none _
   | refine LeO.ite ?_ ?_
   | refine LeO.bind ?_ (fun _ => ?_)
theorem spec_OffsetsOf.mono : ∀ a0 k, LeO (spec_OffsetsOf.f k a0) (spec_OffsetsOf.f (k + 1) a0) := by
 intro a0 k
 have ih0 := spec_OffsetsOf.mono_l k
 unfold spec_OffsetsOf.f
 repeat' first
   | (with_reducible exact ih0 _ _)
   | (with_reducible exact spec_GoodType.mono _ _)
   | (with_reducible exact spec_l11Places.mono _ _ _ _)
   | (with_reducible exact spec_l11Tree.mono _ _ _)
   | (with_reducible exact LeO.refl _)
   | (with_reducible exact LeO.none _)
   | (with_reducible refine LeO.ite ?_ ?_)
   | (with_reducible refine LeO.bind ?_ (fun _ => ?_))
   | exact ih0 _ _
   | exact spec_GoodType.mono _ _
   | exact spec_l11Places.mono _ _ _ _
   | exact spec_l11Tree.mono _ _ _
   | exact LeO.none _
   | refine LeO.ite ?_ ?_
   | refine LeO.bind ?_ (fun _ => ?_)
set_option maxHeartbeats 8000000 in
set_option maxRecDepth 100000 in
theorem spec_OffsetsOf.calls (k : Nat) (A0 : Option Addr) (c0 : Nat) (l0 : List (S46)) (r1 : List Int) (r2 : Bool) (w : World) (hr0 : Kd.C k46 w A0 l0.length l0) (hc0 : l0.length ≤ c0) (h : spec_OffsetsOf.f k l0 = some (r1, r2)) :
  Calls Try.prog 33 #[.slice A0 l0.length c0] w fun e w' => ∃ v0_ : Value, e = .returned (.tuple #[v0_, .bool r2]) ∧ Kd.R (Kd.int .i64) 3 w' w.heap.size (fun _ => True) v0_ r1 ∧ Below w.heap.size w w' := by
 have HR0 := Aside0.mk hr0
 have HC0 := Aside0.mk hc0
 clear hr0 hc0
 have HB := Aside0.mk (Below.refl w.heap.size w)
 have H : ((spec_GoodType.f k l0).bind fun t467 => (if t467 = true then (if 0 < (l0.length : Int) then (if ((rd_T46 l0 0).f0) = 14 then (spec_OffsetsOf.j0 k l0 false) else ((spec_l11Numbered.f ((rd_T46 l0 0).f0)).bind fun t470 => (spec_OffsetsOf.j0 k l0 (!t470)))) else (none)) else (spec_OffsetsOf.j0 k l0 true))) = some (r1, r2) := h
 clear h
 have HC2 := Aside0.mk H
 clear H
 go_enter Try.func33, Try.ntmps33
 go_upto_region 1 with (fail)
 go_cut [21] (fun v21 wc => ∃ (kq : Nat) (x21_1 : Bool), v21 = .bool x21_1 ∧ Aside0 (spec_OffsetsOf.j0 kq l0 x21_1 = some (r1, r2)) ∧ Aside0 (kq ≤ k) ∧ Aside0 (Below w.heap.size w wc))
 case first =>
  have H := HC2.out
  clear HC2
  replace H := Option.bind_eq_some_iff.mp H
  obtain ⟨t467, A30, H⟩ := H
  replace H : (if t467 = true then (if 0 < (l0.length : Int) then (if ((rd_T46 l0 0).f0) = 14 then (spec_OffsetsOf.j0 k l0 false) else ((spec_l11Numbered.f ((rd_T46 l0 0).f0)).bind fun t470 => (spec_OffsetsOf.j0 k l0 (!t470)))) else (none)) else (spec_OffsetsOf.j0 k l0 true)) = some (r1, r2) := H
  have A3 := Aside0.mk A30
  clear A30
  by_cases c4 : t467 = true
  ·
   subst c4
   have H1 : (if 0 < (l0.length : Int) then (if ((rd_T46 l0 0).f0) = 14 then (spec_OffsetsOf.j0 k l0 false) else ((spec_l11Numbered.f ((rd_T46 l0 0).f0)).bind fun t470 => (spec_OffsetsOf.j0 k l0 (!t470)))) else (none)) = some (r1, r2) := by rw [if_pos rfl] at H; exact H
   clear H
   have H := H1
   clear H1
   by_cases c5 : 0 < (l0.length : Int)
   ·
    rw [if_pos c5] at H
    have c5b0 : decide (0 < (l0.length : Int)) = true := decide_eq_true c5
    have c5b1 : decide (0 < l0.length) = true := decide_eq_true (by omega)
    clear c5
    (first | rw [c5b0] | (simp only [i64_w, i32_w]; rw [c5b0]) | skip)
    by_cases c6 : ((rd_T46 l0 0).f0) = 14
    ·
     rw [if_pos c6] at H
     have c6b0 : (((rd_T46 l0 0).f0) == 14) = true := beq_iff_eq.mpr c6
     have c6b1 : (((rd_T46 l0 0).f0) != 14) = false := bne_eq_false_iff_eq.mpr c6
     clear c6
     have H' := Aside0.mk H
     clear H
     go_wp2_with (first | ((with_reducible refine gate_callee (f := 37) rfl ?_); refine goesL_ (some 5) rfl rfl Try.func37 (by kernel_rfl) rfl #[.slice A0 l0.length c0] rfl ar ?_; (with_reducible refine (spec_GoodType.calls k _ _ l0 true _ ?side1 ?side2 A3.out).mono ?_); (case side1 => repeat (first | exact (Kd.C_below HR0.out HB.out) | (with_reducible refine Kd.C_alloc ?_ _) | (with_reducible refine Kd.C_drewN ?_ _) | (with_reducible refine Kd.C_drew ?_))); (case side2 => exact HC0.out); rintro e w7 ⟨rfl, hb⟩; refine ⟨_, rfl, ?_⟩; have n0_ := Aside0.mk (below_step (bw HB.out) hb); clear HB; have HB := n0_; clear n0_; (try clear hb); have p468 : 0 ≤ (0 : Int) := (by omega); have q468 : 0 < (l0.length : Int) := of_decide_eq_true (by first | (with_reducible assumption) | assumption); obtain ⟨ad468, e468, hx468_0, hx468_1, hx468_2⟩ := at_T46 HR0.out 0 p468 q468; cases e468; have qi468 : (0 < l0.length) = True := eq_true (by omega); (try rw [show ((0 : Int)).toNat = 0 from rfl] at hx468_0); (try rw [show 0 * 3 = 0 from rfl] at hx468_0); (try rw [Addr.add_zero'] at hx468_0); (try rw [show ((0 : Int)).toNat = 0 from rfl] at hx468_1); (try rw [show 0 * 3 = 0 from rfl] at hx468_1); (try rw [Addr.add_zero'] at hx468_1); (try rw [show ((0 : Int)).toNat = 0 from rfl] at hx468_2); (try rw [show 0 * 3 = 0 from rfl] at hx468_2); (try rw [Addr.add_zero'] at hx468_2); replace hx468_0 := (HB.out.cell (World.block_lt_of_cell? w _ hx468_0)).trans hx468_0; replace hx468_1 := (HB.out.cell (World.block_lt_of_cell? w _ hx468_1)).trans hx468_1; replace hx468_2 := (HB.out.cell (World.block_lt_of_cell? w _ hx468_2)).trans hx468_2; replace p468 := eq_true p468; replace q468 := eq_true q468))
     go_meet
     case rel => exact ⟨_, (false), (by first | rfl | (simp; done) | (simp [*]; done)), H', ⟨by first | omega | exact Nat.le_refl _⟩, ⟨bw HB.out⟩⟩
    ·
     rw [if_neg c6] at H
     have c6b0 : (((rd_T46 l0 0).f0) == 14) = false := beq_eq_false_iff_ne.mpr c6
     have c6b1 : (((rd_T46 l0 0).f0) != 14) = true := bne_iff_ne.mpr c6
     replace H := Option.bind_eq_some_iff.mp H
     obtain ⟨t470, A80, H⟩ := H
     replace H : (spec_OffsetsOf.j0 k l0 (!t470)) = some (r1, r2) := H
     have A8 := Aside0.mk A80
     clear A80
     have H' := Aside0.mk H
     clear H
     go_wp2_with (first | ((with_reducible refine gate_callee (f := 37) rfl ?_); refine goesL_ (some 5) rfl rfl Try.func37 (by kernel_rfl) rfl #[.slice A0 l0.length c0] rfl ar ?_; (with_reducible refine (spec_GoodType.calls k _ _ l0 true _ ?side1 ?side2 A3.out).mono ?_); (case side1 => repeat (first | exact (Kd.C_below HR0.out HB.out) | (with_reducible refine Kd.C_alloc ?_ _) | (with_reducible refine Kd.C_drewN ?_ _) | (with_reducible refine Kd.C_drew ?_))); (case side2 => exact HC0.out); rintro e w9 ⟨rfl, hb⟩; refine ⟨_, rfl, ?_⟩; have n0_ := Aside0.mk (below_step (bw HB.out) hb); clear HB; have HB := n0_; clear n0_; (try clear hb); have p468 : 0 ≤ (0 : Int) := (by omega); have q468 : 0 < (l0.length : Int) := of_decide_eq_true (by first | (with_reducible assumption) | assumption); obtain ⟨ad468, e468, hx468_0, hx468_1, hx468_2⟩ := at_T46 HR0.out 0 p468 q468; cases e468; have qi468 : (0 < l0.length) = True := eq_true (by omega); (try rw [show ((0 : Int)).toNat = 0 from rfl] at hx468_0); (try rw [show 0 * 3 = 0 from rfl] at hx468_0); (try rw [Addr.add_zero'] at hx468_0); (try rw [show ((0 : Int)).toNat = 0 from rfl] at hx468_1); (try rw [show 0 * 3 = 0 from rfl] at hx468_1); (try rw [Addr.add_zero'] at hx468_1); (try rw [show ((0 : Int)).toNat = 0 from rfl] at hx468_2); (try rw [show 0 * 3 = 0 from rfl] at hx468_2); (try rw [Addr.add_zero'] at hx468_2); replace hx468_0 := (HB.out.cell (World.block_lt_of_cell? w _ hx468_0)).trans hx468_0; replace hx468_1 := (HB.out.cell (World.block_lt_of_cell? w _ hx468_1)).trans hx468_1; replace hx468_2 := (HB.out.cell (World.block_lt_of_cell? w _ hx468_2)).trans hx468_2; replace p468 := eq_true p468; replace q468 := eq_true q468; have p469 : 0 ≤ (0 : Int) := (by omega); have q469 : 0 < (l0.length : Int) := of_decide_eq_true (by first | (with_reducible assumption) | assumption); obtain ⟨ad469, e469, hx469_0, hx469_1, hx469_2⟩ := at_T46 HR0.out 0 p469 q469; obtain rfl : ad468 = ad469 := (by injection e469); have qi469 : (0 < l0.length) = True := eq_true (by omega); (try rw [show ((0 : Int)).toNat = 0 from rfl] at hx469_0); (try rw [show 0 * 3 = 0 from rfl] at hx469_0); (try rw [Addr.add_zero'] at hx469_0); (try rw [show ((0 : Int)).toNat = 0 from rfl] at hx469_1); (try rw [show 0 * 3 = 0 from rfl] at hx469_1); (try rw [Addr.add_zero'] at hx469_1); (try rw [show ((0 : Int)).toNat = 0 from rfl] at hx469_2); (try rw [show 0 * 3 = 0 from rfl] at hx469_2); (try rw [Addr.add_zero'] at hx469_2); replace hx469_0 := (HB.out.cell (World.block_lt_of_cell? w _ hx469_0)).trans hx469_0; replace hx469_1 := (HB.out.cell (World.block_lt_of_cell? w _ hx469_1)).trans hx469_1; replace hx469_2 := (HB.out.cell (World.block_lt_of_cell? w _ hx469_2)).trans hx469_2; replace p469 := eq_true p469; replace q469 := eq_true q469) | (go_at_call 55; (with_reducible refine (spec_l11Numbered.calls ((rd_T46 l0 0).f0) t470 _ A8.out).mono ?_); rintro e w' ⟨rfl, ⟨nd, rfl⟩⟩))
     go_meet
     case rel => exact ⟨_, (!t470), (by first | rfl | (simp; done) | (simp [*]; done)), H', ⟨by first | omega | exact Nat.le_refl _⟩, ⟨bw HB.out⟩⟩
   ·
    rw [if_neg c5] at H
    exact absurd H (by simp)
  ·
   replace c4 := Bool.eq_false_iff.mpr c4
   subst c4
   have H1 : (spec_OffsetsOf.j0 k l0 true) = some (r1, r2) := by rw [if_neg (show ¬ (false = true) by decide)] at H; exact H
   clear H
   have H := H1
   clear H1
   have H' := Aside0.mk H
   clear H
   go_wp2_with (first | ((with_reducible refine gate_callee (f := 37) rfl ?_); refine goesL_ (some 5) rfl rfl Try.func37 (by kernel_rfl) rfl #[.slice A0 l0.length c0] rfl ar ?_; (with_reducible refine (spec_GoodType.calls k _ _ l0 false _ ?side1 ?side2 A3.out).mono ?_); (case side1 => repeat (first | exact (Kd.C_below HR0.out HB.out) | (with_reducible refine Kd.C_alloc ?_ _) | (with_reducible refine Kd.C_drewN ?_ _) | (with_reducible refine Kd.C_drew ?_))); (case side2 => exact HC0.out); rintro e w10 ⟨rfl, hb⟩; refine ⟨_, rfl, ?_⟩; have n0_ := Aside0.mk (below_step (bw HB.out) hb); clear HB; have HB := n0_; clear n0_; (try clear hb)))
   go_meet
   case rel => exact ⟨_, (true), (by first | rfl | (simp; done) | (simp [*]; done)), H', ⟨by first | omega | exact Nat.le_refl _⟩, ⟨bw HB.out⟩⟩
 case rest =>
  clear HC2
  try clear p2
  try clear c3
  try clear c4
  try clear p4
  try clear q4
  try clear hx4
  try clear qi4
  try clear c5
  try clear c5b0
  try clear c5b1
  try clear c6
  try clear c6b0
  try clear c6b1
  try clear hx468_0
  try clear hx468_1
  try clear hx468_2
  try clear hx469_0
  try clear hx469_1
  try clear hx469_2
  try clear p468
  try clear p469
  try clear q468
  try clear q469
  obtain ⟨kq, x21_1, rfl, HA, HJ1, HB⟩ := hcut
  cases kq with
  | zero => exact absurd HA.out (by simp [spec_OffsetsOf.j0])
  | succ kj1 =>
   have H := HA.out
   clear HA
   simp only [spec_OffsetsOf.j0] at H
   by_cases c11 : x21_1 = true
   ·
    subst c11
    have H1 : (some (([] : List Int), false)) = some (r1, r2) := by rw [if_pos rfl] at H; exact H
    clear H
    have H := H1
    clear H1
    simp only [Option.some.injEq, Prod.mk.injEq] at H
    obtain ⟨rfl, rfl⟩ := H
    go_wp2
    go_ret2
    exact ⟨_, by first | rfl | (simp [errW_none, errW_some] <;> rfl) | (simp [*, errW_none, errW_some] <;> rfl), by first | exact Kd.R_nil _ _ _ _ _ | exact Kd.N_nil _ _ _ _ _ | exact Kd.V_nil _ _ _ _ _ | exact Kd.Q_nil _ _ _ _ _ | exact Kd.S_nil _ _ _ _ _, bw HB.out⟩
   ·
    replace c11 := Bool.eq_false_iff.mpr c11
    subst c11
    have H1 : ((spec_l11Tree.f kj1 l0 0).bind fun bt471 => ((spec_l11Places.f kj1 bt471.1 bt471.2.1 bt471.2.2).bind fun t476 => (some (t476, true)))) = some (r1, r2) := by rw [if_neg (show ¬ (false = true) by decide)] at H; exact H
    clear H
    have H := H1
    clear H1
    replace H := Option.bind_eq_some_iff.mp H
    obtain ⟨⟨t471, t472, t473⟩, A120, H⟩ := H
    replace H : ((spec_l11Places.f kj1 t471 t472 t473).bind fun t476 => (some (t476, true))) = some (r1, r2) := H
    have A12 := Aside0.mk A120
    clear A120
    replace H := Option.bind_eq_some_iff.mp H
    obtain ⟨t476, A130, H⟩ := H
    replace H : (some (t476, true)) = some (r1, r2) := H
    have A13 := Aside0.mk A130
    clear A130
    simp only [Option.some.injEq, Prod.mk.injEq] at H
    obtain ⟨rfl, rfl⟩ := H
    go_wp2_with (first | ((with_reducible refine gate_callee (f := 39) rfl ?_); refine goesL_ (some 23) rfl rfl Try.func39 (by kernel_rfl) rfl #[.slice A0 l0.length c0, .int .i64 0] rfl ar ?_; (with_reducible refine (spec_l11Tree.calls kj1 _ _ l0 0 t471 t472 t473 _ ?side1 ?side2 A12.out).mono ?_); (case side1 => repeat (first | exact (Kd.C_below HR0.out HB.out) | (with_reducible refine Kd.C_alloc ?_ _) | (with_reducible refine Kd.C_drewN ?_ _) | (with_reducible refine Kd.C_drew ?_))); (case side2 => exact HC0.out); rintro e w14 ⟨v474, rfl, ho0, hb⟩; refine ⟨_, rfl, ?_⟩; have n0_ := Aside0.mk (Kd.R_lower ho0 (below_size (bw HB.out))); have n1_ := Aside0.mk (below_step (bw HB.out) hb); clear HB; have HO475 := n0_; have HB := n1_; clear n0_ n1_; (try clear hb); (try clear hb2); (try clear hk); (try clear hi); (try clear ho0); obtain ⟨Ao15, co15, eo15⟩ := Kd.R_slice HO475.out; subst eo15) | ((with_reducible refine gate_callee (f := 56) rfl ?_); refine goesL_ (some 24) rfl rfl Try.func56 (by kernel_rfl) rfl #[.agg #[.int .i64 t471, .int .i64 t472, .slice Ao15 t473.length co15]] rfl ar ?_; (with_reducible refine (spec_l11Places.calls kj1 t471 t472 _ _ t473 t476 _ ?side1 ?side2 A13.out).mono ?_); (case side1 => repeat (first | exact (Kd.R_reads' HO475.out).2.2 | (with_reducible refine Kd.C_alloc ?_ _) | (with_reducible refine Kd.C_drewN ?_ _) | (with_reducible refine Kd.C_drew ?_))); (case side2 => exact (Kd.R_reads' HO475.out).2.1); rintro e w16 ⟨v477, rfl, ho0, hb⟩; refine ⟨_, rfl, ?_⟩; have n0_ := Aside0.mk (Kd.R_below (by (with_reducible repeat (first | apply Kd.R_alloc | apply Kd.R_drewN | apply Kd.R_drew)); exact HO475.out) hb); have n1_ := Aside0.mk (Kd.R_lower ho0 (below_size (bw HB.out))); have n2_ := Aside0.mk (below_step (bw HB.out) hb); clear HO475; clear HB; have HO475 := n0_; have HO478 := n1_; have HB := n2_; clear n0_ n1_ n2_; (try clear hb); (try clear hb2); (try clear hk); (try clear hi); (try clear ho0)))
    go_ret2
    exact ⟨_, by first | rfl | (simp [errW_none, errW_some] <;> rfl) | (simp [*, errW_none, errW_some] <;> rfl), by (with_reducible repeat (first | apply Kd.R_alloc | apply Kd.R_drewN | apply Kd.R_drew)); exact HO478.out, bw HB.out⟩

end Go.Proofs.Ytlgegdgilkaldaa.Q

namespace Go.Proofs.Ytlgegdgilkaldaa.Q
open Go.RowKit Go.Proofs.YtlgegdgilkaldaaW.PrintWords Go.Proofs.YtlgegdgilkaldaaW.PrintLast Go.Proofs.YtlgegdgilkaldaaW.PrintMore
attribute [local go_sem] max2_int min2_int max_two min_two max_three min_three max_four min_four   -- for this text's walks alone
set_option linter.unusedVariables false
set_option linter.unusedSimpArgs false


/-! ### impl_shape_places: function 58 (walked by hand) -/

/-! Places. -/
def rowN (f : Nat → Int) (len j : Nat) : List Int := (List.range j).map f ++ List.replicate (len - j) 0
theorem rowN_len (f : Nat → Int) (len j : Nat) (h : j ≤ len) : (rowN f len j).length = len := by
 unfold rowN; rw [List.length_append, List.length_map, List.length_range, List.length_replicate]; omega
theorem rowN_set (f : Nat → Int) (len j : Nat) (h : j < len) : (rowN f len j).set j (f j) = rowN f len (j + 1) := by
 unfold rowN
 have e : len - j = (len - (j + 1)) + 1 := by omega
 rw [e, List.replicate_succ, List.range_succ, List.map_append, List.set_append, List.length_map, List.length_range, if_neg (by omega), Nat.sub_self, List.set_cons_zero]
 simp
theorem rowN_get (f : Nat → Int) (len j : Nat) (h : j < len) : rd (rowN f len (j + 1)) (j : Int) = f j := by
 unfold rd rowN
 rw [Int.toNat_natCast, List.range_succ, List.map_append, List.append_assoc, List.getD_eq_getElem?_getD, List.getElem?_append_right (by simp)]
 simp
theorem rowN_full (f : Nat → Int) (len : Nat) : rowN f len len = (List.range len).map f := by unfold rowN; simp
def stepA (r : S52 → Int × Int) (at_ : Int) (p : S52) : Int := wrap64 (upT at_ (r p).2 + (r p).1)
def psAt (r : S52 → Int × Int) (l : List S52) (j : Nat) : Int := upT ((l.take j).foldl (stepA r) 0) (r (l.getD j z52)).2
def placesT (n : Nat) (t : S52) : List Int :=
 if chosenB t.f0 = true then (List.range t.f2.length).map (fun _ => upT 1 (roomT (n + 1) t).2) else (List.range t.f2.length).map (psAt (roomT n) t.f2)

set_option maxHeartbeats 8000000 in
set_option maxRecDepth 100000 in
theorem places_any (n : Nat) (t : S52) (b o : Nat) (w : World) (h : TreeAt w (n + 1) b o t) :
  Calls Try.prog 58 #[.pointer (some ⟨b, o, none⟩)] w fun e w' => ∃ v0 : Value, e = .returned v0 ∧ Kd.R (Kd.int .i64) 3 w' w.heap.size (fun _ => True) v0 (placesT n t) ∧ Below w.heap.size w w' := by
 have HTT := Aside0.mk h
 obtain ⟨h0, h1, hl, A, c, h2, hc, hk⟩ := h
 by_cases hch : chosenB t.f0 = true
 ·
  have E : placesT n t = (List.range t.f2.length).map (fun _ => upT 1 (roomT (n + 1) t).2) := by rw [placesT, if_pos hch]
  rw [E, ← rowN_full]; clear E
  have HC := Aside0.mk hch
  clear hch
  go_enter Try.func58, Try.ntmps58
  go_wp2_with (first | ((with_reducible refine gate_dst (N := 16) rfl ?_); refine Kd.R_make (Kd.int .i64) w.heap.size 3 rfl (N := 16) rfl 38 _ _ rfl (t.f2.length : Int) rfl rfl Try.underlying38 (.int .i64 0) 8 info3 rfl (by decide) (by omega) 0 (ok := fun _ => True) (okp := fun _ => True) rfl (fun _ hk => hk) trivial (by omega) (by omega) (Below.refl _ _) (Nat.le_refl _) ?_; intro v1 w1 ho hb hg_ hnew_; clear hg_ hnew_; rw [Int.toNat_natCast] at ho; have HO := Aside0.mk ho; have HB := Aside0.mk hb; clear ho hb; have g2 := (HB.out.cell (World.block_lt_of_cell? w _ h2)).trans h2))
  go_loopg [22] t.f2.length (fun kq v22 w' => ∃ j : Nat, j + kq = t.f2.length ∧ v22 = .int .i64 j ∧ Aside0 (Kd.R (Kd.int .i64) 3 w' w.heap.size (fun _ => True) v1 (rowN (fun _ => upT 1 (roomT (n + 1) t).2) t.f2.length j)) ∧ Aside0 (Below w.heap.size w w'))
  case atStart => exact ⟨0, by omega, rfl, ⟨HO.out⟩, ⟨HB.out⟩⟩
  case round =>
   clear g2 HO HB
   obtain ⟨j, hj, rfl, HO, HB⟩ := hrel
   by_cases hlt : j < t.f2.length
   ·
    obtain ⟨ad, pb, po, hA, hp, hT⟩ := hk j t.f2[j] (List.getElem?_eq_getElem hlt)
    subst hA
    have gp := (HB.out.cell (World.block_lt_of_cell? w _ hp)).trans hp
    have HT := Aside0.mk (treeAt_below HB.out hT)
    have HT2 := Aside0.mk (treeAt_below HB.out HTT.out)
    have G0 := Aside0.mk ((HB.out.cell (World.block_lt_of_cell? w _ h0)).trans h0)
    clear hp hT hk h0 h1 h2 HTT
    have HNL := rowN_len (fun _ => upT 1 (roomT (n + 1) t).2) t.f2.length j (by omega)
    obtain ⟨g, cap, e1, gb, gl, cl, HG⟩ := Kd.R_form HO.out (by omega)
    rw [HNL] at e1
    subst e1
    have GB := Aside0.mk gb
    clear gb gl HG cl
    obtain ⟨hy, hf⟩ := Kd.R_celln 0 HO.out (j : Int) (by omega) (by omega)
    have HP := Aside0.mk (Kd.R_putg HO.out (j : Int) (upT 1 (roomT (n + 1) t).2))
    rw [Int.toNat_natCast] at hy hf HP
    rw [rowN_set (fun _ => upT 1 (roomT (n + 1) t).2) t.f2.length j hlt] at HP
    generalize rdOf 0 (rowN (fun _ => upT 1 (roomT (n + 1) t).2) t.f2.length j) (j : Int) = x at hy
    have hpos := room_pos (n + 1) t
    clear HNL
    go_wp2_with (first
     | (go_at_call_of 47 (Value.pointer (some ⟨pb, po, none⟩)); refine (room_any n t.f2[j] pb po _ HT.out).mono ?_; rintro e w' ⟨rfl, rfl⟩)
     | (go_at_call 57; refine (chosen_any t.f0 b o _ true HC.out G0.out).mono ?_; rintro e w' ⟨rfl, rfl⟩)
     | (go_at_call 47; refine (room_any (n + 1) t b o _ HT2.out).mono ?_; rintro e w' ⟨rfl, rfl⟩)
     | (go_at_call 70; refine (upTo_any _ _ _ (by omega)).mono ?_; rintro e w' ⟨rfl, rfl⟩)
     | ((with_reducible refine gate_store (t := 3) (p := 43) rfl ?_); refine store_event (t := 3) (p := 43) (v := ?vo) (w1 := (wr.setCell ⟨g, j, none⟩ (.int .i64 (upT 1 (roomT (n + 1) t).2)))) ?hg ?ho ?hn ?hr ?_; (case ho => rfl); (case hg => rfl); (case hn => rfl); (case hr => first | (go_simp; done) | (go_simp; rfl)); intro w2 hw; have n0_ := Aside0.mk (show Kd.R (Kd.int .i64) 3 w2 w.heap.size _ _ _ from by rw [hw]; exact HP.out.1); have n3_ := Aside0.mk (show Below w.heap.size w w2 from by rw [hw]; exact below_set HB.out GB.out); clear HO HB HP hw; have HO := n0_; have HB := n3_; clear n0_ n3_))
    go_roundg (t.f2.length - (j + 1))
    case measure => omega
    case rel => exact ⟨j + 1, by omega, by go_num, ⟨HO.out⟩, ⟨HB.out⟩⟩
   ·
    obtain rfl : j = t.f2.length := by omega
    clear hk h0 h1 h2 HTT
    go_wp2
    go_ret
    exact ⟨_, rfl, HO.out, HB.out⟩
 ·
  have E : placesT n t = (List.range t.f2.length).map (psAt (roomT n) t.f2) := by rw [placesT, if_neg hch]
  rw [E, ← rowN_full]; clear E
  have HC := Aside0.mk (show chosenB t.f0 = false by simpa using hch)
  clear hch
  go_enter Try.func58, Try.ntmps58
  go_wp2_with (first | ((with_reducible refine gate_dst (N := 16) rfl ?_); refine Kd.R_make (Kd.int .i64) w.heap.size 3 rfl (N := 16) rfl 38 _ _ rfl (t.f2.length : Int) rfl rfl Try.underlying38 (.int .i64 0) 8 info3 rfl (by decide) (by omega) 0 (ok := fun _ => True) (okp := fun _ => True) rfl (fun _ hk => hk) trivial (by omega) (by omega) (Below.refl _ _) (Nat.le_refl _) ?_; intro v1 w1 ho hb hg_ hnew_; clear hg_ hnew_; rw [Int.toNat_natCast] at ho; have HO := Aside0.mk ho; have HB := Aside0.mk hb; clear ho hb; have g2 := (HB.out.cell (World.block_lt_of_cell? w _ h2)).trans h2))
  go_loopg [4, 22] t.f2.length (fun kq v4 v22 w' => ∃ j : Nat, j + kq = t.f2.length ∧ v22 = .int .i64 j ∧ v4 = .int .i64 ((t.f2.take j).foldl (stepA (roomT n)) 0) ∧ Aside0 (Kd.R (Kd.int .i64) 3 w' w.heap.size (fun _ => True) v1 (rowN (psAt (roomT n) t.f2) t.f2.length j)) ∧ Aside0 (Below w.heap.size w w'))
  case atStart => exact ⟨0, by omega, rfl, rfl, ⟨HO.out⟩, ⟨HB.out⟩⟩
  case round =>
   clear g2 HO HB
   obtain ⟨j, hj, rfl, rfl, HO, HB⟩ := hrel
   by_cases hlt : j < t.f2.length
   ·
    obtain ⟨ad, pb, po, hA, hp, hT⟩ := hk j t.f2[j] (List.getElem?_eq_getElem hlt)
    subst hA
    have gp := (HB.out.cell (World.block_lt_of_cell? w _ hp)).trans hp
    have HT := Aside0.mk (treeAt_below HB.out hT)
    have G0 := Aside0.mk ((HB.out.cell (World.block_lt_of_cell? w _ h0)).trans h0)
    clear hp hT hk h0 h1 h2 HTT
    have HNL := rowN_len (psAt (roomT n) t.f2) t.f2.length j (by omega)
    obtain ⟨g, cap, e1, gb, gl, cl, HG⟩ := Kd.R_form HO.out (by omega)
    rw [HNL] at e1
    subst e1
    have GB := Aside0.mk gb
    clear gb gl HG cl
    obtain ⟨hy, hf⟩ := Kd.R_celln 0 HO.out (j : Int) (by omega) (by omega)
    have HP := Aside0.mk (Kd.R_putg HO.out (j : Int) (psAt (roomT n) t.f2 j))
    rw [Int.toNat_natCast] at hy hf HP
    rw [rowN_set (psAt (roomT n) t.f2) t.f2.length j hlt] at HP
    generalize rdOf 0 (rowN (psAt (roomT n) t.f2) t.f2.length j) (j : Int) = x at hy
    have HPS := Aside0.mk (show psAt (roomT n) t.f2 j = upT ((t.f2.take j).foldl (stepA (roomT n)) 0) (roomT n t.f2[j]).2 by rw [psAt, List.getD_eq_getElem?_getD, List.getElem?_eq_getElem hlt]; rfl)
    have HF := Aside0.mk (fold_take (stepA (roomT n)) 0 t.f2 j hlt)
    have hpos := room_pos n t.f2[j]
    rw [HPS.out] at HP
    generalize (t.f2.take j).foldl (stepA (roomT n)) 0 = at_ at HF HP
    clear HNL HPS
    go_wp2_with (first
     | (go_at_call 47; refine (room_any n t.f2[j] pb po _ HT.out).mono ?_; rintro e w' ⟨rfl, rfl⟩)
     | (go_at_call 57; refine (chosen_any t.f0 b o _ false HC.out G0.out).mono ?_; rintro e w' ⟨rfl, rfl⟩)
     | (go_at_call 70; refine (upTo_any _ _ _ (by omega)).mono ?_; rintro e w' ⟨rfl, rfl⟩))
    go_roundg (t.f2.length - (j + 1))
    case measure => omega
    case rel => exact ⟨j + 1, by omega, by go_num, by rw [HF.out]; rfl, ⟨HP.out.1⟩, ⟨below_set HB.out GB.out⟩⟩
   ·
    obtain rfl : j = t.f2.length := by omega
    clear hk h0 h1 h2 HTT
    go_wp2
    go_ret
    exact ⟨_, rfl, HO.out, HB.out⟩


end Go.Proofs.Ytlgegdgilkaldaa.Q

namespace Go.Proofs.Ytlgegdgilkaldaa.Q
open Go.RowKit Go.Proofs.YtlgegdgilkaldaaW.PrintWords Go.Proofs.YtlgegdgilkaldaaW.PrintLast Go.Proofs.YtlgegdgilkaldaaW.PrintMore
attribute [local go_sem] max2_int min2_int max_two min_two max_three min_three max_four min_four   -- for this text's walks alone
set_option linter.unusedVariables false
set_option linter.unusedSimpArgs false


/-! ### impl_OffsetsOf: function 34 (walked by hand) -/
def impl_OffsetsOf.f (k : Nat) (l0 : List S46) : Option (List Int × Bool) := (shapeF k l0).bind fun r => match r with | none => some ([], false) | some t => if t.f0 = 14 ∨ chosenB t.f0 = true then some (placesT 8 t, true) else some ([], false)
theorem impl_OffsetsOf.mono : ∀ a0 k, LeO (impl_OffsetsOf.f k a0) (impl_OffsetsOf.f (k + 1) a0) := fun l k => LeO.bind (shapeF.mono l k) (fun _ => LeO.refl _)
set_option maxHeartbeats 4000000 in
set_option maxRecDepth 100000 in
theorem impl_OffsetsOf.calls (k : Nat) (A0 : Option Addr) (c0 : Nat) (l0 : List (S46)) (r1 : List Int) (r2 : Bool) (w : World) (hr0 : Kd.C k46 w A0 l0.length l0) (hc0 : l0.length ≤ c0) (h : impl_OffsetsOf.f k l0 = some (r1, r2)) :
  Calls Try.prog 34 #[.slice A0 l0.length c0] w fun e w' => ∃ v0_ : Value, e = .returned (.tuple #[v0_, .bool r2]) ∧ Kd.R (Kd.int .i64) 3 w' w.heap.size (fun _ => True) v0_ r1 ∧ Below w.heap.size w w' := by
 obtain ⟨r, hs, h⟩ := Option.bind_eq_some_iff.1 h
 cases r with
 | none =>
  obtain ⟨rfl, rfl⟩ := Prod.mk.inj (Option.some.inj h)
  clear h
  go_enter Try.func34, Try.ntmps34
  go_wp2_with (first | (go_at_call 41; refine (shape_no k A0 c0 l0 _ hr0 hc0 hs).mono ?_; rintro e w' ⟨rfl, hb⟩; have HB := Aside0.mk hb; clear hb))
  go_ret2
  exact ⟨_, rfl, Kd.R_nil _ _ _ _ _, HB.out⟩
 | some t =>
  by_cases hr : t.f0 = 14
  ·
   have h' : some (placesT 8 t, true) = some (r1, r2) := by rw [← h]; exact (if_pos (.inl hr)).symm
   obtain ⟨rfl, rfl⟩ := Prod.mk.inj (Option.some.inj h')
   clear h h'
   have k1 : (t.f0 != 14) = false := bne_eq_false_iff_eq.mpr hr
   have HC := Aside0.mk (show chosenB t.f0 = false by rw [hr]; rfl)
   clear hr
   go_enter Try.func34, Try.ntmps34
   go_wp2_with (first | (go_at_call 41; refine (shape_yes k A0 c0 l0 t _ hr0 hc0 hs).mono ?_; rintro e w' ⟨g, rfl, ht, hb⟩; have HT := Aside0.mk ht; have g0 := ht.1; have HB := Aside0.mk hb; clear ht hb) | (go_at_call 57; refine (chosen_any t.f0 g 0 _ false HC.out HT.out.1).mono ?_; rintro e w' ⟨rfl, rfl⟩) | (go_at_call 58; refine (places_any 8 t g 0 _ HT.out).mono ?_; rintro e w' ⟨v0, rfl, ho, hb⟩; have n0_ := Aside0.mk (HB.out.trans (hb.mono HB.out.size)); have n1_ := Aside0.mk (Kd.R_lower ho HB.out.size); clear HB HT hb ho; have HB := n0_; have HO := n1_; clear n0_ n1_))
   go_ret2
   exact ⟨_, rfl, HO.out, HB.out⟩
  ·
   have k1 : (t.f0 != 14) = true := bne_iff_ne.mpr hr
   by_cases hch : chosenB t.f0 = true
   ·
    have h' : some (placesT 8 t, true) = some (r1, r2) := by rw [← h]; exact (if_pos (.inr hch)).symm
    obtain ⟨rfl, rfl⟩ := Prod.mk.inj (Option.some.inj h')
    clear h h' hr
    have HC := Aside0.mk hch
    clear hch
    go_enter Try.func34, Try.ntmps34
    go_wp2_with (first | (go_at_call 41; refine (shape_yes k A0 c0 l0 t _ hr0 hc0 hs).mono ?_; rintro e w' ⟨g, rfl, ht, hb⟩; have HT := Aside0.mk ht; have g0 := ht.1; have HB := Aside0.mk hb; clear ht hb) | (go_at_call 57; refine (chosen_any t.f0 g 0 _ true HC.out HT.out.1).mono ?_; rintro e w' ⟨rfl, rfl⟩) | (go_at_call 58; refine (places_any 8 t g 0 _ HT.out).mono ?_; rintro e w' ⟨v0, rfl, ho, hb⟩; have n0_ := Aside0.mk (HB.out.trans (hb.mono HB.out.size)); have n1_ := Aside0.mk (Kd.R_lower ho HB.out.size); clear HB HT hb ho; have HB := n0_; have HO := n1_; clear n0_ n1_))
    go_ret2
    exact ⟨_, rfl, HO.out, HB.out⟩
   ·
    have h' : some (([] : List Int), false) = some (r1, r2) := by rw [← h]; exact (if_neg (fun h => h.elim hr hch)).symm
    obtain ⟨rfl, rfl⟩ := Prod.mk.inj (Option.some.inj h')
    clear h h' hr
    have HC := Aside0.mk (show chosenB t.f0 = false by simpa using hch)
    clear hch
    go_enter Try.func34, Try.ntmps34
    go_wp2_with (first | (go_at_call 41; refine (shape_yes k A0 c0 l0 t _ hr0 hc0 hs).mono ?_; rintro e w' ⟨g, rfl, ht, hb⟩; have HT := Aside0.mk ht; have g0 := ht.1; have HB := Aside0.mk hb; clear ht hb) | (go_at_call 57; refine (chosen_any t.f0 g 0 _ false HC.out HT.out.1).mono ?_; rintro e w' ⟨rfl, rfl⟩) | (go_at_call 58; refine (places_any 8 t g 0 _ HT.out).mono ?_; rintro e w' ⟨v0, rfl, ho, hb⟩; have n0_ := Aside0.mk (HB.out.trans (hb.mono HB.out.size)); have n1_ := Aside0.mk (Kd.R_lower ho HB.out.size); clear HB HT hb ho; have HB := n0_; have HO := n1_; clear n0_ n1_))
    go_ret2
    exact ⟨_, rfl, Kd.R_nil _ _ _ _ _, HB.out⟩


end Go.Proofs.Ytlgegdgilkaldaa.Q

namespace Go.Proofs.Ytlgegdgilkaldaa.Q
open Go.RowKit Go.Proofs.YtlgegdgilkaldaaW.PrintWords Go.Proofs.YtlgegdgilkaldaaW.PrintLast Go.Proofs.YtlgegdgilkaldaaW.PrintMore
attribute [local go_sem] max2_int min2_int max_two min_two max_three min_three max_four min_four   -- for this text's walks alone
set_option linter.unusedVariables false
set_option linter.unusedSimpArgs false

/-! ### laws_FnExactOffsetsOf: function 9 -/
mutual
def laws_FnExactOffsetsOf.j0 : Nat → List (S55) → List Int → Bool → List (S46) → List Int → Bool → Bool → Option (Bool)
 | 0, _, _, _, _, _, _, _ => none
 | k + 1, x0, x4, x5, x6, x7, x8, x40 => if x40 = true then (some false) else ((laws_toTypeNodeS.f k x0).bind fun t495 => ((laws_eqTypeNodeS.f k x6 t495).bind fun t498 => (if t498 = true then ((laws_markTypeNodeS.f k x6 1).bind fun bt499 => (if bt499.1 < 0 then (laws_FnExactOffsetsOf.j1 k x0 x4 x5 x7 true) else ((laws_eqIntS.f k x7 x4).bind fun t501 => (if t501 = true then (laws_FnExactOffsetsOf.j1 k x0 x4 x5 x7 (x8 != x5)) else (laws_FnExactOffsetsOf.j1 k x0 x4 x5 x7 true))))) else (some false))))
def laws_FnExactOffsetsOf.j1 : Nat → List (S55) → List Int → Bool → List Int → Bool → Option (Bool)
 | 0, _, _, _, _, _ => none
 | k + 1, x0, x4, x5, x7, x61 => if x61 = true then (some false) else ((laws_markIntS.f k x7 1).bind fun bt502 => ((laws_heldIntS.f k bt502.2 1).bind fun t504 => (if t504 < 0 then (some false) else (if t504 = bt502.1 then ((laws_toTypeNodeS.f k x0).bind fun t505 => ((impl_OffsetsOf.f k t505).bind fun bt508 => ((laws_eqIntS.f k bt508.1 x4).bind fun t512 => (if t512 = true then (laws_FnExactOffsetsOf.j2 k bt502.2 bt502.1 (bt508.2 != x5)) else (laws_FnExactOffsetsOf.j2 k bt502.2 bt502.1 true))))) else (some false)))))
def laws_FnExactOffsetsOf.j2 : Nat → List Int → Int → Bool → Option (Bool)
 | 0, _, _, _ => none
 | k + 1, x7, x10, x87 => if x87 = true then (some false) else ((laws_heldIntS.f k x7 1).bind fun t513 => (if t513 < 0 then (some false) else (if t513 = x10 then (some true) else (some false))))
end
def laws_FnExactOffsetsOf.f (k : Nat) (l0 : List (S55)) : Option (Bool) := (laws_szTypeNodeS.f l0 1048576).bind fun t479 => (if t479 < 0 then (some true) else ((laws_toTypeNodeS.f k l0).bind fun t480 => ((spec_OffsetsOf.f k t480).bind fun bt483 => ((laws_toTypeNodeS.f k l0).bind fun t487 => ((impl_OffsetsOf.f k t487).bind fun bt490 => ((laws_eqIntS.f k bt490.1 bt483.1).bind fun t494 => (if t494 = true then (laws_FnExactOffsetsOf.j0 k l0 bt483.1 bt483.2 t487 bt490.1 bt490.2 (bt490.2 != bt483.2)) else (laws_FnExactOffsetsOf.j0 k l0 bt483.1 bt483.2 t487 bt490.1 bt490.2 true))))))))
theorem laws_FnExactOffsetsOf.mono_l : ∀ k, (∀ y0 y1 y2 y3 y4 y5 y6, LeO (laws_FnExactOffsetsOf.j0 k y0 y1 y2 y3 y4 y5 y6) (laws_FnExactOffsetsOf.j0 (k + 1) y0 y1 y2 y3 y4 y5 y6)) ∧ (∀ y0 y1 y2 y3 y4, LeO (laws_FnExactOffsetsOf.j1 k y0 y1 y2 y3 y4) (laws_FnExactOffsetsOf.j1 (k + 1) y0 y1 y2 y3 y4)) ∧ (∀ y0 y1 y2, LeO (laws_FnExactOffsetsOf.j2 k y0 y1 y2) (laws_FnExactOffsetsOf.j2 (k + 1) y0 y1 y2))
 | 0 => ⟨fun _ _ _ _ _ _ _ r h => by simp [laws_FnExactOffsetsOf.j0] at h, fun _ _ _ _ _ r h => by simp [laws_FnExactOffsetsOf.j1] at h, fun _ _ _ r h => by simp [laws_FnExactOffsetsOf.j2] at h⟩
 | k + 1 => by
  obtain ⟨ih0, ih1, ih2⟩ := laws_FnExactOffsetsOf.mono_l k
  refine ⟨?_, ?_, ?_⟩
  ·
   intro y0 y1 y2 y3 y4 y5 y6
   unfold laws_FnExactOffsetsOf.j0
   repeat' first
   | (with_reducible exact ih0 _ _ _ _ _ _ _)
   | (with_reducible exact ih1 _ _ _ _ _)
   | (with_reducible exact ih2 _ _ _)
   | (with_reducible exact impl_OffsetsOf.mono _ _)
   | (with_reducible exact laws_eqIntS.mono _ _ _)
   | (with_reducible exact laws_eqTypeNodeS.mono _ _ _)
   | (with_reducible exact laws_heldIntS.mono _ _ _)
   | (with_reducible exact laws_markIntS.mono _ _ _)
   | (with_reducible exact laws_markTypeNodeS.mono _ _ _)
   | (with_reducible exact laws_toTypeNodeS.mono _ _)
   | (with_reducible exact spec_OffsetsOf.mono _ _)
   | (with_reducible exact LeO.refl _)
   | (with_reducible exact LeO.none _)
   | (with_reducible refine LeO.ite ?_ ?_)
   | (with_reducible refine LeO.bind ?_ (fun _ => ?_))
   | exact ih0 _ _ _ _ _ _ _
   | exact ih1 _ _ _ _ _
   | exact ih2 _ _ _
   | exact impl_OffsetsOf.mono _ _
   | exact laws_eqIntS.mono _ _ _
   | exact laws_eqTypeNodeS.mono _ _ _
   | exact laws_heldIntS.mono _ _ _
   | exact laws_markIntS.mono _ _ _
   | exact laws_markTypeNodeS.mono _ _ _
   | exact laws_toTypeNodeS.mono _ _
   | exact spec_OffsetsOf.mono _ _
   | exact LeO.none _
   | refine LeO.ite ?_ ?_
   | refine LeO.bind ?_ (fun _ => ?_)
  ·
   intro y0 y1 y2 y3 y4
   unfold laws_FnExactOffsetsOf.j1
   repeat' first
   | (with_reducible exact ih0 _ _ _ _ _ _ _)
   | (with_reducible exact ih1 _ _ _ _ _)
   | (with_reducible exact ih2 _ _ _)
   | (with_reducible exact impl_OffsetsOf.mono _ _)
   | (with_reducible exact laws_eqIntS.mono _ _ _)
   | (with_reducible exact laws_eqTypeNodeS.mono _ _ _)
   | (with_reducible exact laws_heldIntS.mono _ _ _)
   | (with_reducible exact laws_markIntS.mono _ _ _)
   | (with_reducible exact laws_markTypeNodeS.mono _ _ _)
   | (with_reducible exact laws_toTypeNodeS.mono _ _)
   | (with_reducible exact spec_OffsetsOf.mono _ _)
   | (with_reducible exact LeO.refl _)
   | (with_reducible exact LeO.none _)
   | (with_reducible refine LeO.ite ?_ ?_)
   | (with_reducible refine LeO.bind ?_ (fun _ => ?_))
   | exact ih0 _ _ _ _ _ _ _
   | exact ih1 _ _ _ _ _
   | exact ih2 _ _ _
   | exact impl_OffsetsOf.mono _ _
   | exact laws_eqIntS.mono _ _ _
   | exact laws_eqTypeNodeS.mono _ _ _
   | exact laws_heldIntS.mono _ _ _
   | exact laws_markIntS.mono _ _ _
   | exact laws_markTypeNodeS.mono _ _ _
   | exact laws_toTypeNodeS.mono _ _
   | exact spec_OffsetsOf.mono _ _
   | exact LeO.none _
   | refine LeO.ite ?_ ?_
   | refine LeO.bind ?_ (fun _ => ?_)
  ·
   intro y0 y1 y2
   unfold laws_FnExactOffsetsOf.j2
   repeat' first
   | (with_reducible exact ih0 _ _ _ _ _ _ _)
   | (with_reducible exact ih1 _ _ _ _ _)
   | (with_reducible exact ih2 _ _ _)
   | (with_reducible exact impl_OffsetsOf.mono _ _)
   | (with_reducible exact laws_eqIntS.mono _ _ _)
   | (with_reducible exact laws_eqTypeNodeS.mono _ _ _)
   | (with_reducible exact laws_heldIntS.mono _ _ _)
   | (with_reducible exact laws_markIntS.mono _ _ _)
   | (with_reducible exact laws_markTypeNodeS.mono _ _ _)
   | (with_reducible exact laws_toTypeNodeS.mono _ _)
   | (with_reducible exact spec_OffsetsOf.mono _ _)
   | (with_reducible exact LeO.refl _)
   | (with_reducible exact LeO.none _)
   | (with_reducible refine LeO.ite ?_ ?_)
   | (with_reducible refine LeO.bind ?_ (fun _ => ?_))
   | exact ih0 _ _ _ _ _ _ _
   | exact ih1 _ _ _ _ _
   | exact ih2 _ _ _
   | exact impl_OffsetsOf.mono _ _
   | exact laws_eqIntS.mono _ _ _
   | exact laws_eqTypeNodeS.mono _ _ _
   | exact laws_heldIntS.mono _ _ _
   | exact laws_markIntS.mono _ _ _
   | exact laws_markTypeNodeS.mono _ _ _
   | exact laws_toTypeNodeS.mono _ _
   | exact spec_OffsetsOf.mono _ _
   | exact LeO.none _
   | refine LeO.ite ?_ ?_
   | refine LeO.bind ?_ (fun _ => ?_)
theorem laws_FnExactOffsetsOf.mono : ∀ a0 k, LeO (laws_FnExactOffsetsOf.f k a0) (laws_FnExactOffsetsOf.f (k + 1) a0) := by
 intro a0 k
 obtain ⟨ih0, ih1, ih2⟩ := laws_FnExactOffsetsOf.mono_l k
 unfold laws_FnExactOffsetsOf.f
 repeat' first
   | (with_reducible exact ih0 _ _ _ _ _ _ _)
   | (with_reducible exact ih1 _ _ _ _ _)
   | (with_reducible exact ih2 _ _ _)
   | (with_reducible exact impl_OffsetsOf.mono _ _)
   | (with_reducible exact laws_eqIntS.mono _ _ _)
   | (with_reducible exact laws_eqTypeNodeS.mono _ _ _)
   | (with_reducible exact laws_heldIntS.mono _ _ _)
   | (with_reducible exact laws_markIntS.mono _ _ _)
   | (with_reducible exact laws_markTypeNodeS.mono _ _ _)
   | (with_reducible exact laws_toTypeNodeS.mono _ _)
   | (with_reducible exact spec_OffsetsOf.mono _ _)
   | (with_reducible exact LeO.refl _)
   | (with_reducible exact LeO.none _)
   | (with_reducible refine LeO.ite ?_ ?_)
   | (with_reducible refine LeO.bind ?_ (fun _ => ?_))
   | exact ih0 _ _ _ _ _ _ _
   | exact ih1 _ _ _ _ _
   | exact ih2 _ _ _
   | exact impl_OffsetsOf.mono _ _
   | exact laws_eqIntS.mono _ _ _
   | exact laws_eqTypeNodeS.mono _ _ _
   | exact laws_heldIntS.mono _ _ _
   | exact laws_markIntS.mono _ _ _
   | exact laws_markTypeNodeS.mono _ _ _
   | exact laws_toTypeNodeS.mono _ _
   | exact spec_OffsetsOf.mono _ _
   | exact LeO.none _
   | refine LeO.ite ?_ ?_
   | refine LeO.bind ?_ (fun _ => ?_)
set_option maxHeartbeats 8000000 in
set_option maxRecDepth 100000 in
theorem laws_FnExactOffsetsOf.calls (k : Nat) (A0 : Option Addr) (c0 : Nat) (l0 : List (S55)) (r : Bool) (w : World) (hr0 : Kd.C k55 w A0 l0.length l0) (hc0 : l0.length ≤ c0) (hTrue : r = true) (h : laws_FnExactOffsetsOf.f k l0 = some r) :
  Calls Try.prog 9 #[.slice A0 l0.length c0] w fun e w' => e = .returned (.bool r) ∧ Below w.heap.size w w' := by
 have HR0 := Aside0.mk hr0
 have HC0 := Aside0.mk hc0
 clear hr0 hc0
 have HB := Aside0.mk (Below.refl w.heap.size w)
 have H : ((laws_szTypeNodeS.f l0 1048576).bind fun t479 => (if t479 < 0 then (some true) else ((laws_toTypeNodeS.f k l0).bind fun t480 => ((spec_OffsetsOf.f k t480).bind fun bt483 => ((laws_toTypeNodeS.f k l0).bind fun t487 => ((impl_OffsetsOf.f k t487).bind fun bt490 => ((laws_eqIntS.f k bt490.1 bt483.1).bind fun t494 => (if t494 = true then (laws_FnExactOffsetsOf.j0 k l0 bt483.1 bt483.2 t487 bt490.1 bt490.2 (bt490.2 != bt483.2)) else (laws_FnExactOffsetsOf.j0 k l0 bt483.1 bt483.2 t487 bt490.1 bt490.2 true))))))))) = some r := h
 clear h
 have HT := Aside0.mk hTrue
 clear hTrue
 replace H := Option.bind_eq_some_iff.mp H
 obtain ⟨t479, A20, H⟩ := H
 replace H : (if t479 < 0 then (some true) else ((laws_toTypeNodeS.f k l0).bind fun t480 => ((spec_OffsetsOf.f k t480).bind fun bt483 => ((laws_toTypeNodeS.f k l0).bind fun t487 => ((impl_OffsetsOf.f k t487).bind fun bt490 => ((laws_eqIntS.f k bt490.1 bt483.1).bind fun t494 => (if t494 = true then (laws_FnExactOffsetsOf.j0 k l0 bt483.1 bt483.2 t487 bt490.1 bt490.2 (bt490.2 != bt483.2)) else (laws_FnExactOffsetsOf.j0 k l0 bt483.1 bt483.2 t487 bt490.1 bt490.2 true)))))))) = some r := H
 have A2 := Aside0.mk A20
 clear A20
 by_cases c3 : t479 < 0
 ·
  rw [if_pos c3] at H
  have c3b0 : decide (t479 < 0) = true := decide_eq_true c3
  clear c3
  obtain rfl := Option.some.inj H
  simp only [Option.some.injEq, Prod.mk.injEq] at H
  obtain ⟨rfl⟩ := H
  go_enter Try.func9, Try.ntmps9
  go_wp2_with (first | ((with_reducible refine gate_callee (f := 11) rfl ?_); refine goesL_ (some 16) rfl rfl Try.func11 (by kernel_rfl) rfl #[.slice A0 l0.length c0, .int .i64 1048576] rfl ar ?_; (with_reducible refine (laws_szTypeNodeS.calls _ _ l0 1048576 t479 _ ?side1 ?side2 A2.out).mono ?_); (case side1 => repeat (first | exact HR0.out | (with_reducible refine Kd.C_alloc ?_ _) | (with_reducible refine Kd.C_drewN ?_ _) | (with_reducible refine Kd.C_drew ?_))); (case side2 => exact HC0.out); rintro e w' ⟨rfl, ⟨nd, rfl⟩⟩; refine ⟨_, rfl, ?_⟩))
  go_ret
  exact ⟨by first | rfl | (simp [errW_none, errW_some] <;> rfl) | (simp [*, errW_none, errW_some] <;> rfl), bw HB.out⟩
 ·
  rw [if_neg c3] at H
  have c3b0 : decide (t479 < 0) = false := decide_eq_false c3
  clear c3
  replace H := Option.bind_eq_some_iff.mp H
  obtain ⟨t480, A40, H⟩ := H
  replace H : ((spec_OffsetsOf.f k t480).bind fun bt483 => ((laws_toTypeNodeS.f k l0).bind fun t487 => ((impl_OffsetsOf.f k t487).bind fun bt490 => ((laws_eqIntS.f k bt490.1 bt483.1).bind fun t494 => (if t494 = true then (laws_FnExactOffsetsOf.j0 k l0 bt483.1 bt483.2 t487 bt490.1 bt490.2 (bt490.2 != bt483.2)) else (laws_FnExactOffsetsOf.j0 k l0 bt483.1 bt483.2 t487 bt490.1 bt490.2 true)))))) = some r := H
  have A4 := Aside0.mk A40
  clear A40
  replace H := Option.bind_eq_some_iff.mp H
  obtain ⟨⟨t483, t484⟩, A50, H⟩ := H
  replace H : ((laws_toTypeNodeS.f k l0).bind fun t487 => ((impl_OffsetsOf.f k t487).bind fun bt490 => ((laws_eqIntS.f k bt490.1 t483).bind fun t494 => (if t494 = true then (laws_FnExactOffsetsOf.j0 k l0 t483 t484 t487 bt490.1 bt490.2 (bt490.2 != t484)) else (laws_FnExactOffsetsOf.j0 k l0 t483 t484 t487 bt490.1 bt490.2 true))))) = some r := H
  have A5 := Aside0.mk A50
  clear A50
  replace H := Option.bind_eq_some_iff.mp H
  obtain ⟨t487, A60, H⟩ := H
  replace H : ((impl_OffsetsOf.f k t487).bind fun bt490 => ((laws_eqIntS.f k bt490.1 t483).bind fun t494 => (if t494 = true then (laws_FnExactOffsetsOf.j0 k l0 t483 t484 t487 bt490.1 bt490.2 (bt490.2 != t484)) else (laws_FnExactOffsetsOf.j0 k l0 t483 t484 t487 bt490.1 bt490.2 true)))) = some r := H
  have A6 := Aside0.mk A60
  clear A60
  replace H := Option.bind_eq_some_iff.mp H
  obtain ⟨⟨t490, t491⟩, A70, H⟩ := H
  replace H : ((laws_eqIntS.f k t490 t483).bind fun t494 => (if t494 = true then (laws_FnExactOffsetsOf.j0 k l0 t483 t484 t487 t490 t491 (t491 != t484)) else (laws_FnExactOffsetsOf.j0 k l0 t483 t484 t487 t490 t491 true))) = some r := H
  have A7 := Aside0.mk A70
  clear A70
  have HC8 := Aside0.mk H
  clear H
  go_enter Try.func9, Try.ntmps9
  go_upto_region 8 with (first | ((with_reducible refine gate_callee (f := 11) rfl ?_); refine goesL_ (some 16) rfl rfl Try.func11 (by kernel_rfl) rfl #[.slice A0 l0.length c0, .int .i64 1048576] rfl ar ?_; (with_reducible refine (laws_szTypeNodeS.calls _ _ l0 1048576 t479 _ ?side1 ?side2 A2.out).mono ?_); (case side1 => repeat (first | exact HR0.out | (with_reducible refine Kd.C_alloc ?_ _) | (with_reducible refine Kd.C_drewN ?_ _) | (with_reducible refine Kd.C_drew ?_))); (case side2 => exact HC0.out); rintro e w' ⟨rfl, ⟨nd, rfl⟩⟩; refine ⟨_, rfl, ?_⟩) | ((with_reducible refine gate_callee (f := 13) rfl ?_); refine goesL_ (some 21) rfl rfl Try.func13 (by kernel_rfl) rfl #[.slice A0 l0.length c0] rfl ar ?_; (with_reducible refine (laws_toTypeNodeS.calls k _ _ l0 t480 _ ?side1 ?side2 A4.out).mono ?_); (case side1 => repeat (first | exact HR0.out | (with_reducible refine Kd.C_alloc ?_ _) | (with_reducible refine Kd.C_drewN ?_ _) | (with_reducible refine Kd.C_drew ?_))); (case side2 => exact HC0.out); rintro e w9 ⟨v481, rfl, ho0, hb⟩; refine ⟨_, rfl, ?_⟩; have n0_ := Aside0.mk (Kd.R_lower ho0 (below_size (bw HB.out))); have n1_ := Aside0.mk (below_step (bw HB.out) hb); clear HB; have HO482 := n0_; have HB := n1_; clear n0_ n1_; (try clear hb); (try clear hb2); (try clear hk); (try clear hi); (try clear ho0); obtain ⟨Ao10, co10, eo10⟩ := Kd.R_slice HO482.out; subst eo10) | ((with_reducible refine gate_callee (f := 33) rfl ?_); refine goesL_ (some 22) rfl rfl Try.func33 (by kernel_rfl) rfl #[.slice Ao10 t480.length co10] rfl ar ?_; (with_reducible refine (spec_OffsetsOf.calls k _ _ t480 t483 t484 _ ?side1 ?side2 A5.out).mono ?_); (case side1 => repeat (first | exact (Kd.R_reads' HO482.out).2.2 | (with_reducible refine Kd.C_alloc ?_ _) | (with_reducible refine Kd.C_drewN ?_ _) | (with_reducible refine Kd.C_drew ?_))); (case side2 => exact (Kd.R_reads' HO482.out).2.1); rintro e w11 ⟨v485, rfl, ho0, hb⟩; refine ⟨_, rfl, ?_⟩; have n0_ := Aside0.mk (Kd.R_below (by (with_reducible repeat (first | apply Kd.R_alloc | apply Kd.R_drewN | apply Kd.R_drew)); exact HO482.out) hb); have n1_ := Aside0.mk (Kd.R_lower ho0 (below_size (bw HB.out))); have n2_ := Aside0.mk (below_step (bw HB.out) hb); clear HO482; clear HB; have HO482 := n0_; have HO486 := n1_; have HB := n2_; clear n0_ n1_ n2_; (try clear hb); (try clear hb2); (try clear hk); (try clear hi); (try clear ho0)) | ((with_reducible refine gate_callee (f := 13) rfl ?_); refine goesL_ (some 26) rfl rfl Try.func13 (by kernel_rfl) rfl #[.slice A0 l0.length c0] rfl ar ?_; (with_reducible refine (laws_toTypeNodeS.calls k _ _ l0 t487 _ ?side1 ?side2 A6.out).mono ?_); (case side1 => repeat (first | exact (Kd.C_below HR0.out HB.out) | (with_reducible refine Kd.C_alloc ?_ _) | (with_reducible refine Kd.C_drewN ?_ _) | (with_reducible refine Kd.C_drew ?_))); (case side2 => exact HC0.out); rintro e w12 ⟨v488, rfl, ho0, hb⟩; refine ⟨_, rfl, ?_⟩; have n0_ := Aside0.mk (Kd.R_elder' (by (with_reducible repeat (first | apply Kd.R_alloc | apply Kd.R_drewN | apply Kd.R_drew)); exact HO482.out) (Kd.R_base ho0) hb); have n1_ := Aside0.mk (Kd.R_below (by (with_reducible repeat (first | apply Kd.R_alloc | apply Kd.R_drewN | apply Kd.R_drew)); exact HO486.out) hb); have n2_ := Aside0.mk (Kd.R_lower (Kd.R_new' ho0 (Kd.R_lt (by (with_reducible repeat (first | apply Kd.R_alloc | apply Kd.R_drewN | apply Kd.R_drew)); exact HO482.out))) (below_size (bw HB.out))); have n3_ := Aside0.mk (below_step (bw HB.out) hb); clear HO482; clear HO486; clear HB; have HO482 := n0_; have HO486 := n1_; have HO489 := n2_; have HB := n3_; clear n0_ n1_ n2_ n3_; (try clear hb); (try clear hb2); (try clear hk); (try clear hi); (try clear ho0); obtain ⟨Ao13, co13, eo13⟩ := Kd.R_slice HO489.out; subst eo13) | ((with_reducible refine gate_callee (f := 34) rfl ?_); refine goesL_ (some 29) rfl rfl Try.func34 (by kernel_rfl) rfl #[.slice Ao13 t487.length co13] rfl ar ?_; (with_reducible refine (impl_OffsetsOf.calls k _ _ t487 t490 t491 _ ?side1 ?side2 A7.out).mono ?_); (case side1 => repeat (first | exact (Kd.R_reads' HO489.out).2.2 | (with_reducible refine Kd.C_alloc ?_ _) | (with_reducible refine Kd.C_drewN ?_ _) | (with_reducible refine Kd.C_drew ?_))); (case side2 => exact (Kd.R_reads' HO489.out).2.1); rintro e w14 ⟨v492, rfl, ho0, hb⟩; refine ⟨_, rfl, ?_⟩; have n0_ := Aside0.mk (Kd.R_below (by (with_reducible repeat (first | apply Kd.R_alloc | apply Kd.R_drewN | apply Kd.R_drew)); exact HO482.out) hb); have n1_ := Aside0.mk (Kd.R_elder' (by (with_reducible repeat (first | apply Kd.R_alloc | apply Kd.R_drewN | apply Kd.R_drew)); exact HO486.out) (Kd.R_base ho0) hb); have n2_ := Aside0.mk (Kd.R_below (by (with_reducible repeat (first | apply Kd.R_alloc | apply Kd.R_drewN | apply Kd.R_drew)); exact HO489.out) hb); have n3_ := Aside0.mk (Kd.R_lower (Kd.R_new' ho0 (Kd.R_lt (by (with_reducible repeat (first | apply Kd.R_alloc | apply Kd.R_drewN | apply Kd.R_drew)); exact HO486.out))) (below_size (bw HB.out))); have n4_ := Aside0.mk (below_step (bw HB.out) hb); clear HO482; clear HO486; clear HO489; clear HB; have HO482 := n0_; have HO486 := n1_; have HO489 := n2_; have HO493 := n3_; have HB := n4_; clear n0_ n1_ n2_ n3_ n4_; (try clear hb); (try clear hb2); (try clear hk); (try clear hi); (try clear ho0)))
  (try simp only [Act.put, List.setIfInBounds_toArray, List.set_cons_zero, List.set_cons_succ])
  go_cut [40] (fun v40 wc => ∃ (kq : Nat) (x40_7 : Bool), v40 = .bool x40_7 ∧ Aside0 (laws_FnExactOffsetsOf.j0 kq l0 t483 t484 t487 t490 t491 x40_7 = some r) ∧ Aside0 (kq ≤ k) ∧ Aside0 (Kd.R (Kd.int .i64) 3 wc w.heap.size (fun k_ => some k_ ≠ (v492 : Value).ownBlock) v485 t483) ∧ Aside0 (Kd.R k46 46 wc w.heap.size (fun _ => True) (.slice Ao13 t487.length co13) t487) ∧ Aside0 (Kd.R (Kd.int .i64) 3 wc w.heap.size (fun k_ => some k_ ≠ (v485 : Value).ownBlock) v492 t490) ∧ Aside0 (Below w.heap.size w wc))
  case first =>
   have H := HC8.out
   clear HC8
   replace H := Option.bind_eq_some_iff.mp H
   obtain ⟨t494, A150, H⟩ := H
   replace H : (if t494 = true then (laws_FnExactOffsetsOf.j0 k l0 t483 t484 t487 t490 t491 (t491 != t484)) else (laws_FnExactOffsetsOf.j0 k l0 t483 t484 t487 t490 t491 true)) = some r := H
   have A15 := Aside0.mk A150
   clear A150
   by_cases c16 : t494 = true
   ·
    subst c16
    have H1 : (laws_FnExactOffsetsOf.j0 k l0 t483 t484 t487 t490 t491 (t491 != t484)) = some r := by rw [if_pos rfl] at H; exact H
    clear H
    have H := H1
    clear H1
    have H' := Aside0.mk H
    clear H
    obtain ⟨Ao17, co17, eo17⟩ := Kd.R_slice HO493.out
    subst eo17
    obtain ⟨Ao18, co18, eo18⟩ := Kd.R_slice HO486.out
    subst eo18
    go_wp2_with (first | ((with_reducible refine gate_callee (f := 30) rfl ?_); refine goesL_ (some 34) rfl rfl Try.func30 (by kernel_rfl) rfl #[.slice Ao17 t490.length co17, .slice Ao18 t483.length co18] rfl ar ?_; (with_reducible refine (laws_eqIntS.calls k _ _ t490 _ _ t483 true _ ?side1 ?side2 ?side3 ?side4 A15.out).mono ?_); (case side1 => repeat (first | exact (Kd.R_reads' HO493.out).2.2 | (with_reducible refine Kd.C_alloc ?_ _) | (with_reducible refine Kd.C_drewN ?_ _) | (with_reducible refine Kd.C_drew ?_))); (case side2 => exact (Kd.R_reads' HO493.out).2.1); (case side3 => repeat (first | exact (Kd.R_reads' HO486.out).2.2 | (with_reducible refine Kd.C_alloc ?_ _) | (with_reducible refine Kd.C_drewN ?_ _) | (with_reducible refine Kd.C_drew ?_))); (case side4 => exact (Kd.R_reads' HO486.out).2.1); rintro e w' ⟨rfl, ⟨nd, rfl⟩⟩; refine ⟨_, rfl, ?_⟩))
    go_meet
    case rel => exact ⟨_, ((t491 != t484)), (by first | rfl | (simp; done) | (simp [*]; done)), H', ⟨by first | omega | exact Nat.le_refl _⟩, ⟨by (with_reducible repeat (first | apply Kd.R_alloc | apply Kd.R_drewN | apply Kd.R_drew)); exact Kd.R_mono HO486.out (fun _ hk => hk.2)⟩, ⟨by (with_reducible repeat (first | apply Kd.R_alloc | apply Kd.R_drewN | apply Kd.R_drew)); exact Kd.R_mono HO489.out (fun _ hk => trivial)⟩, ⟨by (with_reducible repeat (first | apply Kd.R_alloc | apply Kd.R_drewN | apply Kd.R_drew)); exact Kd.R_mono HO493.out (fun _ hk => hk.2)⟩, ⟨bw HB.out⟩⟩
   ·
    replace c16 := Bool.eq_false_iff.mpr c16
    subst c16
    have H1 : (laws_FnExactOffsetsOf.j0 k l0 t483 t484 t487 t490 t491 true) = some r := by rw [if_neg (show ¬ (false = true) by decide)] at H; exact H
    clear H
    have H := H1
    clear H1
    have H' := Aside0.mk H
    clear H
    obtain ⟨Ao19, co19, eo19⟩ := Kd.R_slice HO493.out
    subst eo19
    obtain ⟨Ao20, co20, eo20⟩ := Kd.R_slice HO486.out
    subst eo20
    go_wp2_with (first | ((with_reducible refine gate_callee (f := 30) rfl ?_); refine goesL_ (some 34) rfl rfl Try.func30 (by kernel_rfl) rfl #[.slice Ao19 t490.length co19, .slice Ao20 t483.length co20] rfl ar ?_; (with_reducible refine (laws_eqIntS.calls k _ _ t490 _ _ t483 false _ ?side1 ?side2 ?side3 ?side4 A15.out).mono ?_); (case side1 => repeat (first | exact (Kd.R_reads' HO493.out).2.2 | (with_reducible refine Kd.C_alloc ?_ _) | (with_reducible refine Kd.C_drewN ?_ _) | (with_reducible refine Kd.C_drew ?_))); (case side2 => exact (Kd.R_reads' HO493.out).2.1); (case side3 => repeat (first | exact (Kd.R_reads' HO486.out).2.2 | (with_reducible refine Kd.C_alloc ?_ _) | (with_reducible refine Kd.C_drewN ?_ _) | (with_reducible refine Kd.C_drew ?_))); (case side4 => exact (Kd.R_reads' HO486.out).2.1); rintro e w' ⟨rfl, ⟨nd, rfl⟩⟩; refine ⟨_, rfl, ?_⟩))
    go_meet
    case rel => exact ⟨_, (true), (by first | rfl | (simp; done) | (simp [*]; done)), H', ⟨by first | omega | exact Nat.le_refl _⟩, ⟨by (with_reducible repeat (first | apply Kd.R_alloc | apply Kd.R_drewN | apply Kd.R_drew)); exact Kd.R_mono HO486.out (fun _ hk => hk.2)⟩, ⟨by (with_reducible repeat (first | apply Kd.R_alloc | apply Kd.R_drewN | apply Kd.R_drew)); exact Kd.R_mono HO489.out (fun _ hk => trivial)⟩, ⟨by (with_reducible repeat (first | apply Kd.R_alloc | apply Kd.R_drewN | apply Kd.R_drew)); exact Kd.R_mono HO493.out (fun _ hk => hk.2)⟩, ⟨bw HB.out⟩⟩
  case rest =>
   clear HC8
   try clear c1
   try clear p2
   try clear c3
   try clear c3b0
   try clear c9
   try clear c11
   try clear c13
   try clear c16
   obtain ⟨kq, x40_7, rfl, HA, HJ7, HO_4, HO_6, HO_7, HB⟩ := hcut
   cases kq with
   | zero => exact absurd HA.out (by simp [laws_FnExactOffsetsOf.j0])
   | succ kj7 =>
    have H := HA.out
    clear HA
    simp only [laws_FnExactOffsetsOf.j0] at H
    by_cases c21 : x40_7 = true
    ·
     subst c21
     have H1 : (some false) = some r := by rw [if_pos rfl] at H; exact H
     clear H
     have H := H1
     clear H1
     obtain rfl := Option.some.inj H
     exact absurd HT.out (by decide)
    ·
     replace c21 := Bool.eq_false_iff.mpr c21
     subst c21
     have H1 : ((laws_toTypeNodeS.f kj7 l0).bind fun t495 => ((laws_eqTypeNodeS.f kj7 t487 t495).bind fun t498 => (if t498 = true then ((laws_markTypeNodeS.f kj7 t487 1).bind fun bt499 => (if bt499.1 < 0 then (laws_FnExactOffsetsOf.j1 kj7 l0 t483 t484 t490 true) else ((laws_eqIntS.f kj7 t490 t483).bind fun t501 => (if t501 = true then (laws_FnExactOffsetsOf.j1 kj7 l0 t483 t484 t490 (t491 != t484)) else (laws_FnExactOffsetsOf.j1 kj7 l0 t483 t484 t490 true))))) else (some false)))) = some r := by rw [if_neg (show ¬ (false = true) by decide)] at H; exact H
     clear H
     have H := H1
     clear H1
     replace H := Option.bind_eq_some_iff.mp H
     obtain ⟨t495, A220, H⟩ := H
     replace H : ((laws_eqTypeNodeS.f kj7 t487 t495).bind fun t498 => (if t498 = true then ((laws_markTypeNodeS.f kj7 t487 1).bind fun bt499 => (if bt499.1 < 0 then (laws_FnExactOffsetsOf.j1 kj7 l0 t483 t484 t490 true) else ((laws_eqIntS.f kj7 t490 t483).bind fun t501 => (if t501 = true then (laws_FnExactOffsetsOf.j1 kj7 l0 t483 t484 t490 (t491 != t484)) else (laws_FnExactOffsetsOf.j1 kj7 l0 t483 t484 t490 true))))) else (some false))) = some r := H
     have A22 := Aside0.mk A220
     clear A220
     replace H := Option.bind_eq_some_iff.mp H
     obtain ⟨t498, A230, H⟩ := H
     replace H : (if t498 = true then ((laws_markTypeNodeS.f kj7 t487 1).bind fun bt499 => (if bt499.1 < 0 then (laws_FnExactOffsetsOf.j1 kj7 l0 t483 t484 t490 true) else ((laws_eqIntS.f kj7 t490 t483).bind fun t501 => (if t501 = true then (laws_FnExactOffsetsOf.j1 kj7 l0 t483 t484 t490 (t491 != t484)) else (laws_FnExactOffsetsOf.j1 kj7 l0 t483 t484 t490 true))))) else (some false)) = some r := H
     have A23 := Aside0.mk A230
     clear A230
     by_cases c24 : t498 = true
     ·
      subst c24
      have H1 : ((laws_markTypeNodeS.f kj7 t487 1).bind fun bt499 => (if bt499.1 < 0 then (laws_FnExactOffsetsOf.j1 kj7 l0 t483 t484 t490 true) else ((laws_eqIntS.f kj7 t490 t483).bind fun t501 => (if t501 = true then (laws_FnExactOffsetsOf.j1 kj7 l0 t483 t484 t490 (t491 != t484)) else (laws_FnExactOffsetsOf.j1 kj7 l0 t483 t484 t490 true))))) = some r := by rw [if_pos rfl] at H; exact H
      clear H
      have H := H1
      clear H1
      replace H := Option.bind_eq_some_iff.mp H
      obtain ⟨⟨t499, t500⟩, A250, H⟩ := H
      replace H : (if t499 < 0 then (laws_FnExactOffsetsOf.j1 kj7 l0 t483 t484 t490 true) else ((laws_eqIntS.f kj7 t490 t483).bind fun t501 => (if t501 = true then (laws_FnExactOffsetsOf.j1 kj7 l0 t483 t484 t490 (t491 != t484)) else (laws_FnExactOffsetsOf.j1 kj7 l0 t483 t484 t490 true)))) = some r := H
      have A25 := Aside0.mk A250
      clear A250
      have HC26 := Aside0.mk H
      clear H
      go_upto_region 14 with (first | ((with_reducible refine gate_callee (f := 13) rfl ?_); refine goesL_ (some 43) rfl rfl Try.func13 (by kernel_rfl) rfl #[.slice A0 l0.length c0] rfl ar ?_; (with_reducible refine (laws_toTypeNodeS.calls kj7 _ _ l0 t495 _ ?side1 ?side2 A22.out).mono ?_); (case side1 => repeat (first | exact (Kd.C_below HR0.out HB.out) | (with_reducible refine Kd.C_alloc ?_ _) | (with_reducible refine Kd.C_drewN ?_ _) | (with_reducible refine Kd.C_drew ?_))); (case side2 => exact HC0.out); rintro e w27 ⟨v496, rfl, ho0, hb⟩; refine ⟨_, rfl, ?_⟩; have n0_ := Aside0.mk (Kd.R_below (by (with_reducible repeat (first | apply Kd.R_alloc | apply Kd.R_drewN | apply Kd.R_drew)); exact HO_4.out) hb); have n1_ := Aside0.mk (Kd.R_elder' (by (with_reducible repeat (first | apply Kd.R_alloc | apply Kd.R_drewN | apply Kd.R_drew)); exact HO_6.out) (Kd.R_base ho0) hb); have n2_ := Aside0.mk (Kd.R_below (by (with_reducible repeat (first | apply Kd.R_alloc | apply Kd.R_drewN | apply Kd.R_drew)); exact HO_7.out) hb); have n3_ := Aside0.mk (Kd.R_lower (Kd.R_new' ho0 (Kd.R_lt (by (with_reducible repeat (first | apply Kd.R_alloc | apply Kd.R_drewN | apply Kd.R_drew)); exact HO_6.out))) (below_size (bw HB.out))); have n4_ := Aside0.mk (below_step (bw HB.out) hb); clear HO_4; clear HO_6; clear HO_7; clear HB; have HO_4 := n0_; have HO_6 := n1_; have HO_7 := n2_; have HO497 := n3_; have HB := n4_; clear n0_ n1_ n2_ n3_ n4_; (try clear hb); (try clear hb2); (try clear hk); (try clear hi); (try clear ho0); obtain ⟨Ao28, co28, eo28⟩ := Kd.R_slice HO497.out; subst eo28) | ((with_reducible refine gate_callee (f := 15) rfl ?_); refine goesL_ (some 44) rfl rfl Try.func15 (by kernel_rfl) rfl #[.slice Ao13 t487.length co13, .slice Ao28 t495.length co28] rfl ar ?_; (with_reducible refine (laws_eqTypeNodeS.calls kj7 _ _ t487 _ _ t495 true _ ?side1 ?side2 ?side3 ?side4 A23.out).mono ?_); (case side1 => repeat (first | exact (Kd.R_reads' HO_6.out).2.2 | (with_reducible refine Kd.C_alloc ?_ _) | (with_reducible refine Kd.C_drewN ?_ _) | (with_reducible refine Kd.C_drew ?_))); (case side2 => exact (Kd.R_reads' HO_6.out).2.1); (case side3 => repeat (first | exact (Kd.R_reads' HO497.out).2.2 | (with_reducible refine Kd.C_alloc ?_ _) | (with_reducible refine Kd.C_drewN ?_ _) | (with_reducible refine Kd.C_drew ?_))); (case side4 => exact (Kd.R_reads' HO497.out).2.1); rintro e w29 ⟨rfl, hb⟩; refine ⟨_, rfl, ?_⟩; have n0_ := Aside0.mk (Kd.R_below (by (with_reducible repeat (first | apply Kd.R_alloc | apply Kd.R_drewN | apply Kd.R_drew)); exact HO_4.out) hb); have n1_ := Aside0.mk (Kd.R_below (by (with_reducible repeat (first | apply Kd.R_alloc | apply Kd.R_drewN | apply Kd.R_drew)); exact HO_6.out) hb); have n2_ := Aside0.mk (Kd.R_below (by (with_reducible repeat (first | apply Kd.R_alloc | apply Kd.R_drewN | apply Kd.R_drew)); exact HO_7.out) hb); have n3_ := Aside0.mk (Kd.R_below (by (with_reducible repeat (first | apply Kd.R_alloc | apply Kd.R_drewN | apply Kd.R_drew)); exact HO497.out) hb); have n4_ := Aside0.mk (below_step (bw HB.out) hb); clear HO_4; clear HO_6; clear HO_7; clear HO497; clear HB; have HO_4 := n0_; have HO_6 := n1_; have HO_7 := n2_; have HO497 := n3_; have HB := n4_; clear n0_ n1_ n2_ n3_ n4_; (try clear hb)) | ((with_reducible refine gate_callee (f := 25) rfl ?_); refine goesL_ (some 48) rfl rfl Try.func25 (by kernel_rfl) rfl #[.slice Ao13 t487.length co13, .int .i64 1] rfl ar ?_; (with_reducible refine (laws_markTypeNodeS.calls kj7 (fun k_ => some k_ = (.slice Ao13 t487.length co13 : Value).ownBlock) (.slice Ao13 t487.length co13) t487 1 t499 t500 w _ ?side1 ?side2 A25.out).mono ?_); (case side1 => repeat (first | (with_reducible first | exact HB.out | apply below_alloc | apply pw_below_drewN | apply below_drew1) | exact HB.out)); (case side2 => exact Kd.R_tight rfl HO_6.out); rintro e w30 ⟨rfl, hy0, hb, hkp⟩; refine ⟨_, rfl, ?_⟩; have n0_ := Aside0.mk (Kd.R_mono (ok' := fun k_ => some k_ ≠ (v492 : Value).ownBlock) (Kd.R_keptB ((Kd.R_apart' HO_4.out (Kd.R_typed HO_6.out) (by decide))) hkp (fun k_ hk_ hs_ => (hk_.2) hs_)) (fun k_ hk_ => hk_.1.1)); have n1_ := Aside0.mk (Kd.R_reok rfl hy0 (fun k_ e_ => HO_6.out.1 k_ e_)); have n2_ := Aside0.mk (Kd.R_mono (ok' := fun k_ => some k_ ≠ (v485 : Value).ownBlock) (Kd.R_keptB ((Kd.R_apart' HO_7.out (Kd.R_typed HO_6.out) (by decide))) hkp (fun k_ hk_ hs_ => (hk_.2) hs_)) (fun k_ hk_ => hk_.1.1)); have n3_ := Aside0.mk (Kd.R_mono (ok' := fun k_ => some k_ ≠ (.slice Ao13 t487.length co13 : Value).ownBlock) (Kd.R_keptB (HO497.out) hkp (fun k_ hk_ hs_ => (hk_.2) hs_)) (fun k_ hk_ => hk_.1.2)); have n4_ := Aside0.mk (hb); clear HO_4; clear HO_6; clear HO_7; clear HO497; clear HB; have HO_4 := n0_; have HO_6 := n1_; have HO_7 := n2_; have HO497 := n3_; have HB := n4_; clear n0_ n1_ n2_ n3_ n4_; (try clear hb); (try clear hkp); (try clear hy0)))
      (try simp only [Act.put, List.setIfInBounds_toArray, List.set_cons_zero, List.set_cons_succ])
      go_cut [61] (fun v61 wc => ∃ (kq : Nat) (x61_25 : Bool), v61 = .bool x61_25 ∧ Aside0 (laws_FnExactOffsetsOf.j1 kq l0 t483 t484 t490 x61_25 = some r) ∧ Aside0 (kq ≤ kj7) ∧ Aside0 (Kd.R (Kd.int .i64) 3 wc w.heap.size (fun k_ => some k_ ≠ (v492 : Value).ownBlock) v485 t483) ∧ Aside0 (Kd.R (Kd.int .i64) 3 wc w.heap.size (fun k_ => some k_ ≠ (v485 : Value).ownBlock) v492 t490) ∧ Aside0 (Below w.heap.size w wc))
      case first =>
       have H := HC26.out
       clear HC26
       by_cases c31 : t499 < 0
       ·
        rw [if_pos c31] at H
        have c31b0 : decide (t499 < 0) = true := decide_eq_true c31
        clear c31
        (first | rw [c31b0] | (simp only [i64_w, i32_w]; rw [c31b0]) | skip)
        have H' := Aside0.mk H
        clear H
        go_wp2
        go_meet
        case rel => exact ⟨_, (true), (by first | rfl | (simp; done) | (simp [*]; done)), H', ⟨by have := HJ7.out; first | omega | exact Nat.le_refl _⟩, ⟨by (with_reducible repeat (first | apply Kd.R_alloc | apply Kd.R_drewN | apply Kd.R_drew)); exact HO_4.out⟩, ⟨by (with_reducible repeat (first | apply Kd.R_alloc | apply Kd.R_drewN | apply Kd.R_drew)); exact HO_7.out⟩, ⟨bw HB.out⟩⟩
       ·
        rw [if_neg c31] at H
        have c31b0 : decide (t499 < 0) = false := decide_eq_false c31
        clear c31
        (first | rw [c31b0] | (simp only [i64_w, i32_w]; rw [c31b0]) | skip)
        replace H := Option.bind_eq_some_iff.mp H
        obtain ⟨t501, A320, H⟩ := H
        replace H : (if t501 = true then (laws_FnExactOffsetsOf.j1 kj7 l0 t483 t484 t490 (t491 != t484)) else (laws_FnExactOffsetsOf.j1 kj7 l0 t483 t484 t490 true)) = some r := H
        have A32 := Aside0.mk A320
        clear A320
        by_cases c33 : t501 = true
        ·
         subst c33
         have H1 : (laws_FnExactOffsetsOf.j1 kj7 l0 t483 t484 t490 (t491 != t484)) = some r := by rw [if_pos rfl] at H; exact H
         clear H
         have H := H1
         clear H1
         have H' := Aside0.mk H
         clear H
         obtain ⟨Ao34, co34, eo34⟩ := Kd.R_slice HO_7.out
         subst eo34
         obtain ⟨Ao35, co35, eo35⟩ := Kd.R_slice HO_4.out
         subst eo35
         go_wp2_with (first | (go_at_call 30; (with_reducible refine (laws_eqIntS.calls kj7 _ _ t490 _ _ t483 true _ ?side1 ?side2 ?side3 ?side4 A32.out).mono ?_); (case side1 => repeat (first | exact (Kd.R_reads' HO_7.out).2.2 | (with_reducible refine Kd.C_alloc ?_ _) | (with_reducible refine Kd.C_drewN ?_ _) | (with_reducible refine Kd.C_drew ?_))); (case side2 => exact (Kd.R_reads' HO_7.out).2.1); (case side3 => repeat (first | exact (Kd.R_reads' HO_4.out).2.2 | (with_reducible refine Kd.C_alloc ?_ _) | (with_reducible refine Kd.C_drewN ?_ _) | (with_reducible refine Kd.C_drew ?_))); (case side4 => exact (Kd.R_reads' HO_4.out).2.1); rintro e w' ⟨rfl, ⟨nd, rfl⟩⟩))
         go_meet
         case rel => exact ⟨_, ((t491 != t484)), (by first | rfl | (simp; done) | (simp [*]; done)), H', ⟨by have := HJ7.out; first | omega | exact Nat.le_refl _⟩, ⟨by (with_reducible repeat (first | apply Kd.R_alloc | apply Kd.R_drewN | apply Kd.R_drew)); exact HO_4.out⟩, ⟨by (with_reducible repeat (first | apply Kd.R_alloc | apply Kd.R_drewN | apply Kd.R_drew)); exact HO_7.out⟩, ⟨bw HB.out⟩⟩
        ·
         replace c33 := Bool.eq_false_iff.mpr c33
         subst c33
         have H1 : (laws_FnExactOffsetsOf.j1 kj7 l0 t483 t484 t490 true) = some r := by rw [if_neg (show ¬ (false = true) by decide)] at H; exact H
         clear H
         have H := H1
         clear H1
         have H' := Aside0.mk H
         clear H
         obtain ⟨Ao36, co36, eo36⟩ := Kd.R_slice HO_7.out
         subst eo36
         obtain ⟨Ao37, co37, eo37⟩ := Kd.R_slice HO_4.out
         subst eo37
         go_wp2_with (first | (go_at_call 30; (with_reducible refine (laws_eqIntS.calls kj7 _ _ t490 _ _ t483 false _ ?side1 ?side2 ?side3 ?side4 A32.out).mono ?_); (case side1 => repeat (first | exact (Kd.R_reads' HO_7.out).2.2 | (with_reducible refine Kd.C_alloc ?_ _) | (with_reducible refine Kd.C_drewN ?_ _) | (with_reducible refine Kd.C_drew ?_))); (case side2 => exact (Kd.R_reads' HO_7.out).2.1); (case side3 => repeat (first | exact (Kd.R_reads' HO_4.out).2.2 | (with_reducible refine Kd.C_alloc ?_ _) | (with_reducible refine Kd.C_drewN ?_ _) | (with_reducible refine Kd.C_drew ?_))); (case side4 => exact (Kd.R_reads' HO_4.out).2.1); rintro e w' ⟨rfl, ⟨nd, rfl⟩⟩))
         go_meet
         case rel => exact ⟨_, (true), (by first | rfl | (simp; done) | (simp [*]; done)), H', ⟨by have := HJ7.out; first | omega | exact Nat.le_refl _⟩, ⟨by (with_reducible repeat (first | apply Kd.R_alloc | apply Kd.R_drewN | apply Kd.R_drew)); exact HO_4.out⟩, ⟨by (with_reducible repeat (first | apply Kd.R_alloc | apply Kd.R_drewN | apply Kd.R_drew)); exact HO_7.out⟩, ⟨bw HB.out⟩⟩
      case rest =>
       clear HC26
       try clear c1
       try clear c2
       try clear p2
       try clear c3
       try clear c3b0
       try clear c9
       try clear c11
       try clear c13
       try clear c15
       try clear c16
       try clear c21
       try clear c24
       try clear c25
       try clear c30
       try clear c31
       try clear c31b0
       try clear c33
       try clear c34
       try clear p2
       obtain ⟨kq, x61_25, rfl, HA, HJ25, HO_4, HO_7, HB⟩ := hcut
       cases kq with
       | zero => exact absurd HA.out (by simp [laws_FnExactOffsetsOf.j1])
       | succ kj25 =>
        have H := HA.out
        clear HA
        simp only [laws_FnExactOffsetsOf.j1] at H
        by_cases c38 : x61_25 = true
        ·
         subst c38
         have H1 : (some false) = some r := by rw [if_pos rfl] at H; exact H
         clear H
         have H := H1
         clear H1
         obtain rfl := Option.some.inj H
         exact absurd HT.out (by decide)
        ·
         replace c38 := Bool.eq_false_iff.mpr c38
         subst c38
         have H1 : ((laws_markIntS.f kj25 t490 1).bind fun bt502 => ((laws_heldIntS.f kj25 bt502.2 1).bind fun t504 => (if t504 < 0 then (some false) else (if t504 = bt502.1 then ((laws_toTypeNodeS.f kj25 l0).bind fun t505 => ((impl_OffsetsOf.f kj25 t505).bind fun bt508 => ((laws_eqIntS.f kj25 bt508.1 t483).bind fun t512 => (if t512 = true then (laws_FnExactOffsetsOf.j2 kj25 bt502.2 bt502.1 (bt508.2 != t484)) else (laws_FnExactOffsetsOf.j2 kj25 bt502.2 bt502.1 true))))) else (some false))))) = some r := by rw [if_neg (show ¬ (false = true) by decide)] at H; exact H
         clear H
         have H := H1
         clear H1
         replace H := Option.bind_eq_some_iff.mp H
         obtain ⟨⟨t502, t503⟩, A390, H⟩ := H
         replace H : ((laws_heldIntS.f kj25 t503 1).bind fun t504 => (if t504 < 0 then (some false) else (if t504 = t502 then ((laws_toTypeNodeS.f kj25 l0).bind fun t505 => ((impl_OffsetsOf.f kj25 t505).bind fun bt508 => ((laws_eqIntS.f kj25 bt508.1 t483).bind fun t512 => (if t512 = true then (laws_FnExactOffsetsOf.j2 kj25 t503 t502 (bt508.2 != t484)) else (laws_FnExactOffsetsOf.j2 kj25 t503 t502 true))))) else (some false)))) = some r := H
         have A39 := Aside0.mk A390
         clear A390
         replace H := Option.bind_eq_some_iff.mp H
         obtain ⟨t504, A400, H⟩ := H
         replace H : (if t504 < 0 then (some false) else (if t504 = t502 then ((laws_toTypeNodeS.f kj25 l0).bind fun t505 => ((impl_OffsetsOf.f kj25 t505).bind fun bt508 => ((laws_eqIntS.f kj25 bt508.1 t483).bind fun t512 => (if t512 = true then (laws_FnExactOffsetsOf.j2 kj25 t503 t502 (bt508.2 != t484)) else (laws_FnExactOffsetsOf.j2 kj25 t503 t502 true))))) else (some false))) = some r := H
         have A40 := Aside0.mk A400
         clear A400
         by_cases c41 : t504 < 0
         ·
          rw [if_pos c41] at H
          have c41b0 : decide (t504 < 0) = true := decide_eq_true c41
          clear c41
          obtain rfl := Option.some.inj H
          exact absurd HT.out (by decide)
         ·
          rw [if_neg c41] at H
          have c41b0 : decide (t504 < 0) = false := decide_eq_false c41
          clear c41
          by_cases c42 : t504 = t502
          ·
           rw [if_pos c42] at H
           have c42b0 : (t504 == t502) = true := beq_iff_eq.mpr c42
           have c42b1 : (t504 != t502) = false := bne_eq_false_iff_eq.mpr c42
           clear c42
           replace H := Option.bind_eq_some_iff.mp H
           obtain ⟨t505, A430, H⟩ := H
           replace H : ((impl_OffsetsOf.f kj25 t505).bind fun bt508 => ((laws_eqIntS.f kj25 bt508.1 t483).bind fun t512 => (if t512 = true then (laws_FnExactOffsetsOf.j2 kj25 t503 t502 (bt508.2 != t484)) else (laws_FnExactOffsetsOf.j2 kj25 t503 t502 true)))) = some r := H
           have A43 := Aside0.mk A430
           clear A430
           replace H := Option.bind_eq_some_iff.mp H
           obtain ⟨⟨t508, t509⟩, A440, H⟩ := H
           replace H : ((laws_eqIntS.f kj25 t508 t483).bind fun t512 => (if t512 = true then (laws_FnExactOffsetsOf.j2 kj25 t503 t502 (t509 != t484)) else (laws_FnExactOffsetsOf.j2 kj25 t503 t502 true))) = some r := H
           have A44 := Aside0.mk A440
           clear A440
           have HC45 := Aside0.mk H
           clear H
           obtain ⟨Ao46, co46, eo46⟩ := Kd.R_slice HO_7.out
           subst eo46
           go_upto_region 25 with (first | ((with_reducible refine gate_callee (f := 31) rfl ?_); refine goesL_ (some 64) rfl rfl Try.func31 (by kernel_rfl) rfl #[.slice Ao46 t490.length co46, .int .i64 1] rfl ar ?_; (with_reducible refine (laws_markIntS.calls kj25 (fun k_ => some k_ = (.slice Ao46 t490.length co46 : Value).ownBlock) (.slice Ao46 t490.length co46) t490 1 t502 t503 w _ ?side1 ?side2 A39.out).mono ?_); (case side1 => repeat (first | (with_reducible first | exact HB.out | apply below_alloc | apply pw_below_drewN | apply below_drew1) | exact HB.out)); (case side2 => exact Kd.R_tight rfl HO_7.out); rintro e w47 ⟨rfl, hy0, hb, hkp⟩; refine ⟨_, rfl, ?_⟩; have n0_ := Aside0.mk (Kd.R_mono (ok' := fun k_ => some k_ ≠ (.slice Ao46 t490.length co46 : Value).ownBlock) (Kd.R_keptB (HO_4.out) hkp (fun k_ hk_ hs_ => (hk_) hs_)) (fun k_ hk_ => hk_.1)); have n1_ := Aside0.mk (Kd.R_reok rfl hy0 (fun k_ e_ => HO_7.out.1 k_ e_)); have n2_ := Aside0.mk (hb); clear HO_4; clear HO_7; clear HB; have HO_4 := n0_; have HO_7 := n1_; have HB := n2_; clear n0_ n1_ n2_; (try clear hb); (try clear hkp); (try clear hy0)) | ((with_reducible refine gate_callee (f := 32) rfl ?_); refine goesL_ (some 67) rfl rfl Try.func32 (by kernel_rfl) rfl #[.slice Ao46 t503.length co46, .int .i64 1] rfl (by (try simp only [List.map_toArray, List.map_cons, List.map_nil]); first | done | (rw [show t503.length = t490.length from (Kd.R_reads' HO_7.out).1.symm] <;> rfl) | rfl | (simp only [List.length_drop, List.length_take]; rfl)) ?_; (with_reducible refine (laws_heldIntS.calls kj25 _ _ t503 1 t504 _ ?side1 ?side2 A40.out).mono ?_); (case side1 => repeat (first | exact (Kd.R_reads' HO_7.out).2.2 | (with_reducible refine Kd.C_alloc ?_ _) | (with_reducible refine Kd.C_drewN ?_ _) | (with_reducible refine Kd.C_drew ?_))); (case side2 => rw [show t503.length = t490.length from (Kd.R_reads' HO_7.out).1.symm]; exact (Kd.R_reads' HO_7.out).2.1); rintro e w' ⟨rfl, ⟨nd, rfl⟩⟩; refine ⟨_, rfl, ?_⟩) | ((with_reducible refine gate_callee (f := 13) rfl ?_); refine goesL_ (some 75) rfl rfl Try.func13 (by kernel_rfl) rfl #[.slice A0 l0.length c0] rfl ar ?_; (with_reducible refine (laws_toTypeNodeS.calls kj25 _ _ l0 t505 _ ?side1 ?side2 A43.out).mono ?_); (case side1 => repeat (first | exact (Kd.C_below HR0.out (bw HB.out)) | (with_reducible refine Kd.C_alloc ?_ _) | (with_reducible refine Kd.C_drewN ?_ _) | (with_reducible refine Kd.C_drew ?_))); (case side2 => exact HC0.out); rintro e w48 ⟨v506, rfl, ho0, hb⟩; refine ⟨_, rfl, ?_⟩; have n0_ := Aside0.mk (Kd.R_below (by (with_reducible repeat (first | apply Kd.R_alloc | apply Kd.R_drewN | apply Kd.R_drew)); exact HO_4.out) hb); have n1_ := Aside0.mk (Kd.R_below (by (with_reducible repeat (first | apply Kd.R_alloc | apply Kd.R_drewN | apply Kd.R_drew)); exact HO_7.out) hb); have n2_ := Aside0.mk (Kd.R_lower ho0 (below_size (bw HB.out))); have n3_ := Aside0.mk (below_step (bw HB.out) hb); clear HO_4; clear HO_7; clear HB; have HO_4 := n0_; have HO_7 := n1_; have HO507 := n2_; have HB := n3_; clear n0_ n1_ n2_ n3_; (try clear hb); (try clear hb2); (try clear hk); (try clear hi); (try clear ho0); obtain ⟨Ao49, co49, eo49⟩ := Kd.R_slice HO507.out; subst eo49) | ((with_reducible refine gate_callee (f := 34) rfl ?_); refine goesL_ (some 76) rfl rfl Try.func34 (by kernel_rfl) rfl #[.slice Ao49 t505.length co49] rfl ar ?_; (with_reducible refine (impl_OffsetsOf.calls kj25 _ _ t505 t508 t509 _ ?side1 ?side2 A44.out).mono ?_); (case side1 => repeat (first | exact (Kd.R_reads' HO507.out).2.2 | (with_reducible refine Kd.C_alloc ?_ _) | (with_reducible refine Kd.C_drewN ?_ _) | (with_reducible refine Kd.C_drew ?_))); (case side2 => exact (Kd.R_reads' HO507.out).2.1); rintro e w50 ⟨v510, rfl, ho0, hb⟩; refine ⟨_, rfl, ?_⟩; have n0_ := Aside0.mk (Kd.R_elder' (by (with_reducible repeat (first | apply Kd.R_alloc | apply Kd.R_drewN | apply Kd.R_drew)); exact HO_4.out) (Kd.R_base ho0) hb); have n1_ := Aside0.mk (Kd.R_elder' (by (with_reducible repeat (first | apply Kd.R_alloc | apply Kd.R_drewN | apply Kd.R_drew)); exact HO_7.out) (Kd.R_base ho0) hb); have n2_ := Aside0.mk (Kd.R_below (by (with_reducible repeat (first | apply Kd.R_alloc | apply Kd.R_drewN | apply Kd.R_drew)); exact HO507.out) hb); have n3_ := Aside0.mk (Kd.R_lower (Kd.R_new' (Kd.R_new' ho0 (Kd.R_lt (by (with_reducible repeat (first | apply Kd.R_alloc | apply Kd.R_drewN | apply Kd.R_drew)); exact HO_4.out))) (Kd.R_lt (by (with_reducible repeat (first | apply Kd.R_alloc | apply Kd.R_drewN | apply Kd.R_drew)); exact HO_7.out))) (below_size (bw HB.out))); have n4_ := Aside0.mk (below_step (bw HB.out) hb); clear HO_4; clear HO_7; clear HO507; clear HB; have HO_4 := n0_; have HO_7 := n1_; have HO507 := n2_; have HO511 := n3_; have HB := n4_; clear n0_ n1_ n2_ n3_ n4_; (try clear hb); (try clear hb2); (try clear hk); (try clear hi); (try clear ho0)))
           (try simp only [Act.put, List.setIfInBounds_toArray, List.set_cons_zero, List.set_cons_succ])
           go_cut [87] (fun v87 wc => ∃ (kq : Nat) (x87_44 : Bool), v87 = .bool x87_44 ∧ Aside0 (laws_FnExactOffsetsOf.j2 kq t503 t502 x87_44 = some r) ∧ Aside0 (kq ≤ kj25) ∧ Aside0 (Kd.R (Kd.int .i64) 3 wc w.heap.size (fun _ => True) (.slice Ao46 t490.length co46) t503) ∧ Aside0 (Below w.heap.size w wc))
           case first =>
            have H := HC45.out
            clear HC45
            replace H := Option.bind_eq_some_iff.mp H
            obtain ⟨t512, A510, H⟩ := H
            replace H : (if t512 = true then (laws_FnExactOffsetsOf.j2 kj25 t503 t502 (t509 != t484)) else (laws_FnExactOffsetsOf.j2 kj25 t503 t502 true)) = some r := H
            have A51 := Aside0.mk A510
            clear A510
            by_cases c52 : t512 = true
            ·
             subst c52
             have H1 : (laws_FnExactOffsetsOf.j2 kj25 t503 t502 (t509 != t484)) = some r := by rw [if_pos rfl] at H; exact H
             clear H
             have H := H1
             clear H1
             have H' := Aside0.mk H
             clear H
             obtain ⟨Ao53, co53, eo53⟩ := Kd.R_slice HO511.out
             subst eo53
             obtain ⟨Ao54, co54, eo54⟩ := Kd.R_slice HO_4.out
             subst eo54
             go_wp2_with (first | ((with_reducible refine gate_callee (f := 30) rfl ?_); refine goesL_ (some 81) rfl rfl Try.func30 (by kernel_rfl) rfl #[.slice Ao53 t508.length co53, .slice Ao54 t483.length co54] rfl ar ?_; (with_reducible refine (laws_eqIntS.calls kj25 _ _ t508 _ _ t483 true _ ?side1 ?side2 ?side3 ?side4 A51.out).mono ?_); (case side1 => repeat (first | exact (Kd.R_reads' HO511.out).2.2 | (with_reducible refine Kd.C_alloc ?_ _) | (with_reducible refine Kd.C_drewN ?_ _) | (with_reducible refine Kd.C_drew ?_))); (case side2 => exact (Kd.R_reads' HO511.out).2.1); (case side3 => repeat (first | exact (Kd.R_reads' HO_4.out).2.2 | (with_reducible refine Kd.C_alloc ?_ _) | (with_reducible refine Kd.C_drewN ?_ _) | (with_reducible refine Kd.C_drew ?_))); (case side4 => exact (Kd.R_reads' HO_4.out).2.1); rintro e w' ⟨rfl, ⟨nd, rfl⟩⟩; refine ⟨_, rfl, ?_⟩))
             go_meet
             case rel => exact ⟨_, ((t509 != t484)), (by first | rfl | (simp; done) | (simp [*]; done)), H', ⟨by have := HJ7.out; have := HJ25.out; first | omega | exact Nat.le_refl _⟩, ⟨by (with_reducible repeat (first | apply Kd.R_alloc | apply Kd.R_drewN | apply Kd.R_drew)); exact Kd.R_mono HO_7.out (fun _ hk => trivial)⟩, ⟨bw HB.out⟩⟩
            ·
             replace c52 := Bool.eq_false_iff.mpr c52
             subst c52
             have H1 : (laws_FnExactOffsetsOf.j2 kj25 t503 t502 true) = some r := by rw [if_neg (show ¬ (false = true) by decide)] at H; exact H
             clear H
             have H := H1
             clear H1
             have H' := Aside0.mk H
             clear H
             obtain ⟨Ao55, co55, eo55⟩ := Kd.R_slice HO511.out
             subst eo55
             obtain ⟨Ao56, co56, eo56⟩ := Kd.R_slice HO_4.out
             subst eo56
             go_wp2_with (first | ((with_reducible refine gate_callee (f := 30) rfl ?_); refine goesL_ (some 81) rfl rfl Try.func30 (by kernel_rfl) rfl #[.slice Ao55 t508.length co55, .slice Ao56 t483.length co56] rfl ar ?_; (with_reducible refine (laws_eqIntS.calls kj25 _ _ t508 _ _ t483 false _ ?side1 ?side2 ?side3 ?side4 A51.out).mono ?_); (case side1 => repeat (first | exact (Kd.R_reads' HO511.out).2.2 | (with_reducible refine Kd.C_alloc ?_ _) | (with_reducible refine Kd.C_drewN ?_ _) | (with_reducible refine Kd.C_drew ?_))); (case side2 => exact (Kd.R_reads' HO511.out).2.1); (case side3 => repeat (first | exact (Kd.R_reads' HO_4.out).2.2 | (with_reducible refine Kd.C_alloc ?_ _) | (with_reducible refine Kd.C_drewN ?_ _) | (with_reducible refine Kd.C_drew ?_))); (case side4 => exact (Kd.R_reads' HO_4.out).2.1); rintro e w' ⟨rfl, ⟨nd, rfl⟩⟩; refine ⟨_, rfl, ?_⟩))
             go_meet
             case rel => exact ⟨_, (true), (by first | rfl | (simp; done) | (simp [*]; done)), H', ⟨by have := HJ7.out; have := HJ25.out; first | omega | exact Nat.le_refl _⟩, ⟨by (with_reducible repeat (first | apply Kd.R_alloc | apply Kd.R_drewN | apply Kd.R_drew)); exact Kd.R_mono HO_7.out (fun _ hk => trivial)⟩, ⟨bw HB.out⟩⟩
           case rest =>
            clear HC45
            try clear c1
            try clear c2
            try clear p2
            try clear c3
            try clear c3b0
            try clear c4
            try clear c5
            try clear c9
            try clear c11
            try clear c13
            try clear c15
            try clear c16
            try clear c21
            try clear c24
            try clear c25
            try clear c30
            try clear c31
            try clear c31b0
            try clear c32
            try clear c33
            try clear c34
            try clear c38
            try clear c41
            try clear c41b0
            try clear c42
            try clear c42b0
            try clear c42b1
            try clear c52
            try clear p2
            obtain ⟨kq, x87_44, rfl, HA, HJ44, HO_7, HB⟩ := hcut
            have hl7_44 := (Kd.R_reads' HO_7.out).1
            rw [hl7_44] at HO_7
            (try simp only [hl7_44])
            cases kq with
            | zero => exact absurd HA.out (by simp [laws_FnExactOffsetsOf.j2])
            | succ kj44 =>
             have H := HA.out
             clear HA
             simp only [laws_FnExactOffsetsOf.j2] at H
             by_cases c57 : x87_44 = true
             ·
              subst c57
              have H1 : (some false) = some r := by rw [if_pos rfl] at H; exact H
              clear H
              have H := H1
              clear H1
              obtain rfl := Option.some.inj H
              exact absurd HT.out (by decide)
             ·
              replace c57 := Bool.eq_false_iff.mpr c57
              subst c57
              have H1 : ((laws_heldIntS.f kj44 t503 1).bind fun t513 => (if t513 < 0 then (some false) else (if t513 = t502 then (some true) else (some false)))) = some r := by rw [if_neg (show ¬ (false = true) by decide)] at H; exact H
              clear H
              have H := H1
              clear H1
              replace H := Option.bind_eq_some_iff.mp H
              obtain ⟨t513, A580, H⟩ := H
              replace H : (if t513 < 0 then (some false) else (if t513 = t502 then (some true) else (some false))) = some r := H
              have A58 := Aside0.mk A580
              clear A580
              by_cases c59 : t513 < 0
              ·
               rw [if_pos c59] at H
               have c59b0 : decide (t513 < 0) = true := decide_eq_true c59
               clear c59
               obtain rfl := Option.some.inj H
               exact absurd HT.out (by decide)
              ·
               rw [if_neg c59] at H
               have c59b0 : decide (t513 < 0) = false := decide_eq_false c59
               clear c59
               by_cases c60 : t513 = t502
               ·
                rw [if_pos c60] at H
                have c60b0 : (t513 == t502) = true := beq_iff_eq.mpr c60
                have c60b1 : (t513 != t502) = false := bne_eq_false_iff_eq.mpr c60
                clear c60
                obtain rfl := Option.some.inj H
                simp only [Option.some.injEq, Prod.mk.injEq] at H
                obtain ⟨rfl⟩ := H
                go_wp2_with (first | ((with_reducible refine gate_callee (f := 32) rfl ?_); refine goesL_ (some 90) rfl rfl Try.func32 (by kernel_rfl) rfl #[.slice Ao46 t503.length co46, .int .i64 1] rfl ar ?_; (with_reducible refine (laws_heldIntS.calls kj44 _ _ t503 1 t513 _ ?side1 ?side2 A58.out).mono ?_); (case side1 => repeat (first | exact (Kd.R_reads' HO_7.out).2.2 | (with_reducible refine Kd.C_alloc ?_ _) | (with_reducible refine Kd.C_drewN ?_ _) | (with_reducible refine Kd.C_drew ?_))); (case side2 => exact (Kd.R_reads' HO_7.out).2.1); rintro e w' ⟨rfl, ⟨nd, rfl⟩⟩; refine ⟨_, rfl, ?_⟩))
                go_ret
                exact ⟨by first | rfl | (simp [errW_none, errW_some] <;> rfl) | (simp [*, errW_none, errW_some] <;> rfl), bw HB.out⟩
               ·
                rw [if_neg c60] at H
                have c60b0 : (t513 == t502) = false := beq_eq_false_iff_ne.mpr c60
                have c60b1 : (t513 != t502) = true := bne_iff_ne.mpr c60
                obtain rfl := Option.some.inj H
                exact absurd HT.out (by decide)
          ·
           rw [if_neg c42] at H
           have c42b0 : (t504 == t502) = false := beq_eq_false_iff_ne.mpr c42
           have c42b1 : (t504 != t502) = true := bne_iff_ne.mpr c42
           obtain rfl := Option.some.inj H
           exact absurd HT.out (by decide)
     ·
      replace c24 := Bool.eq_false_iff.mpr c24
      subst c24
      have H1 : (some false) = some r := by rw [if_neg (show ¬ (false = true) by decide)] at H; exact H
      clear H
      have H := H1
      clear H1
      obtain rfl := Option.some.inj H
      exact absurd HT.out (by decide)

/-- THE ONE PURE STATEMENT of laws_FnExactOffsetsOf. -/
def laws_FnExactOffsetsOf.Pure : Prop := ∀ (l0 : List (S55)), (l0.length ≤ maxLen ∧ ∀ y1 ∈ l0, ((Lit.int .i64 y1.f0).wf = true ∧ (Lit.int .i64 y1.f1).wf = true ∧ (Lit.int .i64 y1.f2).wf = true)) → ∃ k, laws_FnExactOffsetsOf.f k l0 = some true

end Go.Proofs.Ytlgegdgilkaldaa.Q

