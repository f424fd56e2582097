-- Written by a program of this session; it walks the functions that the law reaches.
import Derived.Test.YtmmlgkepnjelnaaQx0
import Derived.Test.YtmmlgkepnjelnaaQx1
namespace Go.Proofs.Ytmmlgkepnjelnaa.Q
open Go.RowKit Go.Proofs.YtmmlgkepnjelnaaW.PrintWords Go.Proofs.YtmmlgkepnjelnaaW.PrintLast Go.Proofs.YtmmlgkepnjelnaaW.PrintMore
attribute [local go_sem] max2_int min2_int max_two min_two max_three min_three max_four min_four   -- for this text's walks alone
set_option linter.unusedVariables false
set_option linter.unusedSimpArgs false

/-! ### spec_l6Ends: function 41 -/
mutual
def spec_l6Ends.j0 : Nat → List (S44) → Bool → Option (List Int × Int × Bool)
 | 0, _, _ => none
 | k + 1, x0, x22 => if x22 = true then (some (([] : List Int), 0, false)) else (if 0 ≤ (x0.length : Int) then (if ((x0.length : Int) : Int).toNat ≤ 35184372088832 then (if ([] : List (List Int)).length < 5864062014805 then (spec_l6Ends.l0 k (List.replicate ((x0.length : Int) : Int).toNat 0) 1 (([(-1)] : List Int)) (([true] : List Bool)) (([] : List (List Int)) ++ [[]]) x0 (x0.length : Int) 0) else (none)) else (none)) else (none))
def spec_l6Ends.l0 : Nat → List Int → Int → List Int → List Bool → List (List Int) → List (S44) → Int → Int → Option (List Int × Int × Bool)
 | 0, _, _, _, _, _, _, _, _ => none
 | k + 1, x5, x6, x7, x8, x9, x31, x32, x33 => if x33 < x32 then (if 0 ≤ x33 then (if x33 < (x31.length : Int) then (if (wrap64 ((x7.length : Int) - 1)) < 0 then (some (([] : List Int), 0, false)) else (if ((rd_T44 x31 x33).f0) = 2 then (spec_l6Ends.j2 k x5 x6 x7 x8 x9 x33 (wrap64 ((x7.length : Int) - 1)) x31 x32 x33 ((rd_T44 x31 x33).f0) (((rd_T44 x31 x33).f0) == 2) ((rd_T44 x31 x33).f0) ((rd_T44 x31 x33).f1)) else (if ((rd_T44 x31 x33).f0) = 3 then (spec_l6Ends.j2 k x5 x6 x7 x8 x9 x33 (wrap64 ((x7.length : Int) - 1)) x31 x32 x33 ((rd_T44 x31 x33).f0) (((rd_T44 x31 x33).f0) == 3) ((rd_T44 x31 x33).f0) ((rd_T44 x31 x33).f1)) else (spec_l6Ends.j2 k x5 x6 x7 x8 x9 x33 (wrap64 ((x7.length : Int) - 1)) x31 x32 x33 ((rd_T44 x31 x33).f0) (((rd_T44 x31 x33).f0) == 4) ((rd_T44 x31 x33).f0) ((rd_T44 x31 x33).f1))))) else (none)) else (none)) else (some (x5, x6, ((x7.length : Int) == 0)))
def spec_l6Ends.j3 : Nat → List Int → Int → List Int → List Bool → List (List Int) → Int → Int → List (S44) → Int → Int → Int → Int → Option (List Int × Int × Bool)
 | 0, _, _, _, _, _, _, _, _, _, _, _, _ => none
 | k + 1, x5, x6, x7, x8, x9, x10, x12, x31, x32, x33, x161000, x161001 => if 0 ≤ x12 then (if x12 < (x9.length : Int) then (if (rd_L2 x9 x12).length < 17592186044416 then ((some (x9.set (x12 : Int).toNat ((rd_L2 x9 x12) ++ [x10]) : List (List Int))).bind fun y179 => (if x161000 = 11 then (spec_l6Ends.l1 k x5 x6 x7 x8 y179 x10 x12 x31 x32 x33 (rd_L2 y179 x12) ((rd_L2 y179 x12).length : Int) 0) else (spec_l6Ends.l0 k x5 x6 x7 x8 y179 x31 x32 (wrap64 (x33 + 1))))) else (none)) else (none)) else (none)
def spec_l6Ends.l1 : Nat → List Int → Int → List Int → List Bool → List (List Int) → Int → Int → List (S44) → Int → Int → List Int → Int → Int → Option (List Int × Int × Bool)
 | 0, _, _, _, _, _, _, _, _, _, _, _, _, _ => none
 | k + 1, x5, x6, x7, x8, x9, x10, x12, x31, x32, x33, x95, x96, x97 => if x97 < x96 then (if 0 ≤ x97 then (if x97 < (x95.length : Int) then (if 0 ≤ (rd x95 x97) then (if (rd x95 x97) < (x5.length : Int) then (spec_l6Ends.l1 k (x5.set ((rd x95 x97) : Int).toNat x10) x6 x7 x8 x9 x10 x12 x31 x32 x33 x95 x96 (wrap64 (x97 + 1))) else (none)) else (none)) else (none)) else (none)) else (if 0 ≤ x12 then (if x12 ≤ (x7.length : Int) then (if x12 ≤ (x8.length : Int) then (if x12 ≤ (x9.length : Int) then (spec_l6Ends.l0 k x5 x6 (x7.take (x12 : Int).toNat) (x8.take (x12 : Int).toNat) (x9.take (x12 : Int).toNat) x31 x32 (wrap64 (x33 + 1))) else (none)) else (none)) else (none)) else (none))
def spec_l6Ends.j2 : Nat → List Int → Int → List Int → List Bool → List (List Int) → Int → Int → List (S44) → Int → Int → Int → Bool → Int → Int → Option (List Int × Int × Bool)
 | 0, _, _, _, _, _, _, _, _, _, _, _, _, _, _ => none
 | k + 1, x5, x6, x7, x8, x9, x10, x12, x31, x32, x33, x44, x45, x161000, x161001 => if x45 = true then (if x7.length < 17592186044416 then ((some (x7 ++ [x10] : List Int)).bind fun y161 => (if x8.length < 140737488355328 then ((some (x8 ++ [(x161000 != 4)] : List Bool)).bind fun y164 => (if x9.length < 5864062014805 then ((some (x9 ++ [(([x10] : List Int))] : List (List Int))).bind fun y170 => (if (y161.length : Int) > x6 then (spec_l6Ends.l0 k x5 (y161.length : Int) y161 y164 y170 x31 x32 (wrap64 (x33 + 1))) else (spec_l6Ends.l0 k x5 x6 y161 y164 y170 x31 x32 (wrap64 (x33 + 1))))) else (none))) else (none))) else (none)) else (if x44 = 5 then (if 0 ≤ x12 then (if x12 < (x8.length : Int) then (if rdOf false x8 x12 = true then (some (([] : List Int), 0, false)) else (spec_l6Ends.j3 k x5 x6 x7 (x8.set (x12 : Int).toNat true) x9 x10 x12 x31 x32 x33 x161000 x161001)) else (none)) else (none)) else (spec_l6Ends.j3 k x5 x6 x7 x8 x9 x10 x12 x31 x32 x33 x161000 x161001))
end
def spec_l6Ends.f (k : Nat) (l0 : List (S44)) : Option (List Int × Int × Bool) := (spec_l6Good.f k l0).bind fun t146 => (if t146 = true then (spec_l6Ends.j0 k l0 ((l0.length : Int) == 0)) else (spec_l6Ends.j0 k l0 true))
set_option maxHeartbeats 8000000 in
set_option maxRecDepth 100000 in
theorem spec_l6Ends.calls (k : Nat) (A0 : Option Addr) (c0 : Nat) (l0 : List (S44)) (r1 : List Int) (r2 : Int) (r3 : Bool) (w : World) (hr0 : Kd.C k44 w A0 l0.length l0) (hc0 : l0.length ≤ c0) (h : spec_l6Ends.f k l0 = some (r1, r2, r3)) :
  Calls Try.prog 41 #[.slice A0 l0.length c0] w fun e w' => ∃ v0_ : Value, e = .returned (.tuple #[v0_, .int .i64 r2, .bool r3]) ∧ Kd.R (Kd.int .i64) 3 w' w.heap.size (fun _ => True) v0_ r1 ∧ Below w.heap.size w w' := by
 have hu44 := Try.underlying44
 have HR0 := Aside0.mk hr0
 have HC0 := Aside0.mk hc0
 clear hr0 hc0
 have HB := Aside0.mk (Below.refl w.heap.size w)
 have H : ((spec_l6Good.f k l0).bind fun t146 => (if t146 = true then (spec_l6Ends.j0 k l0 ((l0.length : Int) == 0)) else (spec_l6Ends.j0 k l0 true))) = some (r1, r2, r3) := h
 clear h
 have HC2 := Aside0.mk H
 clear H
 go_enter Try.func41, Try.ntmps41
 go_upto_region 1 with (fail)
 go_cut [22] (fun v22 wc => ∃ (kq : Nat) (x22_1 : Bool), v22 = .bool x22_1 ∧ Aside0 (spec_l6Ends.j0 kq l0 x22_1 = some (r1, r2, r3)) ∧ Aside0 (kq ≤ k) ∧ Aside0 (Below w.heap.size w wc))
 case first =>
  have H := HC2.out
  clear HC2
  replace H := Option.bind_eq_some_iff.mp H
  obtain ⟨t146, A30, H⟩ := H
  replace H : (if t146 = true then (spec_l6Ends.j0 k l0 ((l0.length : Int) == 0)) else (spec_l6Ends.j0 k l0 true)) = some (r1, r2, r3) := H
  have A3 := Aside0.mk A30
  clear A30
  by_cases c4 : t146 = true
  ·
   subst c4
   have H1 : (spec_l6Ends.j0 k l0 ((l0.length : Int) == 0)) = some (r1, r2, r3) := by rw [if_pos rfl] at H; exact H
   clear H
   have H := H1
   clear H1
   have H' := Aside0.mk H
   clear H
   go_wp2_with (first | ((with_reducible refine gate_callee (f := 35) rfl ?_); refine goesL_ (some 16) rfl rfl Try.func35 (by kernel_rfl) rfl #[.slice A0 l0.length c0] rfl ar ?_; (with_reducible refine (spec_l6Good.calls k _ _ l0 true _ ?side1 ?side2 A3.out).mono ?_); (case side1 => repeat (first | exact (Kd.C_below HR0.out HB.out) | (with_reducible refine Kd.C_alloc ?_ _) | (with_reducible refine Kd.C_drewN ?_ _) | (with_reducible refine Kd.C_drew ?_))); (case side2 => exact HC0.out); rintro e w5 ⟨rfl, hb⟩; refine ⟨_, rfl, ?_⟩; have n0_ := Aside0.mk (below_step (bw HB.out) hb); clear HB; have HB := n0_; clear n0_; (try clear hb)))
   go_meet
   case rel => exact ⟨_, (((l0.length : Int) == 0)), (by first | rfl | (simp; done) | (simp [*]; done)), H', ⟨by first | omega | exact Nat.le_refl _⟩, ⟨bw HB.out⟩⟩
  ·
   replace c4 := Bool.eq_false_iff.mpr c4
   subst c4
   have H1 : (spec_l6Ends.j0 k l0 true) = some (r1, r2, r3) := by rw [if_neg (show ¬ (false = true) by decide)] at H; exact H
   clear H
   have H := H1
   clear H1
   have H' := Aside0.mk H
   clear H
   go_wp2_with (first | ((with_reducible refine gate_callee (f := 35) rfl ?_); refine goesL_ (some 16) rfl rfl Try.func35 (by kernel_rfl) rfl #[.slice A0 l0.length c0] rfl ar ?_; (with_reducible refine (spec_l6Good.calls k _ _ l0 false _ ?side1 ?side2 A3.out).mono ?_); (case side1 => repeat (first | exact (Kd.C_below HR0.out HB.out) | (with_reducible refine Kd.C_alloc ?_ _) | (with_reducible refine Kd.C_drewN ?_ _) | (with_reducible refine Kd.C_drew ?_))); (case side2 => exact HC0.out); rintro e w6 ⟨rfl, hb⟩; refine ⟨_, rfl, ?_⟩; have n0_ := Aside0.mk (below_step (bw HB.out) hb); clear HB; have HB := n0_; clear n0_; (try clear hb)))
   go_meet
   case rel => exact ⟨_, (true), (by first | rfl | (simp; done) | (simp [*]; done)), H', ⟨by first | omega | exact Nat.le_refl _⟩, ⟨bw HB.out⟩⟩
 case rest =>
  clear HC2
  obtain ⟨kq, x22_1, rfl, HA, HJ1, HB⟩ := hcut
  cases kq with
  | zero => exact absurd HA.out (by simp [spec_l6Ends.j0])
  | succ kj1 =>
   have H := HA.out
   clear HA
   simp only [spec_l6Ends.j0] at H
   by_cases c7 : x22_1 = true
   ·
    subst c7
    have H1 : (some (([] : List Int), 0, false)) = some (r1, r2, r3) := by rw [if_pos rfl] at H; exact H
    clear H
    have H := H1
    clear H1
    simp only [Option.some.injEq, Prod.mk.injEq] at H
    obtain ⟨rfl, rfl, rfl⟩ := H
    go_wp2
    go_ret3
    exact ⟨_, rr_, by first | exact Kd.R_nil _ _ _ _ _ | exact Kd.N_nil _ _ _ _ _ | exact Kd.V_nil _ _ _ _ _ | exact Kd.Q_nil _ _ _ _ _ | exact Kd.S_nil _ _ _ _ _, bw HB.out⟩
   ·
    replace c7 := Bool.eq_false_iff.mpr c7
    subst c7
    have H1 : (if 0 ≤ (l0.length : Int) then (if ((l0.length : Int) : Int).toNat ≤ 35184372088832 then (if ([] : List (List Int)).length < 5864062014805 then (spec_l6Ends.l0 kj1 (List.replicate ((l0.length : Int) : Int).toNat 0) 1 (([(-1)] : List Int)) (([true] : List Bool)) (([] : List (List Int)) ++ [[]]) l0 (l0.length : Int) 0) else (none)) else (none)) else (none)) = some (r1, r2, r3) := by rw [if_neg (show ¬ (false = true) by decide)] at H; exact H
    clear H
    have H := H1
    clear H1
    by_cases c8 : 0 ≤ (l0.length : Int)
    ·
     rw [if_pos c8] at H
     have c8b0 := eq_true c8
     have c8b1 : decide (0 ≤ (l0.length : Int)) = true := decide_eq_true c8
     clear c8
     by_cases c9 : ((l0.length : Int) : Int).toNat ≤ 35184372088832
     ·
      rw [if_pos c9] at H
      have c9b0 := eq_true c9
      have c9b1 : decide (((l0.length : Int) : Int).toNat ≤ 35184372088832) = true := decide_eq_true c9
      clear c9
      obtain ⟨y147, hy147⟩ : ∃ y_ : List Int, y_ = (List.replicate ((l0.length : Int) : Int).toNat 0) := ⟨_, rfl⟩
      replace H : (if ([] : List (List Int)).length < 5864062014805 then (spec_l6Ends.l0 kj1 y147 1 (([(-1)] : List Int)) (([true] : List Bool)) (([] : List (List Int)) ++ [[]]) l0 (l0.length : Int) 0) else (none)) = some (r1, r2, r3) := by first | (rw [hy147]; with_reducible exact H) | (have H2_ := (Option.bind_some _ _).symm.trans H; rw [hy147]; with_reducible exact H2_) | (have H2_ := (Option.bind_some _ _).symm.trans H; with_reducible exact H2_) | with_reducible exact H | (rw [hy147]; exact H) | exact H
      have Ny147 := Aside0.mk hy147
      clear hy147
      obtain ⟨y150, hy150⟩ : ∃ y_ : List Int, y_ = (([(-1)] : List Int)) := ⟨_, rfl⟩
      replace H : (if ([] : List (List Int)).length < 5864062014805 then (spec_l6Ends.l0 kj1 y147 1 y150 (([true] : List Bool)) (([] : List (List Int)) ++ [[]]) l0 (l0.length : Int) 0) else (none)) = some (r1, r2, r3) := by first | (rw [hy150]; with_reducible exact H) | (have H2_ := (Option.bind_some _ _).symm.trans H; rw [hy150]; with_reducible exact H2_) | (have H2_ := (Option.bind_some _ _).symm.trans H; with_reducible exact H2_) | with_reducible exact H | (rw [hy150]; exact H) | exact H
      have Ny150 := Aside0.mk hy150
      clear hy150
      obtain ⟨y153, hy153⟩ : ∃ y_ : List Bool, y_ = (([true] : List Bool)) := ⟨_, rfl⟩
      replace H : (if ([] : List (List Int)).length < 5864062014805 then (spec_l6Ends.l0 kj1 y147 1 y150 y153 (([] : List (List Int)) ++ [[]]) l0 (l0.length : Int) 0) else (none)) = some (r1, r2, r3) := by first | (rw [hy153]; with_reducible exact H) | (have H2_ := (Option.bind_some _ _).symm.trans H; rw [hy153]; with_reducible exact H2_) | (have H2_ := (Option.bind_some _ _).symm.trans H; with_reducible exact H2_) | with_reducible exact H | (rw [hy153]; exact H) | exact H
      have Ny153 := Aside0.mk hy153
      clear hy153
      by_cases c10 : ([] : List (List Int)).length < 5864062014805
      ·
       rw [if_pos c10] at H
       have LMc10 := Aside0.mk c10
       clear c10
       obtain ⟨y156, hy156⟩ : ∃ y_ : List (List Int), y_ = (([] : List (List Int)) ++ [[]]) := ⟨_, rfl⟩
       replace H : (spec_l6Ends.l0 kj1 y147 1 y150 y153 y156 l0 (l0.length : Int) 0) = some (r1, r2, r3) := by first | (rw [hy156]; with_reducible exact H) | (have H2_ := (Option.bind_some _ _).symm.trans H; rw [hy156]; with_reducible exact H2_) | (have H2_ := (Option.bind_some _ _).symm.trans H; with_reducible exact H2_) | with_reducible exact H | (rw [hy156]; exact H) | exact H
       have Ny156 := Aside0.mk hy156
       clear hy156
       have H' := Aside0.mk H
       clear H
       go_wp2_with (first | ((with_reducible refine gate_dst (N := 25) rfl ?_); (try (refine gate_guard (by rfl) ?_; dsimp only)); refine Kd.R_make (Kd.int .i64) _ 3 rfl (N := 25) rfl 22 _ _ rfl (l0.length : Int) rfl rfl Try.underlying22 (.int .i64 0) 8 info3 rfl (by decide) (by omega) 0 (ok := fun _ => True) (okp := fun _ => True) rfl (fun _ hk => hk) trivial (od_) (Nat.le_trans (Nat.mul_le_mul_right _ (od_ : (l0.length : Int).toNat ≤ 35184372088832)) (by omega)) (Below.refl _ _) (Nat.le_refl _) ?_; intro v148 w11 ho12 hb hg_ hnew_; clear hg_ hnew_; (first | rw [← Ny147.out] at ho12 | (simp only [Int.reduceToNat] at ho12; rw [← Ny147.out] at ho12)); have n0_ := Aside0.mk (Kd.R_lower ho12 (below_size (bw HB.out))); have n1_ := Aside0.mk (below_step (bw HB.out) hb); clear HB; have HO149 := n0_; have HB := n1_; clear n0_ n1_; clear hb ho12) | ((with_reducible refine gate_dst (N := 26) rfl ?_); (try (refine gate_guard (by rfl) ?_; dsimp only)); refine Kd.R_lit (Kd.int .i64) _ 3 ?hg (N := 26) ?hd (xs := ([(-1)] : List Int)) (inner := [.int .i64 (-1)]) (ok := fun _ => True) (okp := fun _ => True) ?hr ?hp (fun _ hk => hk) trivial (Below.refl _ _) (Nat.le_refl _) (by simp) ?_; (case hd => rfl); (case hg => rfl); (case hr => first | (go_simp; done) | (go_simp; rfl)); (case hp => exact (Reps.one (show Kd.M (Kd.int .i64) _ _ _ (-1) [.int .i64 (-1)] from rfl) (Reps.none _ _))); intro v151 w13 ho14 hb hg_ hnew_; clear hg_ hnew_; (first | rw [← Ny150.out] at ho14 | (simp only [Int.reduceToNat] at ho14; rw [← Ny150.out] at ho14)); have n0_ := Aside0.mk (Kd.R_elder' (kr_ HO149.out) (Kd.R_base ho14) hb); have n1_ := Aside0.mk (Kd.R_lower (Kd.R_new' ho14 (Kd.R_lt (kr_ HO149.out))) (below_size (bw HB.out))); have n2_ := Aside0.mk (below_step (bw HB.out) hb); clear HO149; clear HB; have HO149 := n0_; have HO152 := n1_; have HB := n2_; clear n0_ n1_ n2_; clear hb ho14) | ((with_reducible refine gate_dst (N := 27) rfl ?_); (try (refine gate_guard (by rfl) ?_; dsimp only)); refine Kd.R_lit Kd.bool _ 4 ?hg (N := 27) ?hd (xs := ([true] : List Bool)) (inner := [.bool true]) (ok := fun _ => True) (okp := fun _ => True) ?hr ?hp (fun _ hk => hk) trivial (Below.refl _ _) (Nat.le_refl _) (by simp) ?_; (case hd => rfl); (case hg => rfl); (case hr => first | (go_simp; done) | (go_simp; rfl)); (case hp => exact (Reps.one (show Kd.M Kd.bool _ _ _ true [.bool true] from rfl) (Reps.none _ _))); intro v154 w15 ho16 hb hg_ hnew_; clear hg_ hnew_; (first | rw [← Ny153.out] at ho16 | (simp only [Int.reduceToNat] at ho16; rw [← Ny153.out] at ho16)); have n0_ := Aside0.mk (Kd.R_below (kr_ HO149.out) hb); have n1_ := Aside0.mk (Kd.R_below (kr_ HO152.out) hb); have n2_ := Aside0.mk (Kd.R_lower ho16 (below_size (bw HB.out))); have n3_ := Aside0.mk (below_step (bw HB.out) hb); clear HO149; clear HO152; clear HB; have HO149 := n0_; have HO152 := n1_; have HO155 := n2_; have HB := n3_; clear n0_ n1_ n2_ n3_; clear hb ho16) | ((with_reducible refine gate_builtin (b := .append) (xs := #[.tmp 28, .tmp 29]) rfl ?_); (try (refine gate_guard (by rfl) ?_; dsimp only)); at_builtin; refine Kd.S_append (Kd.slice 3 (Kd.int .i64)) (w0 := w) w.heap.size rfl (.tmp 28) (.tmp 29) 89 22 (.slice none 0 0) 24 rfl Try.underlying89 info22 rfl (by decide) (by omega) (.slice none 0 0) ([] : List (List Int)) [] [.slice none 0 0] (fun k_ => some k_ ≠ (v148 : Value).ownBlock ∧ some k_ ≠ (v151 : Value).ownBlock) (fun _ => False) rfl rfl ?aP (fun _ hk => hk.elim) ?aF ?aO ?aB ?aS ?aL ?_; (case aP => exact ⟨_, rfl, Kd.R_nil _ _ _ _ _⟩); (case aB => exact (bw HB.out)); (case aF => exact (fun k_ hk => ⟨Kd.fresh' (Kd.R_lt (kr_ HO149.out)) k_ hk, Kd.fresh' (Kd.R_lt (kr_ HO152.out)) k_ hk⟩)); (case aO => exact ((Kd.S_nil _ _ _ _ _))); (case aS => exact (below_size (bw HB.out))); (case aL => have := LMc10.out; omega); intro v157 w17 ho hb hg hat; rw [← Ny156.out] at ho; have n0_ := Aside0.mk (Kd.R_grown (kr_ HO149.out) hg (fun _ _ => by simp [Value.ownBlock])); have n1_ := Aside0.mk (Kd.R_grown (kr_ HO152.out) hg (fun _ _ => by simp [Value.ownBlock])); have n2_ := Aside0.mk (Kd.R_grown (kr_ HO155.out) hg (fun _ _ => by simp [Value.ownBlock])); have n3_ := Aside0.mk (hb); have n4_ := Aside0.mk (ho); clear HO149; clear HO152; clear HO155; clear HB; have HO149 := n0_; have HO152 := n1_; have HO155 := n2_; have HB := n3_; have HO158 := n4_; clear n0_ n1_ n2_ n3_ n4_; clear ho hb hg hat))
       (try simp only [Act.put, List.setIfInBounds_toArray, List.set_cons_zero, List.set_cons_succ])
       go_loopg [6, 7, 8, 9, 33] kj1 (fun kq v6 v7 v8 v9 v33 w' => ∃ (x5_2 : List Int) (x6_2 : Int) (x7_2 : List Int) (x8_2 : List Bool) (x9_2 : List (List Int)) (x33_2 : Int), v6 = .int .i64 x6_2 ∧ v33 = .int .i64 x33_2 ∧ Aside0 (spec_l6Ends.l0 kq x5_2 x6_2 x7_2 x8_2 x9_2 l0 (l0.length : Int) x33_2 = some (r1, r2, r3)) ∧ Aside0 (kq ≤ kj1) ∧ Aside0 (Kd.R (Kd.int .i64) 3 w' w.heap.size (fun k_ => some k_ ≠ (v7 : Value).ownBlock) v148 x5_2) ∧ Aside0 (Kd.R (Kd.int .i64) 3 w' w.heap.size (fun k_ => some k_ ≠ (v148 : Value).ownBlock) v7 x7_2) ∧ Aside0 (Kd.R Kd.bool 4 w' w.heap.size (fun _ => True) v8 x8_2) ∧ Aside0 (Kd.S (Kd.slice 3 (Kd.int .i64)) 22 w' w.heap.size (fun k_ => some k_ ≠ (v148 : Value).ownBlock ∧ some k_ ≠ (v7 : Value).ownBlock) v9 x9_2) ∧ Aside0 (Below w.heap.size w w'))
       case atStart => exact ⟨(y147), (1), (y150), (y153), (y156), (0), (by first | rfl | (simp; done) | (simp [*]; done)), (by first | rfl | (simp; done) | (simp [*]; done)), H', ⟨Nat.le_refl _⟩, ⟨by (with_reducible repeat (first | apply Kd.R_alloc | apply Kd.R_drewN | apply Kd.R_drew)); exact Kd.R_mono HO149.out (fun _ hk => hk.2)⟩, ⟨by (with_reducible repeat (first | apply Kd.R_alloc | apply Kd.R_drewN | apply Kd.R_drew)); exact Kd.R_mono HO152.out (fun _ hk => hk.2)⟩, ⟨kr_ HO155.out⟩, ⟨ks_ HO158.out⟩, ⟨bw HB.out⟩⟩
       case round =>
        clear H'
        try clear c7
        try clear c8
        try clear c8b0
        try clear c8b1
        try clear c9
        try clear c9b0
        try clear c9b1
        try clear c10
        obtain ⟨x5_2, x6_2, x7_2, x8_2, x9_2, x33_2, rfl, rfl, HA, HK2, HO_5, HO_7, HO_8, HO_9, HB⟩ := hrel
        cases gk with
        | zero => exact absurd HA.out (by simp [spec_l6Ends.l0])
        | succ k2 =>
         have H := HA.out
         clear HA
         simp only [spec_l6Ends.l0] at H
         by_cases c18 : x33_2 < (l0.length : Int)
         ·
          rw [if_pos c18] at H
          have c18b0 : decide (x33_2 < (l0.length : Int)) = true := decide_eq_true c18
          clear c18
          by_cases c19 : 0 ≤ x33_2
          ·
           rw [if_pos c19] at H
           have c19b0 : decide (0 ≤ x33_2) = true := decide_eq_true c19
           clear c19
           by_cases c20 : x33_2 < (l0.length : Int)
           ·
            rw [if_pos c20] at H
            have c20b0 : decide (x33_2 < (l0.length : Int)) = true := decide_eq_true c20
            clear c20
            by_cases c21 : (wrap64 ((x7_2.length : Int) - 1)) < 0
            ·
             rw [if_pos c21] at H
             have c21b0 : decide ((wrap64 ((x7_2.length : Int) - 1)) < 0) = true := decide_eq_true c21
             clear c21
             simp only [Option.some.injEq, Prod.mk.injEq] at H
             obtain ⟨rfl, rfl, rfl⟩ := H
             have p159 : 0 ≤ (x33_2 : Int) := od_
             have q159 : x33_2 < (l0.length : Int) := od_
             obtain ⟨ad159, e159, hx159_0, hx159_1⟩ := at_T44 HR0.out x33_2 p159 q159
             cases e159
             replace hx159_0 := (HB.out.cell (World.block_lt_of_cell? w _ hx159_0)).trans hx159_0
             replace hx159_1 := (HB.out.cell (World.block_lt_of_cell? w _ hx159_1)).trans hx159_1
             replace p159 := eq_true p159
             replace q159 := eq_true q159
             go_wp2_with (first | ((with_reducible refine gate_dst (N := 11) rfl ?_); (try (refine gate_guard (by rfl) ?_; dsimp only)); refine box_event ?hg (N := 11) ?hd (cs := #[.int .i64 0, .int .i64 0]) (t := 44) ?hr ?_; (case hd => rfl); (case hg => rfl); (case hr => first | (go_simp; done) | (go_simp; rfl)); intro gb160 hg w22 hbox hb; have n0_ := Aside0.mk (Kd.R_below (kr_ HO_5.out) hb); have n1_ := Aside0.mk (Kd.R_below (kr_ HO_7.out) hb); have n2_ := Aside0.mk (Kd.R_below (kr_ HO_8.out) hb); have n3_ := Aside0.mk (Kd.S_below (ks_ HO_9.out) hb); have n4_ := Aside0.mk (below_step (bw HB.out) hb); have n5_ := Aside0.mk (hbox); have n6_ := Aside0.mk ((sz_ hg (bw HB.out) : w.heap.size ≤ gb160)); have n7_ := Aside0.mk ((sz_ hg (bw HB.out) : w.heap.size ≤ gb160)); clear HO_5; clear HO_7; clear HO_8; clear HO_9; clear HB; have HO_5 := n0_; have HO_7 := n1_; have HO_8 := n2_; have HO_9 := n3_; have HB := n4_; have BK160 := n5_; have GW160 := n6_; have GE160 := n7_; clear n0_ n1_ n2_ n3_ n4_ n5_ n6_ n7_; clear hb hbox hg; obtain ⟨hcz23_0, hcz23_1⟩ := cs2_ BK160.out; obtain ⟨hfz23_0, hfz23_1⟩ := fz2_ BK160.out; obtain ⟨Ao24, co24, eo24⟩ := Kd.R_slice HO_7.out; subst eo24))
             go_ret3
             exact ⟨_, rr_, by first | exact Kd.R_nil _ _ _ _ _ | exact Kd.N_nil _ _ _ _ _ | exact Kd.V_nil _ _ _ _ _ | exact Kd.Q_nil _ _ _ _ _ | exact Kd.S_nil _ _ _ _ _, bw HB.out⟩
            ·
             rw [if_neg c21] at H
             have c21b0 : decide ((wrap64 ((x7_2.length : Int) - 1)) < 0) = false := decide_eq_false c21
             clear c21
             have HC25 := Aside0.mk H
             clear H
             have p159 : 0 ≤ (x33_2 : Int) := od_
             have q159 : x33_2 < (l0.length : Int) := od_
             obtain ⟨ad159, e159, hx159_0, hx159_1⟩ := at_T44 HR0.out x33_2 p159 q159
             cases e159
             replace hx159_0 := (HB.out.cell (World.block_lt_of_cell? w _ hx159_0)).trans hx159_0
             replace hx159_1 := (HB.out.cell (World.block_lt_of_cell? w _ hx159_1)).trans hx159_1
             replace p159 := eq_true p159
             replace q159 := eq_true q159
             go_upto_block 2 with (first | ((with_reducible refine gate_dst (N := 11) rfl ?_); (try (refine gate_guard (by rfl) ?_; dsimp only)); refine box_event ?hg (N := 11) ?hd (cs := #[.int .i64 0, .int .i64 0]) (t := 44) ?hr ?_; (case hd => rfl); (case hg => rfl); (case hr => first | (go_simp; done) | (go_simp; rfl)); intro gb160 hg w26 hbox hb; have n0_ := Aside0.mk (Kd.R_below (kr_ HO_5.out) hb); have n1_ := Aside0.mk (Kd.R_below (kr_ HO_7.out) hb); have n2_ := Aside0.mk (Kd.R_below (kr_ HO_8.out) hb); have n3_ := Aside0.mk (Kd.S_below (ks_ HO_9.out) hb); have n4_ := Aside0.mk (below_step (bw HB.out) hb); have n5_ := Aside0.mk (hbox); have n6_ := Aside0.mk ((sz_ hg (bw HB.out) : w.heap.size ≤ gb160)); have n7_ := Aside0.mk ((sz_ hg (bw HB.out) : w.heap.size ≤ gb160)); clear HO_5; clear HO_7; clear HO_8; clear HO_9; clear HB; have HO_5 := n0_; have HO_7 := n1_; have HO_8 := n2_; have HO_9 := n3_; have HB := n4_; have BK160 := n5_; have GW160 := n6_; have GE160 := n7_; clear n0_ n1_ n2_ n3_ n4_ n5_ n6_ n7_; clear hb hbox hg; obtain ⟨hcz27_0, hcz27_1⟩ := cs2_ BK160.out; obtain ⟨hfz27_0, hfz27_1⟩ := fz2_ BK160.out; obtain ⟨Ao28, co28, eo28⟩ := Kd.R_slice HO_7.out; subst eo28))
             (try simp only [Act.put, List.setIfInBounds_toArray, List.set_cons_zero, List.set_cons_succ])
             go_cut [6, 7, 8, 9] (fun v6 v7 v8 v9 wc => ∃ (kq : Nat) (x6_24 : Int) (x7_24 : List Int) (x8_24 : List Bool) (x9_24 : List (List Int)), v6 = .int .i64 x6_24 ∧ Aside0 (spec_l6Ends.j3 kq x5_2 x6_24 x7_24 x8_24 x9_24 x33_2 (wrap64 ((x7_2.length : Int) - 1)) l0 (l0.length : Int) x33_2 ((rd_T44 l0 x33_2).f0) ((rd_T44 l0 x33_2).f1) = some (r1, r2, r3)) ∧ Aside0 (kq ≤ k2) ∧ Aside0 (Kd.R (Kd.int .i64) 3 wc w.heap.size (fun k_ => some k_ ≠ (v7 : Value).ownBlock) v148 x5_2) ∧ Aside0 (Kd.R (Kd.int .i64) 3 wc w.heap.size (fun k_ => some k_ ≠ (v148 : Value).ownBlock) v7 x7_24) ∧ Aside0 (Kd.R Kd.bool 4 wc w.heap.size (fun _ => True) v8 x8_24) ∧ Aside0 (Kd.S (Kd.slice 3 (Kd.int .i64)) 22 wc w.heap.size (fun k_ => some k_ ≠ (v148 : Value).ownBlock ∧ some k_ ≠ (v7 : Value).ownBlock) v9 x9_24) ∧ Aside0 (wc.heap[gb160]? = some (.cells #[.int .i64 ((rd_T44 l0 x33_2).f0), .int .i64 ((rd_T44 l0 x33_2).f1)] 44 (0, 0))) ∧ Aside0 (Below w.heap.size w wc))
             case first =>
              have H := HC25.out
              clear HC25
              have HC29 := Aside0.mk H
              clear H
              go_upto_if 45 with (fail)
              go_cut [45] (fun v45 wc => ∃ (kq : Nat) (x45_28 : Bool), v45 = .bool x45_28 ∧ Aside0 (spec_l6Ends.j2 kq x5_2 x6_2 x7_2 x8_2 x9_2 x33_2 (wrap64 ((x7_2.length : Int) - 1)) l0 (l0.length : Int) x33_2 ((rd_T44 l0 x33_2).f0) x45_28 ((rd_T44 l0 x33_2).f0) ((rd_T44 l0 x33_2).f1) = some (r1, r2, r3)) ∧ Aside0 (kq ≤ k2) ∧ Aside0 (Kd.R (Kd.int .i64) 3 wc w.heap.size (fun k_ => some k_ ≠ ((.slice Ao28 x7_2.length co28) : Value).ownBlock) v148 x5_2) ∧ Aside0 (Kd.R (Kd.int .i64) 3 wc w.heap.size (fun k_ => some k_ ≠ (v148 : Value).ownBlock) (.slice Ao28 x7_2.length co28) x7_2) ∧ Aside0 (Kd.R Kd.bool 4 wc w.heap.size (fun _ => True) u8 x8_2) ∧ Aside0 (Kd.S (Kd.slice 3 (Kd.int .i64)) 22 wc w.heap.size (fun k_ => some k_ ≠ (v148 : Value).ownBlock ∧ some k_ ≠ ((.slice Ao28 x7_2.length co28) : Value).ownBlock) u9 x9_2) ∧ Aside0 (wc.heap[gb160]? = some (.cells #[.int .i64 ((rd_T44 l0 x33_2).f0), .int .i64 ((rd_T44 l0 x33_2).f1)] 44 (0, 0))) ∧ Aside0 (Below w.heap.size w wc))
              case first =>
               have H := HC29.out
               clear HC29
               by_cases c30 : ((rd_T44 l0 x33_2).f0) = 2
               ·
                rw [if_pos c30] at H
                have c30b0 : (((rd_T44 l0 x33_2).f0) == 2) = true := beq_iff_eq.mpr c30
                have c30b1 : (((rd_T44 l0 x33_2).f0) != 2) = false := bne_eq_false_iff_eq.mpr c30
                clear c30
                (first | rw [c30b0] | (simp only [i64_w, i32_w]; rw [c30b0]) | skip)
                have H' := Aside0.mk H
                clear H
                go_wp2
                go_meet
                case rel => exact ⟨_, ((((rd_T44 l0 x33_2).f0) == 2)), (by first | rfl | (simp; done) | (simp [*]; done)), H', ⟨by have := HJ1.out; have := HK2.out; first | omega | exact Nat.le_refl _⟩, ⟨by (with_reducible repeat (first | apply Kd.R_alloc | apply Kd.R_drewN | apply Kd.R_drew)); exact Kd.R_mono (Kd.R_far (p := ⟨gb160, 1, none⟩) (Kd.R_far (p := ⟨gb160, 0, none⟩) (Kd.R_types HO_5.out BK160.out (by decide)) (fun _ hk => hk.2) (.int .i64 ((rd_T44 l0 x33_2).f0))) (fun _ hk => hk.2) (.int .i64 ((rd_T44 l0 x33_2).f1))) (fun _ hk => hk.1)⟩, ⟨by (with_reducible repeat (first | apply Kd.R_alloc | apply Kd.R_drewN | apply Kd.R_drew)); exact Kd.R_mono (Kd.R_far (p := ⟨gb160, 1, none⟩) (Kd.R_far (p := ⟨gb160, 0, none⟩) (Kd.R_types HO_7.out BK160.out (by decide)) (fun _ hk => hk.2) (.int .i64 ((rd_T44 l0 x33_2).f0))) (fun _ hk => hk.2) (.int .i64 ((rd_T44 l0 x33_2).f1))) (fun _ hk => hk.1)⟩, ⟨by (with_reducible repeat (first | apply Kd.R_alloc | apply Kd.R_drewN | apply Kd.R_drew)); exact Kd.R_mono (Kd.R_far (p := ⟨gb160, 1, none⟩) (Kd.R_far (p := ⟨gb160, 0, none⟩) (Kd.R_types HO_8.out BK160.out (by decide)) (fun _ hk => hk.2) (.int .i64 ((rd_T44 l0 x33_2).f0))) (fun _ hk => hk.2) (.int .i64 ((rd_T44 l0 x33_2).f1))) (fun _ hk => trivial)⟩, ⟨by (with_reducible repeat (first | apply Kd.S_alloc | apply Kd.S_drewN | apply Kd.S_drew)); exact Kd.S_mono (Kd.S_far (p := ⟨gb160, 1, none⟩) (Kd.S_far (p := ⟨gb160, 0, none⟩) (Kd.S_types HO_9.out BK160.out (by decide)) (fun _ hk => hk.2) (.int .i64 ((rd_T44 l0 x33_2).f0))) (fun _ hk => hk.2) (.int .i64 ((rd_T44 l0 x33_2).f1))) (fun _ hk => ⟨hk.1.1, hk.1.2⟩)⟩, ⟨by refine blk_put (cs := #[.int .i64 ((rd_T44 l0 x33_2).f0), .int .i64 0]) ?_ 1 _ rfl; refine blk_put (cs := #[.int .i64 0, .int .i64 0]) ?_ 0 _ rfl; (with_reducible repeat (first | refine blk_drewN ?_ _ | refine blk_drew ?_ | refine blk_alloc ?_ _)); exact BK160.out⟩, ⟨bw HB.out⟩⟩
               ·
                rw [if_neg c30] at H
                have c30b0 : (((rd_T44 l0 x33_2).f0) == 2) = false := beq_eq_false_iff_ne.mpr c30
                have c30b1 : (((rd_T44 l0 x33_2).f0) != 2) = true := bne_iff_ne.mpr c30
                (first | rw [c30b0] | (simp only [i64_w, i32_w]; rw [c30b0]) | skip)
                by_cases c31 : ((rd_T44 l0 x33_2).f0) = 3
                ·
                 rw [if_pos c31] at H
                 have c31b0 : (((rd_T44 l0 x33_2).f0) == 3) = true := beq_iff_eq.mpr c31
                 have c31b1 : (((rd_T44 l0 x33_2).f0) != 3) = false := bne_eq_false_iff_eq.mpr c31
                 clear c31
                 have H' := Aside0.mk H
                 clear H
                 go_wp2
                 go_meet
                 case rel => exact ⟨_, ((((rd_T44 l0 x33_2).f0) == 3)), (by first | rfl | (simp; done) | (simp [*]; done)), H', ⟨by have := HJ1.out; have := HK2.out; first | omega | exact Nat.le_refl _⟩, ⟨by (with_reducible repeat (first | apply Kd.R_alloc | apply Kd.R_drewN | apply Kd.R_drew)); exact Kd.R_mono (Kd.R_far (p := ⟨gb160, 1, none⟩) (Kd.R_far (p := ⟨gb160, 0, none⟩) (Kd.R_types HO_5.out BK160.out (by decide)) (fun _ hk => hk.2) (.int .i64 ((rd_T44 l0 x33_2).f0))) (fun _ hk => hk.2) (.int .i64 ((rd_T44 l0 x33_2).f1))) (fun _ hk => hk.1)⟩, ⟨by (with_reducible repeat (first | apply Kd.R_alloc | apply Kd.R_drewN | apply Kd.R_drew)); exact Kd.R_mono (Kd.R_far (p := ⟨gb160, 1, none⟩) (Kd.R_far (p := ⟨gb160, 0, none⟩) (Kd.R_types HO_7.out BK160.out (by decide)) (fun _ hk => hk.2) (.int .i64 ((rd_T44 l0 x33_2).f0))) (fun _ hk => hk.2) (.int .i64 ((rd_T44 l0 x33_2).f1))) (fun _ hk => hk.1)⟩, ⟨by (with_reducible repeat (first | apply Kd.R_alloc | apply Kd.R_drewN | apply Kd.R_drew)); exact Kd.R_mono (Kd.R_far (p := ⟨gb160, 1, none⟩) (Kd.R_far (p := ⟨gb160, 0, none⟩) (Kd.R_types HO_8.out BK160.out (by decide)) (fun _ hk => hk.2) (.int .i64 ((rd_T44 l0 x33_2).f0))) (fun _ hk => hk.2) (.int .i64 ((rd_T44 l0 x33_2).f1))) (fun _ hk => trivial)⟩, ⟨by (with_reducible repeat (first | apply Kd.S_alloc | apply Kd.S_drewN | apply Kd.S_drew)); exact Kd.S_mono (Kd.S_far (p := ⟨gb160, 1, none⟩) (Kd.S_far (p := ⟨gb160, 0, none⟩) (Kd.S_types HO_9.out BK160.out (by decide)) (fun _ hk => hk.2) (.int .i64 ((rd_T44 l0 x33_2).f0))) (fun _ hk => hk.2) (.int .i64 ((rd_T44 l0 x33_2).f1))) (fun _ hk => ⟨hk.1.1, hk.1.2⟩)⟩, ⟨by refine blk_put (cs := #[.int .i64 ((rd_T44 l0 x33_2).f0), .int .i64 0]) ?_ 1 _ rfl; refine blk_put (cs := #[.int .i64 0, .int .i64 0]) ?_ 0 _ rfl; (with_reducible repeat (first | refine blk_drewN ?_ _ | refine blk_drew ?_ | refine blk_alloc ?_ _)); exact BK160.out⟩, ⟨bw HB.out⟩⟩
                ·
                 rw [if_neg c31] at H
                 have c31b0 : (((rd_T44 l0 x33_2).f0) == 3) = false := beq_eq_false_iff_ne.mpr c31
                 have c31b1 : (((rd_T44 l0 x33_2).f0) != 3) = true := bne_iff_ne.mpr c31
                 have H' := Aside0.mk H
                 clear H
                 go_wp2
                 go_meet
                 case rel => exact ⟨_, ((((rd_T44 l0 x33_2).f0) == 4)), (by first | rfl | (simp; done) | (simp [*]; done)), H', ⟨by have := HJ1.out; have := HK2.out; first | omega | exact Nat.le_refl _⟩, ⟨by (with_reducible repeat (first | apply Kd.R_alloc | apply Kd.R_drewN | apply Kd.R_drew)); exact Kd.R_mono (Kd.R_far (p := ⟨gb160, 1, none⟩) (Kd.R_far (p := ⟨gb160, 0, none⟩) (Kd.R_types HO_5.out BK160.out (by decide)) (fun _ hk => hk.2) (.int .i64 ((rd_T44 l0 x33_2).f0))) (fun _ hk => hk.2) (.int .i64 ((rd_T44 l0 x33_2).f1))) (fun _ hk => hk.1)⟩, ⟨by (with_reducible repeat (first | apply Kd.R_alloc | apply Kd.R_drewN | apply Kd.R_drew)); exact Kd.R_mono (Kd.R_far (p := ⟨gb160, 1, none⟩) (Kd.R_far (p := ⟨gb160, 0, none⟩) (Kd.R_types HO_7.out BK160.out (by decide)) (fun _ hk => hk.2) (.int .i64 ((rd_T44 l0 x33_2).f0))) (fun _ hk => hk.2) (.int .i64 ((rd_T44 l0 x33_2).f1))) (fun _ hk => hk.1)⟩, ⟨by (with_reducible repeat (first | apply Kd.R_alloc | apply Kd.R_drewN | apply Kd.R_drew)); exact Kd.R_mono (Kd.R_far (p := ⟨gb160, 1, none⟩) (Kd.R_far (p := ⟨gb160, 0, none⟩) (Kd.R_types HO_8.out BK160.out (by decide)) (fun _ hk => hk.2) (.int .i64 ((rd_T44 l0 x33_2).f0))) (fun _ hk => hk.2) (.int .i64 ((rd_T44 l0 x33_2).f1))) (fun _ hk => trivial)⟩, ⟨by (with_reducible repeat (first | apply Kd.S_alloc | apply Kd.S_drewN | apply Kd.S_drew)); exact Kd.S_mono (Kd.S_far (p := ⟨gb160, 1, none⟩) (Kd.S_far (p := ⟨gb160, 0, none⟩) (Kd.S_types HO_9.out BK160.out (by decide)) (fun _ hk => hk.2) (.int .i64 ((rd_T44 l0 x33_2).f0))) (fun _ hk => hk.2) (.int .i64 ((rd_T44 l0 x33_2).f1))) (fun _ hk => ⟨hk.1.1, hk.1.2⟩)⟩, ⟨by refine blk_put (cs := #[.int .i64 ((rd_T44 l0 x33_2).f0), .int .i64 0]) ?_ 1 _ rfl; refine blk_put (cs := #[.int .i64 0, .int .i64 0]) ?_ 0 _ rfl; (with_reducible repeat (first | refine blk_drewN ?_ _ | refine blk_drew ?_ | refine blk_alloc ?_ _)); exact BK160.out⟩, ⟨bw HB.out⟩⟩
              case rest =>
               clear HC29
               try clear c7
               try clear c8
               try clear c8b0
               try clear c8b1
               try clear c9
               try clear c9b0
               try clear c9b1
               try clear c10
               try clear c18
               try clear c18b0
               try clear c19
               try clear c19b0
               try clear c20
               try clear c20b0
               try clear c21
               try clear c21b0
               try clear hcz27_0 hcz27_1
               try clear hfz27_0 hfz27_1
               try clear hx159_0
               try clear hx159_1
               try clear p159
               try clear q159
               obtain ⟨kq, x45_28, rfl, HA, HJ28, HO_5, HO_7, HO_8, HO_9, BK160, HB⟩ := hcut
               cases kq with
               | zero => exact absurd HA.out (by simp [spec_l6Ends.j2])
               | succ kj28 =>
                have H := HA.out
                clear HA
                simp only [spec_l6Ends.j2] at H
                by_cases c32 : x45_28 = true
                ·
                 subst c32
                 have H1 : (if x7_2.length < 17592186044416 then ((some (x7_2 ++ [x33_2] : List Int)).bind fun y161 => (if x8_2.length < 140737488355328 then ((some (x8_2 ++ [(((rd_T44 l0 x33_2).f0) != 4)] : List Bool)).bind fun y164 => (if x9_2.length < 5864062014805 then ((some (x9_2 ++ [(([x33_2] : List Int))] : List (List Int))).bind fun y170 => (if (y161.length : Int) > x6_2 then (spec_l6Ends.l0 kj28 x5_2 (y161.length : Int) y161 y164 y170 l0 (l0.length : Int) (wrap64 (x33_2 + 1))) else (spec_l6Ends.l0 kj28 x5_2 x6_2 y161 y164 y170 l0 (l0.length : Int) (wrap64 (x33_2 + 1))))) else (none))) else (none))) else (none)) = some (r1, r2, r3) := by rw [if_pos rfl] at H; exact H
                 clear H
                 have H := H1
                 clear H1
                 by_cases c33 : x7_2.length < 17592186044416
                 ·
                  rw [if_pos c33] at H
                  have LMc33 := Aside0.mk c33
                  clear c33
                  obtain ⟨y161, hy161⟩ : ∃ y_ : List Int, y_ = (x7_2 ++ [x33_2]) := ⟨_, rfl⟩
                  replace H : (if x8_2.length < 140737488355328 then ((some (x8_2 ++ [(((rd_T44 l0 x33_2).f0) != 4)] : List Bool)).bind fun y164 => (if x9_2.length < 5864062014805 then ((some (x9_2 ++ [(([x33_2] : List Int))] : List (List Int))).bind fun y170 => (if (y161.length : Int) > x6_2 then (spec_l6Ends.l0 kj28 x5_2 (y161.length : Int) y161 y164 y170 l0 (l0.length : Int) (wrap64 (x33_2 + 1))) else (spec_l6Ends.l0 kj28 x5_2 x6_2 y161 y164 y170 l0 (l0.length : Int) (wrap64 (x33_2 + 1))))) else (none))) else (none)) = some (r1, r2, r3) := by first | (rw [hy161]; with_reducible exact H) | (have H2_ := (Option.bind_some _ _).symm.trans H; rw [hy161]; with_reducible exact H2_) | (have H2_ := (Option.bind_some _ _).symm.trans H; with_reducible exact H2_) | with_reducible exact H | (rw [hy161]; exact H) | exact H
                  have Ny161 := Aside0.mk hy161
                  clear hy161
                  by_cases c34 : x8_2.length < 140737488355328
                  ·
                   rw [if_pos c34] at H
                   have LMc34 := Aside0.mk c34
                   clear c34
                   obtain ⟨y164, hy164⟩ : ∃ y_ : List Bool, y_ = (x8_2 ++ [(((rd_T44 l0 x33_2).f0) != 4)]) := ⟨_, rfl⟩
                   replace H : (if x9_2.length < 5864062014805 then ((some (x9_2 ++ [(([x33_2] : List Int))] : List (List Int))).bind fun y170 => (if (y161.length : Int) > x6_2 then (spec_l6Ends.l0 kj28 x5_2 (y161.length : Int) y161 y164 y170 l0 (l0.length : Int) (wrap64 (x33_2 + 1))) else (spec_l6Ends.l0 kj28 x5_2 x6_2 y161 y164 y170 l0 (l0.length : Int) (wrap64 (x33_2 + 1))))) else (none)) = some (r1, r2, r3) := by first | (rw [hy164]; with_reducible exact H) | (have H2_ := (Option.bind_some _ _).symm.trans H; rw [hy164]; with_reducible exact H2_) | (have H2_ := (Option.bind_some _ _).symm.trans H; with_reducible exact H2_) | with_reducible exact H | (rw [hy164]; exact H) | exact H
                   have Ny164 := Aside0.mk hy164
                   clear hy164
                   obtain ⟨y167, hy167⟩ : ∃ y_ : List Int, y_ = (([x33_2] : List Int)) := ⟨_, rfl⟩
                   replace H : (if x9_2.length < 5864062014805 then ((some (x9_2 ++ [y167] : List (List Int))).bind fun y170 => (if (y161.length : Int) > x6_2 then (spec_l6Ends.l0 kj28 x5_2 (y161.length : Int) y161 y164 y170 l0 (l0.length : Int) (wrap64 (x33_2 + 1))) else (spec_l6Ends.l0 kj28 x5_2 x6_2 y161 y164 y170 l0 (l0.length : Int) (wrap64 (x33_2 + 1))))) else (none)) = some (r1, r2, r3) := by first | (rw [hy167]; with_reducible exact H) | (have H2_ := (Option.bind_some _ _).symm.trans H; rw [hy167]; with_reducible exact H2_) | (have H2_ := (Option.bind_some _ _).symm.trans H; with_reducible exact H2_) | with_reducible exact H | (rw [hy167]; exact H) | exact H
                   have Ny167 := Aside0.mk hy167
                   clear hy167
                   by_cases c35 : x9_2.length < 5864062014805
                   ·
                    rw [if_pos c35] at H
                    have LMc35 := Aside0.mk c35
                    clear c35
                    obtain ⟨y170, hy170⟩ : ∃ y_ : List (List Int), y_ = (x9_2 ++ [y167]) := ⟨_, rfl⟩
                    replace H : (if (y161.length : Int) > x6_2 then (spec_l6Ends.l0 kj28 x5_2 (y161.length : Int) y161 y164 y170 l0 (l0.length : Int) (wrap64 (x33_2 + 1))) else (spec_l6Ends.l0 kj28 x5_2 x6_2 y161 y164 y170 l0 (l0.length : Int) (wrap64 (x33_2 + 1)))) = some (r1, r2, r3) := by first | (rw [hy170]; with_reducible exact H) | (have H2_ := (Option.bind_some _ _).symm.trans H; rw [hy170]; with_reducible exact H2_) | (have H2_ := (Option.bind_some _ _).symm.trans H; with_reducible exact H2_) | with_reducible exact H | (rw [hy170]; exact H) | exact H
                    have Ny170 := Aside0.mk hy170
                    clear hy170
                    by_cases c36 : (y161.length : Int) > x6_2
                    ·
                     rw [if_pos c36] at H
                     have c36b0 : decide (x6_2 < (y161.length : Int)) = true := decide_eq_true c36
                     clear c36
                     have H' := Aside0.mk H
                     clear H
                     go_wp2_with (first | ((with_reducible refine gate_builtin (b := .append) (xs := #[.tmp 49, .tmp 51]) rfl ?_); (try (refine gate_guard (by rfl) ?_; dsimp only)); at_builtin; refine Kd.R_append (Kd.int .i64) (w0 := w) w.heap.size rfl (.tmp 49) (.tmp 51) 22 3 (.int .i64 0) 8 rfl Try.underlying22 info3 rfl (by decide) (by omega) (.slice Ao28 x7_2.length co28) x7_2 x33_2 [.int .i64 x33_2] (fun k_ => some k_ ≠ (v148 : Value).ownBlock) (fun _ => False) rfl rfl ?aP (fun _ hk => hk.elim) ?aF ?aO ?aB ?aS ?aL ?_; (case aP => exact rfl); (case aB => exact (bw HB.out)); (case aF => exact (fun k_ hk => Kd.fresh' (Kd.R_lt (kr_ HO_5.out)) k_ hk)); (case aO => exact (kr_ HO_7.out)); (case aS => exact (below_size (bw HB.out))); (case aL => have := LMc33.out; omega); intro v162 w37 ho hb hg hat; rw [← Ny161.out] at ho; have n0_ := Aside0.mk (Kd.R_after (ok := (fun _ => True)) (by (with_reducible repeat (first | apply Kd.R_alloc | apply Kd.R_drewN | apply Kd.R_drew)); exact Kd.R_mono HO_5.out (fun _ hk => ⟨trivial, hk⟩)) hg hat); have n1_ := Aside0.mk (Kd.R_over' (kr_ HO_8.out) (Kd.R_typed (kr_ HO_7.out)) (by decide) hg); have n2_ := Aside0.mk (Kd.S_after (ok := (fun k_ => some k_ ≠ (v148 : Value).ownBlock)) (ks_ HO_9.out) hg hat); have n3_ := Aside0.mk (blk_grown (g := gb160) (o := .cells #[.int .i64 ((rd_T44 l0 x33_2).f0), .int .i64 ((rd_T44 l0 x33_2).f1)] 44 (0, 0)) (bk BK160.out) hg (Kd.R_ne HO_7.out BK160.out (by decide))); have n4_ := Aside0.mk (hb); have n5_ := Aside0.mk (ho); clear HO_5; clear HO_8; clear HO_9; clear BK160; clear HB; clear HO_7; have HO_5 := n0_; have HO_8 := n1_; have HO_9 := n2_; have BK160 := n3_; have HB := n4_; have HO163 := n5_; clear n0_ n1_ n2_ n3_ n4_ n5_; clear ho hb hg hat; obtain ⟨hcz38_0, hcz38_1⟩ := cs2_ BK160.out; obtain ⟨hfz38_0, hfz38_1⟩ := fz2_ BK160.out) | ((with_reducible refine gate_builtin (b := .append) (xs := #[.tmp 53, .tmp 57]) rfl ?_); (try (refine gate_guard (by rfl) ?_; dsimp only)); at_builtin; refine Kd.R_append Kd.bool (w0 := w) w.heap.size rfl (.tmp 53) (.tmp 57) 88 4 (.bool false) 1 rfl Try.underlying88 info4 rfl (by decide) (by omega) u8 x8_2 (((rd_T44 l0 x33_2).f0) != 4) [.bool (((rd_T44 l0 x33_2).f0) != 4)] (fun _ => True) (fun _ => False) rfl rfl ?aP (fun _ hk => hk.elim) ?aF ?aO ?aB ?aS ?aL ?_; (case aP => exact rfl); (case aB => exact (bw HB.out)); (case aF => exact (fun _ _ => trivial)); (case aO => exact (kr_ HO_8.out)); (case aS => exact (below_size (bw HB.out))); (case aL => have := LMc34.out; omega); intro v165 w39 ho hb hg hat; rw [← Ny164.out] at ho; have n0_ := Aside0.mk (Kd.R_over' (kr_ HO_5.out) (Kd.R_typed (kr_ HO_8.out)) (by decide) hg); have n1_ := Aside0.mk (Kd.S_over' (ks_ HO_9.out) (Kd.R_typed (kr_ HO_8.out)) (by decide) hg); have n2_ := Aside0.mk (blk_grown (g := gb160) (o := .cells #[.int .i64 ((rd_T44 l0 x33_2).f0), .int .i64 ((rd_T44 l0 x33_2).f1)] 44 (0, 0)) (bk BK160.out) hg (Kd.R_ne HO_8.out BK160.out (by decide))); have n3_ := Aside0.mk (Kd.R_over' (kr_ HO163.out) (Kd.R_typed (kr_ HO_8.out)) (by decide) hg); have n4_ := Aside0.mk (hb); have n5_ := Aside0.mk (ho); clear HO_5; clear HO_9; clear BK160; clear HO163; clear HB; clear HO_8; have HO_5 := n0_; have HO_9 := n1_; have BK160 := n2_; have HO163 := n3_; have HB := n4_; have HO166 := n5_; clear n0_ n1_ n2_ n3_ n4_ n5_; clear ho hb hg hat) | ((with_reducible refine gate_dst (N := 61) rfl ?_); (try (refine gate_guard (by rfl) ?_; dsimp only)); refine Kd.R_lit (Kd.int .i64) _ 3 ?hg (N := 61) ?hd (xs := ([x33_2] : List Int)) (inner := [.int .i64 x33_2]) (ok := fun _ => True) (okp := fun _ => True) ?hr ?hp (fun _ hk => hk) trivial (Below.refl _ _) (Nat.le_refl _) (by simp) ?_; (case hd => rfl); (case hg => rfl); (case hr => first | (go_simp; done) | (go_simp; rfl)); (case hp => exact (Reps.one (show Kd.M (Kd.int .i64) _ _ _ x33_2 [.int .i64 x33_2] from rfl) (Reps.none _ _))); intro v168 w40 ho41 hb hg_ hnew_; clear hg_ hnew_; (first | rw [← Ny167.out] at ho41 | (simp only [Int.reduceToNat] at ho41; rw [← Ny167.out] at ho41)); have n0_ := Aside0.mk (Kd.R_elder' (kr_ HO_5.out) (Kd.R_base ho41) hb); have n1_ := Aside0.mk (Kd.S_elder' (ks_ HO_9.out) (Kd.R_base ho41) hb); have n2_ := Aside0.mk (Kd.R_elder' (kr_ HO163.out) (Kd.R_base ho41) hb); have n3_ := Aside0.mk (Kd.R_below (kr_ HO166.out) hb); have n4_ := Aside0.mk (Kd.R_lower (Kd.R_new' (Kd.R_new' ho41 (Kd.R_lt (kr_ HO_5.out))) (Kd.R_lt (kr_ HO163.out))) (below_size (bw HB.out))); have n5_ := Aside0.mk (blk_below (g := gb160) (o := .cells #[.int .i64 ((rd_T44 l0 x33_2).f0), .int .i64 ((rd_T44 l0 x33_2).f1)] 44 (0, 0)) (bk BK160.out) hb); have n6_ := Aside0.mk (below_step (bw HB.out) hb); clear HO_5; clear HO_9; clear HO163; clear HO166; clear BK160; clear HB; have HO_5 := n0_; have HO_9 := n1_; have HO163 := n2_; have HO166 := n3_; have HO169 := n4_; have BK160 := n5_; have HB := n6_; clear n0_ n1_ n2_ n3_ n4_ n5_ n6_; clear hb ho41; obtain ⟨Ao43, co43, eo43⟩ := Kd.R_slice HO169.out; subst eo43) | ((with_reducible refine gate_builtin (b := .append) (xs := #[.tmp 59, .tmp 62]) rfl ?_); (try (refine gate_guard (by rfl) ?_; dsimp only)); at_builtin; refine Kd.S_append (Kd.slice 3 (Kd.int .i64)) (w0 := w) w.heap.size rfl (.tmp 59) (.tmp 62) 89 22 (.slice none 0 0) 24 rfl Try.underlying89 info22 rfl (by decide) (by omega) u9 x9_2 y167 [.slice Ao43 y167.length co43] (fun k_ => some k_ ≠ (v148 : Value).ownBlock ∧ some k_ ≠ (v162 : Value).ownBlock) (fun k_ => some k_ = (.slice Ao43 y167.length co43 : Value).ownBlock) rfl rfl ?aP (fun k_ hk_ => ((Kd.R_mono (ok' := fun k_ => ((fun k_ => some k_ ≠ (v148 : Value).ownBlock ∧ some k_ ≠ (v162 : Value).ownBlock)) k_ ∧ some k_ ≠ (u9 : Value).ownBlock) (Kd.R_apart' (HO169.out) (Kd.S_typed HO_9.out) (by decide)) (fun k_ hk => ⟨⟨hk.1.1.2, hk.1.2⟩, hk.2⟩))).1 k_ hk_.symm) ?aF ?aO ?aB ?aS ?aL ?_; (case aP => exact Kd.M_row (Kd.R_mono (Kd.R_tight rfl (Kd.R_mono (ok' := fun k_ => ((fun k_ => some k_ ≠ (v148 : Value).ownBlock ∧ some k_ ≠ (v162 : Value).ownBlock)) k_ ∧ some k_ ≠ (u9 : Value).ownBlock) (Kd.R_apart' (HO169.out) (Kd.S_typed HO_9.out) (by decide)) (fun k_ hk => ⟨⟨hk.1.1.2, hk.1.2⟩, hk.2⟩))) (fun _ h_ => h_))); (case aB => exact (bw HB.out)); (case aF => exact (fun k_ hk => ⟨Kd.fresh' (Kd.R_lt (kr_ HO_5.out)) k_ hk, Kd.fresh' (Kd.R_lt (kr_ HO163.out)) k_ hk⟩)); (case aO => exact (by (with_reducible repeat (first | apply Kd.S_alloc | apply Kd.S_drewN | apply Kd.S_drew)); exact Kd.S_mono HO_9.out (fun k_ hk => ⟨⟨hk.1.1, hk.1.2⟩, fun e_ => hk.2 e_⟩))); (case aS => exact (below_size (bw HB.out))); (case aL => have := LMc35.out; omega); intro v171 w42 ho hb hg hat; rw [← Ny170.out] at ho; have n0_ := Aside0.mk (Kd.R_over' (kr_ HO_5.out) (Kd.S_typed (ks_ HO_9.out)) (by decide) hg); have n1_ := Aside0.mk (blk_grown (g := gb160) (o := .cells #[.int .i64 ((rd_T44 l0 x33_2).f0), .int .i64 ((rd_T44 l0 x33_2).f1)] 44 (0, 0)) (bk BK160.out) hg (Kd.S_ne HO_9.out BK160.out (by decide))); have n2_ := Aside0.mk (Kd.R_over' (kr_ HO163.out) (Kd.S_typed (ks_ HO_9.out)) (by decide) hg); have n3_ := Aside0.mk (Kd.R_over' (kr_ HO166.out) (Kd.S_typed (ks_ HO_9.out)) (by decide) hg); have n4_ := Aside0.mk (hb); have n5_ := Aside0.mk (ho); clear HO_5; clear BK160; clear HO163; clear HO166; clear HB; clear HO_9; clear HO169; have HO_5 := n0_; have BK160 := n1_; have HO163 := n2_; have HO166 := n3_; have HB := n4_; have HO172 := n5_; clear n0_ n1_ n2_ n3_ n4_ n5_; clear ho hb hg hat; obtain ⟨Ao44, co44, eo44⟩ := Kd.R_slice HO163.out; subst eo44))
                     go_roundg kj28
                     case measure => have := HJ1.out; have := HK2.out; have := HJ28.out; omega
                     case rel => exact ⟨(x5_2), ((y161.length : Int)), (y161), (y164), (y170), (wrap64 (x33_2 + 1)), (by first | rfl | (simp; done) | (simp [*]; done)), (by first | rfl | (simp; done) | (simp [*]; done)), H', ⟨by have := HJ1.out; have := HK2.out; have := HJ28.out; omega⟩, ⟨by (with_reducible repeat (first | apply Kd.R_alloc | apply Kd.R_drewN | apply Kd.R_drew)); exact Kd.R_mono HO_5.out (fun _ hk => hk.1.2)⟩, ⟨by (with_reducible repeat (first | apply Kd.R_alloc | apply Kd.R_drewN | apply Kd.R_drew)); exact Kd.R_mono HO163.out (fun _ hk => hk.1)⟩, ⟨kr_ HO166.out⟩, ⟨ks_ HO172.out⟩, ⟨bw HB.out⟩⟩
                    ·
                     rw [if_neg c36] at H
                     have c36b0 : decide (x6_2 < (y161.length : Int)) = false := decide_eq_false c36
                     clear c36
                     have H' := Aside0.mk H
                     clear H
                     go_wp2_with (first | ((with_reducible refine gate_builtin (b := .append) (xs := #[.tmp 49, .tmp 51]) rfl ?_); (try (refine gate_guard (by rfl) ?_; dsimp only)); at_builtin; refine Kd.R_append (Kd.int .i64) (w0 := w) w.heap.size rfl (.tmp 49) (.tmp 51) 22 3 (.int .i64 0) 8 rfl Try.underlying22 info3 rfl (by decide) (by omega) (.slice Ao28 x7_2.length co28) x7_2 x33_2 [.int .i64 x33_2] (fun k_ => some k_ ≠ (v148 : Value).ownBlock) (fun _ => False) rfl rfl ?aP (fun _ hk => hk.elim) ?aF ?aO ?aB ?aS ?aL ?_; (case aP => exact rfl); (case aB => exact (bw HB.out)); (case aF => exact (fun k_ hk => Kd.fresh' (Kd.R_lt (kr_ HO_5.out)) k_ hk)); (case aO => exact (kr_ HO_7.out)); (case aS => exact (below_size (bw HB.out))); (case aL => have := LMc33.out; omega); intro v162 w45 ho hb hg hat; rw [← Ny161.out] at ho; have n0_ := Aside0.mk (Kd.R_after (ok := (fun _ => True)) (by (with_reducible repeat (first | apply Kd.R_alloc | apply Kd.R_drewN | apply Kd.R_drew)); exact Kd.R_mono HO_5.out (fun _ hk => ⟨trivial, hk⟩)) hg hat); have n1_ := Aside0.mk (Kd.R_over' (kr_ HO_8.out) (Kd.R_typed (kr_ HO_7.out)) (by decide) hg); have n2_ := Aside0.mk (Kd.S_after (ok := (fun k_ => some k_ ≠ (v148 : Value).ownBlock)) (ks_ HO_9.out) hg hat); have n3_ := Aside0.mk (blk_grown (g := gb160) (o := .cells #[.int .i64 ((rd_T44 l0 x33_2).f0), .int .i64 ((rd_T44 l0 x33_2).f1)] 44 (0, 0)) (bk BK160.out) hg (Kd.R_ne HO_7.out BK160.out (by decide))); have n4_ := Aside0.mk (hb); have n5_ := Aside0.mk (ho); clear HO_5; clear HO_8; clear HO_9; clear BK160; clear HB; clear HO_7; have HO_5 := n0_; have HO_8 := n1_; have HO_9 := n2_; have BK160 := n3_; have HB := n4_; have HO163 := n5_; clear n0_ n1_ n2_ n3_ n4_ n5_; clear ho hb hg hat; obtain ⟨hcz46_0, hcz46_1⟩ := cs2_ BK160.out; obtain ⟨hfz46_0, hfz46_1⟩ := fz2_ BK160.out) | ((with_reducible refine gate_builtin (b := .append) (xs := #[.tmp 53, .tmp 57]) rfl ?_); (try (refine gate_guard (by rfl) ?_; dsimp only)); at_builtin; refine Kd.R_append Kd.bool (w0 := w) w.heap.size rfl (.tmp 53) (.tmp 57) 88 4 (.bool false) 1 rfl Try.underlying88 info4 rfl (by decide) (by omega) u8 x8_2 (((rd_T44 l0 x33_2).f0) != 4) [.bool (((rd_T44 l0 x33_2).f0) != 4)] (fun _ => True) (fun _ => False) rfl rfl ?aP (fun _ hk => hk.elim) ?aF ?aO ?aB ?aS ?aL ?_; (case aP => exact rfl); (case aB => exact (bw HB.out)); (case aF => exact (fun _ _ => trivial)); (case aO => exact (kr_ HO_8.out)); (case aS => exact (below_size (bw HB.out))); (case aL => have := LMc34.out; omega); intro v165 w47 ho hb hg hat; rw [← Ny164.out] at ho; have n0_ := Aside0.mk (Kd.R_over' (kr_ HO_5.out) (Kd.R_typed (kr_ HO_8.out)) (by decide) hg); have n1_ := Aside0.mk (Kd.S_over' (ks_ HO_9.out) (Kd.R_typed (kr_ HO_8.out)) (by decide) hg); have n2_ := Aside0.mk (blk_grown (g := gb160) (o := .cells #[.int .i64 ((rd_T44 l0 x33_2).f0), .int .i64 ((rd_T44 l0 x33_2).f1)] 44 (0, 0)) (bk BK160.out) hg (Kd.R_ne HO_8.out BK160.out (by decide))); have n3_ := Aside0.mk (Kd.R_over' (kr_ HO163.out) (Kd.R_typed (kr_ HO_8.out)) (by decide) hg); have n4_ := Aside0.mk (hb); have n5_ := Aside0.mk (ho); clear HO_5; clear HO_9; clear BK160; clear HO163; clear HB; clear HO_8; have HO_5 := n0_; have HO_9 := n1_; have BK160 := n2_; have HO163 := n3_; have HB := n4_; have HO166 := n5_; clear n0_ n1_ n2_ n3_ n4_ n5_; clear ho hb hg hat) | ((with_reducible refine gate_dst (N := 61) rfl ?_); (try (refine gate_guard (by rfl) ?_; dsimp only)); refine Kd.R_lit (Kd.int .i64) _ 3 ?hg (N := 61) ?hd (xs := ([x33_2] : List Int)) (inner := [.int .i64 x33_2]) (ok := fun _ => True) (okp := fun _ => True) ?hr ?hp (fun _ hk => hk) trivial (Below.refl _ _) (Nat.le_refl _) (by simp) ?_; (case hd => rfl); (case hg => rfl); (case hr => first | (go_simp; done) | (go_simp; rfl)); (case hp => exact (Reps.one (show Kd.M (Kd.int .i64) _ _ _ x33_2 [.int .i64 x33_2] from rfl) (Reps.none _ _))); intro v168 w48 ho49 hb hg_ hnew_; clear hg_ hnew_; (first | rw [← Ny167.out] at ho49 | (simp only [Int.reduceToNat] at ho49; rw [← Ny167.out] at ho49)); have n0_ := Aside0.mk (Kd.R_elder' (kr_ HO_5.out) (Kd.R_base ho49) hb); have n1_ := Aside0.mk (Kd.S_elder' (ks_ HO_9.out) (Kd.R_base ho49) hb); have n2_ := Aside0.mk (Kd.R_elder' (kr_ HO163.out) (Kd.R_base ho49) hb); have n3_ := Aside0.mk (Kd.R_below (kr_ HO166.out) hb); have n4_ := Aside0.mk (Kd.R_lower (Kd.R_new' (Kd.R_new' ho49 (Kd.R_lt (kr_ HO_5.out))) (Kd.R_lt (kr_ HO163.out))) (below_size (bw HB.out))); have n5_ := Aside0.mk (blk_below (g := gb160) (o := .cells #[.int .i64 ((rd_T44 l0 x33_2).f0), .int .i64 ((rd_T44 l0 x33_2).f1)] 44 (0, 0)) (bk BK160.out) hb); have n6_ := Aside0.mk (below_step (bw HB.out) hb); clear HO_5; clear HO_9; clear HO163; clear HO166; clear BK160; clear HB; have HO_5 := n0_; have HO_9 := n1_; have HO163 := n2_; have HO166 := n3_; have HO169 := n4_; have BK160 := n5_; have HB := n6_; clear n0_ n1_ n2_ n3_ n4_ n5_ n6_; clear hb ho49; obtain ⟨Ao51, co51, eo51⟩ := Kd.R_slice HO169.out; subst eo51) | ((with_reducible refine gate_builtin (b := .append) (xs := #[.tmp 59, .tmp 62]) rfl ?_); (try (refine gate_guard (by rfl) ?_; dsimp only)); at_builtin; refine Kd.S_append (Kd.slice 3 (Kd.int .i64)) (w0 := w) w.heap.size rfl (.tmp 59) (.tmp 62) 89 22 (.slice none 0 0) 24 rfl Try.underlying89 info22 rfl (by decide) (by omega) u9 x9_2 y167 [.slice Ao51 y167.length co51] (fun k_ => some k_ ≠ (v148 : Value).ownBlock ∧ some k_ ≠ (v162 : Value).ownBlock) (fun k_ => some k_ = (.slice Ao51 y167.length co51 : Value).ownBlock) rfl rfl ?aP (fun k_ hk_ => ((Kd.R_mono (ok' := fun k_ => ((fun k_ => some k_ ≠ (v148 : Value).ownBlock ∧ some k_ ≠ (v162 : Value).ownBlock)) k_ ∧ some k_ ≠ (u9 : Value).ownBlock) (Kd.R_apart' (HO169.out) (Kd.S_typed HO_9.out) (by decide)) (fun k_ hk => ⟨⟨hk.1.1.2, hk.1.2⟩, hk.2⟩))).1 k_ hk_.symm) ?aF ?aO ?aB ?aS ?aL ?_; (case aP => exact Kd.M_row (Kd.R_mono (Kd.R_tight rfl (Kd.R_mono (ok' := fun k_ => ((fun k_ => some k_ ≠ (v148 : Value).ownBlock ∧ some k_ ≠ (v162 : Value).ownBlock)) k_ ∧ some k_ ≠ (u9 : Value).ownBlock) (Kd.R_apart' (HO169.out) (Kd.S_typed HO_9.out) (by decide)) (fun k_ hk => ⟨⟨hk.1.1.2, hk.1.2⟩, hk.2⟩))) (fun _ h_ => h_))); (case aB => exact (bw HB.out)); (case aF => exact (fun k_ hk => ⟨Kd.fresh' (Kd.R_lt (kr_ HO_5.out)) k_ hk, Kd.fresh' (Kd.R_lt (kr_ HO163.out)) k_ hk⟩)); (case aO => exact (by (with_reducible repeat (first | apply Kd.S_alloc | apply Kd.S_drewN | apply Kd.S_drew)); exact Kd.S_mono HO_9.out (fun k_ hk => ⟨⟨hk.1.1, hk.1.2⟩, fun e_ => hk.2 e_⟩))); (case aS => exact (below_size (bw HB.out))); (case aL => have := LMc35.out; omega); intro v171 w50 ho hb hg hat; rw [← Ny170.out] at ho; have n0_ := Aside0.mk (Kd.R_over' (kr_ HO_5.out) (Kd.S_typed (ks_ HO_9.out)) (by decide) hg); have n1_ := Aside0.mk (blk_grown (g := gb160) (o := .cells #[.int .i64 ((rd_T44 l0 x33_2).f0), .int .i64 ((rd_T44 l0 x33_2).f1)] 44 (0, 0)) (bk BK160.out) hg (Kd.S_ne HO_9.out BK160.out (by decide))); have n2_ := Aside0.mk (Kd.R_over' (kr_ HO163.out) (Kd.S_typed (ks_ HO_9.out)) (by decide) hg); have n3_ := Aside0.mk (Kd.R_over' (kr_ HO166.out) (Kd.S_typed (ks_ HO_9.out)) (by decide) hg); have n4_ := Aside0.mk (hb); have n5_ := Aside0.mk (ho); clear HO_5; clear BK160; clear HO163; clear HO166; clear HB; clear HO_9; clear HO169; have HO_5 := n0_; have BK160 := n1_; have HO163 := n2_; have HO166 := n3_; have HB := n4_; have HO172 := n5_; clear n0_ n1_ n2_ n3_ n4_ n5_; clear ho hb hg hat; obtain ⟨Ao52, co52, eo52⟩ := Kd.R_slice HO163.out; subst eo52))
                     go_roundg kj28
                     case measure => have := HJ1.out; have := HK2.out; have := HJ28.out; omega
                     case rel => exact ⟨(x5_2), (x6_2), (y161), (y164), (y170), (wrap64 (x33_2 + 1)), (by first | rfl | (simp; done) | (simp [*]; done)), (by first | rfl | (simp; done) | (simp [*]; done)), H', ⟨by have := HJ1.out; have := HK2.out; have := HJ28.out; omega⟩, ⟨by (with_reducible repeat (first | apply Kd.R_alloc | apply Kd.R_drewN | apply Kd.R_drew)); exact Kd.R_mono HO_5.out (fun _ hk => hk.1.2)⟩, ⟨by (with_reducible repeat (first | apply Kd.R_alloc | apply Kd.R_drewN | apply Kd.R_drew)); exact Kd.R_mono HO163.out (fun _ hk => hk.1)⟩, ⟨kr_ HO166.out⟩, ⟨ks_ HO172.out⟩, ⟨bw HB.out⟩⟩
                   ·
                    rw [if_neg c35] at H
                    exact absurd H (by simp)
                  ·
                   rw [if_neg c34] at H
                   exact absurd H (by simp)
                 ·
                  rw [if_neg c33] at H
                  exact absurd H (by simp)
                ·
                 replace c32 := Bool.eq_false_iff.mpr c32
                 subst c32
                 have H1 : (if ((rd_T44 l0 x33_2).f0) = 5 then (if 0 ≤ (wrap64 ((x7_2.length : Int) - 1)) then (if (wrap64 ((x7_2.length : Int) - 1)) < (x8_2.length : Int) then (if rdOf false x8_2 (wrap64 ((x7_2.length : Int) - 1)) = true then (some (([] : List Int), 0, false)) else (spec_l6Ends.j3 kj28 x5_2 x6_2 x7_2 (x8_2.set ((wrap64 ((x7_2.length : Int) - 1)) : Int).toNat true) x9_2 x33_2 (wrap64 ((x7_2.length : Int) - 1)) l0 (l0.length : Int) x33_2 ((rd_T44 l0 x33_2).f0) ((rd_T44 l0 x33_2).f1))) else (none)) else (none)) else (spec_l6Ends.j3 kj28 x5_2 x6_2 x7_2 x8_2 x9_2 x33_2 (wrap64 ((x7_2.length : Int) - 1)) l0 (l0.length : Int) x33_2 ((rd_T44 l0 x33_2).f0) ((rd_T44 l0 x33_2).f1))) = some (r1, r2, r3) := by rw [if_neg (show ¬ (false = true) by decide)] at H; exact H
                 clear H
                 have H := H1
                 clear H1
                 by_cases c53 : ((rd_T44 l0 x33_2).f0) = 5
                 ·
                  rw [if_pos c53] at H
                  have c53b0 : (((rd_T44 l0 x33_2).f0) == 5) = true := beq_iff_eq.mpr c53
                  have c53b1 : (((rd_T44 l0 x33_2).f0) != 5) = false := bne_eq_false_iff_eq.mpr c53
                  clear c53
                  obtain ⟨ji54, hji54⟩ : ∃ j_ : Int, (wrap64 ((x7_2.length : Int) - 1)) = j_ := ⟨_, rfl⟩
                  replace H : (if 0 ≤ (ji54) then (if (ji54) < (x8_2.length : Int) then (if rdOf false x8_2 (ji54) = true then (some (([] : List Int), 0, false)) else (spec_l6Ends.j3 kj28 x5_2 x6_2 x7_2 (x8_2.set ((ji54) : Int).toNat true) x9_2 x33_2 (ji54) l0 (l0.length : Int) x33_2 ((rd_T44 l0 x33_2).f0) ((rd_T44 l0 x33_2).f1))) else (none)) else (none)) = some (r1, r2, r3) := by first | (rw [hji54] at H; exact H) | (simp only [hji54] at H ⊢; exact H)
                  (try rw [hji54] at c21b0)
                  have hji54w : (IntKind.i64.wrap ((x7_2.length : Int) - 1)) = ji54 := (i64_w _).trans hji54
                  by_cases c55 : 0 ≤ (ji54)
                  ·
                   rw [if_pos c55] at H
                   have c55b0 : decide (0 ≤ (ji54)) = true := decide_eq_true c55
                   clear c55
                   by_cases c56 : (ji54) < (x8_2.length : Int)
                   ·
                    rw [if_pos c56] at H
                    have c56b0 : decide ((ji54) < (x8_2.length : Int)) = true := decide_eq_true c56
                    clear c56
                    obtain ⟨bq57, hbq57⟩ : ∃ b_ : Bool, b_ = (rdOf false x8_2 (ji54)) := ⟨_, rfl⟩
                    replace H : (if bq57 = true then (some (([] : List Int), 0, false)) else (spec_l6Ends.j3 kj28 x5_2 x6_2 x7_2 (x8_2.set ((ji54) : Int).toNat true) x9_2 x33_2 (ji54) l0 (l0.length : Int) x33_2 ((rd_T44 l0 x33_2).f0) ((rd_T44 l0 x33_2).f1))) = some (r1, r2, r3) := by rw [← hbq57] at H; exact H
                    have Nbq57 := Aside0.mk hbq57
                    clear hbq57
                    by_cases c58 : bq57 = true
                    ·
                     subst c58
                     have H1 : (some (([] : List Int), 0, false)) = some (r1, r2, r3) := by rw [if_pos rfl] at H; exact H
                     clear H
                     have H := H1
                     clear H1
                     simp only [Option.some.injEq, Prod.mk.injEq] at H
                     obtain ⟨rfl, rfl, rfl⟩ := H
                     obtain ⟨Ao59, co59, eo59⟩ := Kd.R_slice HO_8.out
                     subst eo59
                     have p173 : 0 ≤ ((ji54) : Int) := od_
                     have q173 : (ji54) < (x8_2.length : Int) := od_
                     obtain ⟨ad173, e173, hx173_0⟩ := Kd.at_bool (Kd.R_reads' HO_8.out).2.2 (ji54) p173 q173
                     (try rw [← Nbq57.out] at hx173_0)
                     cases e173
                     replace p173 := eq_true p173
                     replace q173 := eq_true q173
                     go_wp2
                     go_ret3
                     exact ⟨_, by first | rfl | (simp [errW_none, errW_some] <;> rfl) | (simp only [← hji54]; first | rfl | (simp [errW_none, errW_some] <;> rfl)) | (simp [*, errW_none, errW_some] <;> rfl), by first | exact Kd.R_nil _ _ _ _ _ | exact Kd.N_nil _ _ _ _ _ | exact Kd.V_nil _ _ _ _ _ | exact Kd.Q_nil _ _ _ _ _ | exact Kd.S_nil _ _ _ _ _, bw HB.out⟩
                    ·
                     replace c58 := Bool.eq_false_iff.mpr c58
                     subst c58
                     have H1 : (spec_l6Ends.j3 kj28 x5_2 x6_2 x7_2 (x8_2.set ((ji54) : Int).toNat true) x9_2 x33_2 (ji54) l0 (l0.length : Int) x33_2 ((rd_T44 l0 x33_2).f0) ((rd_T44 l0 x33_2).f1)) = some (r1, r2, r3) := by rw [if_neg (show ¬ (false = true) by decide)] at H; exact H
                     clear H
                     have H := H1
                     clear H1
                     obtain ⟨y174, hy174⟩ : ∃ y_ : List Bool, y_ = (x8_2.set ((ji54) : Int).toNat true) := ⟨_, rfl⟩
                     replace H : (spec_l6Ends.j3 kj28 x5_2 x6_2 x7_2 y174 x9_2 x33_2 (ji54) l0 (l0.length : Int) x33_2 ((rd_T44 l0 x33_2).f0) ((rd_T44 l0 x33_2).f1)) = some (r1, r2, r3) := by first | (rw [hy174]; with_reducible exact H) | (have H2_ := (Option.bind_some _ _).symm.trans H; rw [hy174]; with_reducible exact H2_) | (have H2_ := (Option.bind_some _ _).symm.trans H; with_reducible exact H2_) | with_reducible exact H | (rw [hy174]; exact H) | exact H
                     have Ny174 := Aside0.mk hy174
                     clear hy174
                     have H' := Aside0.mk H
                     clear H
                     obtain ⟨Ao61, co61, eo61⟩ := Kd.R_slice HO_8.out
                     subst eo61
                     have p173 : 0 ≤ ((ji54) : Int) := od_
                     have q173 : (ji54) < (x8_2.length : Int) := od_
                     obtain ⟨ad173, e173, hx173_0⟩ := Kd.at_bool (Kd.R_reads' HO_8.out).2.2 (ji54) p173 q173
                     (try rw [← Nbq57.out] at hx173_0)
                     cases e173
                     replace p173 := eq_true p173
                     replace q173 := eq_true q173
                     have p60 : 0 ≤ ((ji54) : Int) := od_
                     have q60 : ((ji54) : Int) < ((x8_2.length : Int) : Int) := od_
                     obtain ⟨go60, co60, eo60, gb60, gl60, cl60, HG60⟩ := Kd.R_form HO_8.out (by omega)
                     (first | cases eo60 | (injection eo60 with ea_ en_ ec_; (first | subst ea_ | (injection ea_ with ea_; subst ea_)); subst ec_; clear en_))
                     have GB60 := Aside0.mk gb60
                     have GG60 := Aside0.mk HG60
                     clear gb60 gl60 HG60
                     (first | simp only [add_plain] at hx173_0 | skip)
                     obtain ⟨hx60_0, hf60_0⟩ := Kd.R_celln false HO_8.out ((ji54) : Int) p60 q60
                     replace p60 := eq_true p60
                     replace q60 := eq_true q60
                     have HP62 := Kd.R_putg HO_8.out ((ji54) : Int) true
                     go_wp2_with (first | ((with_reducible refine gate_store (t := 4) (p := 78) rfl ?_); refine store_event (t := 4) (p := 78) (v := ?vo_w63) (w1 := (wc.setCell ⟨go60, ((ji54) : Int).toNat, none⟩ (.bool true))) ?hg ?ho ?hn ?hr ?_; (case ho => rfl); (case hg => rfl); (case hn => rfl); (case hr => first | (go_simp; done) | (go_simp; rfl)); intro w63 hw; have hg : wc.grownBy w63 (some go60) := (by rw [hw]; exact HP62.2); have hp_ : Kd.R Kd.bool 4 w63 w.heap.size (fun _ => True) (.slice (some ⟨go60, 0, none⟩) x8_2.length co61) y174 := (by rw [hw, Ny174.out]; exact HP62.1); clear HP62; have n0_ := Aside0.mk (Kd.R_over' (v := (.slice (some ⟨go60, 0, none⟩) x8_2.length co61)) (kr_ HO_5.out) (Kd.R_typed HO_8.out) (by decide) hg); have n1_ := Aside0.mk (Kd.R_over' (v := (.slice (some ⟨go60, 0, none⟩) x8_2.length co61)) (kr_ HO_7.out) (Kd.R_typed HO_8.out) (by decide) hg); have n2_ := Aside0.mk (hp_); have n3_ := Aside0.mk (Kd.S_over' (v := (.slice (some ⟨go60, 0, none⟩) x8_2.length co61)) (ks_ HO_9.out) (Kd.R_typed HO_8.out) (by decide) hg); have n4_ := Aside0.mk (blk_grown (g := gb160) (o := .cells #[.int .i64 ((rd_T44 l0 x33_2).f0), .int .i64 ((rd_T44 l0 x33_2).f1)] 44 (0, 0)) (bk BK160.out) hg (Kd.R_ne HO_8.out BK160.out (by decide))); have n5_ := Aside0.mk ((by rw [hw]; exact below_set (HB.out) GB60.out : Below w.heap.size w w63)); clear HO_5; clear HO_7; clear HO_8; clear HO_9; clear BK160; clear HB; have HO_5 := n0_; have HO_7 := n1_; have HO_8 := n2_; have HO_9 := n3_; have BK160 := n4_; have HB := n5_; clear n0_ n1_ n2_ n3_ n4_ n5_; clear hg hw hp_))
                     first | go_meet | ((simp only [← hji54]); go_meet)
                     case rel => exact ⟨kj28, (x6_2), (x7_2), (y174), (x9_2), (by first | rfl | (simp; done) | (simp [*]; done)), (by rw [hji54]; exact H'), ⟨by have := HJ1.out; have := HK2.out; have := HJ28.out; first | omega | exact Nat.le_refl _⟩, ⟨kr_ HO_5.out⟩, ⟨kr_ HO_7.out⟩, ⟨kr_ HO_8.out⟩, ⟨ks_ HO_9.out⟩, ⟨bk BK160.out⟩, ⟨bw HB.out⟩⟩
                   ·
                    rw [if_neg c56] at H
                    exact absurd H (by simp)
                  ·
                   rw [if_neg c55] at H
                   exact absurd H (by simp)
                 ·
                  rw [if_neg c53] at H
                  have c53b0 : (((rd_T44 l0 x33_2).f0) == 5) = false := beq_eq_false_iff_ne.mpr c53
                  have c53b1 : (((rd_T44 l0 x33_2).f0) != 5) = true := bne_iff_ne.mpr c53
                  have H' := Aside0.mk H
                  clear H
                  go_wp2
                  go_meet
                  case rel => exact ⟨_, (x6_2), (x7_2), (x8_2), (x9_2), (by first | rfl | (simp; done) | (simp [*]; done)), H', ⟨by have := HJ1.out; have := HK2.out; have := HJ28.out; first | omega | exact Nat.le_refl _⟩, ⟨kr_ HO_5.out⟩, ⟨kr_ HO_7.out⟩, ⟨kr_ HO_8.out⟩, ⟨ks_ HO_9.out⟩, ⟨bk BK160.out⟩, ⟨bw HB.out⟩⟩
             case rest =>
              clear HC25
              try clear c7
              try clear c8
              try clear c8b0
              try clear c8b1
              try clear c9
              try clear c9b0
              try clear c9b1
              try clear c10
              try clear c18
              try clear c18b0
              try clear c19
              try clear c19b0
              try clear c20
              try clear c20b0
              try clear c21
              try clear c21b0
              try clear hcz27_0 hcz27_1
              try clear hfz27_0 hfz27_1
              try clear hx159_0
              try clear hx159_1
              try clear p159
              try clear q159
              obtain ⟨kq, x6_24, x7_24, x8_24, x9_24, rfl, HA, HJ24, HO_5, HO_7, HO_8, HO_9, BK160, HB⟩ := hcut
              cases kq with
              | zero => exact absurd HA.out (by simp [spec_l6Ends.j3])
              | succ kj24 =>
               have H := HA.out
               clear HA
               simp only [spec_l6Ends.j3] at H
               obtain ⟨ji64, hji64⟩ : ∃ j_ : Int, (wrap64 ((x7_2.length : Int) - 1)) = j_ := ⟨_, rfl⟩
               replace H : (if 0 ≤ (ji64) then (if (ji64) < (x9_24.length : Int) then (if (rd_L2 x9_24 (ji64)).length < 17592186044416 then ((some (x9_24.set ((ji64) : Int).toNat ((rd_L2 x9_24 (ji64)) ++ [x33_2]) : List (List Int))).bind fun y179 => (if ((rd_T44 l0 x33_2).f0) = 11 then (spec_l6Ends.l1 kj24 x5_2 x6_24 x7_24 x8_24 y179 x33_2 (ji64) l0 (l0.length : Int) x33_2 (rd_L2 y179 (ji64)) ((rd_L2 y179 (ji64)).length : Int) 0) else (spec_l6Ends.l0 kj24 x5_2 x6_24 x7_24 x8_24 y179 l0 (l0.length : Int) (wrap64 (x33_2 + 1))))) else (none)) else (none)) else (none)) = some (r1, r2, r3) := by first | (rw [hji64] at H; exact H) | (simp only [hji64] at H ⊢; exact H)
               (try rw [hji64] at c21b0)
               have hji64w : (IntKind.i64.wrap ((x7_2.length : Int) - 1)) = ji64 := (i64_w _).trans hji64
               by_cases c65 : 0 ≤ (ji64)
               ·
                rw [if_pos c65] at H
                have c65b0 : decide (0 ≤ (ji64)) = true := decide_eq_true c65
                clear c65
                by_cases c66 : (ji64) < (x9_24.length : Int)
                ·
                 rw [if_pos c66] at H
                 have c66b0 : decide ((ji64) < (x9_24.length : Int)) = true := decide_eq_true c66
                 clear c66
                 by_cases c67 : (rd_L2 x9_24 (ji64)).length < 17592186044416
                 ·
                  rw [if_pos c67] at H
                  have LMc67 := Aside0.mk c67
                  clear c67
                  obtain ⟨y176, hy176⟩ : ∃ y_ : List Int, y_ = ((rd_L2 x9_24 (ji64)) ++ [x33_2]) := ⟨_, rfl⟩
                  replace H : ((some (x9_24.set ((ji64) : Int).toNat y176 : List (List Int))).bind fun y179 => (if ((rd_T44 l0 x33_2).f0) = 11 then (spec_l6Ends.l1 kj24 x5_2 x6_24 x7_24 x8_24 y179 x33_2 (ji64) l0 (l0.length : Int) x33_2 (rd_L2 y179 (ji64)) ((rd_L2 y179 (ji64)).length : Int) 0) else (spec_l6Ends.l0 kj24 x5_2 x6_24 x7_24 x8_24 y179 l0 (l0.length : Int) (wrap64 (x33_2 + 1))))) = some (r1, r2, r3) := by first | (rw [hy176]; with_reducible exact H) | (have H2_ := (Option.bind_some _ _).symm.trans H; rw [hy176]; with_reducible exact H2_) | (have H2_ := (Option.bind_some _ _).symm.trans H; with_reducible exact H2_) | with_reducible exact H | (rw [hy176]; exact H) | exact H
                  have Ny176 := Aside0.mk hy176
                  clear hy176
                  obtain ⟨y179, hy179⟩ : ∃ y_ : List (List Int), y_ = (x9_24.set ((ji64) : Int).toNat y176) := ⟨_, rfl⟩
                  replace H : (if ((rd_T44 l0 x33_2).f0) = 11 then (spec_l6Ends.l1 kj24 x5_2 x6_24 x7_24 x8_24 y179 x33_2 (ji64) l0 (l0.length : Int) x33_2 (rd_L2 y179 (ji64)) ((rd_L2 y179 (ji64)).length : Int) 0) else (spec_l6Ends.l0 kj24 x5_2 x6_24 x7_24 x8_24 y179 l0 (l0.length : Int) (wrap64 (x33_2 + 1)))) = some (r1, r2, r3) := by first | (rw [hy179]; with_reducible exact H) | (have H2_ := (Option.bind_some _ _).symm.trans H; rw [hy179]; with_reducible exact H2_) | (have H2_ := (Option.bind_some _ _).symm.trans H; with_reducible exact H2_) | with_reducible exact H | (rw [hy179]; exact H) | exact H
                  have Ny179 := Aside0.mk hy179
                  clear hy179
                  by_cases c69 : ((rd_T44 l0 x33_2).f0) = 11
                  ·
                   rw [if_pos c69] at H
                   have c69b0 : (((rd_T44 l0 x33_2).f0) == 11) = true := beq_iff_eq.mpr c69
                   have c69b1 : (((rd_T44 l0 x33_2).f0) != 11) = false := bne_eq_false_iff_eq.mpr c69
                   clear c69
                   have H' := Aside0.mk H
                   clear H
                   obtain ⟨Ao70, co70, eo70⟩ := Kd.S_slice HO_9.out
                   subst eo70
                   have p175 : 0 ≤ ((ji64) : Int) := od_
                   have q175 : (ji64) < (x9_24.length : Int) := od_
                   obtain ⟨ad175, A175_0, c175_0, e175, hx175_0, hl175_0, hi175_0⟩ := at_L2 (Kd.S_reads' HO_9.out).2.2 (ji64) p175 q175
                   cases e175
                   obtain ⟨ce175, hce175, hMe175, hcc175⟩ := Kd.S_get HO_9.out [] (ji64) p175 (by first | exact q175 | exact od_ | (have e_ := (Kd.S_reads' HO_9.out).1; omega))
                   obtain ⟨ve175_0, rfl, ge175_0⟩ := hMe175
                   have hv175_0 := hcc175 0 _ rfl
                   rw [Nat.add_zero, show ((Kd.slice 3 (Kd.int .i64))).sz = 1 from rfl, Nat.mul_one] at hv175_0
                   replace hv175_0 := Option.some.inj (hv175_0.symm.trans hx175_0)
                   rw [hv175_0] at ge175_0
                   have HL175_0 := Aside0.mk (show Kd.R (Kd.int .i64) 3 _ _ _ _ (rd_L2 x9_24 (ji64)) from ge175_0)
                   clear hv175_0 ge175_0
                   have HX175_0 := Aside0.mk hx175_0
                   clear hcc175 hce175
                   have HR175_0 := Aside0.mk hi175_0
                   have HC175_0 := Aside0.mk hl175_0
                   clear hi175_0 hl175_0
                   replace p175 := eq_true p175
                   replace q175 := eq_true q175
                   obtain ⟨go71, co71, eo71, gb71, gl71, cl71, HG71⟩ := Kd.S_form HO_9.out (by have h_ : ((ji64) : Int) < ((x9_24.length : Int) : Int) := od_; have h2_ : 0 ≤ ((ji64) : Int) := (od_); omega)
                   (first | cases eo71 | (injection eo71 with ea_ en_ ec_; (first | subst ea_ | (injection ea_ with ea_; subst ea_)); subst ec_; clear en_))
                   have GB71 := Aside0.mk gb71
                   have GG71 := Aside0.mk HG71
                   clear gb71 gl71 HG71
                   (first | simp only [add_plain] at hx175_0 | skip)
                   obtain ⟨oki71, ce71, hcl71, hM71, hcc71, _, _, hH71⟩ := Kd.S_elem HO_9.out [] ((ji64) : Int) (od_) (by have h_ : ((ji64) : Int) < ((x9_24.length : Int) : Int) := od_; first | exact h_ | (have e_ := (Kd.S_reads' HO_9.out).1; omega) | simpa using h_)
                   obtain ⟨ve71_0, rfl, ge71_0⟩ := hM71
                   have hv71 := hcc71 0 _ rfl
                   have hX71 := HX175_0.out
                   (try simp only [add_plain] at hX71)
                   (try simp only [Nat.add_zero] at hv71)
                   (try rw [show ((Kd.slice 3 (Kd.int .i64))).sz = 1 from rfl, Nat.mul_one] at hv71)
                   replace hv71 := Option.some.inj (hv71.symm.trans hX71)
                   subst hv71
                   clear hX71 hcc71 hcl71
                   have UU71 := Aside0.mk (show Kd.R (Kd.int .i64) 3 _ w.heap.size oki71 (.slice A175_0 (rd_L2 x9_24 (ji64)).length c175_0) (rd_L2 x9_24 (ji64)) from ge71_0)
                   have HH71 := Aside0.mk hH71
                   have HN71 := Aside0.mk (Kd.S_reads' HO_9.out).1
                   clear hH71 ge71_0
                   go_wp2_with (first | ((with_reducible refine gate_builtin (b := .append) (xs := #[.tmp 84, .tmp 86]) rfl ?_); (try (refine gate_guard (by rfl) ?_; dsimp only)); at_builtin; refine Kd.R_append (Kd.int .i64) (w0 := w) w.heap.size rfl (.tmp 84) (.tmp 86) 22 3 (.int .i64 0) 8 rfl Try.underlying22 info3 rfl (by decide) (by omega) (.slice A175_0 (rd_L2 x9_24 (ji64)).length c175_0) (rd_L2 x9_24 (ji64)) x33_2 [.int .i64 x33_2] (fun k_ => oki71 k_ ∨ ((fun k_ => some k_ ≠ (v148 : Value).ownBlock ∧ some k_ ≠ (u7 : Value).ownBlock)) k_ ∧ wc.heap.size ≤ k_) (fun _ => False) rfl rfl ?aP (fun _ hk => hk.elim) ?aF ?aO ?aB ?aS ?aL ?_; (case aP => exact rfl); (case aB => exact (bw HB.out)); (case aF => exact (fun k_ hk => .inr ⟨⟨Kd.fresh' (Kd.R_lt (kr_ HO_5.out)) k_ hk, Kd.fresh' (Kd.R_lt (kr_ HO_7.out)) k_ hk⟩, hk⟩)); (case aO => exact (by (with_reducible repeat (first | apply Kd.R_alloc | apply Kd.R_drewN | apply Kd.R_drew)); exact Kd.R_mono UU71.out (fun _ hk => .inl hk))); (case aS => exact (below_size (bw HB.out))); (case aL => have := LMc67.out; omega); intro v177 w72 ho hb hg hat; rw [← Ny176.out] at ho; have n0_ := Aside0.mk (Kd.R_grown2 (kr_ HO_5.out) rfl hg (fun k_ e_ => (HL175_0.out.1 k_ e_).1.1)); have n1_ := Aside0.mk (Kd.R_grown2 (kr_ HO_7.out) rfl hg (fun k_ e_ => (HL175_0.out.1 k_ e_).1.2)); have n2_ := Aside0.mk (Kd.R_over' (v := (.slice A175_0 (rd_L2 x9_24 (ji64)).length c175_0)) (kr_ HO_8.out) (Kd.R_typed HL175_0.out) (by decide) hg); have n3_ := Aside0.mk (blk_grown (g := gb160) (o := .cells #[.int .i64 ((rd_T44 l0 x33_2).f0), .int .i64 ((rd_T44 l0 x33_2).f1)] 44 (0, 0)) (bk BK160.out) hg (Kd.R_ne HL175_0.out BK160.out (by decide))); have n4_ := Aside0.mk (hb); have n5_ := Aside0.mk (Kd.H_grown (Kd.H_widen (by repeat (first | exact HH71.out | refine Kd.H_alloc ?_ _ | refine Kd.H_drewN ?_ _ | refine Kd.H_drew ?_))) hg (fun k_ e_ => .inl (UU71.out.1 k_ e_))); have n6_ := Aside0.mk (ho); clear HO_5; clear HO_7; clear HO_8; clear BK160; clear HB; clear HH71; clear HO_9; clear UU71; clear HL175_0; have HO_5 := n0_; have HO_7 := n1_; have HO_8 := n2_; have BK160 := n3_; have HB := n4_; have HH71 := n5_; have HO178 := n6_; clear n0_ n1_ n2_ n3_ n4_ n5_ n6_; clear ho hb hg hat; have p68 : 0 ≤ ((ji64) : Int) := od_; have q68 : ((ji64) : Int) < ((x9_24.length : Int) : Int) := od_; replace p68 := eq_true p68; replace q68 := eq_true q68; obtain ⟨Ao75, co75, eo75⟩ := Kd.R_slice HO178.out; subst eo75; obtain ⟨_, _, hraw73, _, _, hcc73, _⟩ := Kd.H_raw HH71.out (od_) (by have h_ : ((ji64) : Int) < ((x9_24.length : Int) : Int) := od_; first | exact h_ | (have e_ := (HN71.out); omega) | simpa using h_); obtain ⟨_, hfr73⟩ := Kd.H_at HH71.out (od_) (by have h_ : ((ji64) : Int) < ((x9_24.length : Int) : Int) := od_; first | exact h_ | (have e_ := (HN71.out); omega) | simpa using h_); have hx73_0 := hcc73 0 _ rfl; have hf73_0 := hfr73 0; (try simp only [Nat.add_zero] at hx73_0 hf73_0); (try rw [show ((Kd.slice 3 (Kd.int .i64))).sz = 1 from rfl, Nat.mul_one] at hx73_0); (try rw [show ((Kd.slice 3 (Kd.int .i64))).sz = 1 from rfl, Nat.mul_one] at hf73_0); have HP73 := Kd.S_seg0 HH71.out (od_) (by have h_ : ((ji64) : Int) < ((x9_24.length : Int) : Int) := od_; first | exact h_ | (have e_ := (HN71.out); omega) | simpa using h_) (seg := [.slice Ao75 y176.length co75]) (j := 0) (show 1 ≤ 1 from by decide) (x' := y176) (Kd.M_row HO178.out) (fun _ hk => hk); (try simp only [show ((Kd.slice 3 (Kd.int .i64))).sz = 1 from rfl, Nat.mul_one, Nat.add_zero] at HP73); clear hcc73 hfr73) | ((with_reducible refine gate_store (t := 22) (p := 88) rfl ?_); refine store_event (t := 22) (p := 88) (v := ?vo_w74) (w1 := (w72.setCell ⟨go71, ((ji64) : Int).toNat, none⟩ (.slice Ao75 y176.length co75))) ?hg ?ho ?hn ?hr ?_; (case ho => rfl); (case hg => rfl); (case hn => rfl); (case hr => first | (go_simp; done) | (go_simp; rfl)); intro w74 hw; have hg : w72.grownBy w74 (some go71) := (by rw [hw]; exact HP73.2); have hp_ : Kd.S (Kd.slice 3 (Kd.int .i64)) 22 w74 w.heap.size (fun k_ => some k_ ≠ (v148 : Value).ownBlock ∧ some k_ ≠ (u7 : Value).ownBlock) (.slice (some ⟨go71, 0, none⟩) x9_24.length co70) y179 := (by rw [hw, Ny179.out]; exact HP73.1); clear HP73; have n0_ := Aside0.mk (Kd.R_over' (v := (.slice (some ⟨go71, 0, none⟩) x9_24.length co70)) (kr_ HO_5.out) (Kd.R_typed hraw73) (by decide) hg); have n1_ := Aside0.mk (Kd.R_over' (v := (.slice (some ⟨go71, 0, none⟩) x9_24.length co70)) (kr_ HO_7.out) (Kd.R_typed hraw73) (by decide) hg); have n2_ := Aside0.mk (Kd.R_over' (v := (.slice (some ⟨go71, 0, none⟩) x9_24.length co70)) (kr_ HO_8.out) (Kd.R_typed hraw73) (by decide) hg); have n3_ := Aside0.mk (blk_grown (g := gb160) (o := .cells #[.int .i64 ((rd_T44 l0 x33_2).f0), .int .i64 ((rd_T44 l0 x33_2).f1)] 44 (0, 0)) (bk BK160.out) hg (Kd.R_ne hraw73 BK160.out (by decide))); have n4_ := Aside0.mk ((by rw [hw]; exact below_set HB.out GB71.out : Below w.heap.size w w74)); have n5_ := Aside0.mk (hp_); clear HO_5; clear HO_7; clear HO_8; clear BK160; clear HB; clear HO178; clear HH71; have HO_5 := n0_; have HO_7 := n1_; have HO_8 := n2_; have BK160 := n3_; have HB := n4_; have HO_9 := n5_; clear n0_ n1_ n2_ n3_ n4_ n5_; clear hg hw hp_ hraw73; obtain ⟨hcz76_0, hcz76_1⟩ := cs2_ BK160.out; obtain ⟨hfz76_0, hfz76_1⟩ := fz2_ BK160.out; have p180 : 0 ≤ ((ji64) : Int) := od_; have q180 : (ji64) < (y179.length : Int) := (by have h_ : ((ji64) : Int) < ((x9_24.length : Int) : Int) := od_; first | (have e_ := (Kd.S_reads' HO_9.out).1; omega) | simpa only [Ny179.out, List.length_set] using h_); have ql180 : (((ji64) : Int) < ((x9_24.length : Int) : Int)) = True := eq_true (od_); obtain ⟨ad180, A180_0, c180_0, e180, hx180_0, hl180_0, hi180_0⟩ := at_L2 (Kd.S_reads' HO_9.out).2.2 (ji64) p180 q180; obtain rfl : (⟨go71, 0, none⟩ : Addr) = ad180 := (by injection e180); obtain ⟨ce180, hce180, hMe180, hcc180⟩ := Kd.S_get HO_9.out [] (ji64) p180 (by first | exact q180 | exact od_ | (have e_ := (Kd.S_reads' HO_9.out).1; omega)); obtain ⟨ve180_0, rfl, ge180_0⟩ := hMe180; have hv180_0 := hcc180 0 _ rfl; rw [Nat.add_zero, show ((Kd.slice 3 (Kd.int .i64))).sz = 1 from rfl, Nat.mul_one] at hv180_0; replace hv180_0 := Option.some.inj (hv180_0.symm.trans hx180_0); rw [hv180_0] at ge180_0; have HL180_0 := Aside0.mk (show Kd.R (Kd.int .i64) 3 _ _ _ _ (rd_L2 y179 (ji64)) from ge180_0); clear hv180_0 ge180_0; have HX180_0 := Aside0.mk hx180_0; clear hcc180 hce180; (first | simp only [add_plain] at hx180_0 | simp only [add_at] at hx180_0 | simp only [Addr.add, Nat.zero_add] at hx180_0 | skip); have HR180_0 := Aside0.mk hi180_0; have HC180_0 := Aside0.mk hl180_0; clear hi180_0 hl180_0; replace p180 := eq_true p180; replace q180 := eq_true q180))
                   (try simp only [Act.put, List.setIfInBounds_toArray, List.set_cons_zero, List.set_cons_succ])
                   go_loopg [97] kj24 (fun kq v97 w' => ∃ (x5_4 : List Int) (x97_4 : Int), v97 = .int .i64 x97_4 ∧ Aside0 (spec_l6Ends.l1 kq x5_4 x6_24 x7_24 x8_24 y179 x33_2 (ji64) l0 (l0.length : Int) x33_2 (rd_L2 y179 (ji64)) ((rd_L2 y179 (ji64)).length : Int) x97_4 = some (r1, r2, r3)) ∧ Aside0 (kq ≤ kj24) ∧ Aside0 (Kd.R (Kd.int .i64) 3 w' w.heap.size (fun k_ => some k_ ≠ (u7 : Value).ownBlock) v148 x5_4) ∧ Aside0 (Kd.R (Kd.int .i64) 3 w' w.heap.size (fun k_ => some k_ ≠ (v148 : Value).ownBlock) u7 x7_24) ∧ Aside0 (Kd.R Kd.bool 4 w' w.heap.size (fun _ => True) u8 x8_24) ∧ Aside0 (Kd.S (Kd.slice 3 (Kd.int .i64)) 22 w' w.heap.size (fun k_ => some k_ ≠ (v148 : Value).ownBlock ∧ some k_ ≠ (u7 : Value).ownBlock) (.slice (some ⟨go71, 0, none⟩) x9_24.length co70) y179) ∧ Aside0 (w'.heap[gb160]? = some (.cells #[.int .i64 ((rd_T44 l0 x33_2).f0), .int .i64 ((rd_T44 l0 x33_2).f1)] 44 (0, 0))) ∧ Aside0 (Below w.heap.size w w') ∧ Aside0 (Kd.R (Kd.int .i64) 3 w' w.heap.size (fun k_ => some k_ ≠ (v148 : Value).ownBlock) (.slice A180_0 (rd_L2 y179 (ji64)).length c180_0) (rd_L2 y179 (ji64))))
                   case atStart => exact ⟨(x5_2), (0), (by first | rfl | (simp; done) | (simp [*]; done)), H', ⟨Nat.le_refl _⟩, ⟨kr_ HO_5.out⟩, ⟨kr_ HO_7.out⟩, ⟨kr_ HO_8.out⟩, ⟨ks_ HO_9.out⟩, ⟨bk BK160.out⟩, ⟨bw HB.out⟩, ⟨Kd.R_mono HL180_0.out (fun _ hk => hk.1.1)⟩⟩
                   case round =>
                    clear H'
                    try clear c7
                    try clear c8
                    try clear c8b0
                    try clear c8b1
                    try clear c9
                    try clear c9b0
                    try clear c9b1
                    try clear c10
                    try clear c18
                    try clear c18b0
                    try clear c19
                    try clear c19b0
                    try clear c20
                    try clear c20b0
                    try clear c21
                    try clear c21b0
                    try clear c65
                    try clear c65b0
                    try clear c66
                    try clear c66b0
                    try clear c67
                    try clear p68
                    try clear q68
                    try clear c69
                    try clear c69b0
                    try clear c69b1
                    try clear hcz27_0 hcz27_1
                    try clear hcz76_0 hcz76_1
                    try clear hfz27_0 hfz27_1
                    try clear hfz76_0 hfz76_1
                    try clear hx159_0
                    try clear hx159_1
                    try clear hx175_0
                    try clear hx180_0
                    try clear hx73_0
                    try clear p159
                    try clear p175
                    try clear p180
                    try clear p68
                    try clear q159
                    try clear q175
                    try clear q180
                    try clear q68
                    obtain ⟨x5_4, x97_4, rfl, HA, HK4, HO_5, HO_7, HO_8, HO_9, BK160, HB, HLr⟩ := hrel
                    have hl9_4 := (Kd.S_reads' HO_9.out).1
                    rw [hl9_4] at HO_9
                    (try simp only [hl9_4])
                    (try simp only [hl9_4] at BK160)
                    (try simp only [hl9_4] at HO_5)
                    (try simp only [hl9_4] at HO_7)
                    (try simp only [hl9_4] at HO_8)
                    cases gk with
                    | zero => exact absurd HA.out (by simp [spec_l6Ends.l1])
                    | succ k4 =>
                     have H := HA.out
                     clear HA
                     simp only [spec_l6Ends.l1] at H
                     by_cases c77 : x97_4 < ((rd_L2 y179 (ji64)).length : Int)
                     ·
                      rw [if_pos c77] at H
                      have c77b0 : decide (x97_4 < ((rd_L2 y179 (ji64)).length : Int)) = true := decide_eq_true c77
                      clear c77
                      by_cases c78 : 0 ≤ x97_4
                      ·
                       rw [if_pos c78] at H
                       have c78b0 : decide (0 ≤ x97_4) = true := decide_eq_true c78
                       clear c78
                       by_cases c79 : x97_4 < ((rd_L2 y179 (ji64)).length : Int)
                       ·
                        rw [if_pos c79] at H
                        have c79b0 : decide (x97_4 < ((rd_L2 y179 (ji64)).length : Int)) = true := decide_eq_true c79
                        clear c79
                        by_cases c80 : 0 ≤ (rd (rd_L2 y179 (ji64)) x97_4)
                        ·
                         rw [if_pos c80] at H
                         have c80b0 : decide (0 ≤ (rd (rd_L2 y179 (ji64)) x97_4)) = true := decide_eq_true c80
                         clear c80
                         by_cases c81 : (rd (rd_L2 y179 (ji64)) x97_4) < (x5_4.length : Int)
                         ·
                          rw [if_pos c81] at H
                          have c81b0 : decide ((rd (rd_L2 y179 (ji64)) x97_4) < (x5_4.length : Int)) = true := decide_eq_true c81
                          clear c81
                          obtain ⟨y182, hy182⟩ : ∃ y_ : List Int, y_ = (x5_4.set ((rd (rd_L2 y179 (ji64)) x97_4) : Int).toNat x33_2) := ⟨_, rfl⟩
                          replace H : (spec_l6Ends.l1 k4 y182 x6_24 x7_24 x8_24 y179 x33_2 (ji64) l0 (l0.length : Int) x33_2 (rd_L2 y179 (ji64)) ((rd_L2 y179 (ji64)).length : Int) (wrap64 (x97_4 + 1))) = some (r1, r2, r3) := by first | (rw [hy182]; with_reducible exact H) | (have H2_ := (Option.bind_some _ _).symm.trans H; rw [hy182]; with_reducible exact H2_) | (have H2_ := (Option.bind_some _ _).symm.trans H; with_reducible exact H2_) | with_reducible exact H | (rw [hy182]; exact H) | exact H
                          have Ny182 := Aside0.mk hy182
                          clear hy182
                          have H' := Aside0.mk H
                          clear H
                          have p181 : 0 ≤ (x97_4 : Int) := od_
                          have q181 : x97_4 < ((rd_L2 y179 (ji64)).length : Int) := od_
                          obtain ⟨ad181, e181, hx181_0⟩ := Kd.at_int (Kd.R_reads' HLr.out).2.2 x97_4 p181 q181
                          cases e181
                          replace p181 := eq_true p181
                          replace q181 := eq_true q181
                          have p82 : 0 ≤ ((rd (rd_L2 y179 (ji64)) x97_4) : Int) := od_
                          have q82 : ((rd (rd_L2 y179 (ji64)) x97_4) : Int) < ((x5_4.length : Int) : Int) := od_
                          obtain ⟨go82, co82, eo82, gb82, gl82, cl82, HG82⟩ := Kd.R_form HO_5.out (by omega)
                          (first | cases eo82 | (injection eo82 with ea_ en_ ec_; (first | subst ea_ | (injection ea_ with ea_; subst ea_)); subst ec_; clear en_))
                          have GB82 := Aside0.mk gb82
                          have GG82 := Aside0.mk HG82
                          clear gb82 gl82 HG82
                          obtain ⟨hx82_0, hf82_0⟩ := Kd.R_celln 0 HO_5.out ((rd (rd_L2 y179 (ji64)) x97_4) : Int) p82 q82
                          replace p82 := eq_true p82
                          replace q82 := eq_true q82
                          have HP83 := Kd.R_putg HO_5.out ((rd (rd_L2 y179 (ji64)) x97_4) : Int) x33_2
                          go_wp2_with (first | ((with_reducible refine gate_store (t := 3) (p := 104) rfl ?_); refine store_event (t := 3) (p := 104) (v := ?vo_w84) (w1 := (wr.setCell ⟨go82, ((rd (rd_L2 y179 (ji64)) x97_4) : Int).toNat, none⟩ (.int .i64 x33_2))) ?hg ?ho ?hn ?hr ?_; (case ho => rfl); (case hg => rfl); (case hn => rfl); (case hr => first | (go_simp; done) | (go_simp; rfl)); intro w84 hw; have hg : wr.grownBy w84 (some go82) := (by rw [hw]; exact HP83.2); have hp_ : Kd.R (Kd.int .i64) 3 w84 w.heap.size (fun k_ => some k_ ≠ (u7 : Value).ownBlock) (.slice (some ⟨go82, 0, none⟩) x5_4.length co82) y182 := (by rw [hw, Ny182.out]; exact HP83.1); clear HP83; have n0_ := Aside0.mk (hp_); have n1_ := Aside0.mk (Kd.R_after (v := (.slice (some ⟨go82, 0, none⟩) x5_4.length co82)) (v1 := (.slice (some ⟨go82, 0, none⟩) x5_4.length co82)) (ok := (fun _ => True)) (by (with_reducible repeat (first | apply Kd.R_alloc | apply Kd.R_drewN | apply Kd.R_drew)); exact Kd.R_mono HO_7.out (fun _ hk => ⟨trivial, hk⟩)) hg (.inl rfl)); have n2_ := Aside0.mk (Kd.R_over' (v := (.slice (some ⟨go82, 0, none⟩) x5_4.length co82)) (kr_ HO_8.out) (Kd.R_typed HO_5.out) (by decide) hg); have n3_ := Aside0.mk (Kd.S_after (v := (.slice (some ⟨go82, 0, none⟩) x5_4.length co82)) (v1 := (.slice (some ⟨go82, 0, none⟩) x5_4.length co82)) (ok := (fun k_ => some k_ ≠ (u7 : Value).ownBlock)) (by (with_reducible repeat (first | apply Kd.S_alloc | apply Kd.S_drewN | apply Kd.S_drew)); exact Kd.S_mono HO_9.out (fun _ hk => ⟨hk.2, hk.1⟩)) hg (.inl rfl)); have n4_ := Aside0.mk (blk_grown (g := gb160) (o := .cells #[.int .i64 ((rd_T44 l0 x33_2).f0), .int .i64 ((rd_T44 l0 x33_2).f1)] 44 (0, 0)) (bk BK160.out) hg (Kd.R_ne HO_5.out BK160.out (by decide))); have n5_ := Aside0.mk ((by rw [hw]; exact below_set (HB.out) GB82.out : Below w.heap.size w w84)); have n6_ := Aside0.mk (Kd.R_after (v := (.slice (some ⟨go82, 0, none⟩) x5_4.length co82)) (v1 := (.slice (some ⟨go82, 0, none⟩) x5_4.length co82)) (ok := (fun _ => True)) (Kd.R_mono HLr.out (fun _ hk => ⟨trivial, hk⟩)) hg (.inl rfl)); clear HLr; clear HO_5; clear HO_7; clear HO_8; clear HO_9; clear BK160; clear HB; have HO_5 := n0_; have HO_7 := n1_; have HO_8 := n2_; have HO_9 := n3_; have BK160 := n4_; have HB := n5_; have HLr := n6_; clear n0_ n1_ n2_ n3_ n4_ n5_ n6_; clear hg hw hp_))
                          (try simp only [← hl9_4])
                          go_roundg k4
                          case measure => have := HJ1.out; have := HK2.out; have := HJ24.out; have := HK4.out; omega
                          case rel => exact ⟨(y182), (wrap64 (x97_4 + 1)), (by first | rfl | (simp; done) | (simp [*]; done)), H', ⟨by have := HJ1.out; have := HK2.out; have := HJ24.out; have := HK4.out; omega⟩, ⟨by (try simp only [hl9_4]); (with_reducible repeat (first | apply Kd.R_alloc | apply Kd.R_drewN | apply Kd.R_drew)); exact HO_5.out⟩, ⟨by (try simp only [hl9_4]); (with_reducible repeat (first | apply Kd.R_alloc | apply Kd.R_drewN | apply Kd.R_drew)); exact Kd.R_mono HO_7.out (fun _ hk => hk.2)⟩, ⟨by (try simp only [hl9_4]); (with_reducible repeat (first | apply Kd.R_alloc | apply Kd.R_drewN | apply Kd.R_drew)); exact HO_8.out⟩, ⟨by (try simp only [hl9_4]); (with_reducible repeat (first | apply Kd.S_alloc | apply Kd.S_drewN | apply Kd.S_drew)); exact Kd.S_mono HO_9.out (fun _ hk => ⟨hk.2, hk.1⟩)⟩, ⟨by (try simp only [hl9_4]); (with_reducible repeat (first | refine blk_drewN ?_ _ | refine blk_drew ?_ | refine blk_alloc ?_ _)); exact BK160.out⟩, ⟨bw HB.out⟩, ⟨Kd.R_mono HLr.out (fun _ hk => hk.2)⟩⟩
                         ·
                          rw [if_neg c81] at H
                          exact absurd H (by simp)
                        ·
                         rw [if_neg c80] at H
                         exact absurd H (by simp)
                       ·
                        rw [if_neg c79] at H
                        exact absurd H (by simp)
                      ·
                       rw [if_neg c78] at H
                       exact absurd H (by simp)
                     ·
                      rw [if_neg c77] at H
                      have c77b0 : decide (x97_4 < ((rd_L2 y179 (ji64)).length : Int)) = false := decide_eq_false c77
                      clear c77
                      by_cases c85 : 0 ≤ (ji64)
                      ·
                       rw [if_pos c85] at H
                       have c85b0 := eq_true c85
                       have c85b1 : decide (0 ≤ (ji64)) = true := decide_eq_true c85
                       clear c85
                       by_cases c86 : (ji64) ≤ (x7_24.length : Int)
                       ·
                        rw [if_pos c86] at H
                        have c86b0 := eq_true c86
                        have c86b1 : decide ((ji64) ≤ (x7_24.length : Int)) = true := decide_eq_true c86
                        clear c86
                        obtain ⟨y183, hy183⟩ : ∃ y_ : List Int, y_ = (x7_24.take ((ji64) : Int).toNat) := ⟨_, rfl⟩
                        replace H : (if (ji64) ≤ (x8_24.length : Int) then (if (ji64) ≤ (y179.length : Int) then (spec_l6Ends.l0 k4 x5_4 x6_24 y183 (x8_24.take ((ji64) : Int).toNat) (y179.take ((ji64) : Int).toNat) l0 (l0.length : Int) (wrap64 (x33_2 + 1))) else (none)) else (none)) = some (r1, r2, r3) := by first | (rw [hy183]; with_reducible exact H) | (have H2_ := (Option.bind_some _ _).symm.trans H; rw [hy183]; with_reducible exact H2_) | (have H2_ := (Option.bind_some _ _).symm.trans H; with_reducible exact H2_) | with_reducible exact H | (rw [hy183]; exact H) | exact H
                        have Ny183 := Aside0.mk hy183
                        clear hy183
                        by_cases c87 : (ji64) ≤ (x8_24.length : Int)
                        ·
                         rw [if_pos c87] at H
                         have c87b0 := eq_true c87
                         have c87b1 : decide ((ji64) ≤ (x8_24.length : Int)) = true := decide_eq_true c87
                         clear c87
                         obtain ⟨y186, hy186⟩ : ∃ y_ : List Bool, y_ = (x8_24.take ((ji64) : Int).toNat) := ⟨_, rfl⟩
                         replace H : (if (ji64) ≤ (y179.length : Int) then (spec_l6Ends.l0 k4 x5_4 x6_24 y183 y186 (y179.take ((ji64) : Int).toNat) l0 (l0.length : Int) (wrap64 (x33_2 + 1))) else (none)) = some (r1, r2, r3) := by first | (rw [hy186]; with_reducible exact H) | (have H2_ := (Option.bind_some _ _).symm.trans H; rw [hy186]; with_reducible exact H2_) | (have H2_ := (Option.bind_some _ _).symm.trans H; with_reducible exact H2_) | with_reducible exact H | (rw [hy186]; exact H) | exact H
                         have Ny186 := Aside0.mk hy186
                         clear hy186
                         by_cases c88 : (ji64) ≤ (y179.length : Int)
                         ·
                          rw [if_pos c88] at H
                          have c88b0 := eq_true c88
                          have c88b1 : decide ((ji64) ≤ (y179.length : Int)) = true := decide_eq_true c88
                          clear c88
                          obtain ⟨y189, hy189⟩ : ∃ y_ : List (List Int), y_ = (y179.take ((ji64) : Int).toNat) := ⟨_, rfl⟩
                          replace H : (spec_l6Ends.l0 k4 x5_4 x6_24 y183 y186 y189 l0 (l0.length : Int) (wrap64 (x33_2 + 1))) = some (r1, r2, r3) := by first | (rw [hy189]; with_reducible exact H) | (have H2_ := (Option.bind_some _ _).symm.trans H; rw [hy189]; with_reducible exact H2_) | (have H2_ := (Option.bind_some _ _).symm.trans H; with_reducible exact H2_) | with_reducible exact H | (rw [hy189]; exact H) | exact H
                          have Ny189 := Aside0.mk hy189
                          clear hy189
                          have H' := Aside0.mk H
                          clear H
                          obtain ⟨Ao89, co89, eo89⟩ := Kd.R_slice HO_7.out
                          subst eo89
                          have q90 : ((ji64) : Int) ≤ ((x7_24.length : Int) : Int) := od_
                          obtain ⟨i090, hi090, _, hsz90, _⟩ := info_parts info3
                          have hcut90 := cut_to (P := Try.prog) 22 3 .i64 Try.underlying22 hi090 Ao89 x7_24.length co89 (ji64) (od_) q90 (Kd.R_reads' HO_7.out).2.1
                          have hr90 := Kd.R_take (m := ((ji64) : Int).toNat) HO_7.out (by omega)
                          have hy90 : y183.length = ((ji64) : Int).toNat := (by rw [Ny183.out, List.length_take]; omega)
                          rw [← Ny183.out] at hr90
                          rw [← hy90] at hr90 hcut90
                          clear hy90 hi090 hsz90 HO_7
                          have HO185 := Aside0.mk hr90
                          clear hr90
                          replace q90 := eq_true q90
                          obtain ⟨Ao91, co91, eo91⟩ := Kd.R_slice HO_8.out
                          subst eo91
                          have q92 : ((ji64) : Int) ≤ ((x8_24.length : Int) : Int) := od_
                          obtain ⟨i092, hi092, _, hsz92, _⟩ := info_parts info4
                          have hcut92 := cut_to (P := Try.prog) 88 4 .i64 Try.underlying88 hi092 Ao91 x8_24.length co91 (ji64) (od_) q92 (Kd.R_reads' HO_8.out).2.1
                          have hr92 := Kd.R_take (m := ((ji64) : Int).toNat) HO_8.out (by omega)
                          have hy92 : y186.length = ((ji64) : Int).toNat := (by rw [Ny186.out, List.length_take]; omega)
                          rw [← Ny186.out] at hr92
                          rw [← hy92] at hr92 hcut92
                          clear hy92 hi092 hsz92 HO_8
                          have HO188 := Aside0.mk hr92
                          clear hr92
                          replace q92 := eq_true q92
                          have q93 : ((ji64) : Int) ≤ ((y179.length : Int) : Int) := od_
                          obtain ⟨i093, hi093, _, hsz93, _⟩ := info_parts info22
                          have hcut93 := cut_to (P := Try.prog) 89 22 .i64 Try.underlying89 hi093 (some ⟨go71, 0, none⟩) y179.length co70 (ji64) (od_) q93 (Kd.S_reads' HO_9.out).2.1
                          have hr93 := Kd.S_take (m := ((ji64) : Int).toNat) HO_9.out (by omega)
                          have hy93 : y189.length = ((ji64) : Int).toNat := (by rw [Ny189.out, List.length_take]; omega)
                          rw [← Ny189.out] at hr93
                          rw [← hy93] at hr93 hcut93
                          clear hy93 hi093 hsz93 HO_9
                          have HO191 := Aside0.mk hr93
                          clear hr93
                          replace q93 := eq_true q93
                          go_wp2
                          (try simp only [← hl9_4])
                          go_roundg k4
                          case measure => have := HJ1.out; have := HK2.out; have := HJ24.out; have := HK4.out; omega
                          case rel => exact ⟨(x5_4), (x6_24), (y183), (y186), (y189), (wrap64 (x33_2 + 1)), (by first | rfl | (simp; done) | (simp [*]; done)), (by first | rfl | (simp; done) | (simp [*]; done)), H', ⟨by have := HJ1.out; have := HK2.out; have := HJ24.out; have := HK4.out; omega⟩, ⟨by (try simp only [hl9_4]); (with_reducible repeat (first | apply Kd.R_alloc | apply Kd.R_drewN | apply Kd.R_drew)); exact Kd.R_mono HO_5.out (fun k_ hk_ => by cases Ao89 <;> exact hk_)⟩, ⟨by (try simp only [hl9_4]); (with_reducible repeat (first | apply Kd.R_alloc | apply Kd.R_drewN | apply Kd.R_drew)); exact HO185.out⟩, ⟨by (try simp only [hl9_4]); (with_reducible repeat (first | apply Kd.R_alloc | apply Kd.R_drewN | apply Kd.R_drew)); exact HO188.out⟩, ⟨by (try simp only [hl9_4]); (with_reducible repeat (first | apply Kd.S_alloc | apply Kd.S_drewN | apply Kd.S_drew)); exact Kd.S_mono HO191.out (fun k_ hk_ => ⟨hk_.1, by cases Ao89 <;> exact hk_.2⟩)⟩, ⟨bw HB.out⟩⟩
                         ·
                          rw [if_neg c88] at H
                          exact absurd H (by simp)
                        ·
                         rw [if_neg c87] at H
                         exact absurd H (by simp)
                       ·
                        rw [if_neg c86] at H
                        exact absurd H (by simp)
                      ·
                       rw [if_neg c85] at H
                       exact absurd H (by simp)
                  ·
                   rw [if_neg c69] at H
                   have c69b0 : (((rd_T44 l0 x33_2).f0) == 11) = false := beq_eq_false_iff_ne.mpr c69
                   have c69b1 : (((rd_T44 l0 x33_2).f0) != 11) = true := bne_iff_ne.mpr c69
                   have H' := Aside0.mk H
                   clear H
                   obtain ⟨Ao94, co94, eo94⟩ := Kd.S_slice HO_9.out
                   subst eo94
                   have p175 : 0 ≤ ((ji64) : Int) := od_
                   have q175 : (ji64) < (x9_24.length : Int) := od_
                   obtain ⟨ad175, A175_0, c175_0, e175, hx175_0, hl175_0, hi175_0⟩ := at_L2 (Kd.S_reads' HO_9.out).2.2 (ji64) p175 q175
                   cases e175
                   obtain ⟨ce175, hce175, hMe175, hcc175⟩ := Kd.S_get HO_9.out [] (ji64) p175 (by first | exact q175 | exact od_ | (have e_ := (Kd.S_reads' HO_9.out).1; omega))
                   obtain ⟨ve175_0, rfl, ge175_0⟩ := hMe175
                   have hv175_0 := hcc175 0 _ rfl
                   rw [Nat.add_zero, show ((Kd.slice 3 (Kd.int .i64))).sz = 1 from rfl, Nat.mul_one] at hv175_0
                   replace hv175_0 := Option.some.inj (hv175_0.symm.trans hx175_0)
                   rw [hv175_0] at ge175_0
                   have HL175_0 := Aside0.mk (show Kd.R (Kd.int .i64) 3 _ _ _ _ (rd_L2 x9_24 (ji64)) from ge175_0)
                   clear hv175_0 ge175_0
                   have HX175_0 := Aside0.mk hx175_0
                   clear hcc175 hce175
                   have HR175_0 := Aside0.mk hi175_0
                   have HC175_0 := Aside0.mk hl175_0
                   clear hi175_0 hl175_0
                   replace p175 := eq_true p175
                   replace q175 := eq_true q175
                   obtain ⟨go95, co95, eo95, gb95, gl95, cl95, HG95⟩ := Kd.S_form HO_9.out (by have h_ : ((ji64) : Int) < ((x9_24.length : Int) : Int) := od_; have h2_ : 0 ≤ ((ji64) : Int) := (od_); omega)
                   (first | cases eo95 | (injection eo95 with ea_ en_ ec_; (first | subst ea_ | (injection ea_ with ea_; subst ea_)); subst ec_; clear en_))
                   have GB95 := Aside0.mk gb95
                   have GG95 := Aside0.mk HG95
                   clear gb95 gl95 HG95
                   (first | simp only [add_plain] at hx175_0 | skip)
                   obtain ⟨oki95, ce95, hcl95, hM95, hcc95, _, _, hH95⟩ := Kd.S_elem HO_9.out [] ((ji64) : Int) (od_) (by have h_ : ((ji64) : Int) < ((x9_24.length : Int) : Int) := od_; first | exact h_ | (have e_ := (Kd.S_reads' HO_9.out).1; omega) | simpa using h_)
                   obtain ⟨ve95_0, rfl, ge95_0⟩ := hM95
                   have hv95 := hcc95 0 _ rfl
                   have hX95 := HX175_0.out
                   (try simp only [add_plain] at hX95)
                   (try simp only [Nat.add_zero] at hv95)
                   (try rw [show ((Kd.slice 3 (Kd.int .i64))).sz = 1 from rfl, Nat.mul_one] at hv95)
                   replace hv95 := Option.some.inj (hv95.symm.trans hX95)
                   subst hv95
                   clear hX95 hcc95 hcl95
                   have UU95 := Aside0.mk (show Kd.R (Kd.int .i64) 3 _ w.heap.size oki95 (.slice A175_0 (rd_L2 x9_24 (ji64)).length c175_0) (rd_L2 x9_24 (ji64)) from ge95_0)
                   have HH95 := Aside0.mk hH95
                   have HN95 := Aside0.mk (Kd.S_reads' HO_9.out).1
                   clear hH95 ge95_0
                   go_wp2_with (first | ((with_reducible refine gate_builtin (b := .append) (xs := #[.tmp 84, .tmp 86]) rfl ?_); (try (refine gate_guard (by rfl) ?_; dsimp only)); at_builtin; refine Kd.R_append (Kd.int .i64) (w0 := w) w.heap.size rfl (.tmp 84) (.tmp 86) 22 3 (.int .i64 0) 8 rfl Try.underlying22 info3 rfl (by decide) (by omega) (.slice A175_0 (rd_L2 x9_24 (ji64)).length c175_0) (rd_L2 x9_24 (ji64)) x33_2 [.int .i64 x33_2] (fun k_ => oki95 k_ ∨ ((fun k_ => some k_ ≠ (v148 : Value).ownBlock ∧ some k_ ≠ (u7 : Value).ownBlock)) k_ ∧ wc.heap.size ≤ k_) (fun _ => False) rfl rfl ?aP (fun _ hk => hk.elim) ?aF ?aO ?aB ?aS ?aL ?_; (case aP => exact rfl); (case aB => exact (bw HB.out)); (case aF => exact (fun k_ hk => .inr ⟨⟨Kd.fresh' (Kd.R_lt (kr_ HO_5.out)) k_ hk, Kd.fresh' (Kd.R_lt (kr_ HO_7.out)) k_ hk⟩, hk⟩)); (case aO => exact (by (with_reducible repeat (first | apply Kd.R_alloc | apply Kd.R_drewN | apply Kd.R_drew)); exact Kd.R_mono UU95.out (fun _ hk => .inl hk))); (case aS => exact (below_size (bw HB.out))); (case aL => have := LMc67.out; omega); intro v177 w96 ho hb hg hat; rw [← Ny176.out] at ho; have n0_ := Aside0.mk (Kd.R_grown2 (kr_ HO_5.out) rfl hg (fun k_ e_ => (HL175_0.out.1 k_ e_).1.1)); have n1_ := Aside0.mk (Kd.R_grown2 (kr_ HO_7.out) rfl hg (fun k_ e_ => (HL175_0.out.1 k_ e_).1.2)); have n2_ := Aside0.mk (Kd.R_over' (v := (.slice A175_0 (rd_L2 x9_24 (ji64)).length c175_0)) (kr_ HO_8.out) (Kd.R_typed HL175_0.out) (by decide) hg); have n3_ := Aside0.mk (blk_grown (g := gb160) (o := .cells #[.int .i64 ((rd_T44 l0 x33_2).f0), .int .i64 ((rd_T44 l0 x33_2).f1)] 44 (0, 0)) (bk BK160.out) hg (Kd.R_ne HL175_0.out BK160.out (by decide))); have n4_ := Aside0.mk (hb); have n5_ := Aside0.mk (Kd.H_grown (Kd.H_widen (by repeat (first | exact HH95.out | refine Kd.H_alloc ?_ _ | refine Kd.H_drewN ?_ _ | refine Kd.H_drew ?_))) hg (fun k_ e_ => .inl (UU95.out.1 k_ e_))); have n6_ := Aside0.mk (ho); clear HO_5; clear HO_7; clear HO_8; clear BK160; clear HB; clear HH95; clear HO_9; clear UU95; clear HL175_0; have HO_5 := n0_; have HO_7 := n1_; have HO_8 := n2_; have BK160 := n3_; have HB := n4_; have HH95 := n5_; have HO178 := n6_; clear n0_ n1_ n2_ n3_ n4_ n5_ n6_; clear ho hb hg hat; have p68 : 0 ≤ ((ji64) : Int) := od_; have q68 : ((ji64) : Int) < ((x9_24.length : Int) : Int) := od_; replace p68 := eq_true p68; replace q68 := eq_true q68; obtain ⟨Ao99, co99, eo99⟩ := Kd.R_slice HO178.out; subst eo99; obtain ⟨_, _, hraw97, _, _, hcc97, _⟩ := Kd.H_raw HH95.out (od_) (by have h_ : ((ji64) : Int) < ((x9_24.length : Int) : Int) := od_; first | exact h_ | (have e_ := (HN95.out); omega) | simpa using h_); obtain ⟨_, hfr97⟩ := Kd.H_at HH95.out (od_) (by have h_ : ((ji64) : Int) < ((x9_24.length : Int) : Int) := od_; first | exact h_ | (have e_ := (HN95.out); omega) | simpa using h_); have hx97_0 := hcc97 0 _ rfl; have hf97_0 := hfr97 0; (try simp only [Nat.add_zero] at hx97_0 hf97_0); (try rw [show ((Kd.slice 3 (Kd.int .i64))).sz = 1 from rfl, Nat.mul_one] at hx97_0); (try rw [show ((Kd.slice 3 (Kd.int .i64))).sz = 1 from rfl, Nat.mul_one] at hf97_0); have HP97 := Kd.S_seg0 HH95.out (od_) (by have h_ : ((ji64) : Int) < ((x9_24.length : Int) : Int) := od_; first | exact h_ | (have e_ := (HN95.out); omega) | simpa using h_) (seg := [.slice Ao99 y176.length co99]) (j := 0) (show 1 ≤ 1 from by decide) (x' := y176) (Kd.M_row HO178.out) (fun _ hk => hk); (try simp only [show ((Kd.slice 3 (Kd.int .i64))).sz = 1 from rfl, Nat.mul_one, Nat.add_zero] at HP97); clear hcc97 hfr97) | ((with_reducible refine gate_store (t := 22) (p := 88) rfl ?_); refine store_event (t := 22) (p := 88) (v := ?vo_w98) (w1 := (w96.setCell ⟨go95, ((ji64) : Int).toNat, none⟩ (.slice Ao99 y176.length co99))) ?hg ?ho ?hn ?hr ?_; (case ho => rfl); (case hg => rfl); (case hn => rfl); (case hr => first | (go_simp; done) | (go_simp; rfl)); intro w98 hw; have hg : w96.grownBy w98 (some go95) := (by rw [hw]; exact HP97.2); have hp_ : Kd.S (Kd.slice 3 (Kd.int .i64)) 22 w98 w.heap.size (fun k_ => some k_ ≠ (v148 : Value).ownBlock ∧ some k_ ≠ (u7 : Value).ownBlock) (.slice (some ⟨go95, 0, none⟩) x9_24.length co94) y179 := (by rw [hw, Ny179.out]; exact HP97.1); clear HP97; have n0_ := Aside0.mk (Kd.R_over' (v := (.slice (some ⟨go95, 0, none⟩) x9_24.length co94)) (kr_ HO_5.out) (Kd.R_typed hraw97) (by decide) hg); have n1_ := Aside0.mk (Kd.R_over' (v := (.slice (some ⟨go95, 0, none⟩) x9_24.length co94)) (kr_ HO_7.out) (Kd.R_typed hraw97) (by decide) hg); have n2_ := Aside0.mk (Kd.R_over' (v := (.slice (some ⟨go95, 0, none⟩) x9_24.length co94)) (kr_ HO_8.out) (Kd.R_typed hraw97) (by decide) hg); have n3_ := Aside0.mk (blk_grown (g := gb160) (o := .cells #[.int .i64 ((rd_T44 l0 x33_2).f0), .int .i64 ((rd_T44 l0 x33_2).f1)] 44 (0, 0)) (bk BK160.out) hg (Kd.R_ne hraw97 BK160.out (by decide))); have n4_ := Aside0.mk ((by rw [hw]; exact below_set HB.out GB95.out : Below w.heap.size w w98)); have n5_ := Aside0.mk (hp_); clear HO_5; clear HO_7; clear HO_8; clear BK160; clear HB; clear HO178; clear HH95; have HO_5 := n0_; have HO_7 := n1_; have HO_8 := n2_; have BK160 := n3_; have HB := n4_; have HO_9 := n5_; clear n0_ n1_ n2_ n3_ n4_ n5_; clear hg hw hp_ hraw97; obtain ⟨hcz100_0, hcz100_1⟩ := cs2_ BK160.out; obtain ⟨hfz100_0, hfz100_1⟩ := fz2_ BK160.out))
                   go_roundg kj24
                   case measure => have := HJ1.out; have := HK2.out; have := HJ24.out; omega
                   case rel => exact ⟨(x5_2), (x6_24), (x7_24), (x8_24), (y179), (wrap64 (x33_2 + 1)), (by first | rfl | (simp; done) | (simp [*]; done)), (by first | rfl | (simp; done) | (simp [*]; done)), H', ⟨by have := HJ1.out; have := HK2.out; have := HJ24.out; omega⟩, ⟨kr_ HO_5.out⟩, ⟨kr_ HO_7.out⟩, ⟨kr_ HO_8.out⟩, ⟨ks_ HO_9.out⟩, ⟨bw HB.out⟩⟩
                 ·
                  rw [if_neg c67] at H
                  exact absurd H (by simp)
                ·
                 rw [if_neg c66] at H
                 exact absurd H (by simp)
               ·
                rw [if_neg c65] at H
                exact absurd H (by simp)
           ·
            rw [if_neg c20] at H
            exact absurd H (by simp)
          ·
           rw [if_neg c19] at H
           exact absurd H (by simp)
         ·
          rw [if_neg c18] at H
          have c18b0 : decide (x33_2 < (l0.length : Int)) = false := decide_eq_false c18
          clear c18
          simp only [Option.some.injEq, Prod.mk.injEq] at H
          obtain ⟨rfl, rfl, rfl⟩ := H
          obtain ⟨Ao101, co101, eo101⟩ := Kd.R_slice HO_7.out
          subst eo101
          go_wp2
          go_ret3
          exact ⟨_, rr_, by (with_reducible repeat (first | apply Kd.R_alloc | apply Kd.R_drewN | apply Kd.R_drew)); exact Kd.R_mono HO_5.out (fun _ hk => trivial), bw HB.out⟩
      ·
       rw [if_neg c10] at H
       exact absurd H (by simp)
     ·
      rw [if_neg c9] at H
      exact absurd H (by simp)
    ·
     rw [if_neg c8] at H
     exact absurd H (by simp)


/-! ### spec_l7Types: function 70 -/
def spec_l7Types.l0 : Nat → List Int → Int → List Int → Int → Int → Option (Bool)
 | 0, _, _, _, _, _ => none
 | k + 1, x0, x1, x7, x8, x9 => if x9 < x8 then (if 0 ≤ x9 then (if x9 < (x7.length : Int) then ((spec_l6Type.f (rd x7 x9)).bind fun t193 => (if t193 = true then (spec_l7Types.l0 k x0 x1 x7 x8 (wrap64 (x9 + 1))) else (some false))) else (none)) else (none)) else (some (decide ((x0.length : Int) ≤ x1)))
def spec_l7Types.f (k : Nat) (l0 : List Int) (a1 : Int) : Option (Bool) := spec_l7Types.l0 k l0 a1 l0 (l0.length : Int) 0
set_option maxHeartbeats 8000000 in
set_option maxRecDepth 100000 in
theorem spec_l7Types.calls (k : Nat) (A0 : Option Addr) (c0 : Nat) (l0 : List Int) (a1 : Int) (r : Bool) (w : World) (hr0 : Kd.C (Kd.int .i64) w A0 l0.length l0) (hc0 : l0.length ≤ c0) (h : spec_l7Types.f k l0 a1 = some r) :
  Calls Try.prog 70 #[.slice A0 l0.length c0, .int .i64 a1] w fun e w' => e = .returned (.bool r) ∧ Drawn0 w w' := by
 have HR0 := Aside0.mk hr0
 have HC0 := Aside0.mk hc0
 clear hr0 hc0
 have H : (spec_l7Types.l0 k l0 a1 l0 (l0.length : Int) 0) = some r := h
 clear h
 have H' := Aside0.mk H
 clear H
 go_enter Try.func70, Try.ntmps70
 go_wp2
 (try simp only [Act.put, List.setIfInBounds_toArray, List.set_cons_zero, List.set_cons_succ])
 go_loopg [9] k (fun kq v9 w' => ∃ (x9_1 : Int), v9 = .int .i64 x9_1 ∧ Aside0 (spec_l7Types.l0 kq l0 a1 l0 (l0.length : Int) x9_1 = some r) ∧ Aside0 (kq ≤ k) ∧ Drawn0 w w')
 case atStart => exact ⟨(0), (by first | rfl | (simp; done) | (simp [*]; done)), H', ⟨Nat.le_refl _⟩, dr_⟩
 case round =>
  clear H'
  obtain ⟨x9_1, rfl, HA, HK1, ⟨m1, rfl⟩⟩ := hrel
  cases gk with
  | zero => exact absurd HA.out (by simp [spec_l7Types.l0])
  | succ k1 =>
   have H := HA.out
   clear HA
   simp only [spec_l7Types.l0] at H
   by_cases c3 : x9_1 < (l0.length : Int)
   ·
    rw [if_pos c3] at H
    have c3b0 : decide (x9_1 < (l0.length : Int)) = true := decide_eq_true c3
    clear c3
    by_cases c4 : 0 ≤ x9_1
    ·
     rw [if_pos c4] at H
     have c4b0 : decide (0 ≤ x9_1) = true := decide_eq_true c4
     clear c4
     by_cases c5 : x9_1 < (l0.length : Int)
     ·
      rw [if_pos c5] at H
      have c5b0 : decide (x9_1 < (l0.length : Int)) = true := decide_eq_true c5
      clear c5
      replace H := Option.bind_eq_some_iff.mp H
      obtain ⟨t193, A60, H⟩ := H
      replace H : (if t193 = true then (spec_l7Types.l0 k1 l0 a1 l0 (l0.length : Int) (wrap64 (x9_1 + 1))) else (some false)) = some r := H
      have A6 := Aside0.mk A60
      clear A60
      by_cases c7 : t193 = true
      ·
       subst c7
       have H1 : (spec_l7Types.l0 k1 l0 a1 l0 (l0.length : Int) (wrap64 (x9_1 + 1))) = some r := by rw [if_pos rfl] at H; exact H
       clear H
       have H := H1
       clear H1
       have H' := Aside0.mk H
       clear H
       have p192 : 0 ≤ (x9_1 : Int) := od_
       have q192 : x9_1 < (l0.length : Int) := od_
       obtain ⟨ad192, e192, hx192_0⟩ := Kd.at_int HR0.out x9_1 p192 q192
       cases e192
       replace p192 := eq_true p192
       replace q192 := eq_true q192
       go_wp2_with (first | ((with_reducible refine gate_callee (f := 71) rfl ?_); refine goesL_ (some 14) rfl rfl Try.func71 (by kernel_rfl) rfl #[.int .i64 (rd l0 x9_1)] rfl ar ?_; (with_reducible refine (spec_l6Type.calls (rd l0 x9_1) true _ A6.out).mono ?_); rintro e w' ⟨rfl, ⟨nd, rfl⟩⟩; refine ⟨_, rfl, ?_⟩))
       go_roundg k1
       case measure => have := HK1.out; omega
       case rel => exact ⟨(wrap64 (x9_1 + 1)), (by first | rfl | (simp; done) | (simp [*]; done)), H', ⟨by have := HK1.out; omega⟩, dr_⟩
      ·
       replace c7 := Bool.eq_false_iff.mpr c7
       subst c7
       have H1 : (some false) = some r := by rw [if_neg (show ¬ (false = true) by decide)] at H; exact H
       clear H
       have H := H1
       clear H1
       obtain rfl := Option.some.inj H
       simp only [Option.some.injEq, Prod.mk.injEq] at H
       obtain ⟨rfl⟩ := H
       have p192 : 0 ≤ (x9_1 : Int) := od_
       have q192 : x9_1 < (l0.length : Int) := od_
       obtain ⟨ad192, e192, hx192_0⟩ := Kd.at_int HR0.out x9_1 p192 q192
       cases e192
       replace p192 := eq_true p192
       replace q192 := eq_true q192
       go_wp2_with (first | ((with_reducible refine gate_callee (f := 71) rfl ?_); refine goesL_ (some 14) rfl rfl Try.func71 (by kernel_rfl) rfl #[.int .i64 (rd l0 x9_1)] rfl ar ?_; (with_reducible refine (spec_l6Type.calls (rd l0 x9_1) false _ A6.out).mono ?_); rintro e w' ⟨rfl, ⟨nd, rfl⟩⟩; refine ⟨_, rfl, ?_⟩))
       go_ret
       exact ⟨by first | rfl | (simp; done) | (simp [*]; done), dr_⟩
     ·
      rw [if_neg c5] at H
      exact absurd H (by simp)
    ·
     rw [if_neg c4] at H
     exact absurd H (by simp)
   ·
    rw [if_neg c3] at H
    have c3b0 : decide (x9_1 < (l0.length : Int)) = false := decide_eq_false c3
    clear c3
    obtain rfl := Option.some.inj H
    simp only [Option.some.injEq, Prod.mk.injEq] at H
    obtain ⟨rfl⟩ := H
    go_wp2
    go_ret
    exact ⟨by first | rfl | (simp; done) | (simp [*]; done), dr_⟩


/-! ### spec_l7Func: function 46 -/
def spec_l7Func.f (k : Nat) (l0_0 : List Int) (a0_1 : Int) (l0_2 : List Int) (l0_3 : List (S44)) : Option (Bool) := (spec_l6Ends.f k l0_3).bind fun bt195 => (if bt195.2.2 = true then ((spec_l7Types.f k l0_0 6).bind fun t200 => (if t200 = true then ((spec_l7Types.f k l0_2 20).bind fun t201 => (if t201 = true then ((spec_l6Type.f a0_1).bind fun t202 => (if t202 = true then (some true) else (some (a0_1 == 64)))) else (some false))) else (some false))) else (some false))
set_option maxHeartbeats 8000000 in
set_option maxRecDepth 100000 in
theorem spec_l7Func.calls (k : Nat) (A0_0 : Option Addr) (c0_0 : Nat) (l0_0 : List Int) (a0_1 : Int) (A0_2 : Option Addr) (c0_2 : Nat) (l0_2 : List Int) (A0_3 : Option Addr) (c0_3 : Nat) (l0_3 : List (S44)) (r : Bool) (w : World) (hr0_0 : Kd.C (Kd.int .i64) w A0_0 l0_0.length l0_0) (hc0_0 : l0_0.length ≤ c0_0) (hr0_2 : Kd.C (Kd.int .i64) w A0_2 l0_2.length l0_2) (hc0_2 : l0_2.length ≤ c0_2) (hr0_3 : Kd.C k44 w A0_3 l0_3.length l0_3) (hc0_3 : l0_3.length ≤ c0_3) (h : spec_l7Func.f k l0_0 a0_1 l0_2 l0_3 = some r) :
  Calls Try.prog 46 #[.agg #[.slice A0_0 l0_0.length c0_0, .int .i64 a0_1, .slice A0_2 l0_2.length c0_2, .slice A0_3 l0_3.length c0_3]] w fun e w' => e = .returned (.bool r) ∧ Below w.heap.size w w' := by
 have hu25 := Try.underlying25
 have HR0_0 := Aside0.mk hr0_0
 have HC0_0 := Aside0.mk hc0_0
 clear hr0_0 hc0_0
 have HR0_2 := Aside0.mk hr0_2
 have HC0_2 := Aside0.mk hc0_2
 clear hr0_2 hc0_2
 have HR0_3 := Aside0.mk hr0_3
 have HC0_3 := Aside0.mk hc0_3
 clear hr0_3 hc0_3
 have HB := Aside0.mk (Below.refl w.heap.size w)
 have H : ((spec_l6Ends.f k l0_3).bind fun bt195 => (if bt195.2.2 = true then ((spec_l7Types.f k l0_0 6).bind fun t200 => (if t200 = true then ((spec_l7Types.f k l0_2 20).bind fun t201 => (if t201 = true then ((spec_l6Type.f a0_1).bind fun t202 => (if t202 = true then (some true) else (some (a0_1 == 64)))) else (some false))) else (some false))) else (some false))) = some r := h
 clear h
 replace H := Option.bind_eq_some_iff.mp H
 obtain ⟨⟨t195, t196, t197⟩, A20, H⟩ := H
 replace H : (if t197 = true then ((spec_l7Types.f k l0_0 6).bind fun t200 => (if t200 = true then ((spec_l7Types.f k l0_2 20).bind fun t201 => (if t201 = true then ((spec_l6Type.f a0_1).bind fun t202 => (if t202 = true then (some true) else (some (a0_1 == 64)))) else (some false))) else (some false))) else (some false)) = some r := H
 have A2 := Aside0.mk A20
 clear A20
 by_cases c3 : t197 = true
 ·
  subst c3
  have H1 : ((spec_l7Types.f k l0_0 6).bind fun t200 => (if t200 = true then ((spec_l7Types.f k l0_2 20).bind fun t201 => (if t201 = true then ((spec_l6Type.f a0_1).bind fun t202 => (if t202 = true then (some true) else (some (a0_1 == 64)))) else (some false))) else (some false))) = some r := by rw [if_pos rfl] at H; exact H
  clear H
  have H := H1
  clear H1
  replace H := Option.bind_eq_some_iff.mp H
  obtain ⟨t200, A40, H⟩ := H
  replace H : (if t200 = true then ((spec_l7Types.f k l0_2 20).bind fun t201 => (if t201 = true then ((spec_l6Type.f a0_1).bind fun t202 => (if t202 = true then (some true) else (some (a0_1 == 64)))) else (some false))) else (some false)) = some r := H
  have A4 := Aside0.mk A40
  clear A40
  by_cases c5 : t200 = true
  ·
   subst c5
   have H1 : ((spec_l7Types.f k l0_2 20).bind fun t201 => (if t201 = true then ((spec_l6Type.f a0_1).bind fun t202 => (if t202 = true then (some true) else (some (a0_1 == 64)))) else (some false))) = some r := by rw [if_pos rfl] at H; exact H
   clear H
   have H := H1
   clear H1
   replace H := Option.bind_eq_some_iff.mp H
   obtain ⟨t201, A60, H⟩ := H
   replace H : (if t201 = true then ((spec_l6Type.f a0_1).bind fun t202 => (if t202 = true then (some true) else (some (a0_1 == 64)))) else (some false)) = some r := H
   have A6 := Aside0.mk A60
   clear A60
   by_cases c7 : t201 = true
   ·
    subst c7
    have H1 : ((spec_l6Type.f a0_1).bind fun t202 => (if t202 = true then (some true) else (some (a0_1 == 64)))) = some r := by rw [if_pos rfl] at H; exact H
    clear H
    have H := H1
    clear H1
    replace H := Option.bind_eq_some_iff.mp H
    obtain ⟨t202, A80, H⟩ := H
    replace H : (if t202 = true then (some true) else (some (a0_1 == 64))) = some r := H
    have A8 := Aside0.mk A80
    clear A80
    by_cases c9 : t202 = true
    ·
     subst c9
     have H1 : (some true) = some r := by rw [if_pos rfl] at H; exact H
     clear H
     have H := H1
     clear H1
     obtain rfl := Option.some.inj H
     simp only [Option.some.injEq, Prod.mk.injEq] at H
     obtain ⟨rfl⟩ := H
     go_enter Try.func46, Try.ntmps46
     go_wp2_with (first | ((with_reducible refine gate_dst (N := 1) rfl ?_); refine box_event ?hg (N := 1) ?hd (cs := #[.slice A0_0 l0_0.length c0_0, .int .i64 a0_1, .slice A0_2 l0_2.length c0_2, .slice A0_3 l0_3.length c0_3]) (t := 25) ?hr ?_; (case hd => rfl); (case hg => rfl); (case hr => first | (go_simp; done) | (go_simp; rfl)); intro gb194 hg w10 hbox hb; have n0_ := Aside0.mk (below_step (bw HB.out) hb); have n1_ := Aside0.mk (hbox); have n2_ := Aside0.mk ((sz_ hg (bw HB.out) : w.heap.size ≤ gb194)); have n3_ := Aside0.mk ((sz_ hg (bw HB.out) : w.heap.size ≤ gb194)); clear HB; have HB := n0_; have BK194 := n1_; have GW194 := n2_; have GE194 := n3_; clear n0_ n1_ n2_ n3_; clear hb hbox hg; obtain ⟨hcz11_0, hcz11_1, hcz11_2, hcz11_3⟩ := cs4_ BK194.out; obtain ⟨hfz11_0, hfz11_1, hfz11_2, hfz11_3⟩ := fz4_ BK194.out) | ((with_reducible refine gate_callee (f := 41) rfl ?_); refine goesL_ (some 9) rfl rfl Try.func41 (by kernel_rfl) rfl #[.slice A0_3 l0_3.length c0_3] rfl ar ?_; (with_reducible refine (spec_l6Ends.calls k _ _ l0_3 t195 t196 true _ ?side1 ?side2 A2.out).mono ?_); (case side1 => repeat (first | exact (Kd.C_below HR0_3.out HB.out) | (with_reducible refine Kd.C_alloc ?_ _) | (with_reducible refine Kd.C_drewN ?_ _) | (with_reducible refine Kd.C_drew ?_))); (case side2 => exact HC0_3.out); rintro e w12 ⟨v198, rfl, ho0, hb⟩; refine ⟨_, rfl, ?_⟩; have n0_ := Aside0.mk (Kd.R_lower ho0 (below_size (bw HB.out))); have n1_ := Aside0.mk (blk_below (g := gb194) (o := .cells #[.slice A0_0 l0_0.length c0_0, .int .i64 a0_1, .slice A0_2 l0_2.length c0_2, .slice A0_3 l0_3.length c0_3] 25 (0, 0)) (bk BK194.out) hb); have n2_ := Aside0.mk (below_step (bw HB.out) hb); clear BK194; clear HB; have HO199 := n0_; have BK194 := n1_; have HB := n2_; clear n0_ n1_ n2_; (try clear hb); (try clear hb2); (try clear hk); (try clear hi); (try clear ho0); obtain ⟨hcz13_0, hcz13_1, hcz13_2, hcz13_3⟩ := cs4_ BK194.out; obtain ⟨hfz13_0, hfz13_1, hfz13_2, hfz13_3⟩ := fz4_ BK194.out) | (go_at_call 70; (with_reducible refine (spec_l7Types.calls k _ _ l0_0 6 true _ ?side1 ?side2 A4.out).mono ?_); (case side1 => repeat (first | exact (Kd.C_below HR0_0.out HB.out) | (with_reducible refine Kd.C_alloc ?_ _) | (with_reducible refine Kd.C_drewN ?_ _) | (with_reducible refine Kd.C_drew ?_))); (case side2 => exact HC0_0.out); rintro e w' ⟨rfl, ⟨nd, rfl⟩⟩) | (go_at_call 70; (with_reducible refine (spec_l7Types.calls k _ _ l0_2 20 true _ ?side1 ?side2 A6.out).mono ?_); (case side1 => repeat (first | exact (Kd.C_below HR0_2.out (bw HB.out)) | (with_reducible refine Kd.C_alloc ?_ _) | (with_reducible refine Kd.C_drewN ?_ _) | (with_reducible refine Kd.C_drew ?_))); (case side2 => exact HC0_2.out); rintro e w' ⟨rfl, ⟨nd, rfl⟩⟩) | (go_at_call 71; (with_reducible refine (spec_l6Type.calls a0_1 true _ A8.out).mono ?_); rintro e w' ⟨rfl, ⟨nd, rfl⟩⟩))
     go_ret
     exact ⟨rr_, bw HB.out⟩
    ·
     replace c9 := Bool.eq_false_iff.mpr c9
     subst c9
     have H1 : (some (a0_1 == 64)) = some r := by rw [if_neg (show ¬ (false = true) by decide)] at H; exact H
     clear H
     have H := H1
     clear H1
     obtain rfl := Option.some.inj H
     simp only [Option.some.injEq, Prod.mk.injEq] at H
     obtain ⟨rfl⟩ := H
     go_enter Try.func46, Try.ntmps46
     go_wp2_with (first | ((with_reducible refine gate_dst (N := 1) rfl ?_); refine box_event ?hg (N := 1) ?hd (cs := #[.slice A0_0 l0_0.length c0_0, .int .i64 a0_1, .slice A0_2 l0_2.length c0_2, .slice A0_3 l0_3.length c0_3]) (t := 25) ?hr ?_; (case hd => rfl); (case hg => rfl); (case hr => first | (go_simp; done) | (go_simp; rfl)); intro gb194 hg w14 hbox hb; have n0_ := Aside0.mk (below_step (bw HB.out) hb); have n1_ := Aside0.mk (hbox); have n2_ := Aside0.mk ((sz_ hg (bw HB.out) : w.heap.size ≤ gb194)); have n3_ := Aside0.mk ((sz_ hg (bw HB.out) : w.heap.size ≤ gb194)); clear HB; have HB := n0_; have BK194 := n1_; have GW194 := n2_; have GE194 := n3_; clear n0_ n1_ n2_ n3_; clear hb hbox hg; obtain ⟨hcz15_0, hcz15_1, hcz15_2, hcz15_3⟩ := cs4_ BK194.out; obtain ⟨hfz15_0, hfz15_1, hfz15_2, hfz15_3⟩ := fz4_ BK194.out) | ((with_reducible refine gate_callee (f := 41) rfl ?_); refine goesL_ (some 9) rfl rfl Try.func41 (by kernel_rfl) rfl #[.slice A0_3 l0_3.length c0_3] rfl ar ?_; (with_reducible refine (spec_l6Ends.calls k _ _ l0_3 t195 t196 true _ ?side1 ?side2 A2.out).mono ?_); (case side1 => repeat (first | exact (Kd.C_below HR0_3.out HB.out) | (with_reducible refine Kd.C_alloc ?_ _) | (with_reducible refine Kd.C_drewN ?_ _) | (with_reducible refine Kd.C_drew ?_))); (case side2 => exact HC0_3.out); rintro e w16 ⟨v198, rfl, ho0, hb⟩; refine ⟨_, rfl, ?_⟩; have n0_ := Aside0.mk (Kd.R_lower ho0 (below_size (bw HB.out))); have n1_ := Aside0.mk (blk_below (g := gb194) (o := .cells #[.slice A0_0 l0_0.length c0_0, .int .i64 a0_1, .slice A0_2 l0_2.length c0_2, .slice A0_3 l0_3.length c0_3] 25 (0, 0)) (bk BK194.out) hb); have n2_ := Aside0.mk (below_step (bw HB.out) hb); clear BK194; clear HB; have HO199 := n0_; have BK194 := n1_; have HB := n2_; clear n0_ n1_ n2_; (try clear hb); (try clear hb2); (try clear hk); (try clear hi); (try clear ho0); obtain ⟨hcz17_0, hcz17_1, hcz17_2, hcz17_3⟩ := cs4_ BK194.out; obtain ⟨hfz17_0, hfz17_1, hfz17_2, hfz17_3⟩ := fz4_ BK194.out) | (go_at_call 70; (with_reducible refine (spec_l7Types.calls k _ _ l0_0 6 true _ ?side1 ?side2 A4.out).mono ?_); (case side1 => repeat (first | exact (Kd.C_below HR0_0.out HB.out) | (with_reducible refine Kd.C_alloc ?_ _) | (with_reducible refine Kd.C_drewN ?_ _) | (with_reducible refine Kd.C_drew ?_))); (case side2 => exact HC0_0.out); rintro e w' ⟨rfl, ⟨nd, rfl⟩⟩) | (go_at_call 70; (with_reducible refine (spec_l7Types.calls k _ _ l0_2 20 true _ ?side1 ?side2 A6.out).mono ?_); (case side1 => repeat (first | exact (Kd.C_below HR0_2.out (bw HB.out)) | (with_reducible refine Kd.C_alloc ?_ _) | (with_reducible refine Kd.C_drewN ?_ _) | (with_reducible refine Kd.C_drew ?_))); (case side2 => exact HC0_2.out); rintro e w' ⟨rfl, ⟨nd, rfl⟩⟩) | (go_at_call 71; (with_reducible refine (spec_l6Type.calls a0_1 false _ A8.out).mono ?_); rintro e w' ⟨rfl, ⟨nd, rfl⟩⟩))
     go_ret
     exact ⟨rr_, bw HB.out⟩
   ·
    replace c7 := Bool.eq_false_iff.mpr c7
    subst c7
    have H1 : (some false) = some r := by rw [if_neg (show ¬ (false = true) by decide)] at H; exact H
    clear H
    have H := H1
    clear H1
    obtain rfl := Option.some.inj H
    simp only [Option.some.injEq, Prod.mk.injEq] at H
    obtain ⟨rfl⟩ := H
    go_enter Try.func46, Try.ntmps46
    go_wp2_with (first | ((with_reducible refine gate_dst (N := 1) rfl ?_); refine box_event ?hg (N := 1) ?hd (cs := #[.slice A0_0 l0_0.length c0_0, .int .i64 a0_1, .slice A0_2 l0_2.length c0_2, .slice A0_3 l0_3.length c0_3]) (t := 25) ?hr ?_; (case hd => rfl); (case hg => rfl); (case hr => first | (go_simp; done) | (go_simp; rfl)); intro gb194 hg w18 hbox hb; have n0_ := Aside0.mk (below_step (bw HB.out) hb); have n1_ := Aside0.mk (hbox); have n2_ := Aside0.mk ((sz_ hg (bw HB.out) : w.heap.size ≤ gb194)); have n3_ := Aside0.mk ((sz_ hg (bw HB.out) : w.heap.size ≤ gb194)); clear HB; have HB := n0_; have BK194 := n1_; have GW194 := n2_; have GE194 := n3_; clear n0_ n1_ n2_ n3_; clear hb hbox hg; obtain ⟨hcz19_0, hcz19_1, hcz19_2, hcz19_3⟩ := cs4_ BK194.out; obtain ⟨hfz19_0, hfz19_1, hfz19_2, hfz19_3⟩ := fz4_ BK194.out) | ((with_reducible refine gate_callee (f := 41) rfl ?_); refine goesL_ (some 9) rfl rfl Try.func41 (by kernel_rfl) rfl #[.slice A0_3 l0_3.length c0_3] rfl ar ?_; (with_reducible refine (spec_l6Ends.calls k _ _ l0_3 t195 t196 true _ ?side1 ?side2 A2.out).mono ?_); (case side1 => repeat (first | exact (Kd.C_below HR0_3.out HB.out) | (with_reducible refine Kd.C_alloc ?_ _) | (with_reducible refine Kd.C_drewN ?_ _) | (with_reducible refine Kd.C_drew ?_))); (case side2 => exact HC0_3.out); rintro e w20 ⟨v198, rfl, ho0, hb⟩; refine ⟨_, rfl, ?_⟩; have n0_ := Aside0.mk (Kd.R_lower ho0 (below_size (bw HB.out))); have n1_ := Aside0.mk (blk_below (g := gb194) (o := .cells #[.slice A0_0 l0_0.length c0_0, .int .i64 a0_1, .slice A0_2 l0_2.length c0_2, .slice A0_3 l0_3.length c0_3] 25 (0, 0)) (bk BK194.out) hb); have n2_ := Aside0.mk (below_step (bw HB.out) hb); clear BK194; clear HB; have HO199 := n0_; have BK194 := n1_; have HB := n2_; clear n0_ n1_ n2_; (try clear hb); (try clear hb2); (try clear hk); (try clear hi); (try clear ho0); obtain ⟨hcz21_0, hcz21_1, hcz21_2, hcz21_3⟩ := cs4_ BK194.out; obtain ⟨hfz21_0, hfz21_1, hfz21_2, hfz21_3⟩ := fz4_ BK194.out) | (go_at_call 70; (with_reducible refine (spec_l7Types.calls k _ _ l0_0 6 true _ ?side1 ?side2 A4.out).mono ?_); (case side1 => repeat (first | exact (Kd.C_below HR0_0.out HB.out) | (with_reducible refine Kd.C_alloc ?_ _) | (with_reducible refine Kd.C_drewN ?_ _) | (with_reducible refine Kd.C_drew ?_))); (case side2 => exact HC0_0.out); rintro e w' ⟨rfl, ⟨nd, rfl⟩⟩) | (go_at_call 70; (with_reducible refine (spec_l7Types.calls k _ _ l0_2 20 false _ ?side1 ?side2 A6.out).mono ?_); (case side1 => repeat (first | exact (Kd.C_below HR0_2.out (bw HB.out)) | (with_reducible refine Kd.C_alloc ?_ _) | (with_reducible refine Kd.C_drewN ?_ _) | (with_reducible refine Kd.C_drew ?_))); (case side2 => exact HC0_2.out); rintro e w' ⟨rfl, ⟨nd, rfl⟩⟩))
    go_ret
    exact ⟨rr_, bw HB.out⟩
  ·
   replace c5 := Bool.eq_false_iff.mpr c5
   subst c5
   have H1 : (some false) = some r := by rw [if_neg (show ¬ (false = true) by decide)] at H; exact H
   clear H
   have H := H1
   clear H1
   obtain rfl := Option.some.inj H
   simp only [Option.some.injEq, Prod.mk.injEq] at H
   obtain ⟨rfl⟩ := H
   go_enter Try.func46, Try.ntmps46
   go_wp2_with (first | ((with_reducible refine gate_dst (N := 1) rfl ?_); refine box_event ?hg (N := 1) ?hd (cs := #[.slice A0_0 l0_0.length c0_0, .int .i64 a0_1, .slice A0_2 l0_2.length c0_2, .slice A0_3 l0_3.length c0_3]) (t := 25) ?hr ?_; (case hd => rfl); (case hg => rfl); (case hr => first | (go_simp; done) | (go_simp; rfl)); intro gb194 hg w22 hbox hb; have n0_ := Aside0.mk (below_step (bw HB.out) hb); have n1_ := Aside0.mk (hbox); have n2_ := Aside0.mk ((sz_ hg (bw HB.out) : w.heap.size ≤ gb194)); have n3_ := Aside0.mk ((sz_ hg (bw HB.out) : w.heap.size ≤ gb194)); clear HB; have HB := n0_; have BK194 := n1_; have GW194 := n2_; have GE194 := n3_; clear n0_ n1_ n2_ n3_; clear hb hbox hg; obtain ⟨hcz23_0, hcz23_1, hcz23_2, hcz23_3⟩ := cs4_ BK194.out; obtain ⟨hfz23_0, hfz23_1, hfz23_2, hfz23_3⟩ := fz4_ BK194.out) | ((with_reducible refine gate_callee (f := 41) rfl ?_); refine goesL_ (some 9) rfl rfl Try.func41 (by kernel_rfl) rfl #[.slice A0_3 l0_3.length c0_3] rfl ar ?_; (with_reducible refine (spec_l6Ends.calls k _ _ l0_3 t195 t196 true _ ?side1 ?side2 A2.out).mono ?_); (case side1 => repeat (first | exact (Kd.C_below HR0_3.out HB.out) | (with_reducible refine Kd.C_alloc ?_ _) | (with_reducible refine Kd.C_drewN ?_ _) | (with_reducible refine Kd.C_drew ?_))); (case side2 => exact HC0_3.out); rintro e w24 ⟨v198, rfl, ho0, hb⟩; refine ⟨_, rfl, ?_⟩; have n0_ := Aside0.mk (Kd.R_lower ho0 (below_size (bw HB.out))); have n1_ := Aside0.mk (blk_below (g := gb194) (o := .cells #[.slice A0_0 l0_0.length c0_0, .int .i64 a0_1, .slice A0_2 l0_2.length c0_2, .slice A0_3 l0_3.length c0_3] 25 (0, 0)) (bk BK194.out) hb); have n2_ := Aside0.mk (below_step (bw HB.out) hb); clear BK194; clear HB; have HO199 := n0_; have BK194 := n1_; have HB := n2_; clear n0_ n1_ n2_; (try clear hb); (try clear hb2); (try clear hk); (try clear hi); (try clear ho0); obtain ⟨hcz25_0, hcz25_1, hcz25_2, hcz25_3⟩ := cs4_ BK194.out; obtain ⟨hfz25_0, hfz25_1, hfz25_2, hfz25_3⟩ := fz4_ BK194.out) | (go_at_call 70; (with_reducible refine (spec_l7Types.calls k _ _ l0_0 6 false _ ?side1 ?side2 A4.out).mono ?_); (case side1 => repeat (first | exact (Kd.C_below HR0_0.out HB.out) | (with_reducible refine Kd.C_alloc ?_ _) | (with_reducible refine Kd.C_drewN ?_ _) | (with_reducible refine Kd.C_drew ?_))); (case side2 => exact HC0_0.out); rintro e w' ⟨rfl, ⟨nd, rfl⟩⟩))
   go_ret
   exact ⟨rr_, bw HB.out⟩
 ·
  replace c3 := Bool.eq_false_iff.mpr c3
  subst c3
  have H1 : (some false) = some r := by rw [if_neg (show ¬ (false = true) by decide)] at H; exact H
  clear H
  have H := H1
  clear H1
  obtain rfl := Option.some.inj H
  simp only [Option.some.injEq, Prod.mk.injEq] at H
  obtain ⟨rfl⟩ := H
  go_enter Try.func46, Try.ntmps46
  go_wp2_with (first | ((with_reducible refine gate_dst (N := 1) rfl ?_); refine box_event ?hg (N := 1) ?hd (cs := #[.slice A0_0 l0_0.length c0_0, .int .i64 a0_1, .slice A0_2 l0_2.length c0_2, .slice A0_3 l0_3.length c0_3]) (t := 25) ?hr ?_; (case hd => rfl); (case hg => rfl); (case hr => first | (go_simp; done) | (go_simp; rfl)); intro gb194 hg w26 hbox hb; have n0_ := Aside0.mk (below_step (bw HB.out) hb); have n1_ := Aside0.mk (hbox); have n2_ := Aside0.mk ((sz_ hg (bw HB.out) : w.heap.size ≤ gb194)); have n3_ := Aside0.mk ((sz_ hg (bw HB.out) : w.heap.size ≤ gb194)); clear HB; have HB := n0_; have BK194 := n1_; have GW194 := n2_; have GE194 := n3_; clear n0_ n1_ n2_ n3_; clear hb hbox hg; obtain ⟨hcz27_0, hcz27_1, hcz27_2, hcz27_3⟩ := cs4_ BK194.out; obtain ⟨hfz27_0, hfz27_1, hfz27_2, hfz27_3⟩ := fz4_ BK194.out) | ((with_reducible refine gate_callee (f := 41) rfl ?_); refine goesL_ (some 9) rfl rfl Try.func41 (by kernel_rfl) rfl #[.slice A0_3 l0_3.length c0_3] rfl ar ?_; (with_reducible refine (spec_l6Ends.calls k _ _ l0_3 t195 t196 false _ ?side1 ?side2 A2.out).mono ?_); (case side1 => repeat (first | exact (Kd.C_below HR0_3.out HB.out) | (with_reducible refine Kd.C_alloc ?_ _) | (with_reducible refine Kd.C_drewN ?_ _) | (with_reducible refine Kd.C_drew ?_))); (case side2 => exact HC0_3.out); rintro e w28 ⟨v198, rfl, ho0, hb⟩; refine ⟨_, rfl, ?_⟩; have n0_ := Aside0.mk (Kd.R_lower ho0 (below_size (bw HB.out))); have n1_ := Aside0.mk (blk_below (g := gb194) (o := .cells #[.slice A0_0 l0_0.length c0_0, .int .i64 a0_1, .slice A0_2 l0_2.length c0_2, .slice A0_3 l0_3.length c0_3] 25 (0, 0)) (bk BK194.out) hb); have n2_ := Aside0.mk (below_step (bw HB.out) hb); clear BK194; clear HB; have HO199 := n0_; have BK194 := n1_; have HB := n2_; clear n0_ n1_ n2_; (try clear hb); (try clear hb2); (try clear hk); (try clear hi); (try clear ho0)))
  go_ret
  exact ⟨rr_, bw HB.out⟩

end Go.Proofs.Ytmmlgkepnjelnaa.Q

