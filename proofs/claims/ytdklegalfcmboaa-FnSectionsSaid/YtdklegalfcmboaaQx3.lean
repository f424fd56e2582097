-- Written by a program of this session; it walks the functions that the law reaches.
import Derived.Test.YtdklegalfcmboaaQx0
import Derived.Test.YtdklegalfcmboaaQx1
namespace Go.Proofs.Ytdklegalfcmboaa.Q
open Go.RowKit Go.Proofs.YtdklegalfcmboaaW.PrintWords Go.Proofs.YtdklegalfcmboaaW.PrintLast Go.Proofs.YtdklegalfcmboaaW.PrintMore
attribute [local go_sem] max2_int min2_int max_two min_two max_three min_three max_four min_four   -- for this text's walks alone
set_option linter.unusedVariables false
set_option linter.unusedSimpArgs false

/-! ### spec_SectionsBytes: function 15 -/
def spec_SectionsBytes.l0 : Nat → ByteArray → List (S45) → Int → Int → Option (ByteArray × Bool)
 | 0, _, _, _, _ => none
 | k + 1, x4, x10, x11, x12 => if x12 < x11 then (if 0 ≤ x12 then (if x12 < (x10.length : Int) then ((some (([((rd_T45 x10 x12).f0) % 256] : List Int) : List Int)).bind fun y178 => ((spec_l1Uleb.f k (IntKind.u64.wrap ((((rd_T45 x10 x12).f1).size : Int)))).bind fun t181 => (if (strOfNums y178).size + t181.size ≤ 9223372036854775807 then (if ((strOfNums y178) ++ t181).size + ((rd_T45 x10 x12).f1).size ≤ 9223372036854775807 then (if x4.size + (((strOfNums y178) ++ t181) ++ ((rd_T45 x10 x12).f1)).size ≤ 9223372036854775807 then (spec_SectionsBytes.l0 k (x4 ++ (((strOfNums y178) ++ t181) ++ ((rd_T45 x10 x12).f1))) x10 x11 (wrap64 (x12 + 1))) else (none)) else (none)) else (none)))) else (none)) else (none)) else (if (x4.size : Int) > 4000 then (some ((⟨#[]⟩ : ByteArray), false)) else (some (x4, true)))
def spec_SectionsBytes.f (k : Nat) (l0 : List (S45)) : Option (ByteArray × Bool) := (spec_l1Sections.f k l0).bind fun t175 => (if t175 = true then (spec_SectionsBytes.l0 k (⟨#[]⟩ : ByteArray) l0 (l0.length : Int) 0) else (some ((⟨#[]⟩ : ByteArray), false)))
theorem spec_SectionsBytes.mono_l : ∀ k, (∀ y0 y1 y2 y3, LeO (spec_SectionsBytes.l0 k y0 y1 y2 y3) (spec_SectionsBytes.l0 (k + 1) y0 y1 y2 y3))
 | 0 => fun _ _ _ _ r h => by simp [spec_SectionsBytes.l0] at h
 | k + 1 => by
  have ih0 := spec_SectionsBytes.mono_l k
  ·
   intro y0 y1 y2 y3
   unfold spec_SectionsBytes.l0
   repeat' first
   | (with_reducible exact ih0 _ _ _ _)
   | (with_reducible exact spec_l1Sections.mono _ _)
   | (with_reducible exact spec_l1Uleb.mono _ _)
   | (with_reducible exact LeO.refl _)
   | (with_reducible exact LeO.none _)
   | (with_reducible refine LeO.ite ?_ ?_)
   | (with_reducible refine LeO.bind ?_ (fun _ => ?_))
   | exact ih0 _ _ _ _
   | exact spec_l1Sections.mono _ _
   | exact spec_l1Uleb.mono _ _
   | exact LeO.none _
   | refine LeO.ite ?_ ?_
   | refine LeO.bind ?_ (fun _ => ?_)
theorem spec_SectionsBytes.mono : ∀ a0 k, LeO (spec_SectionsBytes.f k a0) (spec_SectionsBytes.f (k + 1) a0) := by
 intro a0 k
 have ih0 := spec_SectionsBytes.mono_l k
 unfold spec_SectionsBytes.f
 repeat' first
   | (with_reducible exact ih0 _ _ _ _)
   | (with_reducible exact spec_l1Sections.mono _ _)
   | (with_reducible exact spec_l1Uleb.mono _ _)
   | (with_reducible exact LeO.refl _)
   | (with_reducible exact LeO.none _)
   | (with_reducible refine LeO.ite ?_ ?_)
   | (with_reducible refine LeO.bind ?_ (fun _ => ?_))
   | exact ih0 _ _ _ _
   | exact spec_l1Sections.mono _ _
   | exact spec_l1Uleb.mono _ _
   | exact LeO.none _
   | refine LeO.ite ?_ ?_
   | refine LeO.bind ?_ (fun _ => ?_)
def spec_SectionsBytes.T7 : Bool × List (List Nat × List Nat) := (true, [([], []), ([], []), ([1], [1]), ([2], [2]), ([3], [3]), ([4], [4]), ([], []), ([6], [6]), ([7], [7]), ([8], [8]), ([9], [9]), ([5, 10], [5, 10]), ([], []), ([12], [12]), ([11, 13], [11, 13]), ([0, 14], [0, 14]), ([15, 10, 0, 1, 2, 3, 4, 5, 6, 7, 8, 9, 10, 11, 12, 13, 14, 15], [0, 15])])
def spec_SectionsBytes.B7 : List Nat := [0, 0, 2, 6, 14, 30, 0, 64, 192, 448, 960, 2046, 0, 4096, 16382, 32767, 65535]
theorem spec_SectionsBytes.tab7 : rtab .any (opsOf Try.f15 7) = spec_SectionsBytes.T7 := by kernel_rfl
theorem spec_SectionsBytes.bits7 : waitsOk spec_SectionsBytes.T7.2 spec_SectionsBytes.B7 = true := by kernel_rfl
set_option maxHeartbeats 8000000 in
set_option maxRecDepth 100000 in
theorem spec_SectionsBytes.calls (k : Nat) (A0 : Option Addr) (c0 : Nat) (l0 : List (S45)) (r1 : ByteArray) (r2 : Bool) (w : World) (hr0 : Kd.C k45 w A0 l0.length l0) (hc0 : l0.length ≤ c0) (h : spec_SectionsBytes.f k l0 = some (r1, r2)) :
  Calls Try.prog 15 #[.slice A0 l0.length c0] w fun e w' => e = .returned (.tuple #[.string r1, .bool r2]) ∧ Below w.heap.size w w' := by
 have hu45 := Try.underlying45
 have HR0 := Aside0.mk hr0
 have HC0 := Aside0.mk hc0
 clear hr0 hc0
 have HB := Aside0.mk (Below.refl w.heap.size w)
 have H : ((spec_l1Sections.f k l0).bind fun t175 => (if t175 = true then (spec_SectionsBytes.l0 k (⟨#[]⟩ : ByteArray) l0 (l0.length : Int) 0) else (some ((⟨#[]⟩ : ByteArray), false)))) = some (r1, r2) := h
 clear h
 replace H := Option.bind_eq_some_iff.mp H
 obtain ⟨t175, A20, H⟩ := H
 replace H : (if t175 = true then (spec_SectionsBytes.l0 k (⟨#[]⟩ : ByteArray) l0 (l0.length : Int) 0) else (some ((⟨#[]⟩ : ByteArray), false))) = some (r1, r2) := H
 have A2 := Aside0.mk A20
 clear A20
 by_cases c3 : t175 = true
 ·
  subst c3
  have H1 : (spec_SectionsBytes.l0 k (⟨#[]⟩ : ByteArray) l0 (l0.length : Int) 0) = some (r1, r2) := by rw [if_pos rfl] at H; exact H
  clear H
  have H := H1
  clear H1
  have H' := Aside0.mk H
  clear H
  go_enter Try.func15, Try.ntmps15
  go_wp2_with (first | ((with_reducible refine gate_callee (f := 39) rfl ?_); refine goesL_ (some 8) rfl rfl Try.func39 (by kernel_rfl) rfl #[.slice A0 l0.length c0] rfl ar ?_; (with_reducible refine (spec_l1Sections.calls k _ _ l0 true _ ?side1 ?side2 A2.out).mono ?_); (case side1 => repeat (first | exact HR0.out | (with_reducible refine Kd.C_alloc ?_ _) | (with_reducible refine Kd.C_drewN ?_ _) | (with_reducible refine Kd.C_drew ?_))); (case side2 => exact HC0.out); rintro e w4 ⟨rfl, hb⟩; refine ⟨_, rfl, ?_⟩; have n0_ := Aside0.mk (below_step (bw HB.out) hb); clear HB; have HB := n0_; clear n0_; (try clear hb)))
  (try simp only [Act.put, List.setIfInBounds_toArray, List.set_cons_zero, List.set_cons_succ])
  go_loopg [4, 12] k (fun kq v4 v12 w' => ∃ (x4_1 : ByteArray) (x12_1 : Int), v4 = .string x4_1 ∧ v12 = .int .i64 x12_1 ∧ Aside0 (spec_SectionsBytes.l0 kq x4_1 l0 (l0.length : Int) x12_1 = some (r1, r2)) ∧ Aside0 (kq ≤ k) ∧ Aside0 (Below w.heap.size w w'))
  case atStart => exact ⟨((⟨#[]⟩ : ByteArray)), (0), (by first | rfl | (simp; done) | (simp [*]; done)), (by first | rfl | (simp; done) | (simp [*]; done)), H', ⟨Nat.le_refl _⟩, ⟨bw HB.out⟩⟩
  case round =>
   clear H'
   try clear c1
   try clear p2
   try clear c3
   obtain ⟨x4_1, x12_1, rfl, rfl, HA, HK1, HB⟩ := hrel
   cases gk with
   | zero => exact absurd HA.out (by simp [spec_SectionsBytes.l0])
   | succ k1 =>
    have H := HA.out
    clear HA
    simp only [spec_SectionsBytes.l0] at H
    by_cases c5 : x12_1 < (l0.length : Int)
    ·
     rw [if_pos c5] at H
     have c5b0 : decide (x12_1 < (l0.length : Int)) = true := decide_eq_true c5
     clear c5
     by_cases c6 : 0 ≤ x12_1
     ·
      rw [if_pos c6] at H
      have c6b0 : decide (0 ≤ x12_1) = true := decide_eq_true c6
      clear c6
      by_cases c7 : x12_1 < (l0.length : Int)
      ·
       rw [if_pos c7] at H
       have c7b0 : decide (x12_1 < (l0.length : Int)) = true := decide_eq_true c7
       clear c7
       obtain ⟨y178, hy178⟩ : ∃ y_ : List Int, y_ = (([((rd_T45 l0 x12_1).f0) % 256] : List Int)) := ⟨_, rfl⟩
       replace H : ((spec_l1Uleb.f k1 (IntKind.u64.wrap ((((rd_T45 l0 x12_1).f1).size : Int)))).bind fun t181 => (if (strOfNums y178).size + t181.size ≤ 9223372036854775807 then (if ((strOfNums y178) ++ t181).size + ((rd_T45 l0 x12_1).f1).size ≤ 9223372036854775807 then (if x4_1.size + (((strOfNums y178) ++ t181) ++ ((rd_T45 l0 x12_1).f1)).size ≤ 9223372036854775807 then (spec_SectionsBytes.l0 k1 (x4_1 ++ (((strOfNums y178) ++ t181) ++ ((rd_T45 l0 x12_1).f1))) l0 (l0.length : Int) (wrap64 (x12_1 + 1))) else (none)) else (none)) else (none))) = some (r1, r2) := by first | (rw [hy178]; with_reducible exact H) | (have H2_ := (Option.bind_some _ _).symm.trans H; rw [hy178]; with_reducible exact H2_) | (have H2_ := (Option.bind_some _ _).symm.trans H; with_reducible exact H2_) | with_reducible exact H | (rw [hy178]; exact H) | exact H
       have Ny178 := Aside0.mk hy178
       clear hy178
       replace H := Option.bind_eq_some_iff.mp H
       obtain ⟨t181, A80, H⟩ := H
       replace H : (if (strOfNums y178).size + t181.size ≤ 9223372036854775807 then (if ((strOfNums y178) ++ t181).size + ((rd_T45 l0 x12_1).f1).size ≤ 9223372036854775807 then (if x4_1.size + (((strOfNums y178) ++ t181) ++ ((rd_T45 l0 x12_1).f1)).size ≤ 9223372036854775807 then (spec_SectionsBytes.l0 k1 (x4_1 ++ (((strOfNums y178) ++ t181) ++ ((rd_T45 l0 x12_1).f1))) l0 (l0.length : Int) (wrap64 (x12_1 + 1))) else (none)) else (none)) else (none)) = some (r1, r2) := H
       have A8 := Aside0.mk A80
       clear A80
       by_cases c9 : (strOfNums y178).size + t181.size ≤ 9223372036854775807
       ·
        rw [if_pos c9] at H
        have c9b0 := eq_true c9
        have c9b1 : decide ((strOfNums y178).size + t181.size ≤ 9223372036854775807) = true := decide_eq_true c9
        try have c9b2 : (9223372036854775807 < (strOfNums y178).size + t181.size) = False := eq_false (Nat.not_lt.2 c9)
        by_cases c10 : ((strOfNums y178) ++ t181).size + ((rd_T45 l0 x12_1).f1).size ≤ 9223372036854775807
        ·
         rw [if_pos c10] at H
         have c10b0 := eq_true c10
         have c10b1 : decide (((strOfNums y178) ++ t181).size + ((rd_T45 l0 x12_1).f1).size ≤ 9223372036854775807) = true := decide_eq_true c10
         try have c10b2 : (9223372036854775807 < ((strOfNums y178) ++ t181).size + ((rd_T45 l0 x12_1).f1).size) = False := eq_false (Nat.not_lt.2 c10)
         try (have c10b3 := c10b2; simp only [ByteArray.size_append] at c10b3)
         by_cases c11 : x4_1.size + (((strOfNums y178) ++ t181) ++ ((rd_T45 l0 x12_1).f1)).size ≤ 9223372036854775807
         ·
          rw [if_pos c11] at H
          have c11b0 := eq_true c11
          have c11b1 : decide (x4_1.size + (((strOfNums y178) ++ t181) ++ ((rd_T45 l0 x12_1).f1)).size ≤ 9223372036854775807) = true := decide_eq_true c11
          try have c11b2 : (9223372036854775807 < x4_1.size + (((strOfNums y178) ++ t181) ++ ((rd_T45 l0 x12_1).f1)).size) = False := eq_false (Nat.not_lt.2 c11)
          try (have c11b3 := c11b2; simp only [ByteArray.size_append] at c11b3)
          have H' := Aside0.mk H
          clear H
          have p176 : 0 ≤ (x12_1 : Int) := of_decide_eq_true (by first | (with_reducible assumption) | assumption)
          have q176 : x12_1 < (l0.length : Int) := of_decide_eq_true (by first | (with_reducible assumption) | assumption)
          obtain ⟨ad176, e176, hx176_0, hx176_1⟩ := at_T45 HR0.out x12_1 p176 q176
          cases e176
          replace hx176_0 := (HB.out.cell (World.block_lt_of_cell? w _ hx176_0)).trans hx176_0
          replace hx176_1 := (HB.out.cell (World.block_lt_of_cell? w _ hx176_1)).trans hx176_1
          replace p176 := eq_true p176
          replace q176 := eq_true q176
          try go_wp2_with (first | ((with_reducible refine gate_dst (N := 6) rfl ?_); refine box_event ?hg (N := 6) ?hd (cs := #[.int .i64 0, .string (⟨#[]⟩ : ByteArray)]) (t := 45) ?hr ?_; (case hd => rfl); (case hg => rfl); (case hr => first | (go_simp; done) | (go_simp; rfl)); intro gb177 hg w12 hbox hb; have n0_ := Aside0.mk (below_step (bw HB.out) hb); have n1_ := Aside0.mk (hbox); have n2_ := Aside0.mk ((by rw [hg]; exact (below_size (bw HB.out)) : w.heap.size ≤ gb177)); have n3_ := Aside0.mk ((by rw [hg]; exact (below_size (bw HB.out)) : w.heap.size ≤ gb177)); clear HB; have HB := n0_; have BK177 := n1_; have GW177 := n2_; have GE177 := n3_; clear n0_ n1_ n2_ n3_; clear hb hbox hg; have hcz13_0 : w12.cell? ⟨gb177, 0, none⟩ = some (.int .i64 0) := (blk_cell BK177.out 0).trans rfl; have hcz13_1 : w12.cell? ⟨gb177, 1, none⟩ = some (.string (⟨#[]⟩ : ByteArray)) := (blk_cell BK177.out 1).trans rfl; have hfz13_0 := blk_frozen BK177.out 0; have hfz13_1 := blk_frozen BK177.out 1))
          have n0_ : Aside0 (((w12.setCell ⟨gb177, 0, none⟩ (.int .i64 ((rd_T45 l0 x12_1).f0))).setCell ⟨gb177, 1, none⟩ (.string ((rd_T45 l0 x12_1).f1))).heap[gb177]? = some (.cells #[.int .i64 ((rd_T45 l0 x12_1).f0), .string ((rd_T45 l0 x12_1).f1)] 45 (0, 0))) := ⟨by (with_reducible repeat (first | refine blk_drewN ?_ _ | refine blk_drew ?_ | refine blk_alloc ?_ _)); refine blk_put (cs := #[.int .i64 ((rd_T45 l0 x12_1).f0), .string (⟨#[]⟩ : ByteArray)]) ?_ 1 _ rfl; (with_reducible repeat (first | refine blk_drewN ?_ _ | refine blk_drew ?_ | refine blk_alloc ?_ _)); refine blk_put (cs := #[.int .i64 0, .string (⟨#[]⟩ : ByteArray)]) ?_ 0 _ rfl; (with_reducible repeat (first | refine blk_drewN ?_ _ | refine blk_drew ?_ | refine blk_alloc ?_ _)); exact BK177.out⟩
          have n1_ : Aside0 (Below w.heap.size w ((w12.setCell ⟨gb177, 0, none⟩ (.int .i64 ((rd_T45 l0 x12_1).f0))).setCell ⟨gb177, 1, none⟩ (.string ((rd_T45 l0 x12_1).f1)))) := ⟨bw HB.out⟩
          (try clear BK177)
          (try clear HB)
          generalize ((w12.setCell ⟨gb177, 0, none⟩ (.int .i64 ((rd_T45 l0 x12_1).f0))).setCell ⟨gb177, 1, none⟩ (.string ((rd_T45 l0 x12_1).f1))) = w14 at n0_ n1_ ⊢
          have BK177 := n0_
          have HB := n1_
          clear n0_ n1_
          have n0_ := Aside0.mk (blk_drew BK177.out)
          have n1_ := Aside0.mk (below_drew1 HB.out)
          clear BK177
          clear HB
          have BK177 := n0_
          have HB := n1_
          clear n0_ n1_
          refine start_ (n := 17) (S := fun w' => w'.cell? ⟨gb177, 0, none⟩ = some (.int .i64 ((rd_T45 l0 x12_1).f0)) ∧ w'.cell? ⟨gb177, 1, none⟩ = some (.string ((rd_T45 l0 x12_1).f1))) (ds := []) #[false, false, false, false, false, false, false, false, false, false, false, false, false, false, false, false, false] (by kernel_rfl) rfl rfl ⟨(blk_cell BK177.out 0).trans rfl, (blk_cell BK177.out 1).trans rfl⟩ (fun hHeld => ?_); refine with_tabW spec_SectionsBytes.tab7 spec_SectionsBytes.bits7 (fun HT_ HW_ => ?_)
          generalize w14.drew = w15 at BK177 HB hHeld ⊢
          refine pure_ (i := 0) (N := some 16) (v := ?_) (a' := ?_) #[true, false, false, false, false, false, false, false, false, false, false, false, false, false, false, false, false] rfl rfl (any_of HT_.out (by kernel_rfl)) (fun _ _ _ h => h) (Or.inl ⟨by rfl, ?_⟩) ?_ ?_
          rotate_left
          ·
           intro w'
           go_simp
           with_reducible rfl
          rotate_left
          ·
           simp only [Act.put, List.setIfInBounds_toArray, List.set_cons_zero, List.set_cons_succ, i64_w, i32_w]
           rfl
          refine pure_ (i := 1) (N := some 17) (v := ?_) (a' := ?_) #[true, true, false, false, false, false, false, false, false, false, false, false, false, false, false, false, false] rfl rfl (any_of HT_.out (by kernel_rfl)) (fun _ _ _ h => h) (Or.inl ⟨by rfl, ?_⟩) ?_ ?_
          rotate_left
          ·
           intro w'
           go_simp
           with_reducible rfl
          rotate_left
          ·
           simp only [Act.put, List.setIfInBounds_toArray, List.set_cons_zero, List.set_cons_succ, i64_w, i32_w]
           rfl
          refine pure_ (i := 6) (N := some 22) (v := ?_) (a' := ?_) #[true, true, false, false, false, false, true, false, false, false, false, false, false, false, false, false, false] rfl rfl (any_of HT_.out (by kernel_rfl)) (fun _ _ _ h => h) (Or.inl ⟨by rfl, ?_⟩) ?_ ?_
          rotate_left
          ·
           intro w'
           go_simp
           with_reducible rfl
          rotate_left
          ·
           simp only [Act.put, List.setIfInBounds_toArray, List.set_cons_zero, List.set_cons_succ, i64_w, i32_w]
           rfl
          refine pure_ (i := 12) (N := some 28) (v := ?_) (a' := ?_) #[true, true, false, false, false, false, true, false, false, false, false, false, true, false, false, false, false] rfl rfl (any_of HT_.out (by kernel_rfl)) (fun _ _ _ h => h) (Or.inl ⟨by rfl, ?_⟩) ?_ ?_
          rotate_left
          ·
           intro w'
           go_simp
           with_reducible rfl
          rotate_left
          ·
           simp only [Act.put, List.setIfInBounds_toArray, List.set_cons_zero, List.set_cons_succ, i64_w, i32_w]
           rfl
          refine take_ (i := 2) (N := some 18) (v := ?_) (a' := ?_) #[true, true, true, false, false, false, true, false, false, false, false, false, true, false, false, false, false] rfl rfl (take_ofW HT_.out HW_.out (by kernel_rfl)) (fun _ _ _ h => h) (Or.inl ⟨by rfl, ?_⟩) hHeld ?_ ?_
          rotate_left
          ·
           rintro w' ⟨s0, s1⟩
           go_simp
           with_reducible rfl
          rotate_left
          ·
           simp only [Act.put, List.setIfInBounds_toArray, List.set_cons_zero, List.set_cons_succ, i64_w, i32_w]
           rfl
          refine pure_ (i := 3) (N := some 19) (v := ?_) (a' := ?_) #[true, true, true, true, false, false, true, false, false, false, false, false, true, false, false, false, false] rfl rfl (any_of HT_.out (by kernel_rfl)) (fun _ _ _ h => h) (Or.inl ⟨by rfl, ?_⟩) ?_ ?_
          rotate_left
          ·
           intro w'
           go_simp
           with_reducible rfl
          rotate_left
          ·
           simp only [Act.put, List.setIfInBounds_toArray, List.set_cons_zero, List.set_cons_succ, i64_w, i32_w]
           rfl
          refine take_ (i := 7) (N := some 23) (v := ?_) (a' := ?_) #[true, true, true, true, false, false, true, true, false, false, false, false, true, false, false, false, false] rfl rfl (take_ofW HT_.out HW_.out (by kernel_rfl)) (fun _ _ _ h => h) (Or.inl ⟨by rfl, ?_⟩) hHeld ?_ ?_
          rotate_left
          ·
           rintro w' ⟨s0, s1⟩
           go_simp
           with_reducible rfl
          rotate_left
          ·
           simp only [Act.put, List.setIfInBounds_toArray, List.set_cons_zero, List.set_cons_succ, i64_w, i32_w]
           rfl
          refine pure_ (i := 8) (N := some 24) (v := ?_) (a' := ?_) #[true, true, true, true, false, false, true, true, true, false, false, false, true, false, false, false, false] rfl rfl (any_of HT_.out (by kernel_rfl)) (fun _ _ _ h => h) (Or.inl ⟨by rfl, ?_⟩) ?_ ?_
          rotate_left
          ·
           intro w'
           go_simp
           with_reducible rfl
          rotate_left
          ·
           simp only [Act.put, List.setIfInBounds_toArray, List.set_cons_zero, List.set_cons_succ, i64_w, i32_w]
           rfl
          refine pure_ (i := 9) (N := some 25) (v := ?_) (a' := ?_) #[true, true, true, true, false, false, true, true, true, true, false, false, true, false, false, false, false] rfl rfl (any_of HT_.out (by kernel_rfl)) (fun _ _ _ h => h) (Or.inl ⟨by rfl, ?_⟩) ?_ ?_
          rotate_left
          ·
           intro w'
           go_simp
           with_reducible rfl
          rotate_left
          ·
           simp only [Act.put, List.setIfInBounds_toArray, List.set_cons_zero, List.set_cons_succ, i64_w, i32_w]
           rfl
          refine take_ (i := 13) (N := some 29) (v := ?_) (a' := ?_) #[true, true, true, true, false, false, true, true, true, true, false, false, true, true, false, false, false] rfl rfl (take_ofW HT_.out HW_.out (by kernel_rfl)) (fun _ _ _ h => h) (Or.inl ⟨by rfl, ?_⟩) hHeld ?_ ?_
          rotate_left
          ·
           rintro w' ⟨s0, s1⟩
           go_simp
           with_reducible rfl
          rotate_left
          ·
           simp only [Act.put, List.setIfInBounds_toArray, List.set_cons_zero, List.set_cons_succ, i64_w, i32_w]
           rfl
          refine join_ (σ := Value) 4 #[true, true, true, true, true, true, true, true, true, true, true, false, true, true, false, false, false] (fun s_ => [(20, s_), (21, .string (strOfNums y178)), (26, .string t181)]) (fun s_ w' => (w'.cell? ⟨gb177, 0, none⟩ = some (.int .i64 ((rd_T45 l0 x12_1).f0)) ∧ w'.cell? ⟨gb177, 1, none⟩ = some (.string ((rd_T45 l0 x12_1).f1))) ∧ (Kd.R (Kd.int .u8) 5 w' w.heap.size (fun _ => True) s_ y178) ∧ (w'.heap[gb177]? = some (.cells #[.int .i64 ((rd_T45 l0 x12_1).f0), .string ((rd_T45 l0 x12_1).f1)] 45 (0, 0))) ∧ (Below w.heap.size w w')) ?_ ?_
          rotate_left
          ·
           intro hCont
           refine two_ (i := 4) (j := 10) (Ni := some 20) (Nj := some 26) #[true, true, true, true, true, false, true, true, true, true, false, false, true, true, false, false, false] #[true, true, true, true, false, false, true, true, true, true, true, false, true, true, false, false, false] rfl rfl rfl rfl (two_of HT_.out (by kernel_rfl)) (by decide) (by decide) (fun K hK => ?_) (fun K hK => ?_)
           ·
            skip
            refine Kd.R_lit_step (Kd.int .u8) _ 5 ?hg (N := 20) ?hd (xs := ([((rd_T45 l0 x12_1).f0) % 256] : List Int)) (inner := [.int .u8 (((rd_T45 l0 x12_1).f0) % 256)]) (ok := fun _ => True) (okp := fun _ => True) ?hr ?hp (fun _ hk => hk) trivial (Below.refl _ _) (Nat.le_refl _) (by simp) ?_; (case hd => rfl); (case hg => rfl); (case hr => first | (go_simp; done) | (go_simp; rfl)); (case hp => exact (Reps.one (show Kd.M (Kd.int .u8) _ _ _ (((rd_T45 l0 x12_1).f0) % 256) [.int .u8 (((rd_T45 l0 x12_1).f0) % 256)] from rfl) (Reps.none _ _)))
            intro v179 w16 ho17 hb hg_ hnew_
            clear hg_ hnew_
            (first | rw [← Ny178.out] at ho17 | (simp only [Int.reduceToNat] at ho17; rw [← Ny178.out] at ho17))
            have n0_ := Aside0.mk (Kd.R_lower ho17 (below_size (bw HB.out)))
            have n1_ := Aside0.mk (blk_below (g := gb177) (o := .cells #[.int .i64 ((rd_T45 l0 x12_1).f0), .string ((rd_T45 l0 x12_1).f1)] 45 (0, 0)) (bk BK177.out) hb)
            have n2_ := Aside0.mk (below_step (bw HB.out) hb)
            clear BK177
            clear HB
            have HO180 := n0_
            have BK177 := n1_
            have HB := n2_
            clear n0_ n1_ n2_
            clear hb ho17
            refine hK.out _ _ ⟨(blk_cell BK177.out 0).trans rfl, (blk_cell BK177.out 1).trans rfl⟩ (fun hHeld => ?_)
            clear hK K
            refine norm_ (a' := ?_) ?_ ?_
            rotate_left
            ·
             show Act.put _ (some 20) _ = _
             simp only [Act.put, List.setIfInBounds_toArray, List.set_cons_zero, List.set_cons_succ, i64_w, i32_w]
             rfl
            refine two_ (i := 5) (j := 10) (Ni := some 21) (Nj := some 26) #[true, true, true, true, true, true, true, true, true, true, false, false, true, true, false, false, false] #[true, true, true, true, true, false, true, true, true, true, true, false, true, true, false, false, false] rfl rfl rfl rfl (two_of HT_.out (by kernel_rfl)) (by decide) (by decide) (fun K hK => ?_) (fun K hK => ?_)
            ·
             skip
             have hcv18 := own_string (P := Try.prog) Try.underlying37 Try.underlying5 Try.underlying9 (Kd.own_of_R HO180.out)
             refine value_ (w1 := ?_) (v := ?_) (by rfl) rfl ?_ ?_
             rotate_left 2
             ·
              go_simp
              constructor
              ·
               rfl
              ·
               rfl
             clear hcv18
             refine hK.out _ _ ⟨(blk_cell BK177.out 0).trans rfl, (blk_cell BK177.out 1).trans rfl⟩ (fun hHeld => ?_)
             clear hK K
             refine norm_ (a' := ?_) ?_ ?_
             rotate_left
             ·
              show Act.put _ (some 21) _ = _
              simp only [Act.put, List.setIfInBounds_toArray, List.set_cons_zero, List.set_cons_succ, i64_w, i32_w]
              rfl
             refine one_ (i := 10) (N := some 26) #[true, true, true, true, true, true, true, true, true, true, true, false, true, true, false, false, false] rfl rfl (one_of HT_.out (by kernel_rfl)) (by decide) (fun K hK => ?_)
             refine goes_ Try.func40 (by kernel_rfl) rfl #[.int .u64 (IntKind.u64.wrap ((((rd_T45 l0 x12_1).f1).size : Int)))] (by rfl) rfl rfl ar ?_
             with_reducible refine (spec_l1Uleb.calls k1 (IntKind.u64.wrap ((((rd_T45 l0 x12_1).f1).size : Int))) t181 _ A8.out).mono ?_
             rintro e w19 ⟨rfl, hb⟩
             refine ⟨_, rfl, ?_⟩
             have n0_ := Aside0.mk (Kd.R_below (by (with_reducible repeat (first | apply Kd.R_alloc | apply Kd.R_drewN | apply Kd.R_drew)); exact HO180.out) hb)
             have n1_ := Aside0.mk (blk_below (g := gb177) (o := .cells #[.int .i64 ((rd_T45 l0 x12_1).f0), .string ((rd_T45 l0 x12_1).f1)] 45 (0, 0)) (bk BK177.out) hb)
             have n2_ := Aside0.mk (below_step (bw HB.out) hb)
             clear HO180
             clear BK177
             clear HB
             have HO180 := n0_
             have BK177 := n1_
             have HB := n2_
             clear n0_ n1_ n2_
             (try clear hb)
             (try clear hb2)
             (try clear hk)
             (try clear hi)
             refine hK.out _ _ ⟨(blk_cell BK177.out 0).trans rfl, (blk_cell BK177.out 1).trans rfl⟩ (fun hHeld => ?_)
             clear hK K
             refine norm_ (a' := ?_) ?_ ?_
             rotate_left
             ·
              show Act.put _ (some 26) _ = _
              simp only [Act.put, List.setIfInBounds_toArray, List.set_cons_zero, List.set_cons_succ, i64_w, i32_w]
              rfl
             exact norm_ (by simp only [putAll, Act.put, List.setIfInBounds_toArray, List.set_cons_zero, List.set_cons_succ]) (hCont (v179) _ ⟨hHeld, (by (with_reducible repeat (first | apply Kd.R_alloc | apply Kd.R_drewN | apply Kd.R_drew)); exact HO180.out), (bk BK177.out), (bw HB.out)⟩)
            ·
             skip
             refine goes_ Try.func40 (by kernel_rfl) rfl #[.int .u64 (IntKind.u64.wrap ((((rd_T45 l0 x12_1).f1).size : Int)))] (by rfl) rfl rfl ar ?_
             with_reducible refine (spec_l1Uleb.calls k1 (IntKind.u64.wrap ((((rd_T45 l0 x12_1).f1).size : Int))) t181 _ A8.out).mono ?_
             rintro e w18 ⟨rfl, hb⟩
             refine ⟨_, rfl, ?_⟩
             have n0_ := Aside0.mk (Kd.R_below (by (with_reducible repeat (first | apply Kd.R_alloc | apply Kd.R_drewN | apply Kd.R_drew)); exact HO180.out) hb)
             have n1_ := Aside0.mk (blk_below (g := gb177) (o := .cells #[.int .i64 ((rd_T45 l0 x12_1).f0), .string ((rd_T45 l0 x12_1).f1)] 45 (0, 0)) (bk BK177.out) hb)
             have n2_ := Aside0.mk (below_step (bw HB.out) hb)
             clear HO180
             clear BK177
             clear HB
             have HO180 := n0_
             have BK177 := n1_
             have HB := n2_
             clear n0_ n1_ n2_
             (try clear hb)
             (try clear hb2)
             (try clear hk)
             (try clear hi)
             refine hK.out _ _ ⟨(blk_cell BK177.out 0).trans rfl, (blk_cell BK177.out 1).trans rfl⟩ (fun hHeld => ?_)
             clear hK K
             refine norm_ (a' := ?_) ?_ ?_
             rotate_left
             ·
              show Act.put _ (some 26) _ = _
              simp only [Act.put, List.setIfInBounds_toArray, List.set_cons_zero, List.set_cons_succ, i64_w, i32_w]
              rfl
             refine one_ (i := 5) (N := some 21) #[true, true, true, true, true, true, true, true, true, true, true, false, true, true, false, false, false] rfl rfl (one_of HT_.out (by kernel_rfl)) (by decide) (fun K hK => ?_)
             have hcv19 := own_string (P := Try.prog) Try.underlying37 Try.underlying5 Try.underlying9 (Kd.own_of_R HO180.out)
             refine value_ (w1 := ?_) (v := ?_) (by rfl) rfl ?_ ?_
             rotate_left 2
             ·
              go_simp
              constructor
              ·
               rfl
              ·
               rfl
             clear hcv19
             refine hK.out _ _ ⟨(blk_cell BK177.out 0).trans rfl, (blk_cell BK177.out 1).trans rfl⟩ (fun hHeld => ?_)
             clear hK K
             refine norm_ (a' := ?_) ?_ ?_
             rotate_left
             ·
              show Act.put _ (some 21) _ = _
              simp only [Act.put, List.setIfInBounds_toArray, List.set_cons_zero, List.set_cons_succ, i64_w, i32_w]
              rfl
             exact norm_ (by simp only [putAll, Act.put, List.setIfInBounds_toArray, List.set_cons_zero, List.set_cons_succ]) (hCont (v179) _ ⟨hHeld, (by (with_reducible repeat (first | apply Kd.R_alloc | apply Kd.R_drewN | apply Kd.R_drew)); exact HO180.out), (bk BK177.out), (bw HB.out)⟩)
           ·
            skip
            refine goes_ Try.func40 (by kernel_rfl) rfl #[.int .u64 (IntKind.u64.wrap ((((rd_T45 l0 x12_1).f1).size : Int)))] (by rfl) rfl rfl ar ?_
            with_reducible refine (spec_l1Uleb.calls k1 (IntKind.u64.wrap ((((rd_T45 l0 x12_1).f1).size : Int))) t181 _ A8.out).mono ?_
            rintro e w16 ⟨rfl, hb⟩
            refine ⟨_, rfl, ?_⟩
            have n0_ := Aside0.mk (blk_below (g := gb177) (o := .cells #[.int .i64 ((rd_T45 l0 x12_1).f0), .string ((rd_T45 l0 x12_1).f1)] 45 (0, 0)) (bk BK177.out) hb)
            have n1_ := Aside0.mk (below_step (bw HB.out) hb)
            clear BK177
            clear HB
            have BK177 := n0_
            have HB := n1_
            clear n0_ n1_
            (try clear hb)
            (try clear hb2)
            (try clear hk)
            (try clear hi)
            refine hK.out _ _ ⟨(blk_cell BK177.out 0).trans rfl, (blk_cell BK177.out 1).trans rfl⟩ (fun hHeld => ?_)
            clear hK K
            refine norm_ (a' := ?_) ?_ ?_
            rotate_left
            ·
             show Act.put _ (some 26) _ = _
             simp only [Act.put, List.setIfInBounds_toArray, List.set_cons_zero, List.set_cons_succ, i64_w, i32_w]
             rfl
            refine one_ (i := 4) (N := some 20) #[true, true, true, true, true, false, true, true, true, true, true, false, true, true, false, false, false] rfl rfl (one_of HT_.out (by kernel_rfl)) (by decide) (fun K hK => ?_)
            refine Kd.R_lit_step (Kd.int .u8) _ 5 ?hg (N := 20) ?hd (xs := ([((rd_T45 l0 x12_1).f0) % 256] : List Int)) (inner := [.int .u8 (((rd_T45 l0 x12_1).f0) % 256)]) (ok := fun _ => True) (okp := fun _ => True) ?hr ?hp (fun _ hk => hk) trivial (Below.refl _ _) (Nat.le_refl _) (by simp) ?_; (case hd => rfl); (case hg => rfl); (case hr => first | (go_simp; done) | (go_simp; rfl)); (case hp => exact (Reps.one (show Kd.M (Kd.int .u8) _ _ _ (((rd_T45 l0 x12_1).f0) % 256) [.int .u8 (((rd_T45 l0 x12_1).f0) % 256)] from rfl) (Reps.none _ _)))
            intro v179 w17 ho18 hb hg_ hnew_
            clear hg_ hnew_
            (first | rw [← Ny178.out] at ho18 | (simp only [Int.reduceToNat] at ho18; rw [← Ny178.out] at ho18))
            have n0_ := Aside0.mk (Kd.R_lower ho18 (below_size (bw HB.out)))
            have n1_ := Aside0.mk (blk_below (g := gb177) (o := .cells #[.int .i64 ((rd_T45 l0 x12_1).f0), .string ((rd_T45 l0 x12_1).f1)] 45 (0, 0)) (bk BK177.out) hb)
            have n2_ := Aside0.mk (below_step (bw HB.out) hb)
            clear BK177
            clear HB
            have HO180 := n0_
            have BK177 := n1_
            have HB := n2_
            clear n0_ n1_ n2_
            clear hb ho18
            refine hK.out _ _ ⟨(blk_cell BK177.out 0).trans rfl, (blk_cell BK177.out 1).trans rfl⟩ (fun hHeld => ?_)
            clear hK K
            refine norm_ (a' := ?_) ?_ ?_
            rotate_left
            ·
             show Act.put _ (some 20) _ = _
             simp only [Act.put, List.setIfInBounds_toArray, List.set_cons_zero, List.set_cons_succ, i64_w, i32_w]
             rfl
            refine one_ (i := 5) (N := some 21) #[true, true, true, true, true, true, true, true, true, true, true, false, true, true, false, false, false] rfl rfl (one_of HT_.out (by kernel_rfl)) (by decide) (fun K hK => ?_)
            have hcv19 := own_string (P := Try.prog) Try.underlying37 Try.underlying5 Try.underlying9 (Kd.own_of_R HO180.out)
            refine value_ (w1 := ?_) (v := ?_) (by rfl) rfl ?_ ?_
            rotate_left 2
            ·
             go_simp
             constructor
             ·
              rfl
             ·
              rfl
            clear hcv19
            refine hK.out _ _ ⟨(blk_cell BK177.out 0).trans rfl, (blk_cell BK177.out 1).trans rfl⟩ (fun hHeld => ?_)
            clear hK K
            refine norm_ (a' := ?_) ?_ ?_
            rotate_left
            ·
             show Act.put _ (some 21) _ = _
             simp only [Act.put, List.setIfInBounds_toArray, List.set_cons_zero, List.set_cons_succ, i64_w, i32_w]
             rfl
            exact norm_ (by simp only [putAll, Act.put, List.setIfInBounds_toArray, List.set_cons_zero, List.set_cons_succ]) (hCont (v179) _ ⟨hHeld, (by (with_reducible repeat (first | apply Kd.R_alloc | apply Kd.R_drewN | apply Kd.R_drew)); exact HO180.out), (bk BK177.out), (bw HB.out)⟩)
          rintro v179 w20 ⟨hS_, h0_, h1_, h2_⟩
          have n0_ : Aside0 (Kd.R (Kd.int .u8) 5 w20 w.heap.size (fun _ => True) v179 y178) := ⟨h0_⟩
          have n1_ : Aside0 (w20.heap[gb177]? = some (.cells #[.int .i64 ((rd_T45 l0 x12_1).f0), .string ((rd_T45 l0 x12_1).f1)] 45 (0, 0))) := ⟨h1_⟩
          have n2_ : Aside0 (Below w.heap.size w w20) := ⟨h2_⟩
          clear BK177
          clear HB
          clear h0_ h1_ h2_
          have HO180 := n0_
          have BK177 := n1_
          have HB := n2_
          clear n0_ n1_ n2_
          have hHeld : w20.cell? ⟨gb177, 0, none⟩ = some (.int .i64 ((rd_T45 l0 x12_1).f0)) ∧ w20.cell? ⟨gb177, 1, none⟩ = some (.string ((rd_T45 l0 x12_1).f1)) := hS_
          refine norm_ (a' := ?_) ?_ ?_
          rotate_left
          ·
           simp only [putAll, Act.put, List.setIfInBounds_toArray, List.set_cons_zero, List.set_cons_succ]
           rfl
          refine pure_ (i := 11) (N := some 27) (v := ?_) (a' := ?_) #[true, true, true, true, true, true, true, true, true, true, true, true, true, true, false, false, false] rfl rfl (any_of HT_.out (by kernel_rfl)) (fun _ _ _ h => h) (Or.inl ⟨by rfl, ?_⟩) ?_ ?_
          rotate_left
          ·
           intro w'
           go_simp
           with_reducible rfl
          rotate_left
          ·
           simp only [Act.put, List.setIfInBounds_toArray, List.set_cons_zero, List.set_cons_succ, i64_w, i32_w]
           rfl
          refine pure_ (i := 14) (N := some 30) (v := ?_) (a' := ?_) #[true, true, true, true, true, true, true, true, true, true, true, true, true, true, true, false, false] rfl rfl (any_of HT_.out (by kernel_rfl)) (fun _ _ _ h => h) (Or.inl ⟨by rfl, ?_⟩) ?_ ?_
          rotate_left
          ·
           intro w'
           go_simp
           with_reducible rfl
          rotate_left
          ·
           simp only [Act.put, List.setIfInBounds_toArray, List.set_cons_zero, List.set_cons_succ, i64_w, i32_w]
           rfl
          refine pure_ (i := 15) (N := some 31) (v := ?_) (a' := ?_) #[true, true, true, true, true, true, true, true, true, true, true, true, true, true, true, true, false] rfl rfl (any_of HT_.out (by kernel_rfl)) (fun _ _ _ h => h) (Or.inl ⟨by rfl, ?_⟩) ?_ ?_
          rotate_left
          ·
           intro w'
           go_simp
           with_reducible rfl
          rotate_left
          ·
           simp only [Act.put, List.setIfInBounds_toArray, List.set_cons_zero, List.set_cons_succ, i64_w, i32_w]
           rfl
          refine pure_ (i := 16) (N := some 4) (v := ?_) (a' := ?_) #[true, true, true, true, true, true, true, true, true, true, true, true, true, true, true, true, true] rfl rfl (any_of HT_.out (by kernel_rfl)) (fun _ _ _ h => h) (Or.inl ⟨by rfl, ?_⟩) ?_ ?_
          rotate_left
          ·
           intro w'
           go_simp
           with_reducible rfl
          rotate_left
          ·
           simp only [Act.put, List.setIfInBounds_toArray, List.set_cons_zero, List.set_cons_succ, i64_w, i32_w]
           rfl
          refine done_ (done_of HT_.out (by kernel_rfl)) ?_
          try go_wp2
          go_roundg k1
          case measure => have := HK1.out; omega
          case rel => exact ⟨(x4_1 ++ (((strOfNums y178) ++ t181) ++ ((rd_T45 l0 x12_1).f1))), (wrap64 (x12_1 + 1)), (by first | rfl | (simp; done) | (simp [*]; done)), (by first | rfl | (simp; done) | (simp [*]; done)), H', ⟨by have := HK1.out; omega⟩, ⟨bw HB.out⟩⟩
         ·
          rw [if_neg c11] at H
          exact absurd H (by simp)
        ·
         rw [if_neg c10] at H
         exact absurd H (by simp)
       ·
        rw [if_neg c9] at H
        exact absurd H (by simp)
      ·
       rw [if_neg c7] at H
       exact absurd H (by simp)
     ·
      rw [if_neg c6] at H
      exact absurd H (by simp)
    ·
     rw [if_neg c5] at H
     have c5b0 : decide (x12_1 < (l0.length : Int)) = false := decide_eq_false c5
     clear c5
     by_cases c21 : (x4_1.size : Int) > 4000
     ·
      rw [if_pos c21] at H
      have c21b0 : decide (4000 < (x4_1.size : Int)) = true := decide_eq_true c21
      have c21b1 : decide (4000 < x4_1.size) = true := decide_eq_true (by omega)
      clear c21
      simp only [Option.some.injEq, Prod.mk.injEq] at H
      obtain ⟨rfl, rfl⟩ := H
      go_wp2
      go_ret2
      exact ⟨by first | rfl | (simp [errW_none, errW_some] <;> rfl) | (simp [*, errW_none, errW_some] <;> rfl), bw HB.out⟩
     ·
      rw [if_neg c21] at H
      have c21b0 : decide (4000 < (x4_1.size : Int)) = false := decide_eq_false c21
      have c21b1 : decide (4000 < x4_1.size) = false := decide_eq_false (by omega)
      clear c21
      simp only [Option.some.injEq, Prod.mk.injEq] at H
      obtain ⟨rfl, rfl⟩ := H
      go_wp2
      go_ret2
      exact ⟨by first | rfl | (simp [errW_none, errW_some] <;> rfl) | (simp [*, errW_none, errW_some] <;> rfl), bw HB.out⟩
 ·
  replace c3 := Bool.eq_false_iff.mpr c3
  subst c3
  have H1 : (some ((⟨#[]⟩ : ByteArray), false)) = some (r1, r2) := by rw [if_neg (show ¬ (false = true) by decide)] at H; exact H
  clear H
  have H := H1
  clear H1
  simp only [Option.some.injEq, Prod.mk.injEq] at H
  obtain ⟨rfl, rfl⟩ := H
  go_enter Try.func15, Try.ntmps15
  go_wp2_with (first | ((with_reducible refine gate_callee (f := 39) rfl ?_); refine goesL_ (some 8) rfl rfl Try.func39 (by kernel_rfl) rfl #[.slice A0 l0.length c0] rfl ar ?_; (with_reducible refine (spec_l1Sections.calls k _ _ l0 false _ ?side1 ?side2 A2.out).mono ?_); (case side1 => repeat (first | exact HR0.out | (with_reducible refine Kd.C_alloc ?_ _) | (with_reducible refine Kd.C_drewN ?_ _) | (with_reducible refine Kd.C_drew ?_))); (case side2 => exact HC0.out); rintro e w22 ⟨rfl, hb⟩; refine ⟨_, rfl, ?_⟩; have n0_ := Aside0.mk (below_step (bw HB.out) hb); clear HB; have HB := n0_; clear n0_; (try clear hb)))
  go_ret2
  exact ⟨by first | rfl | (simp [errW_none, errW_some] <;> rfl) | (simp [*, errW_none, errW_some] <;> rfl), bw HB.out⟩

end Go.Proofs.Ytdklegalfcmboaa.Q

namespace Go.Proofs.Ytdklegalfcmboaa.Q
open Go.RowKit Go.Proofs.YtdklegalfcmboaaW.PrintWords Go.Proofs.YtdklegalfcmboaaW.PrintLast Go.Proofs.YtdklegalfcmboaaW.PrintMore
attribute [local go_sem] max2_int min2_int max_two min_two max_three min_three max_four min_four   -- for this text's walks alone
set_option linter.unusedVariables false
set_option linter.unusedSimpArgs false

/-! ### impl_TakeUleb: function 46 -/
mutual
def impl_TakeUleb.j0 : Nat → ByteArray → Int → Bool → Option (Int × Int)
 | 0, _, _, _ => none
 | k + 1, x0, x1, x15 => if x15 = true then (some (0, 0)) else (impl_TakeUleb.l0 k x0 x1 0 0)
def impl_TakeUleb.l0 : Nat → ByteArray → Int → Int → Int → Option (Int × Int)
 | 0, _, _, _, _ => none
 | k + 1, x0, x1, x6, x7 => if x7 < (x0.size : Int) then (impl_TakeUleb.j2 k x0 x1 x6 x7 (decide (x7 < (wrap64 (Int.tdiv (wrap64 (x1 + 6)) 7))))) else (impl_TakeUleb.j2 k x0 x1 x6 x7 false)
def impl_TakeUleb.j2 : Nat → ByteArray → Int → Int → Int → Bool → Option (Int × Int)
 | 0, _, _, _, _, _ => none
 | k + 1, x0, x1, x6, x7, x26 => if x26 = true then (if 0 ≤ x7 then (if x7 < (x0.size : Int) then (if (wrap64 (x1 - (wrap64 (7 * x7)))) < 7 then (if 0 ≤ (wrap64 (x1 - (wrap64 (7 * x7)))) then (impl_TakeUleb.j3 k x0 x1 x6 x7 (IntKind.u64.wrap (Go.bits .and .u8 (bt x0 x7) 127)) ((shr .u64 (IntKind.u64.wrap (Go.bits .and .u8 (bt x0 x7) 127)) (wrap64 (x1 - (wrap64 (7 * x7))))) != 0)) else (none)) else (impl_TakeUleb.j3 k x0 x1 x6 x7 (IntKind.u64.wrap (Go.bits .and .u8 (bt x0 x7) 127)) false)) else (none)) else (none)) else (some (0, 0))
def impl_TakeUleb.j3 : Nat → ByteArray → Int → Int → Int → Int → Bool → Option (Int × Int)
 | 0, _, _, _, _, _, _ => none
 | k + 1, x0, x1, x6, x7, x8, x45 => if x45 = true then (some (0, 0)) else (if 0 ≤ (wrap64 (7 * x7)) then (if 0 ≤ x7 then (if x7 < (x0.size : Int) then (if (bt x0 x7) < 128 then (some (Go.bits .or .u64 x6 (shl .u64 x8 (wrap64 (7 * x7))), wrap64 (x7 + 1))) else (impl_TakeUleb.l0 k x0 x1 (Go.bits .or .u64 x6 (shl .u64 x8 (wrap64 (7 * x7)))) (wrap64 (x7 + 1)))) else (none)) else (none)) else (none))
end
def impl_TakeUleb.f (k : Nat) (a0 : ByteArray) (a1 : Int) : Option (Int × Int) := if a1 < 1 then (impl_TakeUleb.j0 k a0 a1 true) else (impl_TakeUleb.j0 k a0 a1 (decide (a1 > 64)))
theorem impl_TakeUleb.mono_l : ∀ k, (∀ y0 y1 y2, LeO (impl_TakeUleb.j0 k y0 y1 y2) (impl_TakeUleb.j0 (k + 1) y0 y1 y2)) ∧ (∀ y0 y1 y2 y3, LeO (impl_TakeUleb.l0 k y0 y1 y2 y3) (impl_TakeUleb.l0 (k + 1) y0 y1 y2 y3)) ∧ (∀ y0 y1 y2 y3 y4, LeO (impl_TakeUleb.j2 k y0 y1 y2 y3 y4) (impl_TakeUleb.j2 (k + 1) y0 y1 y2 y3 y4)) ∧ (∀ y0 y1 y2 y3 y4 y5, LeO (impl_TakeUleb.j3 k y0 y1 y2 y3 y4 y5) (impl_TakeUleb.j3 (k + 1) y0 y1 y2 y3 y4 y5))
 | 0 => ⟨fun _ _ _ r h => by simp [impl_TakeUleb.j0] at h, fun _ _ _ _ r h => by simp [impl_TakeUleb.l0] at h, fun _ _ _ _ _ r h => by simp [impl_TakeUleb.j2] at h, fun _ _ _ _ _ _ r h => by simp [impl_TakeUleb.j3] at h⟩
 | k + 1 => by
  obtain ⟨ih0, ih1, ih2, ih3⟩ := impl_TakeUleb.mono_l k
  refine ⟨?_, ?_, ?_, ?_⟩
  ·
   intro y0 y1 y2
   unfold impl_TakeUleb.j0
   repeat' first
   | (with_reducible exact ih0 _ _ _)
   | (with_reducible exact ih1 _ _ _ _)
   | (with_reducible exact ih2 _ _ _ _ _)
   | (with_reducible exact ih3 _ _ _ _ _ _)
   | (with_reducible exact LeO.refl _)
   | (with_reducible exact LeO.none _)
   | (with_reducible refine LeO.ite ?_ ?_)
   | (with_reducible refine LeO.bind ?_ (fun _ => ?_))
   | exact ih0 _ _ _
   | exact ih1 _ _ _ _
   | exact ih2 _ _ _ _ _
   | exact ih3 _ _ _ _ _ _
   | exact LeO.none _
   | refine LeO.ite ?_ ?_
   | refine LeO.bind ?_ (fun _ => ?_)
  ·
   intro y0 y1 y2 y3
   unfold impl_TakeUleb.l0
   repeat' first
   | (with_reducible exact ih0 _ _ _)
   | (with_reducible exact ih1 _ _ _ _)
   | (with_reducible exact ih2 _ _ _ _ _)
   | (with_reducible exact ih3 _ _ _ _ _ _)
   | (with_reducible exact LeO.refl _)
   | (with_reducible exact LeO.none _)
   | (with_reducible refine LeO.ite ?_ ?_)
   | (with_reducible refine LeO.bind ?_ (fun _ => ?_))
   | exact ih0 _ _ _
   | exact ih1 _ _ _ _
   | exact ih2 _ _ _ _ _
   | exact ih3 _ _ _ _ _ _
   | exact LeO.none _
   | refine LeO.ite ?_ ?_
   | refine LeO.bind ?_ (fun _ => ?_)
  ·
   intro y0 y1 y2 y3 y4
   unfold impl_TakeUleb.j2
   repeat' first
   | (with_reducible exact ih0 _ _ _)
   | (with_reducible exact ih1 _ _ _ _)
   | (with_reducible exact ih2 _ _ _ _ _)
   | (with_reducible exact ih3 _ _ _ _ _ _)
   | (with_reducible exact LeO.refl _)
   | (with_reducible exact LeO.none _)
   | (with_reducible refine LeO.ite ?_ ?_)
   | (with_reducible refine LeO.bind ?_ (fun _ => ?_))
   | exact ih0 _ _ _
   | exact ih1 _ _ _ _
   | exact ih2 _ _ _ _ _
   | exact ih3 _ _ _ _ _ _
   | exact LeO.none _
   | refine LeO.ite ?_ ?_
   | refine LeO.bind ?_ (fun _ => ?_)
  ·
   intro y0 y1 y2 y3 y4 y5
   unfold impl_TakeUleb.j3
   repeat' first
   | (with_reducible exact ih0 _ _ _)
   | (with_reducible exact ih1 _ _ _ _)
   | (with_reducible exact ih2 _ _ _ _ _)
   | (with_reducible exact ih3 _ _ _ _ _ _)
   | (with_reducible exact LeO.refl _)
   | (with_reducible exact LeO.none _)
   | (with_reducible refine LeO.ite ?_ ?_)
   | (with_reducible refine LeO.bind ?_ (fun _ => ?_))
   | exact ih0 _ _ _
   | exact ih1 _ _ _ _
   | exact ih2 _ _ _ _ _
   | exact ih3 _ _ _ _ _ _
   | exact LeO.none _
   | refine LeO.ite ?_ ?_
   | refine LeO.bind ?_ (fun _ => ?_)
theorem impl_TakeUleb.mono : ∀ a0 a1 k, LeO (impl_TakeUleb.f k a0 a1) (impl_TakeUleb.f (k + 1) a0 a1) := by
 intro a0 a1 k
 obtain ⟨ih0, ih1, ih2, ih3⟩ := impl_TakeUleb.mono_l k
 unfold impl_TakeUleb.f
 repeat' first
   | (with_reducible exact ih0 _ _ _)
   | (with_reducible exact ih1 _ _ _ _)
   | (with_reducible exact ih2 _ _ _ _ _)
   | (with_reducible exact ih3 _ _ _ _ _ _)
   | (with_reducible exact LeO.refl _)
   | (with_reducible exact LeO.none _)
   | (with_reducible refine LeO.ite ?_ ?_)
   | (with_reducible refine LeO.bind ?_ (fun _ => ?_))
   | exact ih0 _ _ _
   | exact ih1 _ _ _ _
   | exact ih2 _ _ _ _ _
   | exact ih3 _ _ _ _ _ _
   | exact LeO.none _
   | refine LeO.ite ?_ ?_
   | refine LeO.bind ?_ (fun _ => ?_)
set_option maxHeartbeats 8000000 in
set_option maxRecDepth 100000 in
theorem impl_TakeUleb.calls (k : Nat) (a0 : ByteArray) (a1 : Int) (r1 : Int) (r2 : Int) (w : World) (h : impl_TakeUleb.f k a0 a1 = some (r1, r2)) :
  Calls Try.prog 46 #[.string a0, .int .i64 a1] w fun e w' => e = .returned (.tuple #[.int .u64 r1, .int .i64 r2]) ∧ Drawn0 w w' := by
 have H : (if a1 < 1 then (impl_TakeUleb.j0 k a0 a1 true) else (impl_TakeUleb.j0 k a0 a1 (decide (a1 > 64)))) = some (r1, r2) := h
 clear h
 have HC3 := Aside0.mk H
 clear H
 go_enter Try.func46, Try.ntmps46
 go_upto_region 1 with (fail)
 go_cut [15] (fun v15 wc => ∃ (kq : Nat) (x15_2 : Bool), v15 = .bool x15_2 ∧ Aside0 (impl_TakeUleb.j0 kq a0 a1 x15_2 = some (r1, r2)) ∧ Aside0 (kq ≤ k) ∧ Drawn0 w wc)
 case first =>
  have H := HC3.out
  clear HC3
  by_cases c4 : a1 < 1
  ·
   rw [if_pos c4] at H
   have c4b0 : decide (a1 < 1) = true := decide_eq_true c4
   clear c4
   (first | rw [c4b0] | (simp only [i64_w, i32_w]; rw [c4b0]) | skip)
   have H' := Aside0.mk H
   clear H
   go_wp2
   go_meet
   case rel => exact ⟨_, (true), (by first | rfl | (simp; done) | (simp [*]; done)), H', ⟨by first | omega | exact Nat.le_refl _⟩, by repeat (first | exact Drawn0.refl _ | apply Drawn0.step)⟩
  ·
   rw [if_neg c4] at H
   have c4b0 : decide (a1 < 1) = false := decide_eq_false c4
   clear c4
   (first | rw [c4b0] | (simp only [i64_w, i32_w]; rw [c4b0]) | skip)
   have H' := Aside0.mk H
   clear H
   go_wp2
   go_meet
   case rel => exact ⟨_, (decide (a1 > 64)), (by first | rfl | (simp; done) | (simp [*]; done)), H', ⟨by first | omega | exact Nat.le_refl _⟩, by repeat (first | exact Drawn0.refl _ | apply Drawn0.step)⟩
 case rest =>
  clear HC3
  try clear p2
  try clear c4
  try clear c4b0
  obtain ⟨kq, x15_2, rfl, HA, HJ2, ⟨mc2, rfl⟩⟩ := hcut
  cases kq with
  | zero => exact absurd HA.out (by simp [impl_TakeUleb.j0])
  | succ kj2 =>
   have H := HA.out
   clear HA
   simp only [impl_TakeUleb.j0] at H
   by_cases c5 : x15_2 = true
   ·
    subst c5
    have H1 : (some (0, 0)) = some (r1, r2) := by rw [if_pos rfl] at H; exact H
    clear H
    have H := H1
    clear H1
    simp only [Option.some.injEq, Prod.mk.injEq] at H
    obtain ⟨rfl, rfl⟩ := H
    go_wp2
    go_ret2
    exact ⟨by first | rfl | (simp; done) | (simp [*]; done), by repeat (first | exact Drawn0.refl _ | apply Drawn0.step)⟩
   ·
    replace c5 := Bool.eq_false_iff.mpr c5
    subst c5
    have H1 : (impl_TakeUleb.l0 kj2 a0 a1 0 0) = some (r1, r2) := by rw [if_neg (show ¬ (false = true) by decide)] at H; exact H
    clear H
    have H := H1
    clear H1
    have H' := Aside0.mk H
    clear H
    go_wp2
    (try simp only [Act.put, List.setIfInBounds_toArray, List.set_cons_zero, List.set_cons_succ])
    go_loopg [6, 7] kj2 (fun kq v6 v7 w' => ∃ (x6_2 : Int) (x7_2 : Int), v6 = .int .u64 x6_2 ∧ v7 = .int .i64 x7_2 ∧ Aside0 (impl_TakeUleb.l0 kq a0 a1 x6_2 x7_2 = some (r1, r2)) ∧ Aside0 (kq ≤ kj2) ∧ Drawn0 w w')
    case atStart => exact ⟨(0), (0), (by first | rfl | (simp; done) | (simp [*]; done)), (by first | rfl | (simp; done) | (simp [*]; done)), H', ⟨Nat.le_refl _⟩, by repeat (first | exact Drawn0.refl _ | apply Drawn0.step)⟩
    case round =>
     clear H'
     try clear c2
     try clear p2
     try clear c4
     try clear c4b0
     try clear c5
     try clear p2
     obtain ⟨x6_2, x7_2, rfl, rfl, HA, HK2, ⟨m2, rfl⟩⟩ := hrel
     cases gk with
     | zero => exact absurd HA.out (by simp [impl_TakeUleb.l0])
     | succ k2 =>
      have H := HA.out
      clear HA
      simp only [impl_TakeUleb.l0] at H
      have HC6 := Aside0.mk H
      clear H
      go_upto_region 5 with (fail)
      go_cut [26] (fun v26 wc => ∃ (kq : Nat) (x26_5 : Bool), v26 = .bool x26_5 ∧ Aside0 (impl_TakeUleb.j2 kq a0 a1 x6_2 x7_2 x26_5 = some (r1, r2)) ∧ Aside0 (kq ≤ k2) ∧ Drawn0 w wc)
      case first =>
       have H := HC6.out
       clear HC6
       by_cases c7 : x7_2 < (a0.size : Int)
       ·
        rw [if_pos c7] at H
        have c7b0 : decide (x7_2 < (a0.size : Int)) = true := decide_eq_true c7
        clear c7
        (first | rw [c7b0] | (simp only [i64_w, i32_w]; rw [c7b0]) | skip)
        have H' := Aside0.mk H
        clear H
        go_wp2
        go_meet
        case rel => exact ⟨_, (decide (x7_2 < (wrap64 (Int.tdiv (wrap64 (a1 + 6)) 7)))), (by first | rfl | (simp; done) | (simp [*]; done)), H', ⟨by have := HJ2.out; have := HK2.out; first | omega | exact Nat.le_refl _⟩, by repeat (first | exact Drawn0.refl _ | apply Drawn0.step)⟩
       ·
        rw [if_neg c7] at H
        have c7b0 : decide (x7_2 < (a0.size : Int)) = false := decide_eq_false c7
        clear c7
        (first | rw [c7b0] | (simp only [i64_w, i32_w]; rw [c7b0]) | skip)
        have H' := Aside0.mk H
        clear H
        go_wp2
        go_meet
        case rel => exact ⟨_, (false), (by first | rfl | (simp; done) | (simp [*]; done)), H', ⟨by have := HJ2.out; have := HK2.out; first | omega | exact Nat.le_refl _⟩, by repeat (first | exact Drawn0.refl _ | apply Drawn0.step)⟩
      case rest =>
       clear HC6
       try clear c2
       try clear p2
       try clear c4
       try clear c4b0
       try clear c5
       try clear p6
       try clear c7
       try clear c7b0
       try clear p2
       obtain ⟨kq, x26_5, rfl, HA, HJ5, ⟨mc5, rfl⟩⟩ := hcut
       cases kq with
       | zero => exact absurd HA.out (by simp [impl_TakeUleb.j2])
       | succ kj5 =>
        have H := HA.out
        clear HA
        simp only [impl_TakeUleb.j2] at H
        by_cases c8 : x26_5 = true
        ·
         subst c8
         have H1 : (if 0 ≤ x7_2 then (if x7_2 < (a0.size : Int) then (if (wrap64 (a1 - (wrap64 (7 * x7_2)))) < 7 then (if 0 ≤ (wrap64 (a1 - (wrap64 (7 * x7_2)))) then (impl_TakeUleb.j3 kj5 a0 a1 x6_2 x7_2 (IntKind.u64.wrap (Go.bits .and .u8 (bt a0 x7_2) 127)) ((shr .u64 (IntKind.u64.wrap (Go.bits .and .u8 (bt a0 x7_2) 127)) (wrap64 (a1 - (wrap64 (7 * x7_2))))) != 0)) else (none)) else (impl_TakeUleb.j3 kj5 a0 a1 x6_2 x7_2 (IntKind.u64.wrap (Go.bits .and .u8 (bt a0 x7_2) 127)) false)) else (none)) else (none)) = some (r1, r2) := by rw [if_pos rfl] at H; exact H
         clear H
         have H := H1
         clear H1
         by_cases c9 : 0 ≤ x7_2
         ·
          rw [if_pos c9] at H
          have c9b0 : decide (0 ≤ x7_2) = true := decide_eq_true c9
          clear c9
          by_cases c10 : x7_2 < (a0.size : Int)
          ·
           rw [if_pos c10] at H
           have c10b0 : decide (x7_2 < (a0.size : Int)) = true := decide_eq_true c10
           clear c10
           have HC12 := Aside0.mk H
           clear H
           have p11 : 0 ≤ (x7_2 : Int) := of_decide_eq_true (by first | (with_reducible assumption) | assumption)
           have q11 : x7_2 < (a0.size : Int) := of_decide_eq_true (by first | (with_reducible assumption) | assumption)
           have hx11 := bt_at a0 x7_2
           replace p11 := eq_true p11
           replace q11 := eq_true q11
           go_upto_region 9 with (fail)
           go_cut [45] (fun v45 wc => ∃ (kq : Nat) (x45_11 : Bool), v45 = .bool x45_11 ∧ Aside0 (impl_TakeUleb.j3 kq a0 a1 x6_2 x7_2 (IntKind.u64.wrap (Go.bits .and .u8 (bt a0 x7_2) 127)) x45_11 = some (r1, r2)) ∧ Aside0 (kq ≤ kj5) ∧ Drawn0 w wc)
           case first =>
            have H := HC12.out
            clear HC12
            by_cases c13 : (wrap64 (a1 - (wrap64 (7 * x7_2)))) < 7
            ·
             rw [if_pos c13] at H
             have c13b0 : decide ((wrap64 (a1 - (wrap64 (7 * x7_2)))) < 7) = true := decide_eq_true c13
             clear c13
             (first | rw [c13b0] | (simp only [i64_w, i32_w]; rw [c13b0]) | skip)
             obtain ⟨ji14, hji14⟩ : ∃ j_ : Int, (wrap64 (a1 - (wrap64 (7 * x7_2)))) = j_ := ⟨_, rfl⟩
             replace H : (if 0 ≤ (ji14) then (impl_TakeUleb.j3 kj5 a0 a1 x6_2 x7_2 (IntKind.u64.wrap (Go.bits .and .u8 (bt a0 x7_2) 127)) ((shr .u64 (IntKind.u64.wrap (Go.bits .and .u8 (bt a0 x7_2) 127)) (ji14)) != 0)) else (none)) = some (r1, r2) := by first | (rw [hji14] at H; exact H) | (simp only [hji14] at H ⊢; exact H)
             (try rw [hji14] at c13b0)
             have hji14w : (IntKind.i64.wrap (a1 - (wrap64 (7 * x7_2)))) = ji14 := (i64_w _).trans hji14
             by_cases c15 : 0 ≤ (ji14)
             ·
              rw [if_pos c15] at H
              have c15b0 := eq_true c15
              have c15b1 : decide (0 ≤ (ji14)) = true := decide_eq_true c15
              clear c15
              obtain ⟨ji16, hji16⟩ : ∃ j_ : Int, (shr .u64 (IntKind.u64.wrap (Go.bits .and .u8 (bt a0 x7_2) 127)) (ji14)) = j_ := ⟨_, rfl⟩
              replace H : (impl_TakeUleb.j3 kj5 a0 a1 x6_2 x7_2 (IntKind.u64.wrap (Go.bits .and .u8 (bt a0 x7_2) 127)) ((ji16) != 0)) = some (r1, r2) := by first | (rw [hji16] at H; exact H) | (simp only [hji16] at H ⊢; exact H)
              have hji16_ : ((IntKind.u64.wrap (Go.bits .and .u8 (bt a0 x7_2) 127)) / 2 ^ min (ji14).toNat 64) = ji16 := hji16
              have hji16z : (ji14) ≤ 64 → ((IntKind.u64.wrap (Go.bits .and .u8 (bt a0 x7_2) 127)) / 2 ^ (ji14).toNat) = ji16 := shr_small hji16
              have H' := Aside0.mk H
              clear H
              go_wp2
              first | go_meet | ((simp only [← hji16]); go_meet) | ((simp only [← hji14]); go_meet) | ((simp only [← hji16, ← hji14]); go_meet)
              case rel => exact ⟨_, (((ji16) != 0)), (by first | rfl | (simp; done) | (simp only [← hji16] <;> (first | rfl | simp)) | (simp [*]; done)), H', ⟨by have := HJ2.out; have := HK2.out; have := HJ5.out; first | omega | exact Nat.le_refl _⟩, by repeat (first | exact Drawn0.refl _ | apply Drawn0.step)⟩
             ·
              rw [if_neg c15] at H
              exact absurd H (by simp)
            ·
             rw [if_neg c13] at H
             have c13b0 : decide ((wrap64 (a1 - (wrap64 (7 * x7_2)))) < 7) = false := decide_eq_false c13
             clear c13
             (first | rw [c13b0] | (simp only [i64_w, i32_w]; rw [c13b0]) | skip)
             have H' := Aside0.mk H
             clear H
             go_wp2
             go_meet
             case rel => exact ⟨_, (false), (by first | rfl | (simp; done) | (simp [*]; done)), H', ⟨by have := HJ2.out; have := HK2.out; have := HJ5.out; first | omega | exact Nat.le_refl _⟩, by repeat (first | exact Drawn0.refl _ | apply Drawn0.step)⟩
           case rest =>
            clear HC12
            try clear c1
            try clear p1
            try clear q1
            try clear hx1
            try clear c2
            try clear p2
            try clear c4
            try clear c4b0
            try clear c5
            try clear p6
            try clear c7
            try clear c7b0
            try clear c8
            try clear c9
            try clear c9b0
            try clear c10
            try clear c10b0
            try clear p11
            try clear q11
            try clear hx11
            try clear c13
            try clear c13b0
            try clear c15
            try clear c15b0
            try clear c15b1
            try clear p11
            try clear p2
            try clear p6
            try clear q11
            obtain ⟨kq, x45_11, rfl, HA, HJ11, ⟨mc11, rfl⟩⟩ := hcut
            cases kq with
            | zero => exact absurd HA.out (by simp [impl_TakeUleb.j3])
            | succ kj11 =>
             have H := HA.out
             clear HA
             simp only [impl_TakeUleb.j3] at H
             by_cases c17 : x45_11 = true
             ·
              subst c17
              have H1 : (some (0, 0)) = some (r1, r2) := by rw [if_pos rfl] at H; exact H
              clear H
              have H := H1
              clear H1
              simp only [Option.some.injEq, Prod.mk.injEq] at H
              obtain ⟨rfl, rfl⟩ := H
              go_wp2
              go_ret2
              exact ⟨by first | rfl | (simp; done) | (simp [*]; done), by repeat (first | exact Drawn0.refl _ | apply Drawn0.step)⟩
             ·
              replace c17 := Bool.eq_false_iff.mpr c17
              subst c17
              have H1 : (if 0 ≤ (wrap64 (7 * x7_2)) then (if 0 ≤ x7_2 then (if x7_2 < (a0.size : Int) then (if (bt a0 x7_2) < 128 then (some (Go.bits .or .u64 x6_2 (shl .u64 (IntKind.u64.wrap (Go.bits .and .u8 (bt a0 x7_2) 127)) (wrap64 (7 * x7_2))), wrap64 (x7_2 + 1))) else (impl_TakeUleb.l0 kj11 a0 a1 (Go.bits .or .u64 x6_2 (shl .u64 (IntKind.u64.wrap (Go.bits .and .u8 (bt a0 x7_2) 127)) (wrap64 (7 * x7_2)))) (wrap64 (x7_2 + 1)))) else (none)) else (none)) else (none)) = some (r1, r2) := by rw [if_neg (show ¬ (false = true) by decide)] at H; exact H
              clear H
              have H := H1
              clear H1
              obtain ⟨ji18, hji18⟩ : ∃ j_ : Int, (wrap64 (7 * x7_2)) = j_ := ⟨_, rfl⟩
              replace H : (if 0 ≤ (ji18) then (if 0 ≤ x7_2 then (if x7_2 < (a0.size : Int) then (if (bt a0 x7_2) < 128 then (some (Go.bits .or .u64 x6_2 (shl .u64 (IntKind.u64.wrap (Go.bits .and .u8 (bt a0 x7_2) 127)) (ji18)), wrap64 (x7_2 + 1))) else (impl_TakeUleb.l0 kj11 a0 a1 (Go.bits .or .u64 x6_2 (shl .u64 (IntKind.u64.wrap (Go.bits .and .u8 (bt a0 x7_2) 127)) (ji18))) (wrap64 (x7_2 + 1)))) else (none)) else (none)) else (none)) = some (r1, r2) := by first | (rw [hji18] at H; exact H) | (simp only [hji18] at H ⊢; exact H)
              have hji18w : (IntKind.i64.wrap (7 * x7_2)) = ji18 := (i64_w _).trans hji18
              by_cases c19 : 0 ≤ (ji18)
              ·
               rw [if_pos c19] at H
               have c19b0 := eq_true c19
               have c19b1 : decide (0 ≤ (ji18)) = true := decide_eq_true c19
               clear c19
               obtain ⟨ji20, hji20⟩ : ∃ j_ : Int, (shl .u64 (IntKind.u64.wrap (Go.bits .and .u8 (bt a0 x7_2) 127)) (ji18)) = j_ := ⟨_, rfl⟩
               replace H : (if 0 ≤ x7_2 then (if x7_2 < (a0.size : Int) then (if (bt a0 x7_2) < 128 then (some (Go.bits .or .u64 x6_2 (ji20), wrap64 (x7_2 + 1))) else (impl_TakeUleb.l0 kj11 a0 a1 (Go.bits .or .u64 x6_2 (ji20)) (wrap64 (x7_2 + 1)))) else (none)) else (none)) = some (r1, r2) := by first | (rw [hji20] at H; exact H) | (simp only [hji20] at H ⊢; exact H)
               have hji20_ : (IntKind.u64.wrap ((IntKind.u64.wrap (Go.bits .and .u8 (bt a0 x7_2) 127)) * 2 ^ min (ji18).toNat 64)) = ji20 := hji20
               have hji20z : (ji18) ≤ 64 → (IntKind.u64.wrap ((IntKind.u64.wrap (Go.bits .and .u8 (bt a0 x7_2) 127)) * 2 ^ (ji18).toNat)) = ji20 := shl_small hji20
               by_cases c21 : 0 ≤ x7_2
               ·
                rw [if_pos c21] at H
                have c21b0 : decide (0 ≤ x7_2) = true := decide_eq_true c21
                clear c21
                by_cases c22 : x7_2 < (a0.size : Int)
                ·
                 rw [if_pos c22] at H
                 have c22b0 : decide (x7_2 < (a0.size : Int)) = true := decide_eq_true c22
                 clear c22
                 by_cases c24 : (bt a0 x7_2) < 128
                 ·
                  rw [if_pos c24] at H
                  have c24b0 : decide ((bt a0 x7_2) < 128) = true := decide_eq_true c24
                  clear c24
                  simp only [Option.some.injEq, Prod.mk.injEq] at H
                  obtain ⟨rfl, rfl⟩ := H
                  have p23 : 0 ≤ (x7_2 : Int) := of_decide_eq_true (by first | (with_reducible assumption) | assumption)
                  have q23 : x7_2 < (a0.size : Int) := of_decide_eq_true (by first | (with_reducible assumption) | assumption)
                  have hx23 := bt_at a0 x7_2
                  replace p23 := eq_true p23
                  replace q23 := eq_true q23
                  go_wp2
                  go_ret2
                  exact ⟨by first | rfl | (simp; done) | (simp only [← hji18, ← hji20] <;> (first | rfl | simp)) | (simp [*]; done), by repeat (first | exact Drawn0.refl _ | apply Drawn0.step)⟩
                 ·
                  rw [if_neg c24] at H
                  have c24b0 : decide ((bt a0 x7_2) < 128) = false := decide_eq_false c24
                  clear c24
                  have H' := Aside0.mk H
                  clear H
                  have p23 : 0 ≤ (x7_2 : Int) := of_decide_eq_true (by first | (with_reducible assumption) | assumption)
                  have q23 : x7_2 < (a0.size : Int) := of_decide_eq_true (by first | (with_reducible assumption) | assumption)
                  have hx23 := bt_at a0 x7_2
                  replace p23 := eq_true p23
                  replace q23 := eq_true q23
                  go_wp2
                  go_roundg kj11
                  case measure => have := HJ2.out; have := HK2.out; have := HJ5.out; have := HJ11.out; omega
                  case rel => exact ⟨(Go.bits .or .u64 x6_2 (ji20)), (wrap64 (x7_2 + 1)), (by first | rfl | (simp; done) | (simp only [← hji20] <;> (first | rfl | simp)) | (simp [*]; done)), (by first | rfl | (simp; done) | (simp [*]; done)), H', ⟨by have := HJ2.out; have := HK2.out; have := HJ5.out; have := HJ11.out; omega⟩, by repeat (first | exact Drawn0.refl _ | apply Drawn0.step)⟩
                ·
                 rw [if_neg c22] at H
                 exact absurd H (by simp)
               ·
                rw [if_neg c21] at H
                exact absurd H (by simp)
              ·
               rw [if_neg c19] at H
               exact absurd H (by simp)
          ·
           rw [if_neg c10] at H
           exact absurd H (by simp)
         ·
          rw [if_neg c9] at H
          exact absurd H (by simp)
        ·
         replace c8 := Bool.eq_false_iff.mpr c8
         subst c8
         have H1 : (some (0, 0)) = some (r1, r2) := by rw [if_neg (show ¬ (false = true) by decide)] at H; exact H
         clear H
         have H := H1
         clear H1
         simp only [Option.some.injEq, Prod.mk.injEq] at H
         obtain ⟨rfl, rfl⟩ := H
         go_wp2
         go_ret2
         exact ⟨by first | rfl | (simp; done) | (simp [*]; done), by repeat (first | exact Drawn0.refl _ | apply Drawn0.step)⟩

end Go.Proofs.Ytdklegalfcmboaa.Q

namespace Go.Proofs.Ytdklegalfcmboaa.Q
open Go.RowKit Go.Proofs.YtdklegalfcmboaaW.PrintWords Go.Proofs.YtdklegalfcmboaaW.PrintLast Go.Proofs.YtdklegalfcmboaaW.PrintMore
attribute [local go_sem] max2_int min2_int max_two min_two max_three min_three max_four min_four   -- for this text's walks alone
set_option linter.unusedVariables false
set_option linter.unusedSimpArgs false

/-! ### impl_takeText: function 41 -/
def impl_takeText.f (k : Nat) (a0 : ByteArray) : Option (ByteArray × Int) := (impl_TakeUleb.f k a0 32).bind fun bt182 => (if bt182.2 = 0 then (some ((⟨#[]⟩ : ByteArray), 0)) else (if bt182.1 > (IntKind.u64.wrap (wrap64 ((a0.size : Int) - bt182.2))) then (some ((⟨#[]⟩ : ByteArray), 0)) else (if 0 ≤ bt182.2 then (if bt182.2 ≤ (wrap64 (bt182.2 + (wrap64 (bt182.1)))) then (if (wrap64 (bt182.2 + (wrap64 (bt182.1)))) ≤ (a0.size : Int) then (some (a0.extract (bt182.2 : Int).toNat ((wrap64 (bt182.2 + (wrap64 (bt182.1)))) : Int).toNat, wrap64 (bt182.2 + (wrap64 (bt182.1))))) else (none)) else (none)) else (none))))
theorem impl_takeText.mono : ∀ a0 k, LeO (impl_takeText.f k a0) (impl_takeText.f (k + 1) a0) := by
 intro a0 k
 unfold impl_takeText.f
 repeat' first
   | (with_reducible exact impl_TakeUleb.mono _ _ _)
   | (with_reducible exact LeO.refl _)
   | (with_reducible exact LeO.none _)
   | (with_reducible refine LeO.ite ?_ ?_)
   | (with_reducible refine LeO.bind ?_ (fun _ => ?_))
   | exact impl_TakeUleb.mono _ _ _
   | exact LeO.none _
   | refine LeO.ite ?_ ?_
   | refine LeO.bind ?_ (fun _ => ?_)
set_option maxHeartbeats 8000000 in
set_option maxRecDepth 100000 in
theorem impl_takeText.calls (k : Nat) (a0 : ByteArray) (r1 : ByteArray) (r2 : Int) (w : World) (h : impl_takeText.f k a0 = some (r1, r2)) :
  Calls Try.prog 41 #[.string a0] w fun e w' => e = .returned (.tuple #[.string r1, .int .i64 r2]) ∧ Drawn0 w w' := by
 have H : ((impl_TakeUleb.f k a0 32).bind fun bt182 => (if bt182.2 = 0 then (some ((⟨#[]⟩ : ByteArray), 0)) else (if bt182.1 > (IntKind.u64.wrap (wrap64 ((a0.size : Int) - bt182.2))) then (some ((⟨#[]⟩ : ByteArray), 0)) else (if 0 ≤ bt182.2 then (if bt182.2 ≤ (wrap64 (bt182.2 + (wrap64 (bt182.1)))) then (if (wrap64 (bt182.2 + (wrap64 (bt182.1)))) ≤ (a0.size : Int) then (some (a0.extract (bt182.2 : Int).toNat ((wrap64 (bt182.2 + (wrap64 (bt182.1)))) : Int).toNat, wrap64 (bt182.2 + (wrap64 (bt182.1))))) else (none)) else (none)) else (none))))) = some (r1, r2) := h
 clear h
 replace H := Option.bind_eq_some_iff.mp H
 obtain ⟨⟨t182, t183⟩, A20, H⟩ := H
 replace H : (if t183 = 0 then (some ((⟨#[]⟩ : ByteArray), 0)) else (if t182 > (IntKind.u64.wrap (wrap64 ((a0.size : Int) - t183))) then (some ((⟨#[]⟩ : ByteArray), 0)) else (if 0 ≤ t183 then (if t183 ≤ (wrap64 (t183 + (wrap64 (t182)))) then (if (wrap64 (t183 + (wrap64 (t182)))) ≤ (a0.size : Int) then (some (a0.extract (t183 : Int).toNat ((wrap64 (t183 + (wrap64 (t182)))) : Int).toNat, wrap64 (t183 + (wrap64 (t182))))) else (none)) else (none)) else (none)))) = some (r1, r2) := H
 have A2 := Aside0.mk A20
 clear A20
 by_cases c3 : t183 = 0
 ·
  rw [if_pos c3] at H
  have c3b0 : (t183 == 0) = true := beq_iff_eq.mpr c3
  have c3b1 : (t183 != 0) = false := bne_eq_false_iff_eq.mpr c3
  clear c3
  simp only [Option.some.injEq, Prod.mk.injEq] at H
  obtain ⟨rfl, rfl⟩ := H
  go_enter Try.func41, Try.ntmps41
  go_wp2_with (first | ((with_reducible refine gate_callee (f := 46) rfl ?_); refine goesL_ (some 9) rfl rfl Try.func46 (by kernel_rfl) rfl #[.string a0, .int .i64 32] rfl ar ?_; (with_reducible refine (impl_TakeUleb.calls k a0 32 t182 t183 _ A2.out).mono ?_); rintro e w' ⟨rfl, ⟨nd, rfl⟩⟩; refine ⟨_, rfl, ?_⟩))
  go_ret2
  exact ⟨by first | rfl | (simp; done) | (simp [*]; done), by repeat (first | exact Drawn0.refl _ | apply Drawn0.step)⟩
 ·
  rw [if_neg c3] at H
  have c3b0 : (t183 == 0) = false := beq_eq_false_iff_ne.mpr c3
  have c3b1 : (t183 != 0) = true := bne_iff_ne.mpr c3
  by_cases c4 : t182 > (IntKind.u64.wrap (wrap64 ((a0.size : Int) - t183)))
  ·
   rw [if_pos c4] at H
   have c4b0 : decide ((IntKind.u64.wrap (wrap64 ((a0.size : Int) - t183))) < t182) = true := decide_eq_true c4
   clear c4
   simp only [Option.some.injEq, Prod.mk.injEq] at H
   obtain ⟨rfl, rfl⟩ := H
   go_enter Try.func41, Try.ntmps41
   go_wp2_with (first | ((with_reducible refine gate_callee (f := 46) rfl ?_); refine goesL_ (some 9) rfl rfl Try.func46 (by kernel_rfl) rfl #[.string a0, .int .i64 32] rfl ar ?_; (with_reducible refine (impl_TakeUleb.calls k a0 32 t182 t183 _ A2.out).mono ?_); rintro e w' ⟨rfl, ⟨nd, rfl⟩⟩; refine ⟨_, rfl, ?_⟩))
   go_ret2
   exact ⟨by first | rfl | (simp; done) | (simp [*]; done), by repeat (first | exact Drawn0.refl _ | apply Drawn0.step)⟩
  ·
   rw [if_neg c4] at H
   have c4b0 : decide ((IntKind.u64.wrap (wrap64 ((a0.size : Int) - t183))) < t182) = false := decide_eq_false c4
   clear c4
   by_cases c5 : 0 ≤ t183
   ·
    rw [if_pos c5] at H
    have c5b0 := eq_true c5
    have c5b1 : decide (0 ≤ t183) = true := decide_eq_true c5
    clear c5
    by_cases c6 : t183 ≤ (wrap64 (t183 + (wrap64 (t182))))
    ·
     rw [if_pos c6] at H
     have c6b0 := eq_true c6
     have c6b1 : decide (t183 ≤ (wrap64 (t183 + (wrap64 (t182))))) = true := decide_eq_true c6
     by_cases c7 : (wrap64 (t183 + (wrap64 (t182)))) ≤ (a0.size : Int)
     ·
      rw [if_pos c7] at H
      have c7b0 := eq_true c7
      have c7b1 : decide ((wrap64 (t183 + (wrap64 (t182)))) ≤ (a0.size : Int)) = true := decide_eq_true c7
      simp only [Option.some.injEq, Prod.mk.injEq] at H
      obtain ⟨rfl, rfl⟩ := H
      go_enter Try.func41, Try.ntmps41
      go_wp2_with (first | ((with_reducible refine gate_callee (f := 46) rfl ?_); refine goesL_ (some 9) rfl rfl Try.func46 (by kernel_rfl) rfl #[.string a0, .int .i64 32] rfl ar ?_; (with_reducible refine (impl_TakeUleb.calls k a0 32 t182 t183 _ A2.out).mono ?_); rintro e w' ⟨rfl, ⟨nd, rfl⟩⟩; refine ⟨_, rfl, ?_⟩))
      go_ret2
      exact ⟨by first | rfl | (simp; done) | (simp [*]; done), by repeat (first | exact Drawn0.refl _ | apply Drawn0.step)⟩
     ·
      rw [if_neg c7] at H
      exact absurd H (by simp)
    ·
     rw [if_neg c6] at H
     exact absurd H (by simp)
   ·
    rw [if_neg c5] at H
    exact absurd H (by simp)

end Go.Proofs.Ytdklegalfcmboaa.Q

namespace Go.Proofs.Ytdklegalfcmboaa.Q
open Go.RowKit Go.Proofs.YtdklegalfcmboaaW.PrintWords Go.Proofs.YtdklegalfcmboaaW.PrintLast Go.Proofs.YtdklegalfcmboaaW.PrintMore
attribute [local go_sem] max2_int min2_int max_two min_two max_three min_three max_four min_four   -- for this text's walks alone
set_option linter.unusedVariables false
set_option linter.unusedSimpArgs false

/-! ### impl_ReadSections: function 16 -/
def impl_ReadSections.l0 : Nat → ByteArray → List (S45) → Option ((List (S45)) × Bool)
 | 0, _, _ => none
 | k + 1, x0, x4 => if x0.toList = ([] : List UInt8) then ((impl_sectionsOk.f k x4).bind fun t187 => (if t187 = true then (some (x4, true)) else (some (([] : List (S45)), false)))) else (if 1 ≤ (x0.size : Int) then ((impl_takeText.f k (x0.extract 1 x0.size)).bind fun bt188 => (if bt188.2 = 0 then (some (([] : List (S45)), false)) else (if 0 < (x0.size : Int) then (if x4.length < 5864062014805 then (if 0 ≤ (wrap64 (1 + bt188.2)) then (if (wrap64 (1 + bt188.2)) ≤ (x0.size : Int) then (impl_ReadSections.l0 k (x0.extract ((wrap64 (1 + bt188.2)) : Int).toNat x0.size) (x4 ++ [(⟨wrap64 (bt x0 0), bt188.1⟩ : S45)])) else (none)) else (none)) else (none)) else (none)))) else (none))
def impl_ReadSections.f (k : Nat) (a0 : ByteArray) : Option ((List (S45)) × Bool) := if (a0.size : Int) > 4000 then (some (([] : List (S45)), false)) else (impl_ReadSections.l0 k a0 (([] : List (S45))))
theorem impl_ReadSections.mono_l : ∀ k, (∀ y0 y1, LeO (impl_ReadSections.l0 k y0 y1) (impl_ReadSections.l0 (k + 1) y0 y1))
 | 0 => fun _ _ r h => by simp [impl_ReadSections.l0] at h
 | k + 1 => by
  have ih0 := impl_ReadSections.mono_l k
  ·
   intro y0 y1
   unfold impl_ReadSections.l0
   repeat' first
   | (with_reducible exact ih0 _ _)
   | (with_reducible exact impl_sectionsOk.mono _ _)
   | (with_reducible exact impl_takeText.mono _ _)
   | (with_reducible exact LeO.refl _)
   | (with_reducible exact LeO.none _)
   | (with_reducible refine LeO.ite ?_ ?_)
   | (with_reducible refine LeO.bind ?_ (fun _ => ?_))
   | exact ih0 _ _
   | exact impl_sectionsOk.mono _ _
   | exact impl_takeText.mono _ _
   | exact LeO.none _
   | refine LeO.ite ?_ ?_
   | refine LeO.bind ?_ (fun _ => ?_)
theorem impl_ReadSections.mono : ∀ a0 k, LeO (impl_ReadSections.f k a0) (impl_ReadSections.f (k + 1) a0) := by
 intro a0 k
 have ih0 := impl_ReadSections.mono_l k
 unfold impl_ReadSections.f
 repeat' first
   | (with_reducible exact ih0 _ _)
   | (with_reducible exact impl_sectionsOk.mono _ _)
   | (with_reducible exact impl_takeText.mono _ _)
   | (with_reducible exact LeO.refl _)
   | (with_reducible exact LeO.none _)
   | (with_reducible refine LeO.ite ?_ ?_)
   | (with_reducible refine LeO.bind ?_ (fun _ => ?_))
   | exact ih0 _ _
   | exact impl_sectionsOk.mono _ _
   | exact impl_takeText.mono _ _
   | exact LeO.none _
   | refine LeO.ite ?_ ?_
   | refine LeO.bind ?_ (fun _ => ?_)
set_option maxHeartbeats 8000000 in
set_option maxRecDepth 100000 in
theorem impl_ReadSections.calls (k : Nat) (a0 : ByteArray) (r1 : List (S45)) (r2 : Bool) (w : World) (h : impl_ReadSections.f k a0 = some (r1, r2)) :
  Calls Try.prog 16 #[.string a0] w fun e w' => ∃ v0_ : Value, e = .returned (.tuple #[v0_, .bool r2]) ∧ Kd.R k45 45 w' w.heap.size (fun _ => True) v0_ r1 ∧ Below w.heap.size w w' := by
 have hu45 := Try.underlying45
 have HB := Aside0.mk (Below.refl w.heap.size w)
 have H : (if (a0.size : Int) > 4000 then (some (([] : List (S45)), false)) else (impl_ReadSections.l0 k a0 (([] : List (S45))))) = some (r1, r2) := h
 clear h
 by_cases c2 : (a0.size : Int) > 4000
 ·
  rw [if_pos c2] at H
  have c2b0 : decide (4000 < (a0.size : Int)) = true := decide_eq_true c2
  have c2b1 : decide (4000 < a0.size) = true := decide_eq_true (by omega)
  clear c2
  simp only [Option.some.injEq, Prod.mk.injEq] at H
  obtain ⟨rfl, rfl⟩ := H
  go_enter Try.func16, Try.ntmps16
  go_wp2
  go_ret2
  exact ⟨_, by first | rfl | (simp [errW_none, errW_some] <;> rfl) | (simp [*, errW_none, errW_some] <;> rfl), by first | exact Kd.R_nil _ _ _ _ _ | exact Kd.N_nil _ _ _ _ _ | exact Kd.V_nil _ _ _ _ _ | exact Kd.Q_nil _ _ _ _ _ | exact Kd.S_nil _ _ _ _ _, bw HB.out⟩
 ·
  rw [if_neg c2] at H
  have c2b0 : decide (4000 < (a0.size : Int)) = false := decide_eq_false c2
  have c2b1 : decide (4000 < a0.size) = false := decide_eq_false (by omega)
  clear c2
  obtain ⟨y184, hy184⟩ : ∃ y_ : List (S45), y_ = (([] : List (S45))) := ⟨_, rfl⟩
  replace H : (impl_ReadSections.l0 k a0 y184) = some (r1, r2) := by first | (rw [hy184]; with_reducible exact H) | (have H2_ := (Option.bind_some _ _).symm.trans H; rw [hy184]; with_reducible exact H2_) | (have H2_ := (Option.bind_some _ _).symm.trans H; with_reducible exact H2_) | with_reducible exact H | (rw [hy184]; exact H) | exact H
  have Ny184 := Aside0.mk hy184
  clear hy184
  have H' := Aside0.mk H
  clear H
  go_enter Try.func16, Try.ntmps16
  go_wp2_with (first | ((with_reducible refine gate_dst (N := 10) rfl ?_); refine Kd.R_lit k45 _ 45 ?hg (N := 10) ?hd (xs := ([] : List (S45))) (inner := []) (ok := fun _ => True) (okp := fun _ => True) ?hr ?hp (fun _ hk => hk) trivial (Below.refl _ _) (Nat.le_refl _) (by simp) ?_; (case hd => rfl); (case hg => rfl); (case hr => first | (go_simp; done) | (go_simp; rfl)); (case hp => exact (Reps.none _ _)); intro v185 w3 ho4 hb hg_ hnew_; clear hg_ hnew_; (first | rw [← Ny184.out] at ho4 | (simp only [Int.reduceToNat] at ho4; rw [← Ny184.out] at ho4)); have n0_ := Aside0.mk (Kd.R_lower ho4 (below_size (bw HB.out))); have n1_ := Aside0.mk (below_step (bw HB.out) hb); clear HB; have HO186 := n0_; have HB := n1_; clear n0_ n1_; clear hb ho4))
  (try simp only [Act.put, List.setIfInBounds_toArray, List.set_cons_zero, List.set_cons_succ])
  go_loopg [0, 4] k (fun kq v0 v4 w' => ∃ (x0_1 : ByteArray) (x4_1 : List (S45)), v0 = .string x0_1 ∧ Aside0 (impl_ReadSections.l0 kq x0_1 x4_1 = some (r1, r2)) ∧ Aside0 (kq ≤ k) ∧ Aside0 (Kd.R k45 45 w' w.heap.size (fun _ => True) v4 x4_1) ∧ Aside0 (Below w.heap.size w w'))
  case atStart => exact ⟨(a0), (y184), (by first | rfl | (simp; done) | (simp [*]; done)), H', ⟨Nat.le_refl _⟩, ⟨by (with_reducible repeat (first | apply Kd.R_alloc | apply Kd.R_drewN | apply Kd.R_drew)); exact HO186.out⟩, ⟨bw HB.out⟩⟩
  case round =>
   clear H'
   try clear c1
   try clear c2
   try clear c2b0
   try clear c2b1
   try clear p2
   obtain ⟨x0_1, x4_1, rfl, HA, HK1, HO_4, HB⟩ := hrel
   cases gk with
   | zero => exact absurd HA.out (by simp [impl_ReadSections.l0])
   | succ k1 =>
    have H := HA.out
    clear HA
    simp only [impl_ReadSections.l0] at H
    by_cases c5 : x0_1.toList = ([] : List UInt8)
    ·
     rw [if_pos c5] at H
     have c5b0 : (x0_1.toList == ([] : List UInt8)) = true := beq_iff_eq.mpr c5
     have c5b1 : (x0_1.toList != ([] : List UInt8)) = false := bne_eq_false_iff_eq.mpr c5
     clear c5
     replace H := Option.bind_eq_some_iff.mp H
     obtain ⟨t187, A60, H⟩ := H
     replace H : (if t187 = true then (some (x4_1, true)) else (some (([] : List (S45)), false))) = some (r1, r2) := H
     have A6 := Aside0.mk A60
     clear A60
     by_cases c7 : t187 = true
     ·
      subst c7
      have H1 : (some (x4_1, true)) = some (r1, r2) := by rw [if_pos rfl] at H; exact H
      clear H
      have H := H1
      clear H1
      simp only [Option.some.injEq, Prod.mk.injEq] at H
      obtain ⟨rfl, rfl⟩ := H
      obtain ⟨Ao8, co8, eo8⟩ := Kd.R_slice HO_4.out
      subst eo8
      go_wp2_with (first | ((with_reducible refine gate_callee (f := 33) rfl ?_); refine goesL_ (some 34) rfl rfl Try.func33 (by kernel_rfl) rfl #[.slice Ao8 x4_1.length co8] rfl ar ?_; (with_reducible refine (impl_sectionsOk.calls k1 _ _ x4_1 true _ ?side1 ?side2 A6.out).mono ?_); (case side1 => repeat (first | exact (Kd.R_reads' HO_4.out).2.2 | (with_reducible refine Kd.C_alloc ?_ _) | (with_reducible refine Kd.C_drewN ?_ _) | (with_reducible refine Kd.C_drew ?_))); (case side2 => exact (Kd.R_reads' HO_4.out).2.1); rintro e w9 ⟨rfl, hb⟩; refine ⟨_, rfl, ?_⟩; have n0_ := Aside0.mk (Kd.R_below (by (with_reducible repeat (first | apply Kd.R_alloc | apply Kd.R_drewN | apply Kd.R_drew)); exact HO_4.out) hb); have n1_ := Aside0.mk (below_step (bw HB.out) hb); clear HO_4; clear HB; have HO_4 := n0_; have HB := n1_; clear n0_ n1_; (try clear hb)))
      go_ret2
      exact ⟨_, by first | rfl | (simp [errW_none, errW_some] <;> rfl) | (simp [*, errW_none, errW_some] <;> rfl), by (with_reducible repeat (first | apply Kd.R_alloc | apply Kd.R_drewN | apply Kd.R_drew)); exact HO_4.out, bw HB.out⟩
     ·
      replace c7 := Bool.eq_false_iff.mpr c7
      subst c7
      have H1 : (some (([] : List (S45)), false)) = some (r1, r2) := by rw [if_neg (show ¬ (false = true) by decide)] at H; exact H
      clear H
      have H := H1
      clear H1
      simp only [Option.some.injEq, Prod.mk.injEq] at H
      obtain ⟨rfl, rfl⟩ := H
      obtain ⟨Ao10, co10, eo10⟩ := Kd.R_slice HO_4.out
      subst eo10
      go_wp2_with (first | ((with_reducible refine gate_callee (f := 33) rfl ?_); refine goesL_ (some 34) rfl rfl Try.func33 (by kernel_rfl) rfl #[.slice Ao10 x4_1.length co10] rfl ar ?_; (with_reducible refine (impl_sectionsOk.calls k1 _ _ x4_1 false _ ?side1 ?side2 A6.out).mono ?_); (case side1 => repeat (first | exact (Kd.R_reads' HO_4.out).2.2 | (with_reducible refine Kd.C_alloc ?_ _) | (with_reducible refine Kd.C_drewN ?_ _) | (with_reducible refine Kd.C_drew ?_))); (case side2 => exact (Kd.R_reads' HO_4.out).2.1); rintro e w11 ⟨rfl, hb⟩; refine ⟨_, rfl, ?_⟩; have n0_ := Aside0.mk (Kd.R_below (by (with_reducible repeat (first | apply Kd.R_alloc | apply Kd.R_drewN | apply Kd.R_drew)); exact HO_4.out) hb); have n1_ := Aside0.mk (below_step (bw HB.out) hb); clear HO_4; clear HB; have HO_4 := n0_; have HB := n1_; clear n0_ n1_; (try clear hb)))
      go_ret2
      exact ⟨_, by first | rfl | (simp [errW_none, errW_some] <;> rfl) | (simp [*, errW_none, errW_some] <;> rfl), by first | exact Kd.R_nil _ _ _ _ _ | exact Kd.N_nil _ _ _ _ _ | exact Kd.V_nil _ _ _ _ _ | exact Kd.Q_nil _ _ _ _ _ | exact Kd.S_nil _ _ _ _ _, bw HB.out⟩
    ·
     rw [if_neg c5] at H
     have c5b0 : (x0_1.toList == ([] : List UInt8)) = false := beq_eq_false_iff_ne.mpr c5
     have c5b1 : (x0_1.toList != ([] : List UInt8)) = true := bne_iff_ne.mpr c5
     by_cases c12 : 1 ≤ (x0_1.size : Int)
     ·
      rw [if_pos c12] at H
      have c12b0 := eq_true c12
      have c12b1 : decide (1 ≤ (x0_1.size : Int)) = true := decide_eq_true c12
      clear c12
      replace H := Option.bind_eq_some_iff.mp H
      obtain ⟨⟨t188, t189⟩, A130, H⟩ := H
      replace H : (if t189 = 0 then (some (([] : List (S45)), false)) else (if 0 < (x0_1.size : Int) then (if x4_1.length < 5864062014805 then (if 0 ≤ (wrap64 (1 + t189)) then (if (wrap64 (1 + t189)) ≤ (x0_1.size : Int) then (impl_ReadSections.l0 k1 (x0_1.extract ((wrap64 (1 + t189)) : Int).toNat x0_1.size) (x4_1 ++ [(⟨wrap64 (bt x0_1 0), t188⟩ : S45)])) else (none)) else (none)) else (none)) else (none))) = some (r1, r2) := H
      have A13 := Aside0.mk A130
      clear A130
      by_cases c14 : t189 = 0
      ·
       rw [if_pos c14] at H
       have c14b0 : (t189 == 0) = true := beq_iff_eq.mpr c14
       have c14b1 : (t189 != 0) = false := bne_eq_false_iff_eq.mpr c14
       clear c14
       simp only [Option.some.injEq, Prod.mk.injEq] at H
       obtain ⟨rfl, rfl⟩ := H
       go_wp2_with (first | ((with_reducible refine gate_callee (f := 41) rfl ?_); refine goesL_ (some 16) rfl rfl Try.func41 (by kernel_rfl) rfl #[.string (x0_1.extract 1 x0_1.size)] rfl ar ?_; (with_reducible refine (impl_takeText.calls k1 (x0_1.extract 1 x0_1.size) t188 t189 _ A13.out).mono ?_); rintro e w' ⟨rfl, ⟨nd, rfl⟩⟩; refine ⟨_, rfl, ?_⟩))
       go_ret2
       exact ⟨_, by first | rfl | (simp [errW_none, errW_some] <;> rfl) | (simp [*, errW_none, errW_some] <;> rfl), by first | exact Kd.R_nil _ _ _ _ _ | exact Kd.N_nil _ _ _ _ _ | exact Kd.V_nil _ _ _ _ _ | exact Kd.Q_nil _ _ _ _ _ | exact Kd.S_nil _ _ _ _ _, bw HB.out⟩
      ·
       rw [if_neg c14] at H
       have c14b0 : (t189 == 0) = false := beq_eq_false_iff_ne.mpr c14
       have c14b1 : (t189 != 0) = true := bne_iff_ne.mpr c14
       by_cases c15 : 0 < (x0_1.size : Int)
       ·
        rw [if_pos c15] at H
        have c15b0 : decide (0 < (x0_1.size : Int)) = true := decide_eq_true c15
        have c15b1 : decide (0 < x0_1.size) = true := decide_eq_true (by omega)
        clear c15
        by_cases c17 : x4_1.length < 5864062014805
        ·
         rw [if_pos c17] at H
         have LMc17 := Aside0.mk c17
         clear c17
         obtain ⟨y190, hy190⟩ : ∃ y_ : List (S45), y_ = (x4_1 ++ [(⟨wrap64 (bt x0_1 0), t188⟩ : S45)]) := ⟨_, rfl⟩
         replace H : (if 0 ≤ (wrap64 (1 + t189)) then (if (wrap64 (1 + t189)) ≤ (x0_1.size : Int) then (impl_ReadSections.l0 k1 (x0_1.extract ((wrap64 (1 + t189)) : Int).toNat x0_1.size) y190) else (none)) else (none)) = some (r1, r2) := by first | (rw [hy190]; with_reducible exact H) | (have H2_ := (Option.bind_some _ _).symm.trans H; rw [hy190]; with_reducible exact H2_) | (have H2_ := (Option.bind_some _ _).symm.trans H; with_reducible exact H2_) | with_reducible exact H | (rw [hy190]; exact H) | exact H
         have Ny190 := Aside0.mk hy190
         clear hy190
         obtain ⟨ji18, hji18⟩ : ∃ j_ : Int, (wrap64 (1 + t189)) = j_ := ⟨_, rfl⟩
         replace H : (if 0 ≤ (ji18) then (if (ji18) ≤ (x0_1.size : Int) then (impl_ReadSections.l0 k1 (x0_1.extract ((ji18) : Int).toNat x0_1.size) y190) else (none)) else (none)) = some (r1, r2) := by first | (rw [hji18] at H; exact H) | (simp only [hji18] at H ⊢; exact H)
         (try rw [hji18] at A13)
         have hji18w : (IntKind.i64.wrap (1 + t189)) = ji18 := (i64_w _).trans hji18
         by_cases c19 : 0 ≤ (ji18)
         ·
          rw [if_pos c19] at H
          have c19b0 := eq_true c19
          have c19b1 : decide (0 ≤ (ji18)) = true := decide_eq_true c19
          clear c19
          by_cases c20 : (ji18) ≤ (x0_1.size : Int)
          ·
           rw [if_pos c20] at H
           have c20b0 := eq_true c20
           have c20b1 : decide ((ji18) ≤ (x0_1.size : Int)) = true := decide_eq_true c20
           clear c20
           have H' := Aside0.mk H
           clear H
           go_wp2_with (first | ((with_reducible refine gate_callee (f := 41) rfl ?_); refine goesL_ (some 16) rfl rfl Try.func41 (by kernel_rfl) rfl #[.string (x0_1.extract 1 x0_1.size)] rfl ar ?_; (with_reducible refine (impl_takeText.calls k1 (x0_1.extract 1 x0_1.size) t188 t189 _ A13.out).mono ?_); rintro e w' ⟨rfl, ⟨nd, rfl⟩⟩; refine ⟨_, rfl, ?_⟩; have p16 : 0 ≤ (0 : Int) := (by omega); have q16 : 0 < x0_1.size := (by have : (0 : Int) < (x0_1.size : Int) := of_decide_eq_true (by first | (with_reducible assumption) | assumption); omega); have hx16 : ∀ h : 0 < x0_1.size, ((x0_1[0]'h).toNat : Int) = bt x0_1 0 := bt_at x0_1 0; clear p16; have qi16 : (0 < (x0_1.size : Int)) = True := eq_true (of_decide_eq_true (by first | (with_reducible assumption) | assumption)); replace q16 := eq_true q16) | ((with_reducible refine gate_builtin (b := .append) (xs := #[.tmp 21, .tmp 27]) rfl ?_); at_builtin; refine Kd.R_append k45 (w0 := w) w.heap.size rfl (.tmp 21) (.tmp 27) 38 45 (.agg #[(.int .i64 0), (.string ⟨#[]⟩)]) 24 rfl Try.underlying38 info45 rfl (by decide) (by omega) u4 x4_1 (⟨wrap64 (bt x0_1 0), t188⟩ : S45) [.int .i64 (wrap64 (bt x0_1 0)), .string t188] (fun _ => True) (fun _ => False) rfl rfl ?aP (fun _ hk => hk.elim) ?aF ?aO ?aB ?aS ?aL ?_; (case aP => exact k45_mkM _ _ _ (⟨wrap64 (bt x0_1 0), t188⟩ : S45)); (case aB => exact (bw HB.out)); (case aF => exact (fun _ _ => trivial)); (case aO => exact (by (with_reducible repeat (first | apply Kd.R_alloc | apply Kd.R_drewN | apply Kd.R_drew)); exact HO_4.out)); (case aS => exact (below_size (bw HB.out))); (case aL => have := LMc17.out; omega); intro v191 w21 ho hb hg hat; rw [← Ny190.out] at ho; have n0_ := Aside0.mk (hb); have n1_ := Aside0.mk (ho); clear HB; clear HO_4; have HB := n0_; have HO192 := n1_; clear n0_ n1_; clear ho hb hg hat))
           go_roundg k1
           case measure => have := HK1.out; omega
           case rel => exact ⟨(x0_1.extract ((ji18) : Int).toNat x0_1.size), (y190), (by first | rfl | (simp; done) | (simp only [← hji18] <;> (first | rfl | simp)) | (simp [*]; done)), H', ⟨by have := HK1.out; omega⟩, ⟨by (with_reducible repeat (first | apply Kd.R_alloc | apply Kd.R_drewN | apply Kd.R_drew)); exact HO192.out⟩, ⟨bw HB.out⟩⟩
          ·
           rw [if_neg c20] at H
           exact absurd H (by simp)
         ·
          rw [if_neg c19] at H
          exact absurd H (by simp)
        ·
         rw [if_neg c17] at H
         exact absurd H (by simp)
       ·
        rw [if_neg c15] at H
        exact absurd H (by simp)
     ·
      rw [if_neg c12] at H
      exact absurd H (by simp)

end Go.Proofs.Ytdklegalfcmboaa.Q

namespace Go.Proofs.Ytdklegalfcmboaa.Q
open Go.RowKit Go.Proofs.YtdklegalfcmboaaW.PrintWords Go.Proofs.YtdklegalfcmboaaW.PrintLast Go.Proofs.YtdklegalfcmboaaW.PrintMore
attribute [local go_sem] max2_int min2_int max_two min_two max_three min_three max_four min_four   -- for this text's walks alone
set_option linter.unusedVariables false
set_option linter.unusedSimpArgs false

/-! ### spec_DrawNameBytes: function 17 -/
def spec_DrawNameBytes.f (k : Nat) (l0 : List Int) : Option (ByteArray) := (spec_l1Cur_one.f l0 0 0 12).bind fun bt194 => (if bt194.1 = true then ((spec_l1Cur_pick.f l0 bt194.2.1 bt194.2.2 2).bind fun bt197 => (if 0 ≤ (wrap64 (100 + bt197.1)) then (if (wrap64 (100 + bt197.1) : Int).toNat ≤ 281474976710656 then (some (strOfNums (List.replicate (wrap64 (100 + bt197.1) : Int).toNat 0))) else (none)) else (none))) else ((spec_l1Cur_pick.f l0 bt194.2.1 bt194.2.2 20).bind fun bt203 => ((spec_l1Cur_text.f k l0 bt203.2.1 bt203.2.2 bt203.1).bind fun bt206 => (some bt206.1))))
theorem spec_DrawNameBytes.mono : ∀ a0 k, LeO (spec_DrawNameBytes.f k a0) (spec_DrawNameBytes.f (k + 1) a0) := by
 intro a0 k
 unfold spec_DrawNameBytes.f
 repeat' first
   | (with_reducible exact spec_l1Cur_text.mono _ _ _ _ _)
   | (with_reducible exact LeO.refl _)
   | (with_reducible exact LeO.none _)
   | (with_reducible refine LeO.ite ?_ ?_)
   | (with_reducible refine LeO.bind ?_ (fun _ => ?_))
   | exact spec_l1Cur_text.mono _ _ _ _ _
   | exact LeO.none _
   | refine LeO.ite ?_ ?_
   | refine LeO.bind ?_ (fun _ => ?_)
set_option maxHeartbeats 8000000 in
set_option maxRecDepth 100000 in
theorem spec_DrawNameBytes.calls (k : Nat) (A0 : Option Addr) (c0 : Nat) (l0 : List Int) (r : ByteArray) (w : World) (hr0 : Kd.C (Kd.int .u8) w A0 l0.length l0) (hc0 : l0.length ≤ c0) (h : spec_DrawNameBytes.f k l0 = some r) :
  Calls Try.prog 17 #[.slice A0 l0.length c0] w fun e w' => e = .returned (.string r) ∧ Below w.heap.size w w' := by
 have hu66 := Try.underlying66
 have HR0 := Aside0.mk hr0
 have HC0 := Aside0.mk hc0
 clear hr0 hc0
 have HB := Aside0.mk (Below.refl w.heap.size w)
 have H : ((spec_l1Cur_one.f l0 0 0 12).bind fun bt194 => (if bt194.1 = true then ((spec_l1Cur_pick.f l0 bt194.2.1 bt194.2.2 2).bind fun bt197 => (if 0 ≤ (wrap64 (100 + bt197.1)) then (if (wrap64 (100 + bt197.1) : Int).toNat ≤ 281474976710656 then (some (strOfNums (List.replicate (wrap64 (100 + bt197.1) : Int).toNat 0))) else (none)) else (none))) else ((spec_l1Cur_pick.f l0 bt194.2.1 bt194.2.2 20).bind fun bt203 => ((spec_l1Cur_text.f k l0 bt203.2.1 bt203.2.2 bt203.1).bind fun bt206 => (some bt206.1))))) = some r := h
 clear h
 replace H := Option.bind_eq_some_iff.mp H
 obtain ⟨⟨t194, t195, t196⟩, A20, H⟩ := H
 replace H : (if t194 = true then ((spec_l1Cur_pick.f l0 t195 t196 2).bind fun bt197 => (if 0 ≤ (wrap64 (100 + bt197.1)) then (if (wrap64 (100 + bt197.1) : Int).toNat ≤ 281474976710656 then (some (strOfNums (List.replicate (wrap64 (100 + bt197.1) : Int).toNat 0))) else (none)) else (none))) else ((spec_l1Cur_pick.f l0 t195 t196 20).bind fun bt203 => ((spec_l1Cur_text.f k l0 bt203.2.1 bt203.2.2 bt203.1).bind fun bt206 => (some bt206.1)))) = some r := H
 have A2 := Aside0.mk A20
 clear A20
 by_cases c3 : t194 = true
 ·
  subst c3
  have H1 : ((spec_l1Cur_pick.f l0 t195 t196 2).bind fun bt197 => (if 0 ≤ (wrap64 (100 + bt197.1)) then (if (wrap64 (100 + bt197.1) : Int).toNat ≤ 281474976710656 then (some (strOfNums (List.replicate (wrap64 (100 + bt197.1) : Int).toNat 0))) else (none)) else (none))) = some r := by rw [if_pos rfl] at H; exact H
  clear H
  have H := H1
  clear H1
  replace H := Option.bind_eq_some_iff.mp H
  obtain ⟨⟨t197, t198, t199⟩, A40, H⟩ := H
  replace H : (if 0 ≤ (wrap64 (100 + t197)) then (if (wrap64 (100 + t197) : Int).toNat ≤ 281474976710656 then (some (strOfNums (List.replicate (wrap64 (100 + t197) : Int).toNat 0))) else (none)) else (none)) = some r := H
  have A4 := Aside0.mk A40
  clear A40
  obtain ⟨ji5, hji5⟩ : ∃ j_ : Int, (wrap64 (100 + t197)) = j_ := ⟨_, rfl⟩
  replace H : (if 0 ≤ (ji5) then (if (ji5 : Int).toNat ≤ 281474976710656 then (some (strOfNums (List.replicate (ji5 : Int).toNat 0))) else (none)) else (none)) = some r := by first | (rw [hji5] at H; exact H) | (simp only [hji5] at H ⊢; exact H)
  (try rw [hji5] at A2)
  (try rw [hji5] at A4)
  have hji5w : (IntKind.i64.wrap (100 + t197)) = ji5 := (i64_w _).trans hji5
  by_cases c6 : 0 ≤ (ji5)
  ·
   rw [if_pos c6] at H
   have c6b0 := eq_true c6
   have c6b1 : decide (0 ≤ (ji5)) = true := decide_eq_true c6
   clear c6
   by_cases c7 : (ji5 : Int).toNat ≤ 281474976710656
   ·
    rw [if_pos c7] at H
    have c7b0 := eq_true c7
    have c7b1 : decide ((ji5 : Int).toNat ≤ 281474976710656) = true := decide_eq_true c7
    clear c7
    obtain ⟨y200, hy200⟩ : ∃ y_ : List Int, y_ = (List.replicate (ji5 : Int).toNat 0) := ⟨_, rfl⟩
    replace H : (some (strOfNums y200)) = some r := by first | (rw [hy200]; with_reducible exact H) | (have H2_ := (Option.bind_some _ _).symm.trans H; rw [hy200]; with_reducible exact H2_) | (have H2_ := (Option.bind_some _ _).symm.trans H; with_reducible exact H2_) | with_reducible exact H | (rw [hy200]; exact H) | exact H
    have Ny200 := Aside0.mk hy200
    clear hy200
    obtain rfl := Option.some.inj H
    simp only [Option.some.injEq, Prod.mk.injEq] at H
    obtain ⟨rfl⟩ := H
    go_enter Try.func17, Try.ntmps17
    go_wp2_with (first | ((with_reducible refine gate_dst (N := 6) rfl ?_); refine box_event ?hg (N := 6) ?hd (cs := #[.slice A0 l0.length c0, .int .i64 0, .int .u64 0]) (t := 66) ?hr ?_; (case hd => rfl); (case hg => rfl); (case hr => first | (go_simp; done) | (go_simp; rfl)); intro gb193 hg w8 hbox hb; have n0_ := Aside0.mk (below_step (bw HB.out) hb); have n1_ := Aside0.mk ((show IsS66 w w8 gb193 l0 0 0 from ⟨_, _, hbox, (by rw [hg]; exact (below_size (bw HB.out)) : w.heap.size ≤ gb193), HR0.out⟩)); have n2_ := Aside0.mk ((by rw [hg]; exact (below_size (bw HB.out)) : w.heap.size ≤ gb193)); have n3_ := Aside0.mk ((by rw [hg]; exact (below_size (bw HB.out)) : w.heap.size ≤ gb193)); clear HB; have HB := n0_; have HI193 := n1_; have GW193 := n2_; have GE193 := n3_; clear n0_ n1_ n2_ n3_; clear hb hbox hg) | ((with_reducible refine gate_callee (f := 32) rfl ?_); refine goesL_ (some 8) rfl rfl Try.func32 (by kernel_rfl) rfl #[.pointer (some ⟨gb193, 0, none⟩), .int .i64 12] rfl ar ?_; (with_reducible refine (spec_l1Cur_one.calls gb193 l0 0 0 12 true t195 t196 w _ ?side1 ?side2 A2.out).mono ?_); (case side1 => repeat (first | (with_reducible first | exact HI193.out | apply IsS66.alloc | apply IsS66.drewN | apply IsS66.drew | apply IsS66.set_1 | apply IsS66.set_2) | exact HI193.out)); (case side2 => repeat (first | (with_reducible first | exact HB.out | apply below_alloc | apply pw_below_drewN | apply below_drew1 | refine below_set ?_ (IsS66.ge HI193.out)) | exact HB.out)); rintro e w9 ⟨rfl, hi, hb, hk⟩; refine ⟨_, rfl, ?_⟩; have n0_ := Aside0.mk (hb); have n1_ := Aside0.mk (hi); clear HB; clear HI193; have HB := n0_; have HI193 := n1_; clear n0_ n1_; (try clear hb); (try clear hb2); (try clear hk); (try clear hi)) | ((with_reducible refine gate_callee (f := 30) rfl ?_); refine goesL_ (some 10) rfl rfl Try.func30 (by kernel_rfl) rfl #[.pointer (some ⟨gb193, 0, none⟩), .int .i64 2] rfl ar ?_; (with_reducible refine (spec_l1Cur_pick.calls gb193 l0 t195 t196 2 t197 t198 t199 w _ ?side1 ?side2 A4.out).mono ?_); (case side1 => repeat (first | (with_reducible first | exact HI193.out | apply IsS66.alloc | apply IsS66.drewN | apply IsS66.drew | apply IsS66.set_1 | apply IsS66.set_2) | exact HI193.out)); (case side2 => repeat (first | (with_reducible first | exact HB.out | apply below_alloc | apply pw_below_drewN | apply below_drew1 | refine below_set ?_ (IsS66.ge HI193.out)) | exact HB.out)); rintro e w10 ⟨rfl, hi, hb, hk⟩; refine ⟨_, rfl, ?_⟩; have n0_ := Aside0.mk (hb); have n1_ := Aside0.mk (hi); clear HB; clear HI193; have HB := n0_; have HI193 := n1_; clear n0_ n1_; (try clear hb); (try clear hb2); (try clear hk); (try clear hi)) | ((with_reducible refine gate_dst (N := 12) rfl ?_); refine Kd.R_make (Kd.int .u8) _ 5 rfl (N := 12) rfl 37 _ _ rfl ji5 rfl rfl Try.underlying37 (.int .u8 0) 1 info5 rfl (by decide) (by omega) 0 (ok := fun _ => True) (okp := fun _ => True) rfl (fun _ hk => hk) trivial (of_decide_eq_true (by first | (with_reducible assumption) | assumption)) (Nat.le_trans (Nat.mul_le_mul_right _ (of_decide_eq_true (by first | (with_reducible assumption) | assumption) : ji5.toNat ≤ 281474976710656)) (by omega)) (Below.refl _ _) (Nat.le_refl _) ?_; intro v201 w11 ho12 hb hg_ hnew_; clear hg_ hnew_; (first | rw [← Ny200.out] at ho12 | (simp only [Int.reduceToNat] at ho12; rw [← Ny200.out] at ho12)); have n0_ := Aside0.mk (Kd.R_lower ho12 (below_size (by repeat (first | (with_reducible first | exact HB.out | apply below_alloc | apply pw_below_drewN | apply below_drew1 | refine below_set ?_ (IsS66.ge HI193.out)) | exact HB.out)))); have n1_ := Aside0.mk (IsS66.below (by repeat (first | (with_reducible first | exact HI193.out | apply IsS66.alloc | apply IsS66.drewN | apply IsS66.drew | apply IsS66.set_1 | apply IsS66.set_2) | exact HI193.out)) hb); have n2_ := Aside0.mk (below_step (by repeat (first | (with_reducible first | exact HB.out | apply below_alloc | apply pw_below_drewN | apply below_drew1 | refine below_set ?_ (IsS66.ge HI193.out)) | exact HB.out)) hb); clear HI193; clear HB; have HO202 := n0_; have HI193 := n1_; have HB := n2_; clear n0_ n1_ n2_; clear hb ho12; have hcv13 := own_string (P := Try.prog) Try.underlying37 Try.underlying5 Try.underlying9 (Kd.own_of_R HO202.out)))
    go_ret
    exact ⟨by first | rfl | (simp [errW_none, errW_some] <;> rfl) | (simp only [← hji5]; first | rfl | (simp [errW_none, errW_some] <;> rfl)) | (simp [*, errW_none, errW_some] <;> rfl), by repeat (first | (with_reducible first | exact HB.out | apply below_alloc | apply pw_below_drewN | apply below_drew1 | refine below_set ?_ (IsS66.ge HI193.out)) | exact HB.out)⟩
   ·
    rw [if_neg c7] at H
    exact absurd H (by simp)
  ·
   rw [if_neg c6] at H
   exact absurd H (by simp)
 ·
  replace c3 := Bool.eq_false_iff.mpr c3
  subst c3
  have H1 : ((spec_l1Cur_pick.f l0 t195 t196 20).bind fun bt203 => ((spec_l1Cur_text.f k l0 bt203.2.1 bt203.2.2 bt203.1).bind fun bt206 => (some bt206.1))) = some r := by rw [if_neg (show ¬ (false = true) by decide)] at H; exact H
  clear H
  have H := H1
  clear H1
  replace H := Option.bind_eq_some_iff.mp H
  obtain ⟨⟨t203, t204, t205⟩, A140, H⟩ := H
  replace H : ((spec_l1Cur_text.f k l0 t204 t205 t203).bind fun bt206 => (some bt206.1)) = some r := H
  have A14 := Aside0.mk A140
  clear A140
  replace H := Option.bind_eq_some_iff.mp H
  obtain ⟨⟨t206, t207, t208⟩, A150, H⟩ := H
  replace H : (some t206) = some r := H
  have A15 := Aside0.mk A150
  clear A150
  obtain rfl := Option.some.inj H
  simp only [Option.some.injEq, Prod.mk.injEq] at H
  obtain ⟨rfl⟩ := H
  go_enter Try.func17, Try.ntmps17
  go_wp2_with (first | ((with_reducible refine gate_dst (N := 6) rfl ?_); refine box_event ?hg (N := 6) ?hd (cs := #[.slice A0 l0.length c0, .int .i64 0, .int .u64 0]) (t := 66) ?hr ?_; (case hd => rfl); (case hg => rfl); (case hr => first | (go_simp; done) | (go_simp; rfl)); intro gb193 hg w16 hbox hb; have n0_ := Aside0.mk (below_step (bw HB.out) hb); have n1_ := Aside0.mk ((show IsS66 w w16 gb193 l0 0 0 from ⟨_, _, hbox, (by rw [hg]; exact (below_size (bw HB.out)) : w.heap.size ≤ gb193), HR0.out⟩)); have n2_ := Aside0.mk ((by rw [hg]; exact (below_size (bw HB.out)) : w.heap.size ≤ gb193)); have n3_ := Aside0.mk ((by rw [hg]; exact (below_size (bw HB.out)) : w.heap.size ≤ gb193)); clear HB; have HB := n0_; have HI193 := n1_; have GW193 := n2_; have GE193 := n3_; clear n0_ n1_ n2_ n3_; clear hb hbox hg) | ((with_reducible refine gate_callee (f := 32) rfl ?_); refine goesL_ (some 8) rfl rfl Try.func32 (by kernel_rfl) rfl #[.pointer (some ⟨gb193, 0, none⟩), .int .i64 12] rfl ar ?_; (with_reducible refine (spec_l1Cur_one.calls gb193 l0 0 0 12 false t195 t196 w _ ?side1 ?side2 A2.out).mono ?_); (case side1 => repeat (first | (with_reducible first | exact HI193.out | apply IsS66.alloc | apply IsS66.drewN | apply IsS66.drew | apply IsS66.set_1 | apply IsS66.set_2) | exact HI193.out)); (case side2 => repeat (first | (with_reducible first | exact HB.out | apply below_alloc | apply pw_below_drewN | apply below_drew1 | refine below_set ?_ (IsS66.ge HI193.out)) | exact HB.out)); rintro e w17 ⟨rfl, hi, hb, hk⟩; refine ⟨_, rfl, ?_⟩; have n0_ := Aside0.mk (hb); have n1_ := Aside0.mk (hi); clear HB; clear HI193; have HB := n0_; have HI193 := n1_; clear n0_ n1_; (try clear hb); (try clear hb2); (try clear hk); (try clear hi)) | ((with_reducible refine gate_callee (f := 30) rfl ?_); refine goesL_ (some 16) rfl rfl Try.func30 (by kernel_rfl) rfl #[.pointer (some ⟨gb193, 0, none⟩), .int .i64 20] rfl ar ?_; (with_reducible refine (spec_l1Cur_pick.calls gb193 l0 t195 t196 20 t203 t204 t205 w _ ?side1 ?side2 A14.out).mono ?_); (case side1 => repeat (first | (with_reducible first | exact HI193.out | apply IsS66.alloc | apply IsS66.drewN | apply IsS66.drew | apply IsS66.set_1 | apply IsS66.set_2) | exact HI193.out)); (case side2 => repeat (first | (with_reducible first | exact HB.out | apply below_alloc | apply pw_below_drewN | apply below_drew1 | refine below_set ?_ (IsS66.ge HI193.out)) | exact HB.out)); rintro e w18 ⟨rfl, hi, hb, hk⟩; refine ⟨_, rfl, ?_⟩; have n0_ := Aside0.mk (hb); have n1_ := Aside0.mk (hi); clear HB; clear HI193; have HB := n0_; have HI193 := n1_; clear n0_ n1_; (try clear hb); (try clear hb2); (try clear hk); (try clear hi)) | ((with_reducible refine gate_callee (f := 31) rfl ?_); refine goesL_ (some 17) rfl rfl Try.func31 (by kernel_rfl) rfl #[.pointer (some ⟨gb193, 0, none⟩), .int .i64 t203] rfl ar ?_; (with_reducible refine (spec_l1Cur_text.calls k gb193 l0 t204 t205 t203 t206 t207 t208 w _ ?side1 ?side2 A15.out).mono ?_); (case side1 => repeat (first | (with_reducible first | exact HI193.out | apply IsS66.alloc | apply IsS66.drewN | apply IsS66.drew | apply IsS66.set_1 | apply IsS66.set_2) | exact HI193.out)); (case side2 => repeat (first | (with_reducible first | exact HB.out | apply below_alloc | apply pw_below_drewN | apply below_drew1 | refine below_set ?_ (IsS66.ge HI193.out)) | exact HB.out)); rintro e w19 ⟨rfl, hi, hb, hk⟩; refine ⟨_, rfl, ?_⟩; have n0_ := Aside0.mk (hb); have n1_ := Aside0.mk (hi); clear HB; clear HI193; have HB := n0_; have HI193 := n1_; clear n0_ n1_; (try clear hb); (try clear hb2); (try clear hk); (try clear hi)))
  go_ret
  exact ⟨by first | rfl | (simp [errW_none, errW_some] <;> rfl) | (simp [*, errW_none, errW_some] <;> rfl), by repeat (first | (with_reducible first | exact HB.out | apply below_alloc | apply pw_below_drewN | apply below_drew1 | refine below_set ?_ (IsS66.ge HI193.out)) | exact HB.out)⟩

end Go.Proofs.Ytdklegalfcmboaa.Q

namespace Go.Proofs.Ytdklegalfcmboaa.Q
open Go.RowKit Go.Proofs.YtdklegalfcmboaaW.PrintWords Go.Proofs.YtdklegalfcmboaaW.PrintLast Go.Proofs.YtdklegalfcmboaaW.PrintMore
attribute [local go_sem] max2_int min2_int max_two min_two max_three min_three max_four min_four   -- for this text's walks alone
set_option linter.unusedVariables false
set_option linter.unusedSimpArgs false

/-! ### impl_NameBytes: function 18 -/
def impl_NameBytes.f (k : Nat) (a0 : ByteArray) : Option (ByteArray × Bool) := if (a0.size : Int) > 100 then (some ((⟨#[]⟩ : ByteArray), false)) else ((impl_UlebBytes.f k (IntKind.u64.wrap ((a0.size : Int)))).bind fun t209 => (if t209.size + a0.size ≤ 9223372036854775807 then (some (t209 ++ a0, true)) else (none)))
theorem impl_NameBytes.mono : ∀ a0 k, LeO (impl_NameBytes.f k a0) (impl_NameBytes.f (k + 1) a0) := by
 intro a0 k
 unfold impl_NameBytes.f
 repeat' first
   | (with_reducible exact impl_UlebBytes.mono _ _)
   | (with_reducible exact LeO.refl _)
   | (with_reducible exact LeO.none _)
   | (with_reducible refine LeO.ite ?_ ?_)
   | (with_reducible refine LeO.bind ?_ (fun _ => ?_))
   | exact impl_UlebBytes.mono _ _
   | exact LeO.none _
   | refine LeO.ite ?_ ?_
   | refine LeO.bind ?_ (fun _ => ?_)
set_option maxHeartbeats 8000000 in
set_option maxRecDepth 100000 in
theorem impl_NameBytes.calls (k : Nat) (a0 : ByteArray) (r1 : ByteArray) (r2 : Bool) (w : World) (h : impl_NameBytes.f k a0 = some (r1, r2)) :
  Calls Try.prog 18 #[.string a0] w fun e w' => e = .returned (.tuple #[.string r1, .bool r2]) ∧ Below w.heap.size w w' := by
 have HB := Aside0.mk (Below.refl w.heap.size w)
 have H : (if (a0.size : Int) > 100 then (some ((⟨#[]⟩ : ByteArray), false)) else ((impl_UlebBytes.f k (IntKind.u64.wrap ((a0.size : Int)))).bind fun t209 => (if t209.size + a0.size ≤ 9223372036854775807 then (some (t209 ++ a0, true)) else (none)))) = some (r1, r2) := h
 clear h
 by_cases c2 : (a0.size : Int) > 100
 ·
  rw [if_pos c2] at H
  have c2b0 : decide (100 < (a0.size : Int)) = true := decide_eq_true c2
  have c2b1 : decide (100 < a0.size) = true := decide_eq_true (by omega)
  clear c2
  simp only [Option.some.injEq, Prod.mk.injEq] at H
  obtain ⟨rfl, rfl⟩ := H
  go_enter Try.func18, Try.ntmps18
  go_wp2
  go_ret2
  exact ⟨by first | rfl | (simp [errW_none, errW_some] <;> rfl) | (simp [*, errW_none, errW_some] <;> rfl), bw HB.out⟩
 ·
  rw [if_neg c2] at H
  have c2b0 : decide (100 < (a0.size : Int)) = false := decide_eq_false c2
  have c2b1 : decide (100 < a0.size) = false := decide_eq_false (by omega)
  clear c2
  replace H := Option.bind_eq_some_iff.mp H
  obtain ⟨t209, A30, H⟩ := H
  replace H : (if t209.size + a0.size ≤ 9223372036854775807 then (some (t209 ++ a0, true)) else (none)) = some (r1, r2) := H
  rw [show IntKind.u64.wrap (a0.size : Int) = (a0.size : Int) from by have h_ := of_decide_eq_false c2b1; simp [IntKind.wrap, IntKind.bits, IntKind.signed]; omega] at A30
  have A3 := Aside0.mk A30
  clear A30
  by_cases c4 : t209.size + a0.size ≤ 9223372036854775807
  ·
   rw [if_pos c4] at H
   have c4b0 := eq_true c4
   have c4b1 : decide (t209.size + a0.size ≤ 9223372036854775807) = true := decide_eq_true c4
   try have c4b2 : (9223372036854775807 < t209.size + a0.size) = False := eq_false (Nat.not_lt.2 c4)
   simp only [Option.some.injEq, Prod.mk.injEq] at H
   obtain ⟨rfl, rfl⟩ := H
   go_enter Try.func18, Try.ntmps18
   go_wp2_with (first | ((with_reducible refine gate_callee (f := 36) rfl ?_); refine goesL_ (some 10) rfl rfl Try.func36 (by kernel_rfl) rfl #[.int .u64 (a0.size : Int)] rfl ar ?_; (with_reducible refine (impl_UlebBytes.calls k (a0.size : Int) t209 _ A3.out).mono ?_); rintro e w5 ⟨rfl, hb⟩; refine ⟨_, rfl, ?_⟩; have n0_ := Aside0.mk (below_step (bw HB.out) hb); clear HB; have HB := n0_; clear n0_; (try clear hb)))
   go_ret2
   exact ⟨by first | rfl | (simp [errW_none, errW_some] <;> rfl) | (simp [*, errW_none, errW_some] <;> rfl), bw HB.out⟩
  ·
   rw [if_neg c4] at H
   exact absurd H (by simp)

end Go.Proofs.Ytdklegalfcmboaa.Q

namespace Go.Proofs.Ytdklegalfcmboaa.Q
open Go.RowKit Go.Proofs.YtdklegalfcmboaaW.PrintWords Go.Proofs.YtdklegalfcmboaaW.PrintLast Go.Proofs.YtdklegalfcmboaaW.PrintMore
attribute [local go_sem] max2_int min2_int max_two min_two max_three min_three max_four min_four   -- for this text's walks alone
set_option linter.unusedVariables false
set_option linter.unusedSimpArgs false

/-! ### spec_NameBytes: function 19 -/
def spec_NameBytes.f (k : Nat) (a0 : ByteArray) : Option (ByteArray × Bool) := if (a0.size : Int) > 100 then (some ((⟨#[]⟩ : ByteArray), false)) else ((spec_l1Uleb.f k (IntKind.u64.wrap ((a0.size : Int)))).bind fun t210 => (if t210.size + a0.size ≤ 9223372036854775807 then (some (t210 ++ a0, true)) else (none)))
theorem spec_NameBytes.mono : ∀ a0 k, LeO (spec_NameBytes.f k a0) (spec_NameBytes.f (k + 1) a0) := by
 intro a0 k
 unfold spec_NameBytes.f
 repeat' first
   | (with_reducible exact spec_l1Uleb.mono _ _)
   | (with_reducible exact LeO.refl _)
   | (with_reducible exact LeO.none _)
   | (with_reducible refine LeO.ite ?_ ?_)
   | (with_reducible refine LeO.bind ?_ (fun _ => ?_))
   | exact spec_l1Uleb.mono _ _
   | exact LeO.none _
   | refine LeO.ite ?_ ?_
   | refine LeO.bind ?_ (fun _ => ?_)
set_option maxHeartbeats 8000000 in
set_option maxRecDepth 100000 in
theorem spec_NameBytes.calls (k : Nat) (a0 : ByteArray) (r1 : ByteArray) (r2 : Bool) (w : World) (h : spec_NameBytes.f k a0 = some (r1, r2)) :
  Calls Try.prog 19 #[.string a0] w fun e w' => e = .returned (.tuple #[.string r1, .bool r2]) ∧ Below w.heap.size w w' := by
 have HB := Aside0.mk (Below.refl w.heap.size w)
 have H : (if (a0.size : Int) > 100 then (some ((⟨#[]⟩ : ByteArray), false)) else ((spec_l1Uleb.f k (IntKind.u64.wrap ((a0.size : Int)))).bind fun t210 => (if t210.size + a0.size ≤ 9223372036854775807 then (some (t210 ++ a0, true)) else (none)))) = some (r1, r2) := h
 clear h
 by_cases c2 : (a0.size : Int) > 100
 ·
  rw [if_pos c2] at H
  have c2b0 : decide (100 < (a0.size : Int)) = true := decide_eq_true c2
  have c2b1 : decide (100 < a0.size) = true := decide_eq_true (by omega)
  clear c2
  simp only [Option.some.injEq, Prod.mk.injEq] at H
  obtain ⟨rfl, rfl⟩ := H
  go_enter Try.func19, Try.ntmps19
  go_wp2
  go_ret2
  exact ⟨by first | rfl | (simp [errW_none, errW_some] <;> rfl) | (simp [*, errW_none, errW_some] <;> rfl), bw HB.out⟩
 ·
  rw [if_neg c2] at H
  have c2b0 : decide (100 < (a0.size : Int)) = false := decide_eq_false c2
  have c2b1 : decide (100 < a0.size) = false := decide_eq_false (by omega)
  clear c2
  replace H := Option.bind_eq_some_iff.mp H
  obtain ⟨t210, A30, H⟩ := H
  replace H : (if t210.size + a0.size ≤ 9223372036854775807 then (some (t210 ++ a0, true)) else (none)) = some (r1, r2) := H
  rw [show IntKind.u64.wrap (a0.size : Int) = (a0.size : Int) from by have h_ := of_decide_eq_false c2b1; simp [IntKind.wrap, IntKind.bits, IntKind.signed]; omega] at A30
  have A3 := Aside0.mk A30
  clear A30
  by_cases c4 : t210.size + a0.size ≤ 9223372036854775807
  ·
   rw [if_pos c4] at H
   have c4b0 := eq_true c4
   have c4b1 : decide (t210.size + a0.size ≤ 9223372036854775807) = true := decide_eq_true c4
   try have c4b2 : (9223372036854775807 < t210.size + a0.size) = False := eq_false (Nat.not_lt.2 c4)
   simp only [Option.some.injEq, Prod.mk.injEq] at H
   obtain ⟨rfl, rfl⟩ := H
   go_enter Try.func19, Try.ntmps19
   go_wp2_with (first | ((with_reducible refine gate_callee (f := 40) rfl ?_); refine goesL_ (some 10) rfl rfl Try.func40 (by kernel_rfl) rfl #[.int .u64 (a0.size : Int)] rfl ar ?_; (with_reducible refine (spec_l1Uleb.calls k (a0.size : Int) t210 _ A3.out).mono ?_); rintro e w5 ⟨rfl, hb⟩; refine ⟨_, rfl, ?_⟩; have n0_ := Aside0.mk (below_step (bw HB.out) hb); clear HB; have HB := n0_; clear n0_; (try clear hb)))
   go_ret2
   exact ⟨by first | rfl | (simp [errW_none, errW_some] <;> rfl) | (simp [*, errW_none, errW_some] <;> rfl), bw HB.out⟩
  ·
   rw [if_neg c4] at H
   exact absurd H (by simp)

end Go.Proofs.Ytdklegalfcmboaa.Q

namespace Go.Proofs.Ytdklegalfcmboaa.Q
open Go.RowKit Go.Proofs.YtdklegalfcmboaaW.PrintWords Go.Proofs.YtdklegalfcmboaaW.PrintLast Go.Proofs.YtdklegalfcmboaaW.PrintMore
attribute [local go_sem] max2_int min2_int max_two min_two max_three min_three max_four min_four   -- for this text's walks alone
set_option linter.unusedVariables false
set_option linter.unusedSimpArgs false

/-! ### impl_TakeName: function 20 -/
def impl_TakeName.f (k : Nat) (a0 : ByteArray) : Option (ByteArray × Int × Bool) := (impl_takeText.f k a0).bind fun bt211 => (if bt211.2 = 0 then (some ((⟨#[]⟩ : ByteArray), 0, false)) else (if (bt211.1.size : Int) > 100 then (some ((⟨#[]⟩ : ByteArray), 0, false)) else (some (bt211.1, bt211.2, true))))
theorem impl_TakeName.mono : ∀ a0 k, LeO (impl_TakeName.f k a0) (impl_TakeName.f (k + 1) a0) := by
 intro a0 k
 unfold impl_TakeName.f
 repeat' first
   | (with_reducible exact impl_takeText.mono _ _)
   | (with_reducible exact LeO.refl _)
   | (with_reducible exact LeO.none _)
   | (with_reducible refine LeO.ite ?_ ?_)
   | (with_reducible refine LeO.bind ?_ (fun _ => ?_))
   | exact impl_takeText.mono _ _
   | exact LeO.none _
   | refine LeO.ite ?_ ?_
   | refine LeO.bind ?_ (fun _ => ?_)
set_option maxHeartbeats 8000000 in
set_option maxRecDepth 100000 in
theorem impl_TakeName.calls (k : Nat) (a0 : ByteArray) (r1 : ByteArray) (r2 : Int) (r3 : Bool) (w : World) (h : impl_TakeName.f k a0 = some (r1, r2, r3)) :
  Calls Try.prog 20 #[.string a0] w fun e w' => e = .returned (.tuple #[.string r1, .int .i64 r2, .bool r3]) ∧ Drawn0 w w' := by
 have H : ((impl_takeText.f k a0).bind fun bt211 => (if bt211.2 = 0 then (some ((⟨#[]⟩ : ByteArray), 0, false)) else (if (bt211.1.size : Int) > 100 then (some ((⟨#[]⟩ : ByteArray), 0, false)) else (some (bt211.1, bt211.2, true))))) = some (r1, r2, r3) := h
 clear h
 replace H := Option.bind_eq_some_iff.mp H
 obtain ⟨⟨t211, t212⟩, A20, H⟩ := H
 replace H : (if t212 = 0 then (some ((⟨#[]⟩ : ByteArray), 0, false)) else (if (t211.size : Int) > 100 then (some ((⟨#[]⟩ : ByteArray), 0, false)) else (some (t211, t212, true)))) = some (r1, r2, r3) := H
 have A2 := Aside0.mk A20
 clear A20
 by_cases c3 : t212 = 0
 ·
  rw [if_pos c3] at H
  have c3b0 : (t212 == 0) = true := beq_iff_eq.mpr c3
  have c3b1 : (t212 != 0) = false := bne_eq_false_iff_eq.mpr c3
  clear c3
  simp only [Option.some.injEq, Prod.mk.injEq] at H
  obtain ⟨rfl, rfl, rfl⟩ := H
  go_enter Try.func20, Try.ntmps20
  go_wp2_with (first | ((with_reducible refine gate_callee (f := 41) rfl ?_); refine goesL_ (some 9) rfl rfl Try.func41 (by kernel_rfl) rfl #[.string a0] rfl ar ?_; (with_reducible refine (impl_takeText.calls k a0 t211 t212 _ A2.out).mono ?_); rintro e w' ⟨rfl, ⟨nd, rfl⟩⟩; refine ⟨_, rfl, ?_⟩))
  go_ret3
  exact ⟨by first | rfl | (simp; done) | (simp [*]; done), by repeat (first | exact Drawn0.refl _ | apply Drawn0.step)⟩
 ·
  rw [if_neg c3] at H
  have c3b0 : (t212 == 0) = false := beq_eq_false_iff_ne.mpr c3
  have c3b1 : (t212 != 0) = true := bne_iff_ne.mpr c3
  by_cases c4 : (t211.size : Int) > 100
  ·
   rw [if_pos c4] at H
   have c4b0 : decide (100 < (t211.size : Int)) = true := decide_eq_true c4
   have c4b1 : decide (100 < t211.size) = true := decide_eq_true (by omega)
   clear c4
   simp only [Option.some.injEq, Prod.mk.injEq] at H
   obtain ⟨rfl, rfl, rfl⟩ := H
   go_enter Try.func20, Try.ntmps20
   go_wp2_with (first | ((with_reducible refine gate_callee (f := 41) rfl ?_); refine goesL_ (some 9) rfl rfl Try.func41 (by kernel_rfl) rfl #[.string a0] rfl ar ?_; (with_reducible refine (impl_takeText.calls k a0 t211 t212 _ A2.out).mono ?_); rintro e w' ⟨rfl, ⟨nd, rfl⟩⟩; refine ⟨_, rfl, ?_⟩))
   go_ret3
   exact ⟨by first | rfl | (simp; done) | (simp [*]; done), by repeat (first | exact Drawn0.refl _ | apply Drawn0.step)⟩
  ·
   rw [if_neg c4] at H
   have c4b0 : decide (100 < (t211.size : Int)) = false := decide_eq_false c4
   have c4b1 : decide (100 < t211.size) = false := decide_eq_false (by omega)
   clear c4
   simp only [Option.some.injEq, Prod.mk.injEq] at H
   obtain ⟨rfl, rfl, rfl⟩ := H
   go_enter Try.func20, Try.ntmps20
   go_wp2_with (first | ((with_reducible refine gate_callee (f := 41) rfl ?_); refine goesL_ (some 9) rfl rfl Try.func41 (by kernel_rfl) rfl #[.string a0] rfl ar ?_; (with_reducible refine (impl_takeText.calls k a0 t211 t212 _ A2.out).mono ?_); rintro e w' ⟨rfl, ⟨nd, rfl⟩⟩; refine ⟨_, rfl, ?_⟩))
   go_ret3
   exact ⟨by first | rfl | (simp; done) | (simp [*]; done), by repeat (first | exact Drawn0.refl _ | apply Drawn0.step)⟩

end Go.Proofs.Ytdklegalfcmboaa.Q

namespace Go.Proofs.Ytdklegalfcmboaa.Q
open Go.RowKit Go.Proofs.YtdklegalfcmboaaW.PrintWords Go.Proofs.YtdklegalfcmboaaW.PrintLast Go.Proofs.YtdklegalfcmboaaW.PrintMore
attribute [local go_sem] max2_int min2_int max_two min_two max_three min_three max_four min_four   -- for this text's walks alone
set_option linter.unusedVariables false
set_option linter.unusedSimpArgs false

attribute [local go_sem high] eqA45
/-! ### laws_FnSections: function 5 -/
mutual
def laws_FnSections.j0 : Nat → List Int → List (S45) → ByteArray → Bool → Bool → Option (Bool)
 | 0, _, _, _, _, _ => none
 | k + 1, x1, x5, x6, x7, x46 => if x46 = true then (some false) else (if x7 = true then ((impl_ReadSections.f k x6).bind fun bt220 => (if bt220.2 = true then (laws_FnSections.j1 k x1 x5 bt220.1 ((bt220.1.length : Int) != (x5.length : Int))) else (laws_FnSections.j1 k x1 x5 bt220.1 true))) else (laws_FnSections.j3 k x1))
def laws_FnSections.j3 : Nat → List Int → Option (Bool)
 | 0, _ => none
 | k + 1, x1 => (spec_DrawNameBytes.f k x1).bind fun t226 => ((impl_NameBytes.f k t226).bind fun bt227 => ((spec_NameBytes.f k t226).bind fun bt229 => (if (bt227.2 != bt229.2) = true then (some false) else (if bt227.2 = true then (if bt227.1.size + 4 ≤ 9223372036854775807 then ((impl_TakeName.f k (bt227.1 ++ (⟨#[109, 111, 114, 101]⟩ : ByteArray))).bind fun bt231 => (if bt231.2.2 = true then (if bt231.1.toList = t226.toList then (some (bt231.2.1 == (bt227.1.size : Int))) else (some false)) else (some false))) else (none)) else (some (bt227.1.toList == ([] : List UInt8)))))))
def laws_FnSections.j1 : Nat → List Int → List (S45) → List (S45) → Bool → Option (Bool)
 | 0, _, _, _, _ => none
 | k + 1, x1, x5, x10, x61 => if x61 = true then (some false) else (laws_FnSections.l0 k x1 x5 x10 (x5.length : Int) 0)
def laws_FnSections.l0 : Nat → List Int → List (S45) → List (S45) → Int → Int → Option (Bool)
 | 0, _, _, _, _, _ => none
 | k + 1, x1, x5, x10, x63, x64 => if x64 < x63 then (if 0 ≤ x64 then (if x64 < (x10.length : Int) then (if x64 < (x5.length : Int) then (if (!(((rd_T45 x10 x64).f0) == ((rd_T45 x5 x64).f0)) || (!((((rd_T45 x10 x64).f1).toList) == (((rd_T45 x5 x64).f1).toList)))) = true then (some false) else (laws_FnSections.l0 k x1 x5 x10 x63 (wrap64 (x64 + 1)))) else (none)) else (none)) else (none)) else (laws_FnSections.j3 k x1)
end
def laws_FnSections.f (k : Nat) (l0 : List Int) (l1 : List Int) : Option (Bool) := if (wrap64 ((l0.length : Int) + (l1.length : Int))) > 1048576 then (some true) else ((spec_DrawSectionsBytes.f k l0).bind fun t213 => ((impl_SectionsBytes.f k t213).bind fun bt216 => ((spec_SectionsBytes.f k t213).bind fun bt218 => (if (bt216.2 != bt218.2) = true then (laws_FnSections.j0 k l1 t213 bt216.1 bt216.2 true) else (laws_FnSections.j0 k l1 t213 bt216.1 bt216.2 (bt216.1.toList != bt218.1.toList))))))
theorem laws_FnSections.mono_l : ∀ k, (∀ y0 y1 y2 y3 y4, LeO (laws_FnSections.j0 k y0 y1 y2 y3 y4) (laws_FnSections.j0 (k + 1) y0 y1 y2 y3 y4)) ∧ (∀ y0, LeO (laws_FnSections.j3 k y0) (laws_FnSections.j3 (k + 1) y0)) ∧ (∀ y0 y1 y2 y3, LeO (laws_FnSections.j1 k y0 y1 y2 y3) (laws_FnSections.j1 (k + 1) y0 y1 y2 y3)) ∧ (∀ y0 y1 y2 y3 y4, LeO (laws_FnSections.l0 k y0 y1 y2 y3 y4) (laws_FnSections.l0 (k + 1) y0 y1 y2 y3 y4))
 | 0 => ⟨fun _ _ _ _ _ r h => by simp [laws_FnSections.j0] at h, fun _ r h => by simp [laws_FnSections.j3] at h, fun _ _ _ _ r h => by simp [laws_FnSections.j1] at h, fun _ _ _ _ _ r h => by simp [laws_FnSections.l0] at h⟩
 | k + 1 => by
  obtain ⟨ih0, ih1, ih2, ih3⟩ := laws_FnSections.mono_l k
  refine ⟨?_, ?_, ?_, ?_⟩
  ·
   intro y0 y1 y2 y3 y4
   unfold laws_FnSections.j0
   repeat' first
   | (with_reducible exact ih0 _ _ _ _ _)
   | (with_reducible exact ih1 _)
   | (with_reducible exact ih2 _ _ _ _)
   | (with_reducible exact ih3 _ _ _ _ _)
   | (with_reducible exact impl_NameBytes.mono _ _)
   | (with_reducible exact impl_ReadSections.mono _ _)
   | (with_reducible exact impl_SectionsBytes.mono _ _)
   | (with_reducible exact impl_TakeName.mono _ _)
   | (with_reducible exact spec_DrawNameBytes.mono _ _)
   | (with_reducible exact spec_DrawSectionsBytes.mono _ _)
   | (with_reducible exact spec_NameBytes.mono _ _)
   | (with_reducible exact spec_SectionsBytes.mono _ _)
   | (with_reducible exact LeO.refl _)
   | (with_reducible exact LeO.none _)
   | (with_reducible refine LeO.ite ?_ ?_)
   | (with_reducible refine LeO.bind ?_ (fun _ => ?_))
   | exact ih0 _ _ _ _ _
   | exact ih1 _
   | exact ih2 _ _ _ _
   | exact ih3 _ _ _ _ _
   | exact impl_NameBytes.mono _ _
   | exact impl_ReadSections.mono _ _
   | exact impl_SectionsBytes.mono _ _
   | exact impl_TakeName.mono _ _
   | exact spec_DrawNameBytes.mono _ _
   | exact spec_DrawSectionsBytes.mono _ _
   | exact spec_NameBytes.mono _ _
   | exact spec_SectionsBytes.mono _ _
   | exact LeO.none _
   | refine LeO.ite ?_ ?_
   | refine LeO.bind ?_ (fun _ => ?_)
  ·
   intro y0
   unfold laws_FnSections.j3
   repeat' first
   | (with_reducible exact ih0 _ _ _ _ _)
   | (with_reducible exact ih1 _)
   | (with_reducible exact ih2 _ _ _ _)
   | (with_reducible exact ih3 _ _ _ _ _)
   | (with_reducible exact impl_NameBytes.mono _ _)
   | (with_reducible exact impl_ReadSections.mono _ _)
   | (with_reducible exact impl_SectionsBytes.mono _ _)
   | (with_reducible exact impl_TakeName.mono _ _)
   | (with_reducible exact spec_DrawNameBytes.mono _ _)
   | (with_reducible exact spec_DrawSectionsBytes.mono _ _)
   | (with_reducible exact spec_NameBytes.mono _ _)
   | (with_reducible exact spec_SectionsBytes.mono _ _)
   | (with_reducible exact LeO.refl _)
   | (with_reducible exact LeO.none _)
   | (with_reducible refine LeO.ite ?_ ?_)
   | (with_reducible refine LeO.bind ?_ (fun _ => ?_))
   | exact ih0 _ _ _ _ _
   | exact ih1 _
   | exact ih2 _ _ _ _
   | exact ih3 _ _ _ _ _
   | exact impl_NameBytes.mono _ _
   | exact impl_ReadSections.mono _ _
   | exact impl_SectionsBytes.mono _ _
   | exact impl_TakeName.mono _ _
   | exact spec_DrawNameBytes.mono _ _
   | exact spec_DrawSectionsBytes.mono _ _
   | exact spec_NameBytes.mono _ _
   | exact spec_SectionsBytes.mono _ _
   | exact LeO.none _
   | refine LeO.ite ?_ ?_
   | refine LeO.bind ?_ (fun _ => ?_)
  ·
   intro y0 y1 y2 y3
   unfold laws_FnSections.j1
   repeat' first
   | (with_reducible exact ih0 _ _ _ _ _)
   | (with_reducible exact ih1 _)
   | (with_reducible exact ih2 _ _ _ _)
   | (with_reducible exact ih3 _ _ _ _ _)
   | (with_reducible exact impl_NameBytes.mono _ _)
   | (with_reducible exact impl_ReadSections.mono _ _)
   | (with_reducible exact impl_SectionsBytes.mono _ _)
   | (with_reducible exact impl_TakeName.mono _ _)
   | (with_reducible exact spec_DrawNameBytes.mono _ _)
   | (with_reducible exact spec_DrawSectionsBytes.mono _ _)
   | (with_reducible exact spec_NameBytes.mono _ _)
   | (with_reducible exact spec_SectionsBytes.mono _ _)
   | (with_reducible exact LeO.refl _)
   | (with_reducible exact LeO.none _)
   | (with_reducible refine LeO.ite ?_ ?_)
   | (with_reducible refine LeO.bind ?_ (fun _ => ?_))
   | exact ih0 _ _ _ _ _
   | exact ih1 _
   | exact ih2 _ _ _ _
   | exact ih3 _ _ _ _ _
   | exact impl_NameBytes.mono _ _
   | exact impl_ReadSections.mono _ _
   | exact impl_SectionsBytes.mono _ _
   | exact impl_TakeName.mono _ _
   | exact spec_DrawNameBytes.mono _ _
   | exact spec_DrawSectionsBytes.mono _ _
   | exact spec_NameBytes.mono _ _
   | exact spec_SectionsBytes.mono _ _
   | exact LeO.none _
   | refine LeO.ite ?_ ?_
   | refine LeO.bind ?_ (fun _ => ?_)
  ·
   intro y0 y1 y2 y3 y4
   unfold laws_FnSections.l0
   repeat' first
   | (with_reducible exact ih0 _ _ _ _ _)
   | (with_reducible exact ih1 _)
   | (with_reducible exact ih2 _ _ _ _)
   | (with_reducible exact ih3 _ _ _ _ _)
   | (with_reducible exact impl_NameBytes.mono _ _)
   | (with_reducible exact impl_ReadSections.mono _ _)
   | (with_reducible exact impl_SectionsBytes.mono _ _)
   | (with_reducible exact impl_TakeName.mono _ _)
   | (with_reducible exact spec_DrawNameBytes.mono _ _)
   | (with_reducible exact spec_DrawSectionsBytes.mono _ _)
   | (with_reducible exact spec_NameBytes.mono _ _)
   | (with_reducible exact spec_SectionsBytes.mono _ _)
   | (with_reducible exact LeO.refl _)
   | (with_reducible exact LeO.none _)
   | (with_reducible refine LeO.ite ?_ ?_)
   | (with_reducible refine LeO.bind ?_ (fun _ => ?_))
   | exact ih0 _ _ _ _ _
   | exact ih1 _
   | exact ih2 _ _ _ _
   | exact ih3 _ _ _ _ _
   | exact impl_NameBytes.mono _ _
   | exact impl_ReadSections.mono _ _
   | exact impl_SectionsBytes.mono _ _
   | exact impl_TakeName.mono _ _
   | exact spec_DrawNameBytes.mono _ _
   | exact spec_DrawSectionsBytes.mono _ _
   | exact spec_NameBytes.mono _ _
   | exact spec_SectionsBytes.mono _ _
   | exact LeO.none _
   | refine LeO.ite ?_ ?_
   | refine LeO.bind ?_ (fun _ => ?_)
theorem laws_FnSections.mono : ∀ a0 a1 k, LeO (laws_FnSections.f k a0 a1) (laws_FnSections.f (k + 1) a0 a1) := by
 intro a0 a1 k
 obtain ⟨ih0, ih1, ih2, ih3⟩ := laws_FnSections.mono_l k
 unfold laws_FnSections.f
 repeat' first
   | (with_reducible exact ih0 _ _ _ _ _)
   | (with_reducible exact ih1 _)
   | (with_reducible exact ih2 _ _ _ _)
   | (with_reducible exact ih3 _ _ _ _ _)
   | (with_reducible exact impl_NameBytes.mono _ _)
   | (with_reducible exact impl_ReadSections.mono _ _)
   | (with_reducible exact impl_SectionsBytes.mono _ _)
   | (with_reducible exact impl_TakeName.mono _ _)
   | (with_reducible exact spec_DrawNameBytes.mono _ _)
   | (with_reducible exact spec_DrawSectionsBytes.mono _ _)
   | (with_reducible exact spec_NameBytes.mono _ _)
   | (with_reducible exact spec_SectionsBytes.mono _ _)
   | (with_reducible exact LeO.refl _)
   | (with_reducible exact LeO.none _)
   | (with_reducible refine LeO.ite ?_ ?_)
   | (with_reducible refine LeO.bind ?_ (fun _ => ?_))
   | exact ih0 _ _ _ _ _
   | exact ih1 _
   | exact ih2 _ _ _ _
   | exact ih3 _ _ _ _ _
   | exact impl_NameBytes.mono _ _
   | exact impl_ReadSections.mono _ _
   | exact impl_SectionsBytes.mono _ _
   | exact impl_TakeName.mono _ _
   | exact spec_DrawNameBytes.mono _ _
   | exact spec_DrawSectionsBytes.mono _ _
   | exact spec_NameBytes.mono _ _
   | exact spec_SectionsBytes.mono _ _
   | exact LeO.none _
   | refine LeO.ite ?_ ?_
   | refine LeO.bind ?_ (fun _ => ?_)
set_option maxHeartbeats 8000000 in
set_option maxRecDepth 100000 in
theorem laws_FnSections.calls (k : Nat) (A0 : Option Addr) (c0 : Nat) (l0 : List Int) (A1 : Option Addr) (c1 : Nat) (l1 : List Int) (r : Bool) (w : World) (hr0 : Kd.C (Kd.int .u8) w A0 l0.length l0) (hc0 : l0.length ≤ c0) (hr1 : Kd.C (Kd.int .u8) w A1 l1.length l1) (hc1 : l1.length ≤ c1) (hTrue : r = true) (h : laws_FnSections.f k l0 l1 = some r) :
  Calls Try.prog 5 #[.slice A0 l0.length c0, .slice A1 l1.length c1] w fun e w' => e = .returned (.bool r) ∧ Below w.heap.size w w' := by
 have hu45 := Try.underlying45
 have HR0 := Aside0.mk hr0
 have HC0 := Aside0.mk hc0
 clear hr0 hc0
 have HR1 := Aside0.mk hr1
 have HC1 := Aside0.mk hc1
 clear hr1 hc1
 have HB := Aside0.mk (Below.refl w.heap.size w)
 have H : (if (wrap64 ((l0.length : Int) + (l1.length : Int))) > 1048576 then (some true) else ((spec_DrawSectionsBytes.f k l0).bind fun t213 => ((impl_SectionsBytes.f k t213).bind fun bt216 => ((spec_SectionsBytes.f k t213).bind fun bt218 => (if (bt216.2 != bt218.2) = true then (laws_FnSections.j0 k l1 t213 bt216.1 bt216.2 true) else (laws_FnSections.j0 k l1 t213 bt216.1 bt216.2 (bt216.1.toList != bt218.1.toList))))))) = some r := h
 clear h
 have HT := Aside0.mk hTrue
 clear hTrue
 by_cases c3 : (wrap64 ((l0.length : Int) + (l1.length : Int))) > 1048576
 ·
  rw [if_pos c3] at H
  have c3b0 : decide (1048576 < (wrap64 ((l0.length : Int) + (l1.length : Int)))) = true := decide_eq_true c3
  clear c3
  obtain rfl := Option.some.inj H
  simp only [Option.some.injEq, Prod.mk.injEq] at H
  obtain ⟨rfl⟩ := H
  go_enter Try.func5, Try.ntmps5
  go_wp2
  repeat (go_quiet (fail); try go_wp2)
  go_ret
  exact ⟨by first | rfl | (simp [errW_none, errW_some] <;> rfl) | (simp [*, errW_none, errW_some] <;> rfl), bw HB.out⟩
 ·
  rw [if_neg c3] at H
  have c3b0 : decide (1048576 < (wrap64 ((l0.length : Int) + (l1.length : Int)))) = false := decide_eq_false c3
  clear c3
  replace H := Option.bind_eq_some_iff.mp H
  obtain ⟨t213, A40, H⟩ := H
  replace H : ((impl_SectionsBytes.f k t213).bind fun bt216 => ((spec_SectionsBytes.f k t213).bind fun bt218 => (if (bt216.2 != bt218.2) = true then (laws_FnSections.j0 k l1 t213 bt216.1 bt216.2 true) else (laws_FnSections.j0 k l1 t213 bt216.1 bt216.2 (bt216.1.toList != bt218.1.toList))))) = some r := H
  have A4 := Aside0.mk A40
  clear A40
  replace H := Option.bind_eq_some_iff.mp H
  obtain ⟨⟨t216, t217⟩, A50, H⟩ := H
  replace H : ((spec_SectionsBytes.f k t213).bind fun bt218 => (if (t217 != bt218.2) = true then (laws_FnSections.j0 k l1 t213 t216 t217 true) else (laws_FnSections.j0 k l1 t213 t216 t217 (t216.toList != bt218.1.toList)))) = some r := H
  have A5 := Aside0.mk A50
  clear A50
  replace H := Option.bind_eq_some_iff.mp H
  obtain ⟨⟨t218, t219⟩, A60, H⟩ := H
  replace H : (if (t217 != t219) = true then (laws_FnSections.j0 k l1 t213 t216 t217 true) else (laws_FnSections.j0 k l1 t213 t216 t217 (t216.toList != t218.toList))) = some r := H
  have A6 := Aside0.mk A60
  clear A60
  have HC7 := Aside0.mk H
  clear H
  go_enter Try.func5, Try.ntmps5
  go_upto_region 6 with (first | (go_at_call 13; (with_reducible refine (spec_DrawSectionsBytes.calls k _ _ l0 t213 _ ?side1 ?side2 A4.out).mono ?_); (case side1 => repeat (first | exact HR0.out | (with_reducible refine Kd.C_alloc ?_ _) | (with_reducible refine Kd.C_drewN ?_ _) | (with_reducible refine Kd.C_drew ?_))); (case side2 => exact HC0.out); rintro e w8 ⟨v214, rfl, ho0, hb⟩; have n0_ := Aside0.mk (Kd.R_lower ho0 (below_size (bw HB.out))); have n1_ := Aside0.mk (below_step (bw HB.out) hb); clear HB; have HO215 := n0_; have HB := n1_; clear n0_ n1_; (try clear hb); (try clear hb2); (try clear hk); (try clear hi); (try clear ho0); obtain ⟨Ao9, co9, eo9⟩ := Kd.R_slice HO215.out; subst eo9) | (go_at_call 14; (with_reducible refine (impl_SectionsBytes.calls k _ _ t213 t216 t217 _ ?side1 ?side2 A5.out).mono ?_); (case side1 => repeat (first | exact (Kd.R_reads' HO215.out).2.2 | (with_reducible refine Kd.C_alloc ?_ _) | (with_reducible refine Kd.C_drewN ?_ _) | (with_reducible refine Kd.C_drew ?_))); (case side2 => exact (Kd.R_reads' HO215.out).2.1); rintro e w10 ⟨rfl, hb⟩; have n0_ := Aside0.mk (Kd.R_below (by (with_reducible repeat (first | apply Kd.R_alloc | apply Kd.R_drewN | apply Kd.R_drew)); exact HO215.out) hb); have n1_ := Aside0.mk (below_step (bw HB.out) hb); clear HO215; clear HB; have HO215 := n0_; have HB := n1_; clear n0_ n1_; (try clear hb); (try clear hb2); (try clear hk); (try clear hi)) | (go_at_call 15; (with_reducible refine (spec_SectionsBytes.calls k _ _ t213 t218 t219 _ ?side1 ?side2 A6.out).mono ?_); (case side1 => repeat (first | exact (Kd.R_reads' HO215.out).2.2 | (with_reducible refine Kd.C_alloc ?_ _) | (with_reducible refine Kd.C_drewN ?_ _) | (with_reducible refine Kd.C_drew ?_))); (case side2 => exact (Kd.R_reads' HO215.out).2.1); rintro e w11 ⟨rfl, hb⟩; have n0_ := Aside0.mk (Kd.R_below (by (with_reducible repeat (first | apply Kd.R_alloc | apply Kd.R_drewN | apply Kd.R_drew)); exact HO215.out) hb); have n1_ := Aside0.mk (below_step (bw HB.out) hb); clear HO215; clear HB; have HO215 := n0_; have HB := n1_; clear n0_ n1_; (try clear hb); (try clear hb2); (try clear hk); (try clear hi)))
  repeat (go_quiet (first | (go_at_call 13; (with_reducible refine (spec_DrawSectionsBytes.calls k _ _ l0 t213 _ ?side1 ?side2 A4.out).mono ?_); (case side1 => repeat (first | exact HR0.out | (with_reducible refine Kd.C_alloc ?_ _) | (with_reducible refine Kd.C_drewN ?_ _) | (with_reducible refine Kd.C_drew ?_))); (case side2 => exact HC0.out); rintro e w8 ⟨v214, rfl, ho0, hb⟩; have n0_ := Aside0.mk (Kd.R_lower ho0 (below_size (bw HB.out))); have n1_ := Aside0.mk (below_step (bw HB.out) hb); clear HB; have HO215 := n0_; have HB := n1_; clear n0_ n1_; (try clear hb); (try clear hb2); (try clear hk); (try clear hi); (try clear ho0); obtain ⟨Ao9, co9, eo9⟩ := Kd.R_slice HO215.out; subst eo9) | (go_at_call 14; (with_reducible refine (impl_SectionsBytes.calls k _ _ t213 t216 t217 _ ?side1 ?side2 A5.out).mono ?_); (case side1 => repeat (first | exact (Kd.R_reads' HO215.out).2.2 | (with_reducible refine Kd.C_alloc ?_ _) | (with_reducible refine Kd.C_drewN ?_ _) | (with_reducible refine Kd.C_drew ?_))); (case side2 => exact (Kd.R_reads' HO215.out).2.1); rintro e w10 ⟨rfl, hb⟩; have n0_ := Aside0.mk (Kd.R_below (by (with_reducible repeat (first | apply Kd.R_alloc | apply Kd.R_drewN | apply Kd.R_drew)); exact HO215.out) hb); have n1_ := Aside0.mk (below_step (bw HB.out) hb); clear HO215; clear HB; have HO215 := n0_; have HB := n1_; clear n0_ n1_; (try clear hb); (try clear hb2); (try clear hk); (try clear hi)) | (go_at_call 15; (with_reducible refine (spec_SectionsBytes.calls k _ _ t213 t218 t219 _ ?side1 ?side2 A6.out).mono ?_); (case side1 => repeat (first | exact (Kd.R_reads' HO215.out).2.2 | (with_reducible refine Kd.C_alloc ?_ _) | (with_reducible refine Kd.C_drewN ?_ _) | (with_reducible refine Kd.C_drew ?_))); (case side2 => exact (Kd.R_reads' HO215.out).2.1); rintro e w11 ⟨rfl, hb⟩; have n0_ := Aside0.mk (Kd.R_below (by (with_reducible repeat (first | apply Kd.R_alloc | apply Kd.R_drewN | apply Kd.R_drew)); exact HO215.out) hb); have n1_ := Aside0.mk (below_step (bw HB.out) hb); clear HO215; clear HB; have HO215 := n0_; have HB := n1_; clear n0_ n1_; (try clear hb); (try clear hb2); (try clear hk); (try clear hi))); go_upto_region 6 with (first | (go_at_call 13; (with_reducible refine (spec_DrawSectionsBytes.calls k _ _ l0 t213 _ ?side1 ?side2 A4.out).mono ?_); (case side1 => repeat (first | exact HR0.out | (with_reducible refine Kd.C_alloc ?_ _) | (with_reducible refine Kd.C_drewN ?_ _) | (with_reducible refine Kd.C_drew ?_))); (case side2 => exact HC0.out); rintro e w8 ⟨v214, rfl, ho0, hb⟩; have n0_ := Aside0.mk (Kd.R_lower ho0 (below_size (bw HB.out))); have n1_ := Aside0.mk (below_step (bw HB.out) hb); clear HB; have HO215 := n0_; have HB := n1_; clear n0_ n1_; (try clear hb); (try clear hb2); (try clear hk); (try clear hi); (try clear ho0); obtain ⟨Ao9, co9, eo9⟩ := Kd.R_slice HO215.out; subst eo9) | (go_at_call 14; (with_reducible refine (impl_SectionsBytes.calls k _ _ t213 t216 t217 _ ?side1 ?side2 A5.out).mono ?_); (case side1 => repeat (first | exact (Kd.R_reads' HO215.out).2.2 | (with_reducible refine Kd.C_alloc ?_ _) | (with_reducible refine Kd.C_drewN ?_ _) | (with_reducible refine Kd.C_drew ?_))); (case side2 => exact (Kd.R_reads' HO215.out).2.1); rintro e w10 ⟨rfl, hb⟩; have n0_ := Aside0.mk (Kd.R_below (by (with_reducible repeat (first | apply Kd.R_alloc | apply Kd.R_drewN | apply Kd.R_drew)); exact HO215.out) hb); have n1_ := Aside0.mk (below_step (bw HB.out) hb); clear HO215; clear HB; have HO215 := n0_; have HB := n1_; clear n0_ n1_; (try clear hb); (try clear hb2); (try clear hk); (try clear hi)) | (go_at_call 15; (with_reducible refine (spec_SectionsBytes.calls k _ _ t213 t218 t219 _ ?side1 ?side2 A6.out).mono ?_); (case side1 => repeat (first | exact (Kd.R_reads' HO215.out).2.2 | (with_reducible refine Kd.C_alloc ?_ _) | (with_reducible refine Kd.C_drewN ?_ _) | (with_reducible refine Kd.C_drew ?_))); (case side2 => exact (Kd.R_reads' HO215.out).2.1); rintro e w11 ⟨rfl, hb⟩; have n0_ := Aside0.mk (Kd.R_below (by (with_reducible repeat (first | apply Kd.R_alloc | apply Kd.R_drewN | apply Kd.R_drew)); exact HO215.out) hb); have n1_ := Aside0.mk (below_step (bw HB.out) hb); clear HO215; clear HB; have HO215 := n0_; have HB := n1_; clear n0_ n1_; (try clear hb); (try clear hb2); (try clear hk); (try clear hi))))
  (try simp only [Act.put, List.setIfInBounds_toArray, List.set_cons_zero, List.set_cons_succ])
  go_cut [46] (fun v46 wc => ∃ (kq : Nat) (x46_6 : Bool), v46 = .bool x46_6 ∧ Aside0 (laws_FnSections.j0 kq l1 t213 t216 t217 x46_6 = some r) ∧ Aside0 (kq ≤ k) ∧ Aside0 (Kd.R k45 45 wc w.heap.size (fun _ => True) (.slice Ao9 t213.length co9) t213) ∧ Aside0 (Below w.heap.size w wc))
  case first =>
   have H := HC7.out
   clear HC7
   by_cases c12 : (t217 != t219) = true
   ·
    rw [if_pos c12] at H
    have c12b0 : (t217 != t219) = true := c12
    (try (have c12b1 : decide (t217 = t219) = false := by simpa using c12))
    (try (have c12b2 : (t217 == t219) = false := by simpa using c12))
    (try (have c12b3 : ¬ (t217 = t219) := by simpa using c12))
    clear c12
    (first | rw [c12b0] | (simp only [i64_w, i32_w]; rw [c12b0]) | skip)
    have H' := Aside0.mk H
    clear H
    go_wp2
    repeat (go_quiet (fail); try go_wp2)
    go_meet
    case rel => exact ⟨_, (true), (by first | rfl | (simp; done) | (simp [*]; done)), H', ⟨by first | omega | exact Nat.le_refl _⟩, ⟨by (with_reducible repeat (first | apply Kd.R_alloc | apply Kd.R_drewN | apply Kd.R_drew)); exact HO215.out⟩, ⟨bw HB.out⟩⟩
   ·
    rw [if_neg c12] at H
    have c12b0 : (t217 != t219) = false := by simpa using c12
    (try (have c12b1 : decide (t217 = t219) = true := by simpa using c12))
    (try (have c12b2 : (t217 == t219) = true := by simpa using c12))
    clear c12
    (first | rw [c12b0] | (simp only [i64_w, i32_w]; rw [c12b0]) | skip)
    have H' := Aside0.mk H
    clear H
    go_wp2
    repeat (go_quiet (fail); try go_wp2)
    go_meet
    case rel => exact ⟨_, ((t216.toList != t218.toList)), (by first | rfl | (simp; done) | (simp [*]; done)), H', ⟨by first | omega | exact Nat.le_refl _⟩, ⟨by (with_reducible repeat (first | apply Kd.R_alloc | apply Kd.R_drewN | apply Kd.R_drew)); exact HO215.out⟩, ⟨bw HB.out⟩⟩
  case rest =>
   clear HC7
   try clear c1
   try clear p2
   try clear c3
   try clear c3b0
   try clear c5
   try clear p6
   try clear c12
   try clear c12b0
   try clear c12b1
   try clear c12b2
   obtain ⟨kq, x46_6, rfl, HA, HJ6, HO_5, HB⟩ := hcut
   cases kq with
   | zero => exact absurd HA.out (by simp [laws_FnSections.j0])
   | succ kj6 =>
    have H := HA.out
    clear HA
    simp only [laws_FnSections.j0] at H
    by_cases c13 : x46_6 = true
    ·
     subst c13
     have H1 : (some false) = some r := by rw [if_pos rfl] at H; exact H
     clear H
     have H := H1
     clear H1
     obtain rfl := Option.some.inj H
     exact absurd HT.out (by decide)
    ·
     replace c13 := Bool.eq_false_iff.mpr c13
     subst c13
     have H1 : (if t217 = true then ((impl_ReadSections.f kj6 t216).bind fun bt220 => (if bt220.2 = true then (laws_FnSections.j1 kj6 l1 t213 bt220.1 ((bt220.1.length : Int) != (t213.length : Int))) else (laws_FnSections.j1 kj6 l1 t213 bt220.1 true))) else (laws_FnSections.j3 kj6 l1)) = some r := by rw [if_neg (show ¬ (false = true) by decide)] at H; exact H
     clear H
     have H := H1
     clear H1
     have HC14 := Aside0.mk H
     clear H
     go_upto_if 47 with (fail)
     repeat (go_quiet (fail); go_upto_if 47 with (fail))
     go_cut [] (fun wc => ∃ (kq : Nat), Aside0 (laws_FnSections.j3 kq l1 = some r) ∧ Aside0 (kq ≤ kj6) ∧ Aside0 (Below w.heap.size w wc))
     case first =>
      have H := HC14.out
      clear HC14
      by_cases c15 : t217 = true
      ·
       subst c15
       have H1 : ((impl_ReadSections.f kj6 t216).bind fun bt220 => (if bt220.2 = true then (laws_FnSections.j1 kj6 l1 t213 bt220.1 ((bt220.1.length : Int) != (t213.length : Int))) else (laws_FnSections.j1 kj6 l1 t213 bt220.1 true))) = some r := by rw [if_pos rfl] at H; exact H
       clear H
       have H := H1
       clear H1
       replace H := Option.bind_eq_some_iff.mp H
       obtain ⟨⟨t220, t221⟩, A160, H⟩ := H
       replace H : (if t221 = true then (laws_FnSections.j1 kj6 l1 t213 t220 ((t220.length : Int) != (t213.length : Int))) else (laws_FnSections.j1 kj6 l1 t213 t220 true)) = some r := H
       have A16 := Aside0.mk A160
       clear A160
       have HC17 := Aside0.mk H
       clear H
       go_upto_region 10 with (first | (go_at_call 16; (with_reducible refine (impl_ReadSections.calls kj6 t216 t220 t221 _ A16.out).mono ?_); rintro e w18 ⟨v222, rfl, ho0, hb⟩; have n0_ := Aside0.mk (Kd.R_elder' (by (with_reducible repeat (first | apply Kd.R_alloc | apply Kd.R_drewN | apply Kd.R_drew)); exact HO_5.out) (Kd.R_base ho0) hb); have n1_ := Aside0.mk (Kd.R_lower (Kd.R_new' ho0 (Kd.R_lt (by (with_reducible repeat (first | apply Kd.R_alloc | apply Kd.R_drewN | apply Kd.R_drew)); exact HO_5.out))) (below_size (bw HB.out))); have n2_ := Aside0.mk (below_step (bw HB.out) hb); clear HO_5; clear HB; have HO_5 := n0_; have HO223 := n1_; have HB := n2_; clear n0_ n1_ n2_; (try clear hb); (try clear hb2); (try clear hk); (try clear hi); (try clear ho0)))
       repeat (go_quiet (first | (go_at_call 16; (with_reducible refine (impl_ReadSections.calls kj6 t216 t220 t221 _ A16.out).mono ?_); rintro e w18 ⟨v222, rfl, ho0, hb⟩; have n0_ := Aside0.mk (Kd.R_elder' (by (with_reducible repeat (first | apply Kd.R_alloc | apply Kd.R_drewN | apply Kd.R_drew)); exact HO_5.out) (Kd.R_base ho0) hb); have n1_ := Aside0.mk (Kd.R_lower (Kd.R_new' ho0 (Kd.R_lt (by (with_reducible repeat (first | apply Kd.R_alloc | apply Kd.R_drewN | apply Kd.R_drew)); exact HO_5.out))) (below_size (bw HB.out))); have n2_ := Aside0.mk (below_step (bw HB.out) hb); clear HO_5; clear HB; have HO_5 := n0_; have HO223 := n1_; have HB := n2_; clear n0_ n1_ n2_; (try clear hb); (try clear hb2); (try clear hk); (try clear hi); (try clear ho0))); go_upto_region 10 with (first | (go_at_call 16; (with_reducible refine (impl_ReadSections.calls kj6 t216 t220 t221 _ A16.out).mono ?_); rintro e w18 ⟨v222, rfl, ho0, hb⟩; have n0_ := Aside0.mk (Kd.R_elder' (by (with_reducible repeat (first | apply Kd.R_alloc | apply Kd.R_drewN | apply Kd.R_drew)); exact HO_5.out) (Kd.R_base ho0) hb); have n1_ := Aside0.mk (Kd.R_lower (Kd.R_new' ho0 (Kd.R_lt (by (with_reducible repeat (first | apply Kd.R_alloc | apply Kd.R_drewN | apply Kd.R_drew)); exact HO_5.out))) (below_size (bw HB.out))); have n2_ := Aside0.mk (below_step (bw HB.out) hb); clear HO_5; clear HB; have HO_5 := n0_; have HO223 := n1_; have HB := n2_; clear n0_ n1_ n2_; (try clear hb); (try clear hb2); (try clear hk); (try clear hi); (try clear ho0))))
       (try simp only [Act.put, List.setIfInBounds_toArray, List.set_cons_zero, List.set_cons_succ])
       go_cut [61] (fun v61 wc => ∃ (kq : Nat) (x61_16 : Bool), v61 = .bool x61_16 ∧ Aside0 (laws_FnSections.j1 kq l1 t213 t220 x61_16 = some r) ∧ Aside0 (kq ≤ kj6) ∧ Aside0 (Kd.R k45 45 wc w.heap.size (fun k_ => some k_ ≠ (v222 : Value).ownBlock) (.slice Ao9 t213.length co9) t213) ∧ Aside0 (Kd.R k45 45 wc w.heap.size (fun k_ => some k_ ≠ ((.slice Ao9 t213.length co9) : Value).ownBlock) v222 t220) ∧ Aside0 (Below w.heap.size w wc))
       case first =>
        have H := HC17.out
        clear HC17
        by_cases c19 : t221 = true
        ·
         subst c19
         have H1 : (laws_FnSections.j1 kj6 l1 t213 t220 ((t220.length : Int) != (t213.length : Int))) = some r := by rw [if_pos rfl] at H; exact H
         clear H
         have H := H1
         clear H1
         have H' := Aside0.mk H
         clear H
         obtain ⟨Ao20, co20, eo20⟩ := Kd.R_slice HO223.out
         subst eo20
         go_wp2
         repeat (go_quiet (fail); try go_wp2)
         go_meet
         case rel => exact ⟨_, (((t220.length : Int) != (t213.length : Int))), (by first | rfl | (simp; done) | (simp [*]; done)), H', ⟨by have := HJ6.out; first | omega | exact Nat.le_refl _⟩, ⟨by (with_reducible repeat (first | apply Kd.R_alloc | apply Kd.R_drewN | apply Kd.R_drew)); exact Kd.R_mono HO_5.out (fun _ hk => hk.2)⟩, ⟨by (with_reducible repeat (first | apply Kd.R_alloc | apply Kd.R_drewN | apply Kd.R_drew)); exact Kd.R_mono HO223.out (fun _ hk => hk.2)⟩, ⟨bw HB.out⟩⟩
        ·
         replace c19 := Bool.eq_false_iff.mpr c19
         subst c19
         have H1 : (laws_FnSections.j1 kj6 l1 t213 t220 true) = some r := by rw [if_neg (show ¬ (false = true) by decide)] at H; exact H
         clear H
         have H := H1
         clear H1
         have H' := Aside0.mk H
         clear H
         go_wp2
         repeat (go_quiet (fail); try go_wp2)
         go_meet
         case rel => exact ⟨_, (true), (by first | rfl | (simp; done) | (simp [*]; done)), H', ⟨by have := HJ6.out; first | omega | exact Nat.le_refl _⟩, ⟨by (with_reducible repeat (first | apply Kd.R_alloc | apply Kd.R_drewN | apply Kd.R_drew)); exact Kd.R_mono HO_5.out (fun _ hk => hk.2)⟩, ⟨by (with_reducible repeat (first | apply Kd.R_alloc | apply Kd.R_drewN | apply Kd.R_drew)); exact Kd.R_mono HO223.out (fun _ hk => hk.2)⟩, ⟨bw HB.out⟩⟩
       case rest =>
        clear HC17
        try clear c1
        try clear p2
        try clear c3
        try clear c3b0
        try clear c5
        try clear p6
        try clear c12
        try clear c12b0
        try clear c12b1
        try clear c12b2
        try clear c13
        try clear c15
        try clear c19
        try clear p2
        try clear p6
        obtain ⟨kq, x61_16, rfl, HA, HJ16, HO_5, HO_10, HB⟩ := hcut
        cases kq with
        | zero => exact absurd HA.out (by simp [laws_FnSections.j1])
        | succ kj16 =>
         have H := HA.out
         clear HA
         simp only [laws_FnSections.j1] at H
         by_cases c21 : x61_16 = true
         ·
          subst c21
          have H1 : (some false) = some r := by rw [if_pos rfl] at H; exact H
          clear H
          have H := H1
          clear H1
          obtain rfl := Option.some.inj H
          exact absurd HT.out (by decide)
         ·
          replace c21 := Bool.eq_false_iff.mpr c21
          subst c21
          have H1 : (laws_FnSections.l0 kj16 l1 t213 t220 (t213.length : Int) 0) = some r := by rw [if_neg (show ¬ (false = true) by decide)] at H; exact H
          clear H
          have H := H1
          clear H1
          have H' := Aside0.mk H
          clear H
          go_wp2
          repeat (go_quiet (fail); try go_wp2)
          (try simp only [Act.put, List.setIfInBounds_toArray, List.set_cons_zero, List.set_cons_succ])
          go_loopg [64] kj16 (fun kq v64 w' => ∃ (x64_3 : Int), v64 = .int .i64 x64_3 ∧ Aside0 (laws_FnSections.l0 kq l1 t213 t220 (t213.length : Int) x64_3 = some r) ∧ Aside0 (kq ≤ kj16) ∧ Aside0 (Kd.R k45 45 w' w.heap.size (fun k_ => some k_ ≠ (v222 : Value).ownBlock) (.slice Ao9 t213.length co9) t213) ∧ Aside0 (Kd.R k45 45 w' w.heap.size (fun k_ => some k_ ≠ ((.slice Ao9 t213.length co9) : Value).ownBlock) v222 t220) ∧ Aside0 (Below w.heap.size w w'))
          case atStart => exact ⟨(0), (by first | rfl | (simp; done) | (simp [*]; done)), H', ⟨Nat.le_refl _⟩, ⟨by (with_reducible repeat (first | apply Kd.R_alloc | apply Kd.R_drewN | apply Kd.R_drew)); exact HO_5.out⟩, ⟨by (with_reducible repeat (first | apply Kd.R_alloc | apply Kd.R_drewN | apply Kd.R_drew)); exact HO_10.out⟩, ⟨bw HB.out⟩⟩
          case round =>
           clear H'
           try clear c1
           try clear c2
           try clear p2
           try clear c3
           try clear c3b0
           try clear c5
           try clear p6
           try clear c12
           try clear c12b0
           try clear c12b1
           try clear c12b2
           try clear c13
           try clear c15
           try clear c19
           try clear c21
           try clear p2
           try clear p6
           obtain ⟨x64_3, rfl, HA, HK3, HO_5, HO_10, HB⟩ := hrel
           cases gk with
           | zero => exact absurd HA.out (by simp [laws_FnSections.l0])
           | succ k3 =>
            have H := HA.out
            clear HA
            simp only [laws_FnSections.l0] at H
            by_cases c22 : x64_3 < (t213.length : Int)
            ·
             rw [if_pos c22] at H
             have c22b0 : decide (x64_3 < (t213.length : Int)) = true := decide_eq_true c22
             clear c22
             by_cases c23 : 0 ≤ x64_3
             ·
              rw [if_pos c23] at H
              have c23b0 : decide (0 ≤ x64_3) = true := decide_eq_true c23
              clear c23
              by_cases c24 : x64_3 < (t220.length : Int)
              ·
               rw [if_pos c24] at H
               have c24b0 : decide (x64_3 < (t220.length : Int)) = true := decide_eq_true c24
               clear c24
               by_cases c25 : x64_3 < (t213.length : Int)
               ·
                rw [if_pos c25] at H
                have c25b0 : decide (x64_3 < (t213.length : Int)) = true := decide_eq_true c25
                clear c25
                by_cases c26 : (!(((rd_T45 t220 x64_3).f0) == ((rd_T45 t213 x64_3).f0)) || (!((((rd_T45 t220 x64_3).f1).toList) == (((rd_T45 t213 x64_3).f1).toList)))) = true
                ·
                 rw [if_pos c26] at H
                 have c26b0 : (!(((rd_T45 t220 x64_3).f0) == ((rd_T45 t213 x64_3).f0)) || (!((((rd_T45 t220 x64_3).f1).toList) == (((rd_T45 t213 x64_3).f1).toList)))) = true := c26
                 clear c26
                 obtain rfl := Option.some.inj H
                 exact absurd HT.out (by decide)
                ·
                 rw [if_neg c26] at H
                 have c26b0 : (!(((rd_T45 t220 x64_3).f0) == ((rd_T45 t213 x64_3).f0)) || (!((((rd_T45 t220 x64_3).f1).toList) == (((rd_T45 t213 x64_3).f1).toList)))) = false := by simpa using c26
                 clear c26
                 have H' := Aside0.mk H
                 clear H
                 obtain ⟨Ao27, co27, eo27⟩ := Kd.R_slice HO_10.out
                 subst eo27
                 have p224 : 0 ≤ (x64_3 : Int) := of_decide_eq_true (by first | (with_reducible assumption) | assumption)
                 have q224 : x64_3 < (t220.length : Int) := of_decide_eq_true (by first | (with_reducible assumption) | assumption)
                 obtain ⟨ad224, e224, hx224_0, hx224_1⟩ := at_T45 (Kd.R_reads' HO_10.out).2.2 x64_3 p224 q224
                 cases e224
                 replace p224 := eq_true p224
                 replace q224 := eq_true q224
                 have p225 : 0 ≤ (x64_3 : Int) := of_decide_eq_true (by first | (with_reducible assumption) | assumption)
                 have q225 : x64_3 < (t213.length : Int) := of_decide_eq_true (by first | (with_reducible assumption) | assumption)
                 obtain ⟨ad225, e225, hx225_0, hx225_1⟩ := at_T45 (Kd.R_reads' HO_5.out).2.2 x64_3 p225 q225
                 cases e225
                 replace p225 := eq_true p225
                 replace q225 := eq_true q225
                 go_wp2
                 repeat (go_quiet (fail); try go_wp2)
                 go_roundg k3
                 case measure => have := HJ6.out; have := HJ16.out; have := HK3.out; omega
                 case rel => exact ⟨(wrap64 (x64_3 + 1)), (by first | rfl | (simp; done) | (simp [*]; done)), H', ⟨by have := HJ6.out; have := HJ16.out; have := HK3.out; omega⟩, ⟨by (with_reducible repeat (first | apply Kd.R_alloc | apply Kd.R_drewN | apply Kd.R_drew)); exact HO_5.out⟩, ⟨by (with_reducible repeat (first | apply Kd.R_alloc | apply Kd.R_drewN | apply Kd.R_drew)); exact HO_10.out⟩, ⟨bw HB.out⟩⟩
               ·
                rw [if_neg c25] at H
                exact absurd H (by simp)
              ·
               rw [if_neg c24] at H
               exact absurd H (by simp)
             ·
              rw [if_neg c23] at H
              exact absurd H (by simp)
            ·
             rw [if_neg c22] at H
             have c22b0 : decide (x64_3 < (t213.length : Int)) = false := decide_eq_false c22
             clear c22
             have H' := Aside0.mk H
             clear H
             go_wp2
             repeat (go_quiet (fail); try go_wp2)
             go_meet
             case rel => exact ⟨_, H', ⟨by have := HJ6.out; have := HJ16.out; have := HK3.out; first | omega | exact Nat.le_refl _⟩, ⟨bw HB.out⟩⟩
      ·
       replace c15 := Bool.eq_false_iff.mpr c15
       subst c15
       have H1 : (laws_FnSections.j3 kj6 l1) = some r := by rw [if_neg (show ¬ (false = true) by decide)] at H; exact H
       clear H
       have H := H1
       clear H1
       have H' := Aside0.mk H
       clear H
       go_wp2
       repeat (go_quiet (fail); try go_wp2)
       go_meet
       case rel => exact ⟨_, H', ⟨by have := HJ6.out; first | omega | exact Nat.le_refl _⟩, ⟨bw HB.out⟩⟩
     case rest =>
      clear HC14
      try clear c1
      try clear c2
      try clear p2
      try clear q2
      try clear hx2
      try clear c3
      try clear c3b0
      try clear c5
      try clear p6
      try clear c12
      try clear c12b0
      try clear c12b1
      try clear c12b2
      try clear c13
      try clear c15
      try clear c19
      try clear c21
      try clear c22
      try clear c22b0
      try clear p22
      try clear q22
      try clear hx22
      try clear c23
      try clear c23b0
      try clear c24
      try clear c24b0
      try clear c25
      try clear c25b0
      try clear c26
      try clear c26b0
      try clear hx224_0
      try clear hx224_1
      try clear hx225_0
      try clear hx225_1
      try clear p2
      try clear p224
      try clear p225
      try clear p6
      try clear q224
      try clear q225
      obtain ⟨kq, HA, HJ13, HB⟩ := hcut
      cases kq with
      | zero => exact absurd HA.out (by simp [laws_FnSections.j3])
      | succ kj13 =>
       have H := HA.out
       clear HA
       simp only [laws_FnSections.j3] at H
       replace H := Option.bind_eq_some_iff.mp H
       obtain ⟨t226, A280, H⟩ := H
       replace H : ((impl_NameBytes.f kj13 t226).bind fun bt227 => ((spec_NameBytes.f kj13 t226).bind fun bt229 => (if (bt227.2 != bt229.2) = true then (some false) else (if bt227.2 = true then (if bt227.1.size + 4 ≤ 9223372036854775807 then ((impl_TakeName.f kj13 (bt227.1 ++ (⟨#[109, 111, 114, 101]⟩ : ByteArray))).bind fun bt231 => (if bt231.2.2 = true then (if bt231.1.toList = t226.toList then (some (bt231.2.1 == (bt227.1.size : Int))) else (some false)) else (some false))) else (none)) else (some (bt227.1.toList == ([] : List UInt8))))))) = some r := H
       have A28 := Aside0.mk A280
       clear A280
       replace H := Option.bind_eq_some_iff.mp H
       obtain ⟨⟨t227, t228⟩, A290, H⟩ := H
       replace H : ((spec_NameBytes.f kj13 t226).bind fun bt229 => (if (t228 != bt229.2) = true then (some false) else (if t228 = true then (if t227.size + 4 ≤ 9223372036854775807 then ((impl_TakeName.f kj13 (t227 ++ (⟨#[109, 111, 114, 101]⟩ : ByteArray))).bind fun bt231 => (if bt231.2.2 = true then (if bt231.1.toList = t226.toList then (some (bt231.2.1 == (t227.size : Int))) else (some false)) else (some false))) else (none)) else (some (t227.toList == ([] : List UInt8)))))) = some r := H
       have A29 := Aside0.mk A290
       clear A290
       replace H := Option.bind_eq_some_iff.mp H
       obtain ⟨⟨t229, t230⟩, A300, H⟩ := H
       replace H : (if (t228 != t230) = true then (some false) else (if t228 = true then (if t227.size + 4 ≤ 9223372036854775807 then ((impl_TakeName.f kj13 (t227 ++ (⟨#[109, 111, 114, 101]⟩ : ByteArray))).bind fun bt231 => (if bt231.2.2 = true then (if bt231.1.toList = t226.toList then (some (bt231.2.1 == (t227.size : Int))) else (some false)) else (some false))) else (none)) else (some (t227.toList == ([] : List UInt8))))) = some r := H
       have A30 := Aside0.mk A300
       clear A300
       by_cases c31 : (t228 != t230) = true
       ·
        rw [if_pos c31] at H
        have c31b0 : (t228 != t230) = true := c31
        (try (have c31b1 : decide (t228 = t230) = false := by simpa using c31))
        (try (have c31b2 : (t228 == t230) = false := by simpa using c31))
        (try (have c31b3 : ¬ (t228 = t230) := by simpa using c31))
        clear c31
        obtain rfl := Option.some.inj H
        exact absurd HT.out (by decide)
       ·
        rw [if_neg c31] at H
        have c31b0 : (t228 != t230) = false := by simpa using c31
        (try (have c31b1 : decide (t228 = t230) = true := by simpa using c31))
        (try (have c31b2 : (t228 == t230) = true := by simpa using c31))
        clear c31
        by_cases c32 : t228 = true
        ·
         subst c32
         have H1 : (if t227.size + 4 ≤ 9223372036854775807 then ((impl_TakeName.f kj13 (t227 ++ (⟨#[109, 111, 114, 101]⟩ : ByteArray))).bind fun bt231 => (if bt231.2.2 = true then (if bt231.1.toList = t226.toList then (some (bt231.2.1 == (t227.size : Int))) else (some false)) else (some false))) else (none)) = some r := by rw [if_pos rfl] at H; exact H
         clear H
         have H := H1
         clear H1
         by_cases c33 : t227.size + 4 ≤ 9223372036854775807
         ·
          rw [if_pos c33] at H
          have c33b0 := eq_true c33
          have c33b1 : decide (t227.size + 4 ≤ 9223372036854775807) = true := decide_eq_true c33
          try have c33b2 : (9223372036854775807 < t227.size + 4) = False := eq_false (Nat.not_lt.2 c33)
          replace H := Option.bind_eq_some_iff.mp H
          obtain ⟨⟨t231, t232, t233⟩, A340, H⟩ := H
          replace H : (if t233 = true then (if t231.toList = t226.toList then (some (t232 == (t227.size : Int))) else (some false)) else (some false)) = some r := H
          have A34 := Aside0.mk A340
          clear A340
          by_cases c35 : t233 = true
          ·
           subst c35
           have H1 : (if t231.toList = t226.toList then (some (t232 == (t227.size : Int))) else (some false)) = some r := by rw [if_pos rfl] at H; exact H
           clear H
           have H := H1
           clear H1
           by_cases c36 : t231.toList = t226.toList
           ·
            rw [if_pos c36] at H
            have c36b0 : (t231.toList == t226.toList) = true := beq_iff_eq.mpr c36
            have c36b1 : (t231.toList != t226.toList) = false := bne_eq_false_iff_eq.mpr c36
            clear c36
            obtain rfl := Option.some.inj H
            simp only [Option.some.injEq, Prod.mk.injEq] at H
            obtain ⟨rfl⟩ := H
            go_wp2_with (first | (go_at_call 17; (with_reducible refine (spec_DrawNameBytes.calls kj13 _ _ l1 t226 _ ?side1 ?side2 A28.out).mono ?_); (case side1 => repeat (first | exact (Kd.C_below HR1.out HB.out) | (with_reducible refine Kd.C_alloc ?_ _) | (with_reducible refine Kd.C_drewN ?_ _) | (with_reducible refine Kd.C_drew ?_))); (case side2 => exact HC1.out); rintro e w37 ⟨rfl, hb⟩; have n0_ := Aside0.mk (below_step (bw HB.out) hb); clear HB; have HB := n0_; clear n0_; (try clear hb); (try clear hb2); (try clear hk); (try clear hi)) | (go_at_call 18; (with_reducible refine (impl_NameBytes.calls kj13 t226 t227 true _ A29.out).mono ?_); rintro e w38 ⟨rfl, hb⟩; have n0_ := Aside0.mk (below_step (bw HB.out) hb); clear HB; have HB := n0_; clear n0_; (try clear hb); (try clear hb2); (try clear hk); (try clear hi)) | (go_at_call 19; (with_reducible refine (spec_NameBytes.calls kj13 t226 t229 t230 _ A30.out).mono ?_); rintro e w39 ⟨rfl, hb⟩; have n0_ := Aside0.mk (below_step (bw HB.out) hb); clear HB; have HB := n0_; clear n0_; (try clear hb); (try clear hb2); (try clear hk); (try clear hi)) | (go_at_call 20; (with_reducible refine (impl_TakeName.calls kj13 (t227 ++ (⟨#[109, 111, 114, 101]⟩ : ByteArray)) t231 t232 true _ A34.out).mono ?_); rintro e w' ⟨rfl, ⟨nd, rfl⟩⟩; (try first | exact ⟨rfl, _, World.drewN_drewN _ _ _⟩ | exact ⟨rfl, _, Eq.trans (World.drewN_drewN _ _ _) (congrArg (World.drewN _) (Nat.add_assoc _ _ _))⟩)))
            repeat (go_quiet (first | (go_at_call 17; (with_reducible refine (spec_DrawNameBytes.calls kj13 _ _ l1 t226 _ ?side1 ?side2 A28.out).mono ?_); (case side1 => repeat (first | exact (Kd.C_below HR1.out HB.out) | (with_reducible refine Kd.C_alloc ?_ _) | (with_reducible refine Kd.C_drewN ?_ _) | (with_reducible refine Kd.C_drew ?_))); (case side2 => exact HC1.out); rintro e w37 ⟨rfl, hb⟩; have n0_ := Aside0.mk (below_step (bw HB.out) hb); clear HB; have HB := n0_; clear n0_; (try clear hb); (try clear hb2); (try clear hk); (try clear hi)) | (go_at_call 18; (with_reducible refine (impl_NameBytes.calls kj13 t226 t227 true _ A29.out).mono ?_); rintro e w38 ⟨rfl, hb⟩; have n0_ := Aside0.mk (below_step (bw HB.out) hb); clear HB; have HB := n0_; clear n0_; (try clear hb); (try clear hb2); (try clear hk); (try clear hi)) | (go_at_call 19; (with_reducible refine (spec_NameBytes.calls kj13 t226 t229 t230 _ A30.out).mono ?_); rintro e w39 ⟨rfl, hb⟩; have n0_ := Aside0.mk (below_step (bw HB.out) hb); clear HB; have HB := n0_; clear n0_; (try clear hb); (try clear hb2); (try clear hk); (try clear hi)) | (go_at_call 20; (with_reducible refine (impl_TakeName.calls kj13 (t227 ++ (⟨#[109, 111, 114, 101]⟩ : ByteArray)) t231 t232 true _ A34.out).mono ?_); rintro e w' ⟨rfl, ⟨nd, rfl⟩⟩; (try first | exact ⟨rfl, _, World.drewN_drewN _ _ _⟩ | exact ⟨rfl, _, Eq.trans (World.drewN_drewN _ _ _) (congrArg (World.drewN _) (Nat.add_assoc _ _ _))⟩))); try go_wp2_with (first | (go_at_call 17; (with_reducible refine (spec_DrawNameBytes.calls kj13 _ _ l1 t226 _ ?side1 ?side2 A28.out).mono ?_); (case side1 => repeat (first | exact (Kd.C_below HR1.out HB.out) | (with_reducible refine Kd.C_alloc ?_ _) | (with_reducible refine Kd.C_drewN ?_ _) | (with_reducible refine Kd.C_drew ?_))); (case side2 => exact HC1.out); rintro e w37 ⟨rfl, hb⟩; have n0_ := Aside0.mk (below_step (bw HB.out) hb); clear HB; have HB := n0_; clear n0_; (try clear hb); (try clear hb2); (try clear hk); (try clear hi)) | (go_at_call 18; (with_reducible refine (impl_NameBytes.calls kj13 t226 t227 true _ A29.out).mono ?_); rintro e w38 ⟨rfl, hb⟩; have n0_ := Aside0.mk (below_step (bw HB.out) hb); clear HB; have HB := n0_; clear n0_; (try clear hb); (try clear hb2); (try clear hk); (try clear hi)) | (go_at_call 19; (with_reducible refine (spec_NameBytes.calls kj13 t226 t229 t230 _ A30.out).mono ?_); rintro e w39 ⟨rfl, hb⟩; have n0_ := Aside0.mk (below_step (bw HB.out) hb); clear HB; have HB := n0_; clear n0_; (try clear hb); (try clear hb2); (try clear hk); (try clear hi)) | (go_at_call 20; (with_reducible refine (impl_TakeName.calls kj13 (t227 ++ (⟨#[109, 111, 114, 101]⟩ : ByteArray)) t231 t232 true _ A34.out).mono ?_); rintro e w' ⟨rfl, ⟨nd, rfl⟩⟩; (try first | exact ⟨rfl, _, World.drewN_drewN _ _ _⟩ | exact ⟨rfl, _, Eq.trans (World.drewN_drewN _ _ _) (congrArg (World.drewN _) (Nat.add_assoc _ _ _))⟩))))
            go_ret
            exact ⟨by first | rfl | (simp [errW_none, errW_some] <;> rfl) | (simp [*, errW_none, errW_some] <;> rfl), bw HB.out⟩
           ·
            rw [if_neg c36] at H
            have c36b0 : (t231.toList == t226.toList) = false := beq_eq_false_iff_ne.mpr c36
            have c36b1 : (t231.toList != t226.toList) = true := bne_iff_ne.mpr c36
            obtain rfl := Option.some.inj H
            exact absurd HT.out (by decide)
          ·
           replace c35 := Bool.eq_false_iff.mpr c35
           subst c35
           have H1 : (some false) = some r := by rw [if_neg (show ¬ (false = true) by decide)] at H; exact H
           clear H
           have H := H1
           clear H1
           obtain rfl := Option.some.inj H
           exact absurd HT.out (by decide)
         ·
          rw [if_neg c33] at H
          exact absurd H (by simp)
        ·
         replace c32 := Bool.eq_false_iff.mpr c32
         subst c32
         have H1 : (some (t227.toList == ([] : List UInt8))) = some r := by rw [if_neg (show ¬ (false = true) by decide)] at H; exact H
         clear H
         have H := H1
         clear H1
         obtain rfl := Option.some.inj H
         simp only [Option.some.injEq, Prod.mk.injEq] at H
         obtain ⟨rfl⟩ := H
         go_wp2_with (first | (go_at_call 17; (with_reducible refine (spec_DrawNameBytes.calls kj13 _ _ l1 t226 _ ?side1 ?side2 A28.out).mono ?_); (case side1 => repeat (first | exact (Kd.C_below HR1.out HB.out) | (with_reducible refine Kd.C_alloc ?_ _) | (with_reducible refine Kd.C_drewN ?_ _) | (with_reducible refine Kd.C_drew ?_))); (case side2 => exact HC1.out); rintro e w40 ⟨rfl, hb⟩; have n0_ := Aside0.mk (below_step (bw HB.out) hb); clear HB; have HB := n0_; clear n0_; (try clear hb); (try clear hb2); (try clear hk); (try clear hi)) | (go_at_call 18; (with_reducible refine (impl_NameBytes.calls kj13 t226 t227 false _ A29.out).mono ?_); rintro e w41 ⟨rfl, hb⟩; have n0_ := Aside0.mk (below_step (bw HB.out) hb); clear HB; have HB := n0_; clear n0_; (try clear hb); (try clear hb2); (try clear hk); (try clear hi)) | (go_at_call 19; (with_reducible refine (spec_NameBytes.calls kj13 t226 t229 t230 _ A30.out).mono ?_); rintro e w42 ⟨rfl, hb⟩; have n0_ := Aside0.mk (below_step (bw HB.out) hb); clear HB; have HB := n0_; clear n0_; (try clear hb); (try clear hb2); (try clear hk); (try clear hi)))
         repeat (go_quiet (first | (go_at_call 17; (with_reducible refine (spec_DrawNameBytes.calls kj13 _ _ l1 t226 _ ?side1 ?side2 A28.out).mono ?_); (case side1 => repeat (first | exact (Kd.C_below HR1.out HB.out) | (with_reducible refine Kd.C_alloc ?_ _) | (with_reducible refine Kd.C_drewN ?_ _) | (with_reducible refine Kd.C_drew ?_))); (case side2 => exact HC1.out); rintro e w40 ⟨rfl, hb⟩; have n0_ := Aside0.mk (below_step (bw HB.out) hb); clear HB; have HB := n0_; clear n0_; (try clear hb); (try clear hb2); (try clear hk); (try clear hi)) | (go_at_call 18; (with_reducible refine (impl_NameBytes.calls kj13 t226 t227 false _ A29.out).mono ?_); rintro e w41 ⟨rfl, hb⟩; have n0_ := Aside0.mk (below_step (bw HB.out) hb); clear HB; have HB := n0_; clear n0_; (try clear hb); (try clear hb2); (try clear hk); (try clear hi)) | (go_at_call 19; (with_reducible refine (spec_NameBytes.calls kj13 t226 t229 t230 _ A30.out).mono ?_); rintro e w42 ⟨rfl, hb⟩; have n0_ := Aside0.mk (below_step (bw HB.out) hb); clear HB; have HB := n0_; clear n0_; (try clear hb); (try clear hb2); (try clear hk); (try clear hi))); try go_wp2_with (first | (go_at_call 17; (with_reducible refine (spec_DrawNameBytes.calls kj13 _ _ l1 t226 _ ?side1 ?side2 A28.out).mono ?_); (case side1 => repeat (first | exact (Kd.C_below HR1.out HB.out) | (with_reducible refine Kd.C_alloc ?_ _) | (with_reducible refine Kd.C_drewN ?_ _) | (with_reducible refine Kd.C_drew ?_))); (case side2 => exact HC1.out); rintro e w40 ⟨rfl, hb⟩; have n0_ := Aside0.mk (below_step (bw HB.out) hb); clear HB; have HB := n0_; clear n0_; (try clear hb); (try clear hb2); (try clear hk); (try clear hi)) | (go_at_call 18; (with_reducible refine (impl_NameBytes.calls kj13 t226 t227 false _ A29.out).mono ?_); rintro e w41 ⟨rfl, hb⟩; have n0_ := Aside0.mk (below_step (bw HB.out) hb); clear HB; have HB := n0_; clear n0_; (try clear hb); (try clear hb2); (try clear hk); (try clear hi)) | (go_at_call 19; (with_reducible refine (spec_NameBytes.calls kj13 t226 t229 t230 _ A30.out).mono ?_); rintro e w42 ⟨rfl, hb⟩; have n0_ := Aside0.mk (below_step (bw HB.out) hb); clear HB; have HB := n0_; clear n0_; (try clear hb); (try clear hb2); (try clear hk); (try clear hi))))
         go_ret
         exact ⟨by first | rfl | (simp [errW_none, errW_some] <;> rfl) | (simp [*, errW_none, errW_some] <;> rfl), bw HB.out⟩

/-- THE ONE PURE STATEMENT of laws_FnSections: yours. -/
def laws_FnSections.Pure : Prop := ∀ (l0 : List Int) (l1 : List Int), l0.length ≤ maxLen → l0.length * 1 ≤ 140737488351232 → (∀ x ∈ l0, (Lit.int .u8 x).wf = true) → l1.length ≤ maxLen → l1.length * 1 ≤ 140737488351232 → (∀ x ∈ l1, (Lit.int .u8 x).wf = true) → ∃ k, laws_FnSections.f k l0 l1 = some true
theorem laws_FnSections.walk (P : laws_FnSections.Pure) (a0 : Option Addr) (len0 cap0 : Nat) (z0 : List Int) (a1 : Option Addr) (len1 cap1 : Nat) (z1 : List Int) (w : World) (w0 : (a0 = none ∧ len0 = 0 ∧ cap0 = 0 ∧ z0 = []) ∨ ∃ x, a0 = some x ∧ len0 ≤ cap0 ∧ cap0 ≤ maxLen ∧ z0.length = cap0 ∧ (∀ i, i < z0.length → w.cell? (x.add i) = some (.int .u8 (z0.getD i 0))) ∧ ∀ n ∈ z0, (Lit.int .u8 n).wf = true) (y0 : len0 * 1 ≤ 140737488351232) (w1 : (a1 = none ∧ len1 = 0 ∧ cap1 = 0 ∧ z1 = []) ∨ ∃ x, a1 = some x ∧ len1 ≤ cap1 ∧ cap1 ≤ maxLen ∧ z1.length = cap1 ∧ (∀ i, i < z1.length → w.cell? (x.add i) = some (.int .u8 (z1.getD i 0))) ∧ ∀ n ∈ z1, (Lit.int .u8 n).wf = true) (y1 : len1 * 1 ≤ 140737488351232) :
  Calls Try.prog 5 #[.slice a0 len0 cap0, .slice a1 len1 cap1] w fun e w' => e = .returned (.bool true) ∧ Below w.heap.size w w' := by
 obtain ⟨l0, rfl, hr0, hm0, hw0, hc0⟩ := ReadsInt.ofRowC w0
 obtain ⟨l1, rfl, hr1, hm1, hw1, hc1⟩ := ReadsInt.ofRowC w1
 obtain ⟨k, h⟩ := P l0 l1 hm0 y0 hw0 hm1 y1 hw1
 refine (laws_FnSections.calls k _ _ l0 _ _ l1 true w (Kd.C_of_reads (d := (0 : Int)) (h1 := fun _ => rfl) hr0) hc0 (Kd.C_of_reads (d := (0 : Int)) (h1 := fun _ => rfl) hr1) hc1 rfl h).mono ?_
 rintro e w' ⟨rfl, hd⟩
 exact ⟨rfl, hd⟩

end Go.Proofs.Ytdklegalfcmboaa.Q

