-- Written by a program of this session; it walks the functions that the law reaches.
import Derived.Test.YtdeogandkgiggaaQx0
import Derived.Test.YtdeogandkgiggaaQx1
import Derived.Test.YtdeogandkgiggaaQx3
namespace Go.Proofs.Ytdeogandkgiggaa.Q
open Go.RowKit Go.Proofs.YtdeogandkgiggaaW.PrintWords Go.Proofs.YtdeogandkgiggaaW.PrintLast Go.Proofs.YtdeogandkgiggaaW.PrintMore
attribute [local go_sem] max2_int min2_int max_two min_two max_three min_three max_four min_four   -- for this text's walks alone
set_option linter.unusedVariables false
set_option linter.unusedSimpArgs false

/-! ### spec_l1In: function 62 -/
def spec_l1In.f (a0 : Int) (a1 : Int) (a2 : Int) : Option (Bool) := if a0 ≥ a1 then (some (decide (a0 ≤ a2))) else (some false)
set_option maxHeartbeats 8000000 in
set_option maxRecDepth 100000 in
theorem spec_l1In.calls (a0 : Int) (a1 : Int) (a2 : Int) (r : Bool) (w : World) (h : spec_l1In.f a0 a1 a2 = some r) :
  Calls Try.prog 62 #[.int .i64 a0, .int .i64 a1, .int .i64 a2] w fun e w' => e = .returned (.bool r) ∧ Drawn0 w w' := by
 have H : (if a0 ≥ a1 then (some (decide (a0 ≤ a2))) else (some false)) = some r := h
 clear h
 by_cases c4 : a0 ≥ a1
 ·
  rw [if_pos c4] at H
  have c4b0 : decide (a1 ≤ a0) = true := decide_eq_true c4
  clear c4
  obtain rfl := Option.some.inj H
  simp only [Option.some.injEq, Prod.mk.injEq] at H
  obtain ⟨rfl⟩ := H
  go_enter Try.func62, Try.ntmps62
  go_wp2
  go_ret
  exact ⟨by first | rfl | (simp; done) | (simp [*]; done), by repeat (first | exact Drawn0.refl _ | apply Drawn0.step)⟩
 ·
  rw [if_neg c4] at H
  have c4b0 : decide (a1 ≤ a0) = false := decide_eq_false c4
  clear c4
  obtain rfl := Option.some.inj H
  simp only [Option.some.injEq, Prod.mk.injEq] at H
  obtain ⟨rfl⟩ := H
  go_enter Try.func62, Try.ntmps62
  go_wp2
  go_ret
  exact ⟨by first | rfl | (simp; done) | (simp [*]; done), by repeat (first | exact Drawn0.refl _ | apply Drawn0.step)⟩

end Go.Proofs.Ytdeogandkgiggaa.Q

namespace Go.Proofs.Ytdeogandkgiggaa.Q
open Go.RowKit Go.Proofs.YtdeogandkgiggaaW.PrintWords Go.Proofs.YtdeogandkgiggaaW.PrintLast Go.Proofs.YtdeogandkgiggaaW.PrintMore
attribute [local go_sem] max2_int min2_int max_two min_two max_three min_three max_four min_four   -- for this text's walks alone
set_option linter.unusedVariables false
set_option linter.unusedSimpArgs false

/-! ### spec_FRound: function 24 -/
def spec_FRound.j0 : Nat → Int → Int → Bool → Int → Int → Option (Int)
 | 0, _, _, _, _, _ => none
 | k + 1, x1, x2, x20, x145000, x145001 => if x20 = true then (some 0) else ((spec_l4K_open.f x145000 x145001 x2).bind fun bt146 => ((spec_l4K_whole.f k x145000 x145001 x1 bt146.1 bt146.2.1 bt146.2.2.1 bt146.2.2.2.1 bt146.2.2.2.2).bind fun t151 => (some t151)))
def spec_FRound.f (k : Nat) (a0 : Int) (a1 : Int) (a2 : Int) : Option (Int) := (spec_l4Kind.f a0).bind fun bt141 => (if bt141.2.2 = true then ((spec_l1In.f a1 1 4).bind fun t145 => (spec_FRound.j0 k a1 a2 (!t145) bt141.1 bt141.2.1)) else (spec_FRound.j0 k a1 a2 true bt141.1 bt141.2.1))
theorem spec_FRound.mono_l : ∀ k, (∀ y0 y1 y2 y3 y4, LeO (spec_FRound.j0 k y0 y1 y2 y3 y4) (spec_FRound.j0 (k + 1) y0 y1 y2 y3 y4))
 | 0 => fun _ _ _ _ _ r h => by simp [spec_FRound.j0] at h
 | k + 1 => by
  have ih0 := spec_FRound.mono_l k
  ·
   intro y0 y1 y2 y3 y4
   unfold spec_FRound.j0
   repeat' first
   | (with_reducible exact ih0 _ _ _ _ _)
   | (with_reducible exact spec_l4K_whole.mono _ _ _ _ _ _ _ _ _)
   | (with_reducible exact LeO.refl _)
   | (with_reducible exact LeO.none _)
   | (with_reducible refine LeO.ite ?_ ?_)
   | (with_reducible refine LeO.bind ?_ (fun _ => ?_))
   | exact ih0 _ _ _ _ _
   | exact spec_l4K_whole.mono _ _ _ _ _ _ _ _ _
   | exact LeO.none _
   | refine LeO.ite ?_ ?_
   | refine LeO.bind ?_ (fun _ => ?_)
theorem spec_FRound.mono : ∀ a0 a1 a2 k, LeO (spec_FRound.f k a0 a1 a2) (spec_FRound.f (k + 1) a0 a1 a2) := by
 intro a0 a1 a2 k
 have ih0 := spec_FRound.mono_l k
 unfold spec_FRound.f
 repeat' first
   | (with_reducible exact ih0 _ _ _ _ _)
   | (with_reducible exact spec_l4K_whole.mono _ _ _ _ _ _ _ _ _)
   | (with_reducible exact LeO.refl _)
   | (with_reducible exact LeO.none _)
   | (with_reducible refine LeO.ite ?_ ?_)
   | (with_reducible refine LeO.bind ?_ (fun _ => ?_))
   | exact ih0 _ _ _ _ _
   | exact spec_l4K_whole.mono _ _ _ _ _ _ _ _ _
   | exact LeO.none _
   | refine LeO.ite ?_ ?_
   | refine LeO.bind ?_ (fun _ => ?_)
set_option maxHeartbeats 8000000 in
set_option maxRecDepth 100000 in
theorem spec_FRound.calls (k : Nat) (a0 : Int) (a1 : Int) (a2 : Int) (r : Int) (w : World) (h : spec_FRound.f k a0 a1 a2 = some r) :
  Calls Try.prog 24 #[.int .i64 a0, .int .i64 a1, .int .u32 a2] w fun e w' => e = .returned (.int .u32 r) ∧ Below w.heap.size w w' := by
 have hu52 := Try.underlying52
 have HB := Aside0.mk (Below.refl w.heap.size w)
 have H : ((spec_l4Kind.f a0).bind fun bt141 => (if bt141.2.2 = true then ((spec_l1In.f a1 1 4).bind fun t145 => (spec_FRound.j0 k a1 a2 (!t145) bt141.1 bt141.2.1)) else (spec_FRound.j0 k a1 a2 true bt141.1 bt141.2.1))) = some r := h
 clear h
 replace H := Option.bind_eq_some_iff.mp H
 obtain ⟨⟨t141, t142, t143⟩, A40, H⟩ := H
 replace H : (if t143 = true then ((spec_l1In.f a1 1 4).bind fun t145 => (spec_FRound.j0 k a1 a2 (!t145) t141 t142)) else (spec_FRound.j0 k a1 a2 true t141 t142)) = some r := H
 have A4 := Aside0.mk A40
 clear A40
 have HC5 := Aside0.mk H
 clear H
 go_enter Try.func24, Try.ntmps24
 go_upto_region 2 with (first | ((with_reducible refine gate_callee (f := 46) rfl ?_); refine goesL_ (some 11) rfl rfl Try.func46 (by kernel_rfl) rfl #[.int .i64 a0] rfl ar ?_; (with_reducible refine (spec_l4Kind.calls a0 t141 t142 t143 _ A4.out).mono ?_); rintro e w6 ⟨rfl, hb⟩; refine ⟨_, rfl, ?_⟩; have n0_ := Aside0.mk (below_step (bw HB.out) hb); clear HB; have HB := n0_; clear n0_; (try clear hb)) | ((with_reducible refine gate_dst (N := 7) rfl ?_); refine box_event ?hg (N := 7) ?hd (cs := #[.int .u64 0, .int .u64 0]) (t := 52) ?hr ?_; (case hd => rfl); (case hg => rfl); (case hr => first | (go_simp; done) | (go_simp; rfl)); intro gb144 hg w7 hbox hb; have n0_ := Aside0.mk (below_step (bw HB.out) hb); have n1_ := Aside0.mk (hbox); have n2_ := Aside0.mk ((by rw [hg]; exact (below_size (bw HB.out)) : w.heap.size ≤ gb144)); have n3_ := Aside0.mk ((by rw [hg]; exact (below_size (bw HB.out)) : w.heap.size ≤ gb144)); clear HB; have HB := n0_; have BK144 := n1_; have GW144 := n2_; have GE144 := n3_; clear n0_ n1_ n2_ n3_; clear hb hbox hg; have hcz8_0 : w7.cell? ⟨gb144, 0, none⟩ = some (.int .u64 0) := (blk_cell BK144.out 0).trans rfl; have hcz8_1 : w7.cell? ⟨gb144, 1, none⟩ = some (.int .u64 0) := (blk_cell BK144.out 1).trans rfl; have hfz8_0 := blk_frozen BK144.out 0; have hfz8_1 := blk_frozen BK144.out 1))
 (try simp only [Act.put, List.setIfInBounds_toArray, List.set_cons_zero, List.set_cons_succ])
 go_cut [20] (fun v20 wc => ∃ (kq : Nat) (x20_4 : Bool), v20 = .bool x20_4 ∧ Aside0 (spec_FRound.j0 kq a1 a2 x20_4 t141 t142 = some r) ∧ Aside0 (kq ≤ k) ∧ Aside0 (wc.heap[gb144]? = some (.cells #[.int .u64 t141, .int .u64 t142] 52 (0, 0))) ∧ Aside0 (Below w.heap.size w wc))
 case first =>
  have H := HC5.out
  clear HC5
  by_cases c9 : t143 = true
  ·
   subst c9
   have H1 : ((spec_l1In.f a1 1 4).bind fun t145 => (spec_FRound.j0 k a1 a2 (!t145) t141 t142)) = some r := by rw [if_pos rfl] at H; exact H
   clear H
   have H := H1
   clear H1
   replace H := Option.bind_eq_some_iff.mp H
   obtain ⟨t145, A100, H⟩ := H
   replace H : (spec_FRound.j0 k a1 a2 (!t145) t141 t142) = some r := H
   have A10 := Aside0.mk A100
   clear A100
   have H' := Aside0.mk H
   clear H
   go_wp2_with (first | (go_at_call 62; (with_reducible refine (spec_l1In.calls a1 1 4 t145 _ A10.out).mono ?_); rintro e w' ⟨rfl, ⟨nd, rfl⟩⟩))
   go_meet
   case rel => exact ⟨_, (!t145), (by first | rfl | (simp; done) | (simp [*]; done)), H', ⟨by first | omega | exact Nat.le_refl _⟩, ⟨by (with_reducible repeat (first | refine blk_drewN ?_ _ | refine blk_drew ?_ | refine blk_alloc ?_ _)); refine blk_put (cs := #[.int .u64 t141, .int .u64 0]) ?_ 1 _ rfl; (with_reducible repeat (first | refine blk_drewN ?_ _ | refine blk_drew ?_ | refine blk_alloc ?_ _)); refine blk_put (cs := #[.int .u64 0, .int .u64 0]) ?_ 0 _ rfl; (with_reducible repeat (first | refine blk_drewN ?_ _ | refine blk_drew ?_ | refine blk_alloc ?_ _)); exact BK144.out⟩, ⟨bw HB.out⟩⟩
  ·
   replace c9 := Bool.eq_false_iff.mpr c9
   subst c9
   have H1 : (spec_FRound.j0 k a1 a2 true t141 t142) = some r := by rw [if_neg (show ¬ (false = true) by decide)] at H; exact H
   clear H
   have H := H1
   clear H1
   have H' := Aside0.mk H
   clear H
   go_wp2
   go_meet
   case rel => exact ⟨_, (true), (by first | rfl | (simp; done) | (simp [*]; done)), H', ⟨by first | omega | exact Nat.le_refl _⟩, ⟨by (with_reducible repeat (first | refine blk_drewN ?_ _ | refine blk_drew ?_ | refine blk_alloc ?_ _)); refine blk_put (cs := #[.int .u64 t141, .int .u64 0]) ?_ 1 _ rfl; (with_reducible repeat (first | refine blk_drewN ?_ _ | refine blk_drew ?_ | refine blk_alloc ?_ _)); refine blk_put (cs := #[.int .u64 0, .int .u64 0]) ?_ 0 _ rfl; (with_reducible repeat (first | refine blk_drewN ?_ _ | refine blk_drew ?_ | refine blk_alloc ?_ _)); exact BK144.out⟩, ⟨bw HB.out⟩⟩
 case rest =>
  clear HC5
  try clear c2
  try clear p2
  try clear c4
  try clear c9
  try clear hcz8_0 hcz8_1
  try clear hfz8_0 hfz8_1
  obtain ⟨kq, x20_4, rfl, HA, HJ4, BK144, HB⟩ := hcut
  cases kq with
  | zero => exact absurd HA.out (by simp [spec_FRound.j0])
  | succ kj4 =>
   have H := HA.out
   clear HA
   simp only [spec_FRound.j0] at H
   by_cases c11 : x20_4 = true
   ·
    subst c11
    have H1 : (some 0) = some r := by rw [if_pos rfl] at H; exact H
    clear H
    have H := H1
    clear H1
    obtain rfl := Option.some.inj H
    simp only [Option.some.injEq, Prod.mk.injEq] at H
    obtain ⟨rfl⟩ := H
    go_wp2
    go_ret
    exact ⟨by first | rfl | (simp [errW_none, errW_some] <;> rfl) | (simp [*, errW_none, errW_some] <;> rfl), bw HB.out⟩
   ·
    replace c11 := Bool.eq_false_iff.mpr c11
    subst c11
    have H1 : ((spec_l4K_open.f t141 t142 a2).bind fun bt146 => ((spec_l4K_whole.f kj4 t141 t142 a1 bt146.1 bt146.2.1 bt146.2.2.1 bt146.2.2.2.1 bt146.2.2.2.2).bind fun t151 => (some t151))) = some r := by rw [if_neg (show ¬ (false = true) by decide)] at H; exact H
    clear H
    have H := H1
    clear H1
    replace H := Option.bind_eq_some_iff.mp H
    obtain ⟨⟨t146, t147, t148, t149, t150⟩, A120, H⟩ := H
    replace H : ((spec_l4K_whole.f kj4 t141 t142 a1 t146 t147 t148 t149 t150).bind fun t151 => (some t151)) = some r := H
    have A12 := Aside0.mk A120
    clear A120
    replace H := Option.bind_eq_some_iff.mp H
    obtain ⟨t151, A130, H⟩ := H
    replace H : (some t151) = some r := H
    have A13 := Aside0.mk A130
    clear A130
    obtain rfl := Option.some.inj H
    simp only [Option.some.injEq, Prod.mk.injEq] at H
    obtain ⟨rfl⟩ := H
    try go_wp2
    have n0_ := Aside0.mk (blk_drew BK144.out)
    have n1_ := Aside0.mk (below_drew1 HB.out)
    clear BK144
    clear HB
    have BK144 := n0_
    have HB := n1_
    clear n0_ n1_
    refine start_ (n := 7) (S := fun w' => w'.cell? ⟨gb144, 0, none⟩ = some (.int .u64 t141) ∧ w'.cell? ⟨gb144, 1, none⟩ = some (.int .u64 t142)) (ds := []) #[false, false, false, false, false, false, false] (by kernel_rfl) rfl rfl ⟨(blk_cell BK144.out 0).trans rfl, (blk_cell BK144.out 1).trans rfl⟩ (fun hHeld => ?_)
    generalize wc.drew = w14 at BK144 HB hHeld ⊢
    refine pure_ (i := 1) (N := some 22) (v := ?_) (a' := ?_) #[false, true, false, false, false, false, false] rfl rfl (by kernel_rfl) (fun _ _ _ h => h) (Or.inl ⟨by rfl, ?_⟩) ?_ ?_
    rotate_left
    ·
     intro w'
     go_simp
     with_reducible rfl
    rotate_left
    ·
     simp only [Act.put, List.setIfInBounds_toArray, List.set_cons_zero, List.set_cons_succ, i64_w, i32_w]
     rfl
    refine pure_ (i := 3) (N := some 24) (v := ?_) (a' := ?_) #[false, true, false, true, false, false, false] rfl rfl (by kernel_rfl) (fun _ _ _ h => h) (Or.inl ⟨by rfl, ?_⟩) ?_ ?_
    rotate_left
    ·
     intro w'
     go_simp
     with_reducible rfl
    rotate_left
    ·
     simp only [Act.put, List.setIfInBounds_toArray, List.set_cons_zero, List.set_cons_succ, i64_w, i32_w]
     rfl
    refine take_ (i := 0) (N := some 21) (v := ?_) (a' := ?_) #[true, true, false, true, false, false, false] rfl rfl (by kernel_rfl) (fun _ _ _ h => h) (Or.inl ⟨by rfl, ?_⟩) hHeld ?_ ?_
    rotate_left
    ·
     rintro w' ⟨s0, s1⟩
     go_simp
     with_reducible rfl
    rotate_left
    ·
     simp only [Act.put, List.setIfInBounds_toArray, List.set_cons_zero, List.set_cons_succ, i64_w, i32_w]
     rfl
    refine take_ (i := 2) (N := some 23) (v := ?_) (a' := ?_) #[true, true, true, true, false, false, false] rfl rfl (by kernel_rfl) (fun _ _ _ h => h) (Or.inl ⟨by rfl, ?_⟩) hHeld ?_ ?_
    rotate_left
    ·
     rintro w' ⟨s0, s1⟩
     go_simp
     with_reducible rfl
    rotate_left
    ·
     simp only [Act.put, List.setIfInBounds_toArray, List.set_cons_zero, List.set_cons_succ, i64_w, i32_w]
     rfl
    refine one_ (i := 4) (N := some 25) #[true, true, true, true, true, false, false] rfl rfl (by kernel_rfl) (by decide) (fun K hK => ?_)
    refine goes_ Try.func47 (by kernel_rfl) rfl #[.agg #[.int .u64 t141, .int .u64 t142], .int .u32 a2] (by rfl) rfl rfl ar ?_
    with_reducible refine (spec_l4K_open.calls t141 t142 a2 t146 t147 t148 t149 t150 _ A12.out).mono ?_
    rintro e w15 ⟨rfl, hb⟩
    refine ⟨_, rfl, ?_⟩
    have n0_ := Aside0.mk (blk_below (g := gb144) (o := .cells #[.int .u64 t141, .int .u64 t142] 52 (0, 0)) (bk BK144.out) hb)
    have n1_ := Aside0.mk (below_step (bw HB.out) hb)
    clear BK144
    clear HB
    have BK144 := n0_
    have HB := n1_
    clear n0_ n1_
    (try clear hb)
    (try clear hb2)
    (try clear hk)
    (try clear hi)
    refine hK.out _ _ ⟨(blk_cell BK144.out 0).trans rfl, (blk_cell BK144.out 1).trans rfl⟩ (fun hHeld => ?_)
    clear hK K
    refine norm_ (a' := ?_) ?_ ?_
    rotate_left
    ·
     show Act.put _ (some 25) _ = _
     simp only [Act.put, List.setIfInBounds_toArray, List.set_cons_zero, List.set_cons_succ, i64_w, i32_w]
     rfl
    refine one_ (i := 5) (N := some 26) #[true, true, true, true, true, true, false] rfl rfl (by kernel_rfl) (by decide) (fun K hK => ?_)
    refine goes_ Try.func63 (by kernel_rfl) rfl #[.agg #[.int .u64 t141, .int .u64 t142], .int .i64 a1, .agg #[.bool t146, .bool t147, .bool t148, .int .u64 t149, .int .i64 t150]] (by rfl) rfl rfl ar ?_
    with_reducible refine (spec_l4K_whole.calls kj4 t141 t142 a1 t146 t147 t148 t149 t150 t151 _ A13.out).mono ?_
    rintro e w16 ⟨rfl, hb⟩
    refine ⟨_, rfl, ?_⟩
    have n0_ := Aside0.mk (blk_below (g := gb144) (o := .cells #[.int .u64 t141, .int .u64 t142] 52 (0, 0)) (bk BK144.out) hb)
    have n1_ := Aside0.mk (below_step (bw HB.out) hb)
    clear BK144
    clear HB
    have BK144 := n0_
    have HB := n1_
    clear n0_ n1_
    (try clear hb)
    (try clear hb2)
    (try clear hk)
    (try clear hi)
    refine hK.out _ _ ⟨(blk_cell BK144.out 0).trans rfl, (blk_cell BK144.out 1).trans rfl⟩ (fun hHeld => ?_)
    clear hK K
    refine norm_ (a' := ?_) ?_ ?_
    rotate_left
    ·
     show Act.put _ (some 26) _ = _
     simp only [Act.put, List.setIfInBounds_toArray, List.set_cons_zero, List.set_cons_succ, i64_w, i32_w]
     rfl
    refine pure_ (i := 6) (N := some 6) (v := ?_) (a' := ?_) #[true, true, true, true, true, true, true] rfl rfl (by kernel_rfl) (fun _ _ _ h => h) (Or.inl ⟨by rfl, ?_⟩) ?_ ?_
    rotate_left
    ·
     intro w'
     go_simp
     with_reducible rfl
    rotate_left
    ·
     simp only [Act.put, List.setIfInBounds_toArray, List.set_cons_zero, List.set_cons_succ, i64_w, i32_w]
     rfl
    refine done_ (by kernel_rfl) ?_
    try go_wp2
    go_ret
    exact ⟨by first | rfl | (simp [errW_none, errW_some] <;> rfl) | (simp [*, errW_none, errW_some] <;> rfl), bw HB.out⟩

end Go.Proofs.Ytdeogandkgiggaa.Q

namespace Go.Proofs.Ytdeogandkgiggaa.Q
open Go.RowKit Go.Proofs.YtdeogandkgiggaaW.PrintWords Go.Proofs.YtdeogandkgiggaaW.PrintLast Go.Proofs.YtdeogandkgiggaaW.PrintMore
attribute [local go_sem] max2_int min2_int max_two min_two max_three min_three max_four min_four   -- for this text's walks alone
set_option linter.unusedVariables false
set_option linter.unusedSimpArgs false

/-! ### impl_format_noNumber: function 53 -/
def impl_format_noNumber.f (a0_0 : Int) (a0_1 : Int) : Option (Int) := (impl_format_top.f a0_0 a0_1).bind fun t163 => (if 0 ≤ a0_0 then (if 0 ≤ (wrap64 (a0_0 - 1)) then (some (Go.bits .or .u32 (shl .u32 t163 a0_0) (shl .u32 1 (wrap64 (a0_0 - 1))))) else (none)) else (none))
def impl_format_noNumber.T1 : Bool × List (List Nat × List Nat) := (true, [([], []), ([0], [0]), ([], []), ([2], [2]), ([1, 3], [1, 3]), ([], []), ([5], [5]), ([6], [6]), ([7], [7]), ([4, 8], [4, 8]), ([9, 1, 0, 1, 2, 3, 4, 5, 6, 7, 8, 9], [9])])
def impl_format_noNumber.B1 : List Nat := [0, 1, 0, 4, 15, 0, 32, 96, 224, 511, 1023]
theorem impl_format_noNumber.tab1 : rtab .any (opsOf Try.f53 1) = impl_format_noNumber.T1 := by kernel_rfl
theorem impl_format_noNumber.bits1 : waitsOk impl_format_noNumber.T1.2 impl_format_noNumber.B1 = true := by kernel_rfl
set_option maxHeartbeats 8000000 in
set_option maxRecDepth 100000 in
theorem impl_format_noNumber.calls (a0_0 : Int) (a0_1 : Int) (r : Int) (w : World) (h : impl_format_noNumber.f a0_0 a0_1 = some r) :
  Calls Try.prog 53 #[.agg #[.int .i64 a0_0, .int .i64 a0_1]] w fun e w' => e = .returned (.int .u32 r) ∧ Below w.heap.size w w' := by
 have hu62 := Try.underlying62
 have HB := Aside0.mk (Below.refl w.heap.size w)
 have H : ((impl_format_top.f a0_0 a0_1).bind fun t163 => (if 0 ≤ a0_0 then (if 0 ≤ (wrap64 (a0_0 - 1)) then (some (Go.bits .or .u32 (shl .u32 t163 a0_0) (shl .u32 1 (wrap64 (a0_0 - 1))))) else (none)) else (none))) = some r := h
 clear h
 replace H := Option.bind_eq_some_iff.mp H
 obtain ⟨t163, A20, H⟩ := H
 replace H : (if 0 ≤ a0_0 then (if 0 ≤ (wrap64 (a0_0 - 1)) then (some (Go.bits .or .u32 (shl .u32 t163 a0_0) (shl .u32 1 (wrap64 (a0_0 - 1))))) else (none)) else (none)) = some r := H
 have A2 := Aside0.mk A20
 clear A20
 by_cases c3 : 0 ≤ a0_0
 ·
  rw [if_pos c3] at H
  have c3b0 := eq_true c3
  have c3b1 : decide (0 ≤ a0_0) = true := decide_eq_true c3
  clear c3
  obtain ⟨ji4, hji4⟩ : ∃ j_ : Int, (shl .u32 t163 a0_0) = j_ := ⟨_, rfl⟩
  replace H : (if 0 ≤ (wrap64 (a0_0 - 1)) then (some (Go.bits .or .u32 (ji4) (shl .u32 1 (wrap64 (a0_0 - 1))))) else (none)) = some r := by first | (rw [hji4] at H; exact H) | (simp only [hji4] at H ⊢; exact H)
  (try rw [hji4] at A2)
  have hji4_ : (IntKind.u32.wrap (t163 * 2 ^ min a0_0.toNat 32)) = ji4 := hji4
  have hji4z : a0_0 ≤ 32 → (IntKind.u32.wrap (t163 * 2 ^ a0_0.toNat)) = ji4 := shl_small hji4
  obtain ⟨ji5, hji5⟩ : ∃ j_ : Int, (wrap64 (a0_0 - 1)) = j_ := ⟨_, rfl⟩
  replace H : (if 0 ≤ (ji5) then (some (Go.bits .or .u32 (ji4) (shl .u32 1 (ji5)))) else (none)) = some r := by first | (rw [hji5] at H; exact H) | (simp only [hji5] at H ⊢; exact H)
  (try rw [hji5] at A2)
  have hji5w : (IntKind.i64.wrap (a0_0 - 1)) = ji5 := (i64_w _).trans hji5
  by_cases c6 : 0 ≤ (ji5)
  ·
   rw [if_pos c6] at H
   have c6b0 := eq_true c6
   have c6b1 : decide (0 ≤ (ji5)) = true := decide_eq_true c6
   clear c6
   obtain ⟨ji7, hji7⟩ : ∃ j_ : Int, (shl .u32 1 (ji5)) = j_ := ⟨_, rfl⟩
   replace H : (some (Go.bits .or .u32 (ji4) (ji7))) = some r := by first | (rw [hji7] at H; exact H) | (simp only [hji7] at H ⊢; exact H)
   (try rw [hji7] at A2)
   have hji7_ : (IntKind.u32.wrap (1 * 2 ^ min (ji5).toNat 32)) = ji7 := hji7
   have hji7z : (ji5) ≤ 32 → (IntKind.u32.wrap (1 * 2 ^ (ji5).toNat)) = ji7 := shl_small hji7
   have hji7u : (IntKind.u32.wrap (2 ^ min (ji5).toNat 32)) = ji7 := by have h_ := hji7_; rw [Int.one_mul] at h_; exact h_
   have hji7v : (ji5) ≤ 32 → (IntKind.u32.wrap (2 ^ (ji5).toNat)) = ji7 := fun hle_ => by have h_ := hji7z hle_; rw [Int.one_mul] at h_; exact h_
   obtain rfl := Option.some.inj H
   simp only [Option.some.injEq, Prod.mk.injEq] at H
   obtain ⟨rfl⟩ := H
   go_enter Try.func53, Try.ntmps53
   try go_wp2_with (first | ((with_reducible refine gate_dst (N := 1) rfl ?_); refine box_event ?hg (N := 1) ?hd (cs := #[.int .i64 a0_0, .int .i64 a0_1]) (t := 62) ?hr ?_; (case hd => rfl); (case hg => rfl); (case hr => first | (go_simp; done) | (go_simp; rfl)); intro gb162 hg w8 hbox hb; have n0_ := Aside0.mk (below_step (bw HB.out) hb); have n1_ := Aside0.mk (hbox); have n2_ := Aside0.mk ((by rw [hg]; exact (below_size (bw HB.out)) : w.heap.size ≤ gb162)); have n3_ := Aside0.mk ((by rw [hg]; exact (below_size (bw HB.out)) : w.heap.size ≤ gb162)); clear HB; have HB := n0_; have BK162 := n1_; have GW162 := n2_; have GE162 := n3_; clear n0_ n1_ n2_ n3_; clear hb hbox hg))
   have n0_ := Aside0.mk (blk_drew BK162.out)
   have n1_ := Aside0.mk (below_drew1 HB.out)
   clear BK162
   clear HB
   have BK162 := n0_
   have HB := n1_
   clear n0_ n1_
   refine start_ (n := 11) (S := fun w' => w'.cell? ⟨gb162, 0, none⟩ = some (.int .i64 a0_0) ∧ w'.cell? ⟨gb162, 1, none⟩ = some (.int .i64 a0_1)) (ds := []) #[false, false, false, false, false, false, false, false, false, false, false] (by kernel_rfl) rfl rfl ⟨(blk_cell BK162.out 0).trans rfl, (blk_cell BK162.out 1).trans rfl⟩ (fun hHeld => ?_); refine with_tabW impl_format_noNumber.tab1 impl_format_noNumber.bits1 (fun HT_ HW_ => ?_)
   generalize w8.drew = w9 at BK162 HB hHeld ⊢
   refine pure_ (i := 2) (N := some 5) (v := ?_) (a' := ?_) #[false, false, true, false, false, false, false, false, false, false, false] rfl rfl (any_of HT_.out (by kernel_rfl)) (fun _ _ _ h => h) (Or.inl ⟨by rfl, ?_⟩) ?_ ?_
   rotate_left
   ·
    intro w'
    go_simp
    with_reducible rfl
   rotate_left
   ·
    simp only [Act.put, List.setIfInBounds_toArray, List.set_cons_zero, List.set_cons_succ, i64_w, i32_w]
    rfl
   refine pure_ (i := 5) (N := some 8) (v := ?_) (a' := ?_) #[false, false, true, false, false, true, false, false, false, false, false] rfl rfl (any_of HT_.out (by kernel_rfl)) (fun _ _ _ h => h) (Or.inl ⟨by rfl, ?_⟩) ?_ ?_
   rotate_left
   ·
    intro w'
    go_simp
    with_reducible rfl
   rotate_left
   ·
    simp only [Act.put, List.setIfInBounds_toArray, List.set_cons_zero, List.set_cons_succ, i64_w, i32_w]
    rfl
   refine take_ (i := 0) (N := some 3) (v := ?_) (a' := ?_) #[true, false, true, false, false, true, false, false, false, false, false] rfl rfl (take_ofW HT_.out HW_.out (by kernel_rfl)) (fun _ _ _ h => h) (Or.inl ⟨by rfl, ?_⟩) hHeld ?_ ?_
   rotate_left
   ·
    rintro w' ⟨s0, s1⟩
    go_simp
    with_reducible rfl
   rotate_left
   ·
    simp only [Act.put, List.setIfInBounds_toArray, List.set_cons_zero, List.set_cons_succ, i64_w, i32_w]
    rfl
   refine take_ (i := 3) (N := some 6) (v := ?_) (a' := ?_) #[true, false, true, true, false, true, false, false, false, false, false] rfl rfl (take_ofW HT_.out HW_.out (by kernel_rfl)) (fun _ _ _ h => h) (Or.inl ⟨by rfl, ?_⟩) hHeld ?_ ?_
   rotate_left
   ·
    rintro w' ⟨s0, s1⟩
    go_simp
    with_reducible rfl
   rotate_left
   ·
    simp only [Act.put, List.setIfInBounds_toArray, List.set_cons_zero, List.set_cons_succ, i64_w, i32_w]
    rfl
   refine take_ (i := 6) (N := some 9) (v := ?_) (a' := ?_) #[true, false, true, true, false, true, true, false, false, false, false] rfl rfl (take_ofW HT_.out HW_.out (by kernel_rfl)) (fun _ _ _ h => h) (Or.inl ⟨by rfl, ?_⟩) hHeld ?_ ?_
   rotate_left
   ·
    rintro w' ⟨s0, s1⟩
    go_simp
    with_reducible rfl
   rotate_left
   ·
    simp only [Act.put, List.setIfInBounds_toArray, List.set_cons_zero, List.set_cons_succ, i64_w, i32_w]
    rfl
   refine pure_ (i := 7) (N := some 10) (v := ?_) (a' := ?_) #[true, false, true, true, false, true, true, true, false, false, false] rfl rfl (any_of HT_.out (by kernel_rfl)) (fun _ _ _ h => h) (Or.inl ⟨by rfl, ?_⟩) ?_ ?_
   rotate_left
   ·
    intro w'
    go_simp
    with_reducible rfl
   rotate_left
   ·
    simp only [Act.put, List.setIfInBounds_toArray, List.set_cons_zero, List.set_cons_succ, i64_w, i32_w]
    rfl
   refine pure_ (i := 8) (N := some 11) (v := ?_) (a' := ?_) #[true, false, true, true, false, true, true, true, true, false, false] rfl rfl (any_of HT_.out (by kernel_rfl)) (fun _ _ _ h => h) (Or.inl ⟨by rfl, ?_⟩) ?_ ?_
   rotate_left
   ·
    intro w'
    go_simp
    with_reducible rfl
   rotate_left
   ·
    simp only [Act.put, List.setIfInBounds_toArray, List.set_cons_zero, List.set_cons_succ, i64_w, i32_w]
    rfl
   refine one_ (i := 1) (N := some 4) #[true, true, true, true, false, true, true, true, true, false, false] rfl rfl (one_of HT_.out (by kernel_rfl)) (by decide) (fun K hK => ?_)
   refine goes_ Try.func85 (by kernel_rfl) rfl #[.agg #[.int .i64 a0_0, .int .i64 a0_1]] (by rfl) rfl rfl ar ?_
   with_reducible refine (impl_format_top.calls a0_0 a0_1 t163 _ A2.out).mono ?_
   rintro e w10 ⟨rfl, hb⟩
   refine ⟨_, rfl, ?_⟩
   have n0_ := Aside0.mk (blk_below (g := gb162) (o := .cells #[.int .i64 a0_0, .int .i64 a0_1] 62 (0, 0)) (bk BK162.out) hb)
   have n1_ := Aside0.mk (below_step (bw HB.out) hb)
   clear BK162
   clear HB
   have BK162 := n0_
   have HB := n1_
   clear n0_ n1_
   (try clear hb)
   (try clear hb2)
   (try clear hk)
   (try clear hi)
   refine hK.out _ _ ⟨(blk_cell BK162.out 0).trans rfl, (blk_cell BK162.out 1).trans rfl⟩ (fun hHeld => ?_)
   clear hK K
   refine norm_ (a' := ?_) ?_ ?_
   rotate_left
   ·
    show Act.put _ (some 4) _ = _
    simp only [Act.put, List.setIfInBounds_toArray, List.set_cons_zero, List.set_cons_succ, i64_w, i32_w]
    rfl
   refine pure_ (i := 4) (N := some 7) (v := ?_) (a' := ?_) #[true, true, true, true, true, true, true, true, true, false, false] rfl rfl (any_of HT_.out (by kernel_rfl)) (fun _ _ _ h => h) (Or.inl ⟨by rfl, ?_⟩) ?_ ?_
   rotate_left
   ·
    intro w'
    go_simp
    with_reducible rfl
   rotate_left
   ·
    simp only [Act.put, List.setIfInBounds_toArray, List.set_cons_zero, List.set_cons_succ, i64_w, i32_w]
    rfl
   refine pure_ (i := 9) (N := some 12) (v := ?_) (a' := ?_) #[true, true, true, true, true, true, true, true, true, true, false] rfl rfl (any_of HT_.out (by kernel_rfl)) (fun _ _ _ h => h) (Or.inl ⟨by rfl, ?_⟩) ?_ ?_
   rotate_left
   ·
    intro w'
    go_simp
    with_reducible rfl
   rotate_left
   ·
    simp only [Act.put, List.setIfInBounds_toArray, List.set_cons_zero, List.set_cons_succ, i64_w, i32_w]
    rfl
   refine pure_ (i := 10) (N := some 2) (v := ?_) (a' := ?_) #[true, true, true, true, true, true, true, true, true, true, true] rfl rfl (any_of HT_.out (by kernel_rfl)) (fun _ _ _ h => h) (Or.inl ⟨by rfl, ?_⟩) ?_ ?_
   rotate_left
   ·
    intro w'
    go_simp
    with_reducible rfl
   rotate_left
   ·
    simp only [Act.put, List.setIfInBounds_toArray, List.set_cons_zero, List.set_cons_succ, i64_w, i32_w]
    rfl
   refine done_ (done_of HT_.out (by kernel_rfl)) ?_
   try go_wp2
   go_ret
   exact ⟨by first | rfl | (simp [errW_none, errW_some] <;> rfl) | (simp only [← hji4, ← hji5, ← hji7]; first | rfl | (simp [errW_none, errW_some] <;> rfl)) | (simp [*, errW_none, errW_some] <;> rfl), bw HB.out⟩
  ·
   rw [if_neg c6] at H
   exact absurd H (by simp)
 ·
  rw [if_neg c3] at H
  exact absurd H (by simp)

end Go.Proofs.Ytdeogandkgiggaa.Q

namespace Go.Proofs.Ytdeogandkgiggaa.Q
open Go.RowKit Go.Proofs.YtdeogandkgiggaaW.PrintWords Go.Proofs.YtdeogandkgiggaaW.PrintLast Go.Proofs.YtdeogandkgiggaaW.PrintMore
attribute [local go_sem] max2_int min2_int max_two min_two max_three min_three max_four min_four   -- for this text's walks alone
set_option linter.unusedVariables false
set_option linter.unusedSimpArgs false

/-! ### impl_format_signed: function 58 -/
def impl_format_signed.f (a0_0 : Int) (a0_1 : Int) (a1 : Bool) (a2 : Int) : Option (Int) := if a1 = true then ((impl_format_sign.f a0_0 a0_1).bind fun t165 => (some (Go.bits .or .u32 a2 t165))) else (some a2)
set_option maxHeartbeats 8000000 in
set_option maxRecDepth 100000 in
theorem impl_format_signed.calls (a0_0 : Int) (a0_1 : Int) (a1 : Bool) (a2 : Int) (r : Int) (w : World) (h : impl_format_signed.f a0_0 a0_1 a1 a2 = some r) :
  Calls Try.prog 58 #[.agg #[.int .i64 a0_0, .int .i64 a0_1], .bool a1, .int .u32 a2] w fun e w' => e = .returned (.int .u32 r) ∧ Below w.heap.size w w' := by
 have hu62 := Try.underlying62
 have HB := Aside0.mk (Below.refl w.heap.size w)
 have H : (if a1 = true then ((impl_format_sign.f a0_0 a0_1).bind fun t165 => (some (Go.bits .or .u32 a2 t165))) else (some a2)) = some r := h
 clear h
 by_cases c4 : a1 = true
 ·
  subst c4
  have H1 : ((impl_format_sign.f a0_0 a0_1).bind fun t165 => (some (Go.bits .or .u32 a2 t165))) = some r := by rw [if_pos rfl] at H; exact H
  clear H
  have H := H1
  clear H1
  replace H := Option.bind_eq_some_iff.mp H
  obtain ⟨t165, A50, H⟩ := H
  replace H : (some (Go.bits .or .u32 a2 t165)) = some r := H
  have A5 := Aside0.mk A50
  clear A50
  obtain rfl := Option.some.inj H
  simp only [Option.some.injEq, Prod.mk.injEq] at H
  obtain ⟨rfl⟩ := H
  go_enter Try.func58, Try.ntmps58
  go_wp2_with (first | ((with_reducible refine gate_dst (N := 3) rfl ?_); refine box_event ?hg (N := 3) ?hd (cs := #[.int .i64 a0_0, .int .i64 a0_1]) (t := 62) ?hr ?_; (case hd => rfl); (case hg => rfl); (case hr => first | (go_simp; done) | (go_simp; rfl)); intro gb164 hg w6 hbox hb; have n0_ := Aside0.mk (below_step (bw HB.out) hb); have n1_ := Aside0.mk (hbox); have n2_ := Aside0.mk ((by rw [hg]; exact (below_size (bw HB.out)) : w.heap.size ≤ gb164)); have n3_ := Aside0.mk ((by rw [hg]; exact (below_size (bw HB.out)) : w.heap.size ≤ gb164)); clear HB; have HB := n0_; have BK164 := n1_; have GW164 := n2_; have GE164 := n3_; clear n0_ n1_ n2_ n3_; clear hb hbox hg; have hcz7_0 : w6.cell? ⟨gb164, 0, none⟩ = some (.int .i64 a0_0) := (blk_cell BK164.out 0).trans rfl; have hcz7_1 : w6.cell? ⟨gb164, 1, none⟩ = some (.int .i64 a0_1) := (blk_cell BK164.out 1).trans rfl; have hfz7_0 := blk_frozen BK164.out 0; have hfz7_1 := blk_frozen BK164.out 1) | ((with_reducible refine gate_callee (f := 72) rfl ?_); refine goesL_ (some 10) rfl rfl Try.func72 (by kernel_rfl) rfl #[.agg #[.int .i64 a0_0, .int .i64 a0_1]] rfl ar ?_; (with_reducible refine (impl_format_sign.calls a0_0 a0_1 t165 _ A5.out).mono ?_); rintro e w8 ⟨rfl, hb⟩; refine ⟨_, rfl, ?_⟩; have n0_ := Aside0.mk (blk_below (g := gb164) (o := .cells #[.int .i64 a0_0, .int .i64 a0_1] 62 (0, 0)) (bk BK164.out) hb); have n1_ := Aside0.mk (below_step (bw HB.out) hb); clear BK164; clear HB; have BK164 := n0_; have HB := n1_; clear n0_ n1_; (try clear hb)))
  go_ret
  exact ⟨by first | rfl | (simp [errW_none, errW_some] <;> rfl) | (simp [*, errW_none, errW_some] <;> rfl), bw HB.out⟩
 ·
  replace c4 := Bool.eq_false_iff.mpr c4
  subst c4
  have H1 : (some a2) = some r := by rw [if_neg (show ¬ (false = true) by decide)] at H; exact H
  clear H
  have H := H1
  clear H1
  obtain rfl := Option.some.inj H
  simp only [Option.some.injEq, Prod.mk.injEq] at H
  obtain ⟨rfl⟩ := H
  go_enter Try.func58, Try.ntmps58
  go_wp2_with (first | ((with_reducible refine gate_dst (N := 3) rfl ?_); refine box_event ?hg (N := 3) ?hd (cs := #[.int .i64 a0_0, .int .i64 a0_1]) (t := 62) ?hr ?_; (case hd => rfl); (case hg => rfl); (case hr => first | (go_simp; done) | (go_simp; rfl)); intro gb164 hg w9 hbox hb; have n0_ := Aside0.mk (below_step (bw HB.out) hb); have n1_ := Aside0.mk (hbox); have n2_ := Aside0.mk ((by rw [hg]; exact (below_size (bw HB.out)) : w.heap.size ≤ gb164)); have n3_ := Aside0.mk ((by rw [hg]; exact (below_size (bw HB.out)) : w.heap.size ≤ gb164)); clear HB; have HB := n0_; have BK164 := n1_; have GW164 := n2_; have GE164 := n3_; clear n0_ n1_ n2_ n3_; clear hb hbox hg))
  go_ret
  exact ⟨by first | rfl | (simp [errW_none, errW_some] <;> rfl) | (simp [*, errW_none, errW_some] <;> rfl), bw HB.out⟩

end Go.Proofs.Ytdeogandkgiggaa.Q

namespace Go.Proofs.Ytdeogandkgiggaa.Q
open Go.RowKit Go.Proofs.YtdeogandkgiggaaW.PrintWords Go.Proofs.YtdeogandkgiggaaW.PrintLast Go.Proofs.YtdeogandkgiggaaW.PrintMore
attribute [local go_sem] max2_int min2_int max_two min_two max_three min_three max_four min_four   -- for this text's walks alone
set_option linter.unusedVariables false
set_option linter.unusedSimpArgs false

/-! ### impl_format_infinite: function 54 -/
def impl_format_infinite.f (a0_0 : Int) (a0_1 : Int) (a1 : Bool) : Option (Int) := (impl_format_top.f a0_0 a0_1).bind fun t167 => (if 0 ≤ a0_0 then ((impl_format_signed.f a0_0 a0_1 a1 (shl .u32 t167 a0_0)).bind fun t168 => (some t168)) else (none))
def impl_format_infinite.T1 : Bool × List (List Nat × List Nat) := (true, [([], []), ([], []), ([], []), ([2], [2]), ([], []), ([4], [4]), ([3, 5], [3, 5]), ([0, 1, 6, 3], [0, 1, 6]), ([7, 7, 0, 1, 2, 3, 4, 5, 6, 7], [7])])
def impl_format_infinite.B1 : List Nat := [0, 0, 0, 4, 0, 16, 60, 127, 255]
theorem impl_format_infinite.tab1 : rtab .any (opsOf Try.f54 1) = impl_format_infinite.T1 := by kernel_rfl
theorem impl_format_infinite.bits1 : waitsOk impl_format_infinite.T1.2 impl_format_infinite.B1 = true := by kernel_rfl
set_option maxHeartbeats 8000000 in
set_option maxRecDepth 100000 in
theorem impl_format_infinite.calls (a0_0 : Int) (a0_1 : Int) (a1 : Bool) (r : Int) (w : World) (h : impl_format_infinite.f a0_0 a0_1 a1 = some r) :
  Calls Try.prog 54 #[.agg #[.int .i64 a0_0, .int .i64 a0_1], .bool a1] w fun e w' => e = .returned (.int .u32 r) ∧ Below w.heap.size w w' := by
 have hu62 := Try.underlying62
 have HB := Aside0.mk (Below.refl w.heap.size w)
 have H : ((impl_format_top.f a0_0 a0_1).bind fun t167 => (if 0 ≤ a0_0 then ((impl_format_signed.f a0_0 a0_1 a1 (shl .u32 t167 a0_0)).bind fun t168 => (some t168)) else (none))) = some r := h
 clear h
 replace H := Option.bind_eq_some_iff.mp H
 obtain ⟨t167, A30, H⟩ := H
 replace H : (if 0 ≤ a0_0 then ((impl_format_signed.f a0_0 a0_1 a1 (shl .u32 t167 a0_0)).bind fun t168 => (some t168)) else (none)) = some r := H
 have A3 := Aside0.mk A30
 clear A30
 by_cases c4 : 0 ≤ a0_0
 ·
  rw [if_pos c4] at H
  have c4b0 := eq_true c4
  have c4b1 : decide (0 ≤ a0_0) = true := decide_eq_true c4
  clear c4
  obtain ⟨ji5, hji5⟩ : ∃ j_ : Int, (shl .u32 t167 a0_0) = j_ := ⟨_, rfl⟩
  replace H : ((impl_format_signed.f a0_0 a0_1 a1 (ji5)).bind fun t168 => (some t168)) = some r := by first | (rw [hji5] at H; exact H) | (simp only [hji5] at H ⊢; exact H)
  (try rw [hji5] at A3)
  have hji5_ : (IntKind.u32.wrap (t167 * 2 ^ min a0_0.toNat 32)) = ji5 := hji5
  have hji5z : a0_0 ≤ 32 → (IntKind.u32.wrap (t167 * 2 ^ a0_0.toNat)) = ji5 := shl_small hji5
  replace H := Option.bind_eq_some_iff.mp H
  obtain ⟨t168, A60, H⟩ := H
  replace H : (some t168) = some r := H
  have A6 := Aside0.mk A60
  clear A60
  obtain rfl := Option.some.inj H
  simp only [Option.some.injEq, Prod.mk.injEq] at H
  obtain ⟨rfl⟩ := H
  go_enter Try.func54, Try.ntmps54
  try go_wp2_with (first | ((with_reducible refine gate_dst (N := 2) rfl ?_); refine box_event ?hg (N := 2) ?hd (cs := #[.int .i64 a0_0, .int .i64 a0_1]) (t := 62) ?hr ?_; (case hd => rfl); (case hg => rfl); (case hr => first | (go_simp; done) | (go_simp; rfl)); intro gb166 hg w7 hbox hb; have n0_ := Aside0.mk (below_step (bw HB.out) hb); have n1_ := Aside0.mk (hbox); have n2_ := Aside0.mk ((by rw [hg]; exact (below_size (bw HB.out)) : w.heap.size ≤ gb166)); have n3_ := Aside0.mk ((by rw [hg]; exact (below_size (bw HB.out)) : w.heap.size ≤ gb166)); clear HB; have HB := n0_; have BK166 := n1_; have GW166 := n2_; have GE166 := n3_; clear n0_ n1_ n2_ n3_; clear hb hbox hg))
  have n0_ := Aside0.mk (blk_drew BK166.out)
  have n1_ := Aside0.mk (below_drew1 HB.out)
  clear BK166
  clear HB
  have BK166 := n0_
  have HB := n1_
  clear n0_ n1_
  refine start_ (n := 9) (S := fun w' => w'.cell? ⟨gb166, 0, none⟩ = some (.int .i64 a0_0) ∧ w'.cell? ⟨gb166, 1, none⟩ = some (.int .i64 a0_1)) (ds := []) #[false, false, false, false, false, false, false, false, false] (by kernel_rfl) rfl rfl ⟨(blk_cell BK166.out 0).trans rfl, (blk_cell BK166.out 1).trans rfl⟩ (fun hHeld => ?_); refine with_tabW impl_format_infinite.tab1 impl_format_infinite.bits1 (fun HT_ HW_ => ?_)
  generalize w7.drew = w8 at BK166 HB hHeld ⊢
  refine pure_ (i := 1) (N := some 6) (v := ?_) (a' := ?_) #[false, true, false, false, false, false, false, false, false] rfl rfl (any_of HT_.out (by kernel_rfl)) (fun _ _ _ h => h) (Or.inl ⟨by rfl, ?_⟩) ?_ ?_
  rotate_left
  ·
   intro w'
   go_simp
   with_reducible rfl
  rotate_left
  ·
   simp only [Act.put, List.setIfInBounds_toArray, List.set_cons_zero, List.set_cons_succ, i64_w, i32_w]
   rfl
  refine pure_ (i := 4) (N := some 9) (v := ?_) (a' := ?_) #[false, true, false, false, true, false, false, false, false] rfl rfl (any_of HT_.out (by kernel_rfl)) (fun _ _ _ h => h) (Or.inl ⟨by rfl, ?_⟩) ?_ ?_
  rotate_left
  ·
   intro w'
   go_simp
   with_reducible rfl
  rotate_left
  ·
   simp only [Act.put, List.setIfInBounds_toArray, List.set_cons_zero, List.set_cons_succ, i64_w, i32_w]
   rfl
  refine take_ (i := 0) (N := some 5) (v := ?_) (a' := ?_) #[true, true, false, false, true, false, false, false, false] rfl rfl (take_ofW HT_.out HW_.out (by kernel_rfl)) (fun _ _ _ h => h) (Or.inl ⟨by rfl, ?_⟩) hHeld ?_ ?_
  rotate_left
  ·
   rintro w' ⟨s0, s1⟩
   go_simp
   with_reducible rfl
  rotate_left
  ·
   simp only [Act.put, List.setIfInBounds_toArray, List.set_cons_zero, List.set_cons_succ, i64_w, i32_w]
   rfl
  refine take_ (i := 2) (N := some 7) (v := ?_) (a' := ?_) #[true, true, true, false, true, false, false, false, false] rfl rfl (take_ofW HT_.out HW_.out (by kernel_rfl)) (fun _ _ _ h => h) (Or.inl ⟨by rfl, ?_⟩) hHeld ?_ ?_
  rotate_left
  ·
   rintro w' ⟨s0, s1⟩
   go_simp
   with_reducible rfl
  rotate_left
  ·
   simp only [Act.put, List.setIfInBounds_toArray, List.set_cons_zero, List.set_cons_succ, i64_w, i32_w]
   rfl
  refine take_ (i := 5) (N := some 10) (v := ?_) (a' := ?_) #[true, true, true, false, true, true, false, false, false] rfl rfl (take_ofW HT_.out HW_.out (by kernel_rfl)) (fun _ _ _ h => h) (Or.inl ⟨by rfl, ?_⟩) hHeld ?_ ?_
  rotate_left
  ·
   rintro w' ⟨s0, s1⟩
   go_simp
   with_reducible rfl
  rotate_left
  ·
   simp only [Act.put, List.setIfInBounds_toArray, List.set_cons_zero, List.set_cons_succ, i64_w, i32_w]
   rfl
  refine one_ (i := 3) (N := some 8) #[true, true, true, true, true, true, false, false, false] rfl rfl (one_of HT_.out (by kernel_rfl)) (by decide) (fun K hK => ?_)
  refine goes_ Try.func85 (by kernel_rfl) rfl #[.agg #[.int .i64 a0_0, .int .i64 a0_1]] (by rfl) rfl rfl ar ?_
  with_reducible refine (impl_format_top.calls a0_0 a0_1 t167 _ A3.out).mono ?_
  rintro e w9 ⟨rfl, hb⟩
  refine ⟨_, rfl, ?_⟩
  have n0_ := Aside0.mk (blk_below (g := gb166) (o := .cells #[.int .i64 a0_0, .int .i64 a0_1] 62 (0, 0)) (bk BK166.out) hb)
  have n1_ := Aside0.mk (below_step (bw HB.out) hb)
  clear BK166
  clear HB
  have BK166 := n0_
  have HB := n1_
  clear n0_ n1_
  (try clear hb)
  (try clear hb2)
  (try clear hk)
  (try clear hi)
  refine hK.out _ _ ⟨(blk_cell BK166.out 0).trans rfl, (blk_cell BK166.out 1).trans rfl⟩ (fun hHeld => ?_)
  clear hK K
  refine norm_ (a' := ?_) ?_ ?_
  rotate_left
  ·
   show Act.put _ (some 8) _ = _
   simp only [Act.put, List.setIfInBounds_toArray, List.set_cons_zero, List.set_cons_succ, i64_w, i32_w]
   rfl
  refine pure_ (i := 6) (N := some 11) (v := ?_) (a' := ?_) #[true, true, true, true, true, true, true, false, false] rfl rfl (any_of HT_.out (by kernel_rfl)) (fun _ _ _ h => h) (Or.inl ⟨by rfl, ?_⟩) ?_ ?_
  rotate_left
  ·
   intro w'
   go_simp
   with_reducible rfl
  rotate_left
  ·
   simp only [Act.put, List.setIfInBounds_toArray, List.set_cons_zero, List.set_cons_succ, i64_w, i32_w]
   rfl
  refine one_ (i := 7) (N := some 12) #[true, true, true, true, true, true, true, true, false] rfl rfl (one_of HT_.out (by kernel_rfl)) (by decide) (fun K hK => ?_)
  refine goes_ Try.func58 (by kernel_rfl) rfl #[.agg #[.int .i64 a0_0, .int .i64 a0_1], .bool a1, .int .u32 ji5] (by rfl) rfl rfl (by (try simp only [List.map_toArray, List.map_cons, List.map_nil]); first | done | (simp only [hji5]; rfl) | rfl | (simp only [List.length_drop, List.length_take]; rfl)) ?_
  with_reducible refine (impl_format_signed.calls a0_0 a0_1 a1 ji5 t168 _ A6.out).mono ?_
  rintro e w10 ⟨rfl, hb⟩
  refine ⟨_, rfl, ?_⟩
  have n0_ := Aside0.mk (blk_below (g := gb166) (o := .cells #[.int .i64 a0_0, .int .i64 a0_1] 62 (0, 0)) (bk BK166.out) hb)
  have n1_ := Aside0.mk (below_step (bw HB.out) hb)
  clear BK166
  clear HB
  have BK166 := n0_
  have HB := n1_
  clear n0_ n1_
  (try clear hb)
  (try clear hb2)
  (try clear hk)
  (try clear hi)
  refine hK.out _ _ ⟨(blk_cell BK166.out 0).trans rfl, (blk_cell BK166.out 1).trans rfl⟩ (fun hHeld => ?_)
  clear hK K
  refine norm_ (a' := ?_) ?_ ?_
  rotate_left
  ·
   show Act.put _ (some 12) _ = _
   simp only [Act.put, List.setIfInBounds_toArray, List.set_cons_zero, List.set_cons_succ, i64_w, i32_w]
   rfl
  refine pure_ (i := 8) (N := some 4) (v := ?_) (a' := ?_) #[true, true, true, true, true, true, true, true, true] rfl rfl (any_of HT_.out (by kernel_rfl)) (fun _ _ _ h => h) (Or.inl ⟨by rfl, ?_⟩) ?_ ?_
  rotate_left
  ·
   intro w'
   go_simp
   with_reducible rfl
  rotate_left
  ·
   simp only [Act.put, List.setIfInBounds_toArray, List.set_cons_zero, List.set_cons_succ, i64_w, i32_w]
   rfl
  refine done_ (done_of HT_.out (by kernel_rfl)) ?_
  try go_wp2
  go_ret
  exact ⟨by first | rfl | (simp [errW_none, errW_some] <;> rfl) | (simp only [← hji5]; first | rfl | (simp [errW_none, errW_some] <;> rfl)) | (simp [*, errW_none, errW_some] <;> rfl), bw HB.out⟩
 ·
  rw [if_neg c4] at H
  exact absurd H (by simp)

end Go.Proofs.Ytdeogandkgiggaa.Q

namespace Go.Proofs.Ytdeogandkgiggaa.Q
open Go.RowKit Go.Proofs.YtdeogandkgiggaaW.PrintWords Go.Proofs.YtdeogandkgiggaaW.PrintLast Go.Proofs.YtdeogandkgiggaaW.PrintMore
attribute [local go_sem] max2_int min2_int max_two min_two max_three min_three max_four min_four   -- for this text's walks alone
set_option linter.unusedVariables false
set_option linter.unusedSimpArgs false


/-! ### bits_Len64: function 59 -/
def bits_Len64.f (a0 : Int) : Option (Int) := if 0 ≤ a0 then (if a0 ≤ 18446744073709551615 then (some (Lib.bitLen a0.toNat : Int)) else (none)) else (none)
theorem bits_Len64.calls (a0 : Int) (r : Int) (w : World) (h : bits_Len64.f a0 = some r) :
  Calls Try.prog 59 #[.int .u64 a0] w fun e w' => e = .returned (.int .i64 r) ∧ Drawn0 w w' := by
 unfold bits_Len64.f at h
 by_cases h0 : 0 ≤ a0
 ·
  by_cases h1 : a0 ≤ 18446744073709551615
  ·
   rw [if_pos h0, if_pos h1] at h
   obtain rfl := Option.some.inj h
   refine (Go.Proofs.Ytdeogandkgiggaa.Lb.bits_Len64 a0 w h0 h1).mono ?_
   rintro e w' ⟨rfl, rfl⟩
   exact ⟨rfl, Drawn0.refl _⟩
  ·
   rw [if_pos h0, if_neg h1] at h
   exact absurd h (by simp)
 ·
  rw [if_neg h0] at h
  exact absurd h (by simp)

end Go.Proofs.Ytdeogandkgiggaa.Q

namespace Go.Proofs.Ytdeogandkgiggaa.Q
open Go.RowKit Go.Proofs.YtdeogandkgiggaaW.PrintWords Go.Proofs.YtdeogandkgiggaaW.PrintLast Go.Proofs.YtdeogandkgiggaaW.PrintMore
attribute [local go_sem] max2_int min2_int max_two min_two max_three min_three max_four min_four   -- for this text's walks alone
set_option linter.unusedVariables false
set_option linter.unusedSimpArgs false

/-! ### impl_format_round: function 55 -/
mutual
def impl_format_round.j0 : Nat → Bool → Int → Int → Int → Int → Option (Int)
 | 0, _, _, _, _, _ => none
 | k + 1, x1, x11, x12, x170000, x170001 => if 0 ≤ x170000 then (if x12 = (shl .u64 2 x170000) then (impl_format_round.j1 k x1 (wrap64 (x11 + 1)) (shl .u64 1 x170000) x170000 x170001) else (impl_format_round.j1 k x1 x11 x12 x170000 x170001)) else (none)
def impl_format_round.j1 : Nat → Bool → Int → Int → Int → Int → Option (Int)
 | 0, _, _, _, _, _ => none
 | k + 1, x1, x11, x12, x170000, x170001 => if 0 ≤ x170000 then (if x12 < (shl .u64 1 x170000) then ((impl_format_signed.f x170000 x170001 x1 ((x12) % 4294967296)).bind fun t172 => (some t172)) else ((impl_format_top.f x170000 x170001).bind fun t173 => (if (wrap64 ((wrap64 (x11 + x170001)) + x170000)) ≥ (wrap64 (t173)) then ((impl_format_infinite.f x170000 x170001 x1).bind fun t174 => (some t174)) else ((impl_format_signed.f x170000 x170001 x1 (Go.bits .or .u32 (shl .u32 ((wrap64 ((wrap64 (x11 + x170001)) + x170000)) % 4294967296) x170000) ((IntKind.u64.wrap (x12 - (shl .u64 1 x170000))) % 4294967296))).bind fun t175 => (some t175))))) else (none)
end
def impl_format_round.f (k : Nat) (a0_0 : Int) (a0_1 : Int) (a1 : Bool) (a2 : Int) (a3 : Int) (a4 : Bool) : Option (Int) := if a2 = 0 then ((impl_format_signed.f a0_0 a0_1 a1 0).bind fun t170 => (some t170)) else ((bits_Len64.f a2).bind fun t171 => (if (wrap64 ((mx (wrap64 ((wrap64 ((wrap64 (t171 - 1)) + a3)) - a0_0)) (wrap64 ((wrap64 (1 - a0_1)) - a0_0))) - a3)) > 62 then (impl_format_round.j0 k a1 (mx (wrap64 ((wrap64 ((wrap64 (t171 - 1)) + a3)) - a0_0)) (wrap64 ((wrap64 (1 - a0_1)) - a0_0))) 0 a0_0 a0_1) else (if (wrap64 ((mx (wrap64 ((wrap64 ((wrap64 (t171 - 1)) + a3)) - a0_0)) (wrap64 ((wrap64 (1 - a0_1)) - a0_0))) - a3)) > 0 then (if 0 ≤ (wrap64 ((wrap64 ((mx (wrap64 ((wrap64 ((wrap64 (t171 - 1)) + a3)) - a0_0)) (wrap64 ((wrap64 (1 - a0_1)) - a0_0))) - a3)) - 1)) then (if 0 ≤ (wrap64 ((mx (wrap64 ((wrap64 ((wrap64 (t171 - 1)) + a3)) - a0_0)) (wrap64 ((wrap64 (1 - a0_1)) - a0_0))) - a3)) then (if (Go.bits .and .u64 a2 (IntKind.u64.wrap ((IntKind.u64.wrap (2 * (shl .u64 1 (wrap64 ((wrap64 ((mx (wrap64 ((wrap64 ((wrap64 (t171 - 1)) + a3)) - a0_0)) (wrap64 ((wrap64 (1 - a0_1)) - a0_0))) - a3)) - 1))))) - 1))) > (shl .u64 1 (wrap64 ((wrap64 ((mx (wrap64 ((wrap64 ((wrap64 (t171 - 1)) + a3)) - a0_0)) (wrap64 ((wrap64 (1 - a0_1)) - a0_0))) - a3)) - 1))) then (impl_format_round.j0 k a1 (mx (wrap64 ((wrap64 ((wrap64 (t171 - 1)) + a3)) - a0_0)) (wrap64 ((wrap64 (1 - a0_1)) - a0_0))) (IntKind.u64.wrap ((shr .u64 a2 (wrap64 ((mx (wrap64 ((wrap64 ((wrap64 (t171 - 1)) + a3)) - a0_0)) (wrap64 ((wrap64 (1 - a0_1)) - a0_0))) - a3))) + 1)) a0_0 a0_1) else (if (Go.bits .and .u64 a2 (IntKind.u64.wrap ((IntKind.u64.wrap (2 * (shl .u64 1 (wrap64 ((wrap64 ((mx (wrap64 ((wrap64 ((wrap64 (t171 - 1)) + a3)) - a0_0)) (wrap64 ((wrap64 (1 - a0_1)) - a0_0))) - a3)) - 1))))) - 1))) = (shl .u64 1 (wrap64 ((wrap64 ((mx (wrap64 ((wrap64 ((wrap64 (t171 - 1)) + a3)) - a0_0)) (wrap64 ((wrap64 (1 - a0_1)) - a0_0))) - a3)) - 1))) then (if a4 = true then (impl_format_round.j0 k a1 (mx (wrap64 ((wrap64 ((wrap64 (t171 - 1)) + a3)) - a0_0)) (wrap64 ((wrap64 (1 - a0_1)) - a0_0))) (IntKind.u64.wrap ((shr .u64 a2 (wrap64 ((mx (wrap64 ((wrap64 ((wrap64 (t171 - 1)) + a3)) - a0_0)) (wrap64 ((wrap64 (1 - a0_1)) - a0_0))) - a3))) + 1)) a0_0 a0_1) else (if (Go.bits .and .u64 (shr .u64 a2 (wrap64 ((mx (wrap64 ((wrap64 ((wrap64 (t171 - 1)) + a3)) - a0_0)) (wrap64 ((wrap64 (1 - a0_1)) - a0_0))) - a3))) 1) = 1 then (impl_format_round.j0 k a1 (mx (wrap64 ((wrap64 ((wrap64 (t171 - 1)) + a3)) - a0_0)) (wrap64 ((wrap64 (1 - a0_1)) - a0_0))) (IntKind.u64.wrap ((shr .u64 a2 (wrap64 ((mx (wrap64 ((wrap64 ((wrap64 (t171 - 1)) + a3)) - a0_0)) (wrap64 ((wrap64 (1 - a0_1)) - a0_0))) - a3))) + 1)) a0_0 a0_1) else (impl_format_round.j0 k a1 (mx (wrap64 ((wrap64 ((wrap64 (t171 - 1)) + a3)) - a0_0)) (wrap64 ((wrap64 (1 - a0_1)) - a0_0))) (shr .u64 a2 (wrap64 ((mx (wrap64 ((wrap64 ((wrap64 (t171 - 1)) + a3)) - a0_0)) (wrap64 ((wrap64 (1 - a0_1)) - a0_0))) - a3))) a0_0 a0_1))) else (impl_format_round.j0 k a1 (mx (wrap64 ((wrap64 ((wrap64 (t171 - 1)) + a3)) - a0_0)) (wrap64 ((wrap64 (1 - a0_1)) - a0_0))) (shr .u64 a2 (wrap64 ((mx (wrap64 ((wrap64 ((wrap64 (t171 - 1)) + a3)) - a0_0)) (wrap64 ((wrap64 (1 - a0_1)) - a0_0))) - a3))) a0_0 a0_1))) else (none)) else (none)) else (if 0 ≤ (wrap64 (-(wrap64 ((mx (wrap64 ((wrap64 ((wrap64 (t171 - 1)) + a3)) - a0_0)) (wrap64 ((wrap64 (1 - a0_1)) - a0_0))) - a3)))) then (impl_format_round.j0 k a1 (mx (wrap64 ((wrap64 ((wrap64 (t171 - 1)) + a3)) - a0_0)) (wrap64 ((wrap64 (1 - a0_1)) - a0_0))) (shl .u64 a2 (wrap64 (-(wrap64 ((mx (wrap64 ((wrap64 ((wrap64 (t171 - 1)) + a3)) - a0_0)) (wrap64 ((wrap64 (1 - a0_1)) - a0_0))) - a3))))) a0_0 a0_1) else (none)))))
theorem impl_format_round.mono_l : ∀ k, (∀ y0 y1 y2 y3 y4, LeO (impl_format_round.j0 k y0 y1 y2 y3 y4) (impl_format_round.j0 (k + 1) y0 y1 y2 y3 y4)) ∧ (∀ y0 y1 y2 y3 y4, LeO (impl_format_round.j1 k y0 y1 y2 y3 y4) (impl_format_round.j1 (k + 1) y0 y1 y2 y3 y4))
 | 0 => ⟨fun _ _ _ _ _ r h => by simp [impl_format_round.j0] at h, fun _ _ _ _ _ r h => by simp [impl_format_round.j1] at h⟩
 | k + 1 => by
  obtain ⟨ih0, ih1⟩ := impl_format_round.mono_l k
  refine ⟨?_, ?_⟩
  ·
   intro y0 y1 y2 y3 y4
   unfold impl_format_round.j0
   repeat' first
   | (with_reducible exact ih0 _ _ _ _ _)
   | (with_reducible exact ih1 _ _ _ _ _)
   | (with_reducible exact LeO.refl _)
   | (with_reducible exact LeO.none _)
   | (with_reducible refine LeO.ite ?_ ?_)
   | (with_reducible refine LeO.bind ?_ (fun _ => ?_))
   | exact ih0 _ _ _ _ _
   | exact ih1 _ _ _ _ _
   | exact LeO.none _
   | refine LeO.ite ?_ ?_
   | refine LeO.bind ?_ (fun _ => ?_)
  ·
   intro y0 y1 y2 y3 y4
   unfold impl_format_round.j1
   repeat' first
   | (with_reducible exact ih0 _ _ _ _ _)
   | (with_reducible exact ih1 _ _ _ _ _)
   | (with_reducible exact LeO.refl _)
   | (with_reducible exact LeO.none _)
   | (with_reducible refine LeO.ite ?_ ?_)
   | (with_reducible refine LeO.bind ?_ (fun _ => ?_))
   | exact ih0 _ _ _ _ _
   | exact ih1 _ _ _ _ _
   | exact LeO.none _
   | refine LeO.ite ?_ ?_
   | refine LeO.bind ?_ (fun _ => ?_)
theorem impl_format_round.mono : ∀ a0 a1 a2 a3 a4 a5 k, LeO (impl_format_round.f k a0 a1 a2 a3 a4 a5) (impl_format_round.f (k + 1) a0 a1 a2 a3 a4 a5) := by
 intro a0 a1 a2 a3 a4 a5 k
 obtain ⟨ih0, ih1⟩ := impl_format_round.mono_l k
 unfold impl_format_round.f
 repeat' first
   | (with_reducible exact ih0 _ _ _ _ _)
   | (with_reducible exact ih1 _ _ _ _ _)
   | (with_reducible exact LeO.refl _)
   | (with_reducible exact LeO.none _)
   | (with_reducible refine LeO.ite ?_ ?_)
   | (with_reducible refine LeO.bind ?_ (fun _ => ?_))
   | exact ih0 _ _ _ _ _
   | exact ih1 _ _ _ _ _
   | exact LeO.none _
   | refine LeO.ite ?_ ?_
   | refine LeO.bind ?_ (fun _ => ?_)
def impl_format_round.T3 : Bool × List (List Nat × List Nat) := (true, [([], []), ([0], [0]), ([1], [1]), ([], []), ([2, 3], [2, 3]), ([], []), ([5], [5]), ([4, 6], [4, 6]), ([], []), ([8], [8]), ([9], [9]), ([], []), ([11], [11]), ([10, 12], [10, 12]), ([7, 13], [7, 13]), ([14, 1, 0, 1, 2, 3, 4, 5, 6, 7, 8, 9, 10, 11, 12, 13, 14], [14])])
def impl_format_round.B3 : List Nat := [0, 1, 3, 0, 15, 0, 32, 127, 0, 256, 768, 0, 2048, 7936, 16383, 32767]
theorem impl_format_round.tab3 : rtab .any (opsOf Try.f55 3) = impl_format_round.T3 := by kernel_rfl
theorem impl_format_round.bits3 : waitsOk impl_format_round.T3.2 impl_format_round.B3 = true := by kernel_rfl
def impl_format_round.T22 : Bool × List (List Nat × List Nat) := (true, [([], []), ([], []), ([], []), ([2], [2]), ([], []), ([4], [4]), ([3, 5], [3, 5]), ([], []), ([], []), ([8], [8]), ([9], [9]), ([7, 10], [7, 10]), ([11], [11]), ([6, 12], [6, 12]), ([0, 1, 13], [0, 1, 13]), ([14, 14, 0, 1, 2, 3, 4, 5, 6, 7, 8, 9, 10, 11, 12, 13, 14], [14])])
def impl_format_round.B22 : List Nat := [0, 0, 0, 4, 0, 16, 60, 0, 0, 256, 768, 1920, 3968, 8188, 16383, 32767]
theorem impl_format_round.tab22 : rtab .any (opsOf Try.f55 22) = impl_format_round.T22 := by kernel_rfl
theorem impl_format_round.bits22 : waitsOk impl_format_round.T22.2 impl_format_round.B22 = true := by kernel_rfl
set_option maxHeartbeats 8000000 in
set_option maxRecDepth 100000 in
theorem impl_format_round.calls (k : Nat) (a0_0 : Int) (a0_1 : Int) (a1 : Bool) (a2 : Int) (a3 : Int) (a4 : Bool) (r : Int) (w : World) (h : impl_format_round.f k a0_0 a0_1 a1 a2 a3 a4 = some r) :
  Calls Try.prog 55 #[.agg #[.int .i64 a0_0, .int .i64 a0_1], .bool a1, .int .u64 a2, .int .i64 a3, .bool a4] w fun e w' => e = .returned (.int .u32 r) ∧ Below w.heap.size w w' := by
 have hu62 := Try.underlying62
 have HB := Aside0.mk (Below.refl w.heap.size w)
 have H : (if a2 = 0 then ((impl_format_signed.f a0_0 a0_1 a1 0).bind fun t170 => (some t170)) else ((bits_Len64.f a2).bind fun t171 => (if (wrap64 ((mx (wrap64 ((wrap64 ((wrap64 (t171 - 1)) + a3)) - a0_0)) (wrap64 ((wrap64 (1 - a0_1)) - a0_0))) - a3)) > 62 then (impl_format_round.j0 k a1 (mx (wrap64 ((wrap64 ((wrap64 (t171 - 1)) + a3)) - a0_0)) (wrap64 ((wrap64 (1 - a0_1)) - a0_0))) 0 a0_0 a0_1) else (if (wrap64 ((mx (wrap64 ((wrap64 ((wrap64 (t171 - 1)) + a3)) - a0_0)) (wrap64 ((wrap64 (1 - a0_1)) - a0_0))) - a3)) > 0 then (if 0 ≤ (wrap64 ((wrap64 ((mx (wrap64 ((wrap64 ((wrap64 (t171 - 1)) + a3)) - a0_0)) (wrap64 ((wrap64 (1 - a0_1)) - a0_0))) - a3)) - 1)) then (if 0 ≤ (wrap64 ((mx (wrap64 ((wrap64 ((wrap64 (t171 - 1)) + a3)) - a0_0)) (wrap64 ((wrap64 (1 - a0_1)) - a0_0))) - a3)) then (if (Go.bits .and .u64 a2 (IntKind.u64.wrap ((IntKind.u64.wrap (2 * (shl .u64 1 (wrap64 ((wrap64 ((mx (wrap64 ((wrap64 ((wrap64 (t171 - 1)) + a3)) - a0_0)) (wrap64 ((wrap64 (1 - a0_1)) - a0_0))) - a3)) - 1))))) - 1))) > (shl .u64 1 (wrap64 ((wrap64 ((mx (wrap64 ((wrap64 ((wrap64 (t171 - 1)) + a3)) - a0_0)) (wrap64 ((wrap64 (1 - a0_1)) - a0_0))) - a3)) - 1))) then (impl_format_round.j0 k a1 (mx (wrap64 ((wrap64 ((wrap64 (t171 - 1)) + a3)) - a0_0)) (wrap64 ((wrap64 (1 - a0_1)) - a0_0))) (IntKind.u64.wrap ((shr .u64 a2 (wrap64 ((mx (wrap64 ((wrap64 ((wrap64 (t171 - 1)) + a3)) - a0_0)) (wrap64 ((wrap64 (1 - a0_1)) - a0_0))) - a3))) + 1)) a0_0 a0_1) else (if (Go.bits .and .u64 a2 (IntKind.u64.wrap ((IntKind.u64.wrap (2 * (shl .u64 1 (wrap64 ((wrap64 ((mx (wrap64 ((wrap64 ((wrap64 (t171 - 1)) + a3)) - a0_0)) (wrap64 ((wrap64 (1 - a0_1)) - a0_0))) - a3)) - 1))))) - 1))) = (shl .u64 1 (wrap64 ((wrap64 ((mx (wrap64 ((wrap64 ((wrap64 (t171 - 1)) + a3)) - a0_0)) (wrap64 ((wrap64 (1 - a0_1)) - a0_0))) - a3)) - 1))) then (if a4 = true then (impl_format_round.j0 k a1 (mx (wrap64 ((wrap64 ((wrap64 (t171 - 1)) + a3)) - a0_0)) (wrap64 ((wrap64 (1 - a0_1)) - a0_0))) (IntKind.u64.wrap ((shr .u64 a2 (wrap64 ((mx (wrap64 ((wrap64 ((wrap64 (t171 - 1)) + a3)) - a0_0)) (wrap64 ((wrap64 (1 - a0_1)) - a0_0))) - a3))) + 1)) a0_0 a0_1) else (if (Go.bits .and .u64 (shr .u64 a2 (wrap64 ((mx (wrap64 ((wrap64 ((wrap64 (t171 - 1)) + a3)) - a0_0)) (wrap64 ((wrap64 (1 - a0_1)) - a0_0))) - a3))) 1) = 1 then (impl_format_round.j0 k a1 (mx (wrap64 ((wrap64 ((wrap64 (t171 - 1)) + a3)) - a0_0)) (wrap64 ((wrap64 (1 - a0_1)) - a0_0))) (IntKind.u64.wrap ((shr .u64 a2 (wrap64 ((mx (wrap64 ((wrap64 ((wrap64 (t171 - 1)) + a3)) - a0_0)) (wrap64 ((wrap64 (1 - a0_1)) - a0_0))) - a3))) + 1)) a0_0 a0_1) else (impl_format_round.j0 k a1 (mx (wrap64 ((wrap64 ((wrap64 (t171 - 1)) + a3)) - a0_0)) (wrap64 ((wrap64 (1 - a0_1)) - a0_0))) (shr .u64 a2 (wrap64 ((mx (wrap64 ((wrap64 ((wrap64 (t171 - 1)) + a3)) - a0_0)) (wrap64 ((wrap64 (1 - a0_1)) - a0_0))) - a3))) a0_0 a0_1))) else (impl_format_round.j0 k a1 (mx (wrap64 ((wrap64 ((wrap64 (t171 - 1)) + a3)) - a0_0)) (wrap64 ((wrap64 (1 - a0_1)) - a0_0))) (shr .u64 a2 (wrap64 ((mx (wrap64 ((wrap64 ((wrap64 (t171 - 1)) + a3)) - a0_0)) (wrap64 ((wrap64 (1 - a0_1)) - a0_0))) - a3))) a0_0 a0_1))) else (none)) else (none)) else (if 0 ≤ (wrap64 (-(wrap64 ((mx (wrap64 ((wrap64 ((wrap64 (t171 - 1)) + a3)) - a0_0)) (wrap64 ((wrap64 (1 - a0_1)) - a0_0))) - a3)))) then (impl_format_round.j0 k a1 (mx (wrap64 ((wrap64 ((wrap64 (t171 - 1)) + a3)) - a0_0)) (wrap64 ((wrap64 (1 - a0_1)) - a0_0))) (shl .u64 a2 (wrap64 (-(wrap64 ((mx (wrap64 ((wrap64 ((wrap64 (t171 - 1)) + a3)) - a0_0)) (wrap64 ((wrap64 (1 - a0_1)) - a0_0))) - a3))))) a0_0 a0_1) else (none)))))) = some r := h
 clear h
 by_cases c6 : a2 = 0
 ·
  rw [if_pos c6] at H
  have c6b0 : (a2 == 0) = true := beq_iff_eq.mpr c6
  have c6b1 : (a2 != 0) = false := bne_eq_false_iff_eq.mpr c6
  clear c6
  replace H := Option.bind_eq_some_iff.mp H
  obtain ⟨t170, A70, H⟩ := H
  replace H : (some t170) = some r := H
  have A7 := Aside0.mk A70
  clear A70
  obtain rfl := Option.some.inj H
  simp only [Option.some.injEq, Prod.mk.injEq] at H
  obtain ⟨rfl⟩ := H
  go_enter Try.func55, Try.ntmps55
  go_wp2_with (first | ((with_reducible refine gate_dst (N := 5) rfl ?_); refine box_event ?hg (N := 5) ?hd (cs := #[.int .i64 a0_0, .int .i64 a0_1]) (t := 62) ?hr ?_; (case hd => rfl); (case hg => rfl); (case hr => first | (go_simp; done) | (go_simp; rfl)); intro gb169 hg w8 hbox hb; have n0_ := Aside0.mk (below_step (bw HB.out) hb); have n1_ := Aside0.mk (hbox); have n2_ := Aside0.mk ((by rw [hg]; exact (below_size (bw HB.out)) : w.heap.size ≤ gb169)); have n3_ := Aside0.mk ((by rw [hg]; exact (below_size (bw HB.out)) : w.heap.size ≤ gb169)); clear HB; have HB := n0_; have BK169 := n1_; have GW169 := n2_; have GE169 := n3_; clear n0_ n1_ n2_ n3_; clear hb hbox hg; have hcz9_0 : w8.cell? ⟨gb169, 0, none⟩ = some (.int .i64 a0_0) := (blk_cell BK169.out 0).trans rfl; have hcz9_1 : w8.cell? ⟨gb169, 1, none⟩ = some (.int .i64 a0_1) := (blk_cell BK169.out 1).trans rfl; have hfz9_0 := blk_frozen BK169.out 0; have hfz9_1 := blk_frozen BK169.out 1) | ((with_reducible refine gate_callee (f := 58) rfl ?_); refine goesL_ (some 21) rfl rfl Try.func58 (by kernel_rfl) rfl #[.agg #[.int .i64 a0_0, .int .i64 a0_1], .bool a1, .int .u32 0] rfl ar ?_; (with_reducible refine (impl_format_signed.calls a0_0 a0_1 a1 0 t170 _ A7.out).mono ?_); rintro e w10 ⟨rfl, hb⟩; refine ⟨_, rfl, ?_⟩; have n0_ := Aside0.mk (blk_below (g := gb169) (o := .cells #[.int .i64 a0_0, .int .i64 a0_1] 62 (0, 0)) (bk BK169.out) hb); have n1_ := Aside0.mk (below_step (bw HB.out) hb); clear BK169; clear HB; have BK169 := n0_; have HB := n1_; clear n0_ n1_; (try clear hb)))
  go_ret
  exact ⟨by first | rfl | (simp [errW_none, errW_some] <;> rfl) | (simp [*, errW_none, errW_some] <;> rfl), bw HB.out⟩
 ·
  rw [if_neg c6] at H
  have c6b0 : (a2 == 0) = false := beq_eq_false_iff_ne.mpr c6
  have c6b1 : (a2 != 0) = true := bne_iff_ne.mpr c6
  replace H := Option.bind_eq_some_iff.mp H
  obtain ⟨t171, A110, H⟩ := H
  replace H : (if (wrap64 ((mx (wrap64 ((wrap64 ((wrap64 (t171 - 1)) + a3)) - a0_0)) (wrap64 ((wrap64 (1 - a0_1)) - a0_0))) - a3)) > 62 then (impl_format_round.j0 k a1 (mx (wrap64 ((wrap64 ((wrap64 (t171 - 1)) + a3)) - a0_0)) (wrap64 ((wrap64 (1 - a0_1)) - a0_0))) 0 a0_0 a0_1) else (if (wrap64 ((mx (wrap64 ((wrap64 ((wrap64 (t171 - 1)) + a3)) - a0_0)) (wrap64 ((wrap64 (1 - a0_1)) - a0_0))) - a3)) > 0 then (if 0 ≤ (wrap64 ((wrap64 ((mx (wrap64 ((wrap64 ((wrap64 (t171 - 1)) + a3)) - a0_0)) (wrap64 ((wrap64 (1 - a0_1)) - a0_0))) - a3)) - 1)) then (if 0 ≤ (wrap64 ((mx (wrap64 ((wrap64 ((wrap64 (t171 - 1)) + a3)) - a0_0)) (wrap64 ((wrap64 (1 - a0_1)) - a0_0))) - a3)) then (if (Go.bits .and .u64 a2 (IntKind.u64.wrap ((IntKind.u64.wrap (2 * (shl .u64 1 (wrap64 ((wrap64 ((mx (wrap64 ((wrap64 ((wrap64 (t171 - 1)) + a3)) - a0_0)) (wrap64 ((wrap64 (1 - a0_1)) - a0_0))) - a3)) - 1))))) - 1))) > (shl .u64 1 (wrap64 ((wrap64 ((mx (wrap64 ((wrap64 ((wrap64 (t171 - 1)) + a3)) - a0_0)) (wrap64 ((wrap64 (1 - a0_1)) - a0_0))) - a3)) - 1))) then (impl_format_round.j0 k a1 (mx (wrap64 ((wrap64 ((wrap64 (t171 - 1)) + a3)) - a0_0)) (wrap64 ((wrap64 (1 - a0_1)) - a0_0))) (IntKind.u64.wrap ((shr .u64 a2 (wrap64 ((mx (wrap64 ((wrap64 ((wrap64 (t171 - 1)) + a3)) - a0_0)) (wrap64 ((wrap64 (1 - a0_1)) - a0_0))) - a3))) + 1)) a0_0 a0_1) else (if (Go.bits .and .u64 a2 (IntKind.u64.wrap ((IntKind.u64.wrap (2 * (shl .u64 1 (wrap64 ((wrap64 ((mx (wrap64 ((wrap64 ((wrap64 (t171 - 1)) + a3)) - a0_0)) (wrap64 ((wrap64 (1 - a0_1)) - a0_0))) - a3)) - 1))))) - 1))) = (shl .u64 1 (wrap64 ((wrap64 ((mx (wrap64 ((wrap64 ((wrap64 (t171 - 1)) + a3)) - a0_0)) (wrap64 ((wrap64 (1 - a0_1)) - a0_0))) - a3)) - 1))) then (if a4 = true then (impl_format_round.j0 k a1 (mx (wrap64 ((wrap64 ((wrap64 (t171 - 1)) + a3)) - a0_0)) (wrap64 ((wrap64 (1 - a0_1)) - a0_0))) (IntKind.u64.wrap ((shr .u64 a2 (wrap64 ((mx (wrap64 ((wrap64 ((wrap64 (t171 - 1)) + a3)) - a0_0)) (wrap64 ((wrap64 (1 - a0_1)) - a0_0))) - a3))) + 1)) a0_0 a0_1) else (if (Go.bits .and .u64 (shr .u64 a2 (wrap64 ((mx (wrap64 ((wrap64 ((wrap64 (t171 - 1)) + a3)) - a0_0)) (wrap64 ((wrap64 (1 - a0_1)) - a0_0))) - a3))) 1) = 1 then (impl_format_round.j0 k a1 (mx (wrap64 ((wrap64 ((wrap64 (t171 - 1)) + a3)) - a0_0)) (wrap64 ((wrap64 (1 - a0_1)) - a0_0))) (IntKind.u64.wrap ((shr .u64 a2 (wrap64 ((mx (wrap64 ((wrap64 ((wrap64 (t171 - 1)) + a3)) - a0_0)) (wrap64 ((wrap64 (1 - a0_1)) - a0_0))) - a3))) + 1)) a0_0 a0_1) else (impl_format_round.j0 k a1 (mx (wrap64 ((wrap64 ((wrap64 (t171 - 1)) + a3)) - a0_0)) (wrap64 ((wrap64 (1 - a0_1)) - a0_0))) (shr .u64 a2 (wrap64 ((mx (wrap64 ((wrap64 ((wrap64 (t171 - 1)) + a3)) - a0_0)) (wrap64 ((wrap64 (1 - a0_1)) - a0_0))) - a3))) a0_0 a0_1))) else (impl_format_round.j0 k a1 (mx (wrap64 ((wrap64 ((wrap64 (t171 - 1)) + a3)) - a0_0)) (wrap64 ((wrap64 (1 - a0_1)) - a0_0))) (shr .u64 a2 (wrap64 ((mx (wrap64 ((wrap64 ((wrap64 (t171 - 1)) + a3)) - a0_0)) (wrap64 ((wrap64 (1 - a0_1)) - a0_0))) - a3))) a0_0 a0_1))) else (none)) else (none)) else (if 0 ≤ (wrap64 (-(wrap64 ((mx (wrap64 ((wrap64 ((wrap64 (t171 - 1)) + a3)) - a0_0)) (wrap64 ((wrap64 (1 - a0_1)) - a0_0))) - a3)))) then (impl_format_round.j0 k a1 (mx (wrap64 ((wrap64 ((wrap64 (t171 - 1)) + a3)) - a0_0)) (wrap64 ((wrap64 (1 - a0_1)) - a0_0))) (shl .u64 a2 (wrap64 (-(wrap64 ((mx (wrap64 ((wrap64 ((wrap64 (t171 - 1)) + a3)) - a0_0)) (wrap64 ((wrap64 (1 - a0_1)) - a0_0))) - a3))))) a0_0 a0_1) else (none)))) = some r := H
  have A11 := Aside0.mk A110
  clear A110
  obtain ⟨ji12, hji12⟩ : ∃ j_ : Int, (mx (wrap64 ((wrap64 ((wrap64 (t171 - 1)) + a3)) - a0_0)) (wrap64 ((wrap64 (1 - a0_1)) - a0_0))) = j_ := ⟨_, rfl⟩
  replace H : (if (wrap64 ((ji12) - a3)) > 62 then (impl_format_round.j0 k a1 ji12 0 a0_0 a0_1) else (if (wrap64 ((ji12) - a3)) > 0 then (if 0 ≤ (wrap64 ((wrap64 ((ji12) - a3)) - 1)) then (if 0 ≤ (wrap64 ((ji12) - a3)) then (if (Go.bits .and .u64 a2 (IntKind.u64.wrap ((IntKind.u64.wrap (2 * (shl .u64 1 (wrap64 ((wrap64 ((ji12) - a3)) - 1))))) - 1))) > (shl .u64 1 (wrap64 ((wrap64 ((ji12) - a3)) - 1))) then (impl_format_round.j0 k a1 ji12 (IntKind.u64.wrap ((shr .u64 a2 (wrap64 ((ji12) - a3))) + 1)) a0_0 a0_1) else (if (Go.bits .and .u64 a2 (IntKind.u64.wrap ((IntKind.u64.wrap (2 * (shl .u64 1 (wrap64 ((wrap64 ((ji12) - a3)) - 1))))) - 1))) = (shl .u64 1 (wrap64 ((wrap64 ((ji12) - a3)) - 1))) then (if a4 = true then (impl_format_round.j0 k a1 ji12 (IntKind.u64.wrap ((shr .u64 a2 (wrap64 ((ji12) - a3))) + 1)) a0_0 a0_1) else (if (Go.bits .and .u64 (shr .u64 a2 (wrap64 ((ji12) - a3))) 1) = 1 then (impl_format_round.j0 k a1 ji12 (IntKind.u64.wrap ((shr .u64 a2 (wrap64 ((ji12) - a3))) + 1)) a0_0 a0_1) else (impl_format_round.j0 k a1 ji12 (shr .u64 a2 (wrap64 ((ji12) - a3))) a0_0 a0_1))) else (impl_format_round.j0 k a1 ji12 (shr .u64 a2 (wrap64 ((ji12) - a3))) a0_0 a0_1))) else (none)) else (none)) else (if 0 ≤ (wrap64 (-(wrap64 ((ji12) - a3)))) then (impl_format_round.j0 k a1 ji12 (shl .u64 a2 (wrap64 (-(wrap64 ((ji12) - a3))))) a0_0 a0_1) else (none)))) = some r := by first | (rw [hji12] at H; exact H) | (simp only [hji12] at H ⊢; exact H)
  (try rw [hji12] at A11)
  have hji12_ : (if (wrap64 ((wrap64 ((wrap64 (t171 - 1)) + a3)) - a0_0)) < (wrap64 ((wrap64 (1 - a0_1)) - a0_0)) then (wrap64 ((wrap64 (1 - a0_1)) - a0_0)) else (wrap64 ((wrap64 ((wrap64 (t171 - 1)) + a3)) - a0_0))) = ji12 := hji12
  have HC13 := Aside0.mk H
  clear H
  go_enter Try.func55, Try.ntmps55
  try go_wp2_with (first | ((with_reducible refine gate_dst (N := 5) rfl ?_); refine box_event ?hg (N := 5) ?hd (cs := #[.int .i64 a0_0, .int .i64 a0_1]) (t := 62) ?hr ?_; (case hd => rfl); (case hg => rfl); (case hr => first | (go_simp; done) | (go_simp; rfl)); intro gb169 hg w14 hbox hb; have n0_ := Aside0.mk (below_step (bw HB.out) hb); have n1_ := Aside0.mk (hbox); have n2_ := Aside0.mk ((by rw [hg]; exact (below_size (bw HB.out)) : w.heap.size ≤ gb169)); have n3_ := Aside0.mk ((by rw [hg]; exact (below_size (bw HB.out)) : w.heap.size ≤ gb169)); clear HB; have HB := n0_; have BK169 := n1_; have GW169 := n2_; have GE169 := n3_; clear n0_ n1_ n2_ n3_; clear hb hbox hg))
  have n0_ := Aside0.mk (blk_drew BK169.out)
  have n1_ := Aside0.mk (below_drew1 HB.out)
  clear BK169
  clear HB
  have BK169 := n0_
  have HB := n1_
  clear n0_ n1_
  refine start_ (n := 16) (S := fun w' => w'.cell? ⟨gb169, 0, none⟩ = some (.int .i64 a0_0) ∧ w'.cell? ⟨gb169, 1, none⟩ = some (.int .i64 a0_1)) (ds := []) #[false, false, false, false, false, false, false, false, false, false, false, false, false, false, false, false] (by kernel_rfl) rfl rfl ⟨(blk_cell BK169.out 0).trans rfl, (blk_cell BK169.out 1).trans rfl⟩ (fun hHeld => ?_); refine with_tabW impl_format_round.tab3 impl_format_round.bits3 (fun HT_ HW_ => ?_)
  generalize w14.drew = w15 at BK169 HB hHeld ⊢
  refine pure_ (i := 0) (N := some 22) (v := ?_) (a' := ?_) #[true, false, false, false, false, false, false, false, false, false, false, false, false, false, false, false] rfl rfl (any_of HT_.out (by kernel_rfl)) (fun _ _ _ h => h) (Or.inl ⟨by rfl, ?_⟩) ?_ ?_
  rotate_left
  ·
   intro w'
   go_simp
   with_reducible rfl
  rotate_left
  ·
   simp only [Act.put, List.setIfInBounds_toArray, List.set_cons_zero, List.set_cons_succ, i64_w, i32_w]
   rfl
  refine pure_ (i := 3) (N := some 25) (v := ?_) (a' := ?_) #[true, false, false, true, false, false, false, false, false, false, false, false, false, false, false, false] rfl rfl (any_of HT_.out (by kernel_rfl)) (fun _ _ _ h => h) (Or.inl ⟨by rfl, ?_⟩) ?_ ?_
  rotate_left
  ·
   intro w'
   go_simp
   with_reducible rfl
  rotate_left
  ·
   simp only [Act.put, List.setIfInBounds_toArray, List.set_cons_zero, List.set_cons_succ, i64_w, i32_w]
   rfl
  refine pure_ (i := 5) (N := some 27) (v := ?_) (a' := ?_) #[true, false, false, true, false, true, false, false, false, false, false, false, false, false, false, false] rfl rfl (any_of HT_.out (by kernel_rfl)) (fun _ _ _ h => h) (Or.inl ⟨by rfl, ?_⟩) ?_ ?_
  rotate_left
  ·
   intro w'
   go_simp
   with_reducible rfl
  rotate_left
  ·
   simp only [Act.put, List.setIfInBounds_toArray, List.set_cons_zero, List.set_cons_succ, i64_w, i32_w]
   rfl
  refine pure_ (i := 8) (N := some 30) (v := ?_) (a' := ?_) #[true, false, false, true, false, true, false, false, true, false, false, false, false, false, false, false] rfl rfl (any_of HT_.out (by kernel_rfl)) (fun _ _ _ h => h) (Or.inl ⟨by rfl, ?_⟩) ?_ ?_
  rotate_left
  ·
   intro w'
   go_simp
   with_reducible rfl
  rotate_left
  ·
   simp only [Act.put, List.setIfInBounds_toArray, List.set_cons_zero, List.set_cons_succ, i64_w, i32_w]
   rfl
  refine pure_ (i := 11) (N := some 33) (v := ?_) (a' := ?_) #[true, false, false, true, false, true, false, false, true, false, false, true, false, false, false, false] rfl rfl (any_of HT_.out (by kernel_rfl)) (fun _ _ _ h => h) (Or.inl ⟨by rfl, ?_⟩) ?_ ?_
  rotate_left
  ·
   intro w'
   go_simp
   with_reducible rfl
  rotate_left
  ·
   simp only [Act.put, List.setIfInBounds_toArray, List.set_cons_zero, List.set_cons_succ, i64_w, i32_w]
   rfl
  refine take_ (i := 6) (N := some 28) (v := ?_) (a' := ?_) #[true, false, false, true, false, true, true, false, true, false, false, true, false, false, false, false] rfl rfl (take_ofW HT_.out HW_.out (by kernel_rfl)) (fun _ _ _ h => h) (Or.inl ⟨by rfl, ?_⟩) hHeld ?_ ?_
  rotate_left
  ·
   rintro w' ⟨s0, s1⟩
   go_simp
   with_reducible rfl
  rotate_left
  ·
   simp only [Act.put, List.setIfInBounds_toArray, List.set_cons_zero, List.set_cons_succ, i64_w, i32_w]
   rfl
  refine take_ (i := 9) (N := some 31) (v := ?_) (a' := ?_) #[true, false, false, true, false, true, true, false, true, true, false, true, false, false, false, false] rfl rfl (take_ofW HT_.out HW_.out (by kernel_rfl)) (fun _ _ _ h => h) (Or.inl ⟨by rfl, ?_⟩) hHeld ?_ ?_
  rotate_left
  ·
   rintro w' ⟨s0, s1⟩
   go_simp
   with_reducible rfl
  rotate_left
  ·
   simp only [Act.put, List.setIfInBounds_toArray, List.set_cons_zero, List.set_cons_succ, i64_w, i32_w]
   rfl
  refine pure_ (i := 10) (N := some 32) (v := ?_) (a' := ?_) #[true, false, false, true, false, true, true, false, true, true, true, true, false, false, false, false] rfl rfl (any_of HT_.out (by kernel_rfl)) (fun _ _ _ h => h) (Or.inl ⟨by rfl, ?_⟩) ?_ ?_
  rotate_left
  ·
   intro w'
   go_simp
   with_reducible rfl
  rotate_left
  ·
   simp only [Act.put, List.setIfInBounds_toArray, List.set_cons_zero, List.set_cons_succ, i64_w, i32_w]
   rfl
  refine take_ (i := 12) (N := some 34) (v := ?_) (a' := ?_) #[true, false, false, true, false, true, true, false, true, true, true, true, true, false, false, false] rfl rfl (take_ofW HT_.out HW_.out (by kernel_rfl)) (fun _ _ _ h => h) (Or.inl ⟨by rfl, ?_⟩) hHeld ?_ ?_
  rotate_left
  ·
   rintro w' ⟨s0, s1⟩
   go_simp
   with_reducible rfl
  rotate_left
  ·
   simp only [Act.put, List.setIfInBounds_toArray, List.set_cons_zero, List.set_cons_succ, i64_w, i32_w]
   rfl
  refine pure_ (i := 13) (N := some 35) (v := ?_) (a' := ?_) #[true, false, false, true, false, true, true, false, true, true, true, true, true, true, false, false] rfl rfl (any_of HT_.out (by kernel_rfl)) (fun _ _ _ h => h) (Or.inl ⟨by rfl, ?_⟩) ?_ ?_
  rotate_left
  ·
   intro w'
   go_simp
   with_reducible rfl
  rotate_left
  ·
   simp only [Act.put, List.setIfInBounds_toArray, List.set_cons_zero, List.set_cons_succ, i64_w, i32_w]
   rfl
  refine one_ (i := 1) (N := some 23) #[true, true, false, true, false, true, true, false, true, true, true, true, true, true, false, false] rfl rfl (one_of HT_.out (by kernel_rfl)) (by decide) (fun K hK => ?_)
  refine goes_ Try.func59 (by kernel_rfl) rfl #[.int .u64 a2] (by rfl) rfl rfl ar ?_
  with_reducible refine (bits_Len64.calls a2 t171 _ A11.out).mono ?_
  rintro e w' ⟨rfl, ⟨nd, rfl⟩⟩
  refine ⟨_, rfl, ?_⟩
  refine hK.out _ _ ⟨(blk_cell BK169.out 0).trans rfl, (blk_cell BK169.out 1).trans rfl⟩ (fun hHeld => ?_)
  clear hK K
  refine norm_ (a' := ?_) ?_ ?_
  rotate_left
  ·
   show Act.put _ (some 23) _ = _
   simp only [Act.put, List.setIfInBounds_toArray, List.set_cons_zero, List.set_cons_succ, i64_w, i32_w]
   rfl
  refine pure_ (i := 2) (N := some 24) (v := ?_) (a' := ?_) #[true, true, true, true, false, true, true, false, true, true, true, true, true, true, false, false] rfl rfl (any_of HT_.out (by kernel_rfl)) (fun _ _ _ h => h) (Or.inl ⟨by rfl, ?_⟩) ?_ ?_
  rotate_left
  ·
   intro w'
   go_simp
   with_reducible rfl
  rotate_left
  ·
   simp only [Act.put, List.setIfInBounds_toArray, List.set_cons_zero, List.set_cons_succ, i64_w, i32_w]
   rfl
  refine pure_ (i := 4) (N := some 26) (v := ?_) (a' := ?_) #[true, true, true, true, true, true, true, false, true, true, true, true, true, true, false, false] rfl rfl (any_of HT_.out (by kernel_rfl)) (fun _ _ _ h => h) (Or.inl ⟨by rfl, ?_⟩) ?_ ?_
  rotate_left
  ·
   intro w'
   go_simp
   with_reducible rfl
  rotate_left
  ·
   simp only [Act.put, List.setIfInBounds_toArray, List.set_cons_zero, List.set_cons_succ, i64_w, i32_w]
   rfl
  refine pure_ (i := 7) (N := some 29) (v := ?_) (a' := ?_) #[true, true, true, true, true, true, true, true, true, true, true, true, true, true, false, false] rfl rfl (any_of HT_.out (by kernel_rfl)) (fun _ _ _ h => h) (Or.inl ⟨by rfl, ?_⟩) ?_ ?_
  rotate_left
  ·
   intro w'
   go_simp
   with_reducible rfl
  rotate_left
  ·
   simp only [Act.put, List.setIfInBounds_toArray, List.set_cons_zero, List.set_cons_succ, i64_w, i32_w]
   rfl
  refine pure_ (i := 14) (N := some 36) (v := ?_) (a' := ?_) #[true, true, true, true, true, true, true, true, true, true, true, true, true, true, true, false] rfl rfl (any_of HT_.out (by kernel_rfl)) (fun _ _ _ h => h) (Or.inl ⟨by rfl, ?_⟩) ?_ ?_
  rotate_left
  ·
   intro w'
   go_simp
   with_reducible rfl
  rotate_left
  ·
   simp only [Act.put, List.setIfInBounds_toArray, List.set_cons_zero, List.set_cons_succ, i64_w, i32_w]
   rfl
  refine pure_ (i := 15) (N := some 11) (v := ?_) (a' := ?_) #[true, true, true, true, true, true, true, true, true, true, true, true, true, true, true, true] rfl rfl (any_of HT_.out (by kernel_rfl)) (fun _ _ _ h => h) (Or.inl ⟨by rfl, ?_⟩) ?_ ?_
  rotate_left
  ·
   intro w'
   go_simp
   with_reducible rfl
  rotate_left
  ·
   simp only [Act.put, List.setIfInBounds_toArray, List.set_cons_zero, List.set_cons_succ, i64_w, i32_w]
   rfl
  refine done_ (done_of HT_.out (by kernel_rfl)) ?_
  go_upto_if 42 with (fail)
  go_cut [12] (fun v12 wc => ∃ (kq : Nat) (x12_12 : Int), v12 = .int .u64 x12_12 ∧ Aside0 (impl_format_round.j0 kq a1 ji12 x12_12 a0_0 a0_1 = some r) ∧ Aside0 (kq ≤ k) ∧ Aside0 (wc.heap[gb169]? = some (.cells #[.int .i64 a0_0, .int .i64 a0_1] 62 (0, 0))) ∧ Aside0 (Below w.heap.size w wc))
  case first =>
   have H := HC13.out
   clear HC13
   by_cases c16 : (wrap64 ((ji12) - a3)) > 62
   ·
    rw [if_pos c16] at H
    have c16b0 : decide (62 < (wrap64 ((ji12) - a3))) = true := decide_eq_true c16
    clear c16
    (first | rw [c16b0] | (simp only [i64_w, i32_w]; rw [c16b0]) | skip)
    have H' := Aside0.mk H
    clear H
    go_wp2
    first | go_meet | ((simp only [← hji12]); go_meet)
    case rel => exact ⟨_, (0), (by first | rfl | (simp; done) | (simp [*]; done)), H', ⟨by first | omega | exact Nat.le_refl _⟩, ⟨bk BK169.out⟩, ⟨bw HB.out⟩⟩
   ·
    rw [if_neg c16] at H
    have c16b0 : decide (62 < (wrap64 ((ji12) - a3))) = false := decide_eq_false c16
    clear c16
    (first | rw [c16b0] | (simp only [i64_w, i32_w]; rw [c16b0]) | skip)
    by_cases c17 : (wrap64 ((ji12) - a3)) > 0
    ·
     rw [if_pos c17] at H
     have c17b0 : decide (0 < (wrap64 ((ji12) - a3))) = true := decide_eq_true c17
     clear c17
     obtain ⟨ji18, hji18⟩ : ∃ j_ : Int, (wrap64 ((wrap64 ((ji12) - a3)) - 1)) = j_ := ⟨_, rfl⟩
     replace H : (if 0 ≤ (ji18) then (if 0 ≤ (wrap64 ((ji12) - a3)) then (if (Go.bits .and .u64 a2 (IntKind.u64.wrap ((IntKind.u64.wrap (2 * (shl .u64 1 (ji18)))) - 1))) > (shl .u64 1 (ji18)) then (impl_format_round.j0 k a1 ji12 (IntKind.u64.wrap ((shr .u64 a2 (wrap64 ((ji12) - a3))) + 1)) a0_0 a0_1) else (if (Go.bits .and .u64 a2 (IntKind.u64.wrap ((IntKind.u64.wrap (2 * (shl .u64 1 (ji18)))) - 1))) = (shl .u64 1 (ji18)) then (if a4 = true then (impl_format_round.j0 k a1 ji12 (IntKind.u64.wrap ((shr .u64 a2 (wrap64 ((ji12) - a3))) + 1)) a0_0 a0_1) else (if (Go.bits .and .u64 (shr .u64 a2 (wrap64 ((ji12) - a3))) 1) = 1 then (impl_format_round.j0 k a1 ji12 (IntKind.u64.wrap ((shr .u64 a2 (wrap64 ((ji12) - a3))) + 1)) a0_0 a0_1) else (impl_format_round.j0 k a1 ji12 (shr .u64 a2 (wrap64 ((ji12) - a3))) a0_0 a0_1))) else (impl_format_round.j0 k a1 ji12 (shr .u64 a2 (wrap64 ((ji12) - a3))) a0_0 a0_1))) else (none)) else (none)) = some r := by first | (rw [hji18] at H; exact H) | (simp only [hji18] at H ⊢; exact H)
     have hji18w : (IntKind.i64.wrap ((wrap64 ((ji12) - a3)) - 1)) = ji18 := (i64_w _).trans hji18
     by_cases c19 : 0 ≤ (ji18)
     ·
      rw [if_pos c19] at H
      have c19b0 := eq_true c19
      have c19b1 : decide (0 ≤ (ji18)) = true := decide_eq_true c19
      clear c19
      obtain ⟨ji20, hji20⟩ : ∃ j_ : Int, (shl .u64 1 (ji18)) = j_ := ⟨_, rfl⟩
      replace H : (if 0 ≤ (wrap64 ((ji12) - a3)) then (if (Go.bits .and .u64 a2 (IntKind.u64.wrap ((IntKind.u64.wrap (2 * (ji20))) - 1))) > (ji20) then (impl_format_round.j0 k a1 ji12 (IntKind.u64.wrap ((shr .u64 a2 (wrap64 ((ji12) - a3))) + 1)) a0_0 a0_1) else (if (Go.bits .and .u64 a2 (IntKind.u64.wrap ((IntKind.u64.wrap (2 * (ji20))) - 1))) = (ji20) then (if a4 = true then (impl_format_round.j0 k a1 ji12 (IntKind.u64.wrap ((shr .u64 a2 (wrap64 ((ji12) - a3))) + 1)) a0_0 a0_1) else (if (Go.bits .and .u64 (shr .u64 a2 (wrap64 ((ji12) - a3))) 1) = 1 then (impl_format_round.j0 k a1 ji12 (IntKind.u64.wrap ((shr .u64 a2 (wrap64 ((ji12) - a3))) + 1)) a0_0 a0_1) else (impl_format_round.j0 k a1 ji12 (shr .u64 a2 (wrap64 ((ji12) - a3))) a0_0 a0_1))) else (impl_format_round.j0 k a1 ji12 (shr .u64 a2 (wrap64 ((ji12) - a3))) a0_0 a0_1))) else (none)) = some r := by first | (rw [hji20] at H; exact H) | (simp only [hji20] at H ⊢; exact H)
      have hji20_ : (IntKind.u64.wrap (1 * 2 ^ min (ji18).toNat 64)) = ji20 := hji20
      have hji20z : (ji18) ≤ 64 → (IntKind.u64.wrap (1 * 2 ^ (ji18).toNat)) = ji20 := shl_small hji20
      have hji20u : (IntKind.u64.wrap (2 ^ min (ji18).toNat 64)) = ji20 := by have h_ := hji20_; rw [Int.one_mul] at h_; exact h_
      have hji20v : (ji18) ≤ 64 → (IntKind.u64.wrap (2 ^ (ji18).toNat)) = ji20 := fun hle_ => by have h_ := hji20z hle_; rw [Int.one_mul] at h_; exact h_
      obtain ⟨ji21, hji21⟩ : ∃ j_ : Int, (wrap64 ((ji12) - a3)) = j_ := ⟨_, rfl⟩
      replace H : (if 0 ≤ (ji21) then (if (Go.bits .and .u64 a2 (IntKind.u64.wrap ((IntKind.u64.wrap (2 * (ji20))) - 1))) > (ji20) then (impl_format_round.j0 k a1 ji12 (IntKind.u64.wrap ((shr .u64 a2 (ji21)) + 1)) a0_0 a0_1) else (if (Go.bits .and .u64 a2 (IntKind.u64.wrap ((IntKind.u64.wrap (2 * (ji20))) - 1))) = (ji20) then (if a4 = true then (impl_format_round.j0 k a1 ji12 (IntKind.u64.wrap ((shr .u64 a2 (ji21)) + 1)) a0_0 a0_1) else (if (Go.bits .and .u64 (shr .u64 a2 (ji21)) 1) = 1 then (impl_format_round.j0 k a1 ji12 (IntKind.u64.wrap ((shr .u64 a2 (ji21)) + 1)) a0_0 a0_1) else (impl_format_round.j0 k a1 ji12 (shr .u64 a2 (ji21)) a0_0 a0_1))) else (impl_format_round.j0 k a1 ji12 (shr .u64 a2 (ji21)) a0_0 a0_1))) else (none)) = some r := by first | (rw [hji21] at H; exact H) | (simp only [hji21] at H ⊢; exact H)
      (try rw [hji21] at c16b0)
      (try rw [hji21] at c17b0)
      have hji21w : (IntKind.i64.wrap ((ji12) - a3)) = ji21 := (i64_w _).trans hji21
      (try rw [hji21] at hji18)
      (try rw [hji21] at hji18w)
      (try rw [hji21] at hji18_)
      (try rw [hji21] at hji18z)
      (try rw [hji21] at hji18u)
      (try rw [hji21] at hji18v)
      (try rw [hji21] at hji18y)
      (try rw [hji21] at hji18x)
      by_cases c22 : 0 ≤ (ji21)
      ·
       rw [if_pos c22] at H
       have c22b0 := eq_true c22
       have c22b1 : decide (0 ≤ (ji21)) = true := decide_eq_true c22
       clear c22
       obtain ⟨ji23, hji23⟩ : ∃ j_ : Int, (shr .u64 a2 (ji21)) = j_ := ⟨_, rfl⟩
       replace H : (if (Go.bits .and .u64 a2 (IntKind.u64.wrap ((IntKind.u64.wrap (2 * (ji20))) - 1))) > (ji20) then (impl_format_round.j0 k a1 ji12 (IntKind.u64.wrap ((ji23) + 1)) a0_0 a0_1) else (if (Go.bits .and .u64 a2 (IntKind.u64.wrap ((IntKind.u64.wrap (2 * (ji20))) - 1))) = (ji20) then (if a4 = true then (impl_format_round.j0 k a1 ji12 (IntKind.u64.wrap ((ji23) + 1)) a0_0 a0_1) else (if (Go.bits .and .u64 (ji23) 1) = 1 then (impl_format_round.j0 k a1 ji12 (IntKind.u64.wrap ((ji23) + 1)) a0_0 a0_1) else (impl_format_round.j0 k a1 ji12 ji23 a0_0 a0_1))) else (impl_format_round.j0 k a1 ji12 ji23 a0_0 a0_1))) = some r := by first | (rw [hji23] at H; exact H) | (simp only [hji23] at H ⊢; exact H)
       have hji23_ : (a2 / 2 ^ min (ji21).toNat 64) = ji23 := hji23
       have hji23z : (ji21) ≤ 64 → (a2 / 2 ^ (ji21).toNat) = ji23 := shr_small hji23
       by_cases c24 : (Go.bits .and .u64 a2 (IntKind.u64.wrap ((IntKind.u64.wrap (2 * (ji20))) - 1))) > (ji20)
       ·
        rw [if_pos c24] at H
        have c24b0 : decide ((ji20) < (Go.bits .and .u64 a2 (IntKind.u64.wrap ((IntKind.u64.wrap (2 * (ji20))) - 1)))) = true := decide_eq_true c24
        clear c24
        have H' := Aside0.mk H
        clear H
        go_wp2
        first | go_meet | ((simp only [← hji23]); go_meet) | ((simp only [← hji21]); go_meet) | ((simp only [← hji20]); go_meet) | ((simp only [← hji18]); go_meet) | ((simp only [← hji12]); go_meet) | ((simp only [← hji23, ← hji21, ← hji20, ← hji18, ← hji12]); go_meet)
        case rel => exact ⟨_, (IntKind.u64.wrap ((ji23) + 1)), (by first | rfl | (simp; done) | (simp only [← hji23] <;> (first | rfl | simp)) | (simp [*]; done)), H', ⟨by first | omega | exact Nat.le_refl _⟩, ⟨bk BK169.out⟩, ⟨bw HB.out⟩⟩
       ·
        rw [if_neg c24] at H
        have c24b0 : decide ((ji20) < (Go.bits .and .u64 a2 (IntKind.u64.wrap ((IntKind.u64.wrap (2 * (ji20))) - 1)))) = false := decide_eq_false c24
        clear c24
        by_cases c25 : (Go.bits .and .u64 a2 (IntKind.u64.wrap ((IntKind.u64.wrap (2 * (ji20))) - 1))) = (ji20)
        ·
         rw [if_pos c25] at H
         have c25b0 : ((Go.bits .and .u64 a2 (IntKind.u64.wrap ((IntKind.u64.wrap (2 * (ji20))) - 1))) == (ji20)) = true := beq_iff_eq.mpr c25
         have c25b1 : ((Go.bits .and .u64 a2 (IntKind.u64.wrap ((IntKind.u64.wrap (2 * (ji20))) - 1))) != (ji20)) = false := bne_eq_false_iff_eq.mpr c25
         clear c25
         by_cases c26 : a4 = true
         ·
          subst c26
          have H1 : (impl_format_round.j0 k a1 ji12 (IntKind.u64.wrap ((ji23) + 1)) a0_0 a0_1) = some r := by rw [if_pos rfl] at H; exact H
          clear H
          have H := H1
          clear H1
          have H' := Aside0.mk H
          clear H
          go_wp2
          first | go_meet | ((simp only [← hji23]); go_meet) | ((simp only [← hji21]); go_meet) | ((simp only [← hji20]); go_meet) | ((simp only [← hji18]); go_meet) | ((simp only [← hji12]); go_meet) | ((simp only [← hji23, ← hji21, ← hji20, ← hji18, ← hji12]); go_meet)
          case rel => exact ⟨_, (IntKind.u64.wrap ((ji23) + 1)), (by first | rfl | (simp; done) | (simp only [← hji23] <;> (first | rfl | simp)) | (simp [*]; done)), H', ⟨by first | omega | exact Nat.le_refl _⟩, ⟨bk BK169.out⟩, ⟨bw HB.out⟩⟩
         ·
          replace c26 := Bool.eq_false_iff.mpr c26
          subst c26
          have H1 : (if (Go.bits .and .u64 (ji23) 1) = 1 then (impl_format_round.j0 k a1 ji12 (IntKind.u64.wrap ((ji23) + 1)) a0_0 a0_1) else (impl_format_round.j0 k a1 ji12 ji23 a0_0 a0_1)) = some r := by rw [if_neg (show ¬ (false = true) by decide)] at H; exact H
          clear H
          have H := H1
          clear H1
          by_cases c27 : (Go.bits .and .u64 (ji23) 1) = 1
          ·
           rw [if_pos c27] at H
           have c27b0 : ((Go.bits .and .u64 (ji23) 1) == 1) = true := beq_iff_eq.mpr c27
           have c27b1 : ((Go.bits .and .u64 (ji23) 1) != 1) = false := bne_eq_false_iff_eq.mpr c27
           clear c27
           have H' := Aside0.mk H
           clear H
           go_wp2
           first | go_meet | ((simp only [← hji23]); go_meet) | ((simp only [← hji21]); go_meet) | ((simp only [← hji20]); go_meet) | ((simp only [← hji18]); go_meet) | ((simp only [← hji12]); go_meet) | ((simp only [← hji23, ← hji21, ← hji20, ← hji18, ← hji12]); go_meet)
           case rel => exact ⟨_, (IntKind.u64.wrap ((ji23) + 1)), (by first | rfl | (simp; done) | (simp only [← hji23] <;> (first | rfl | simp)) | (simp [*]; done)), H', ⟨by first | omega | exact Nat.le_refl _⟩, ⟨bk BK169.out⟩, ⟨bw HB.out⟩⟩
          ·
           rw [if_neg c27] at H
           have c27b0 : ((Go.bits .and .u64 (ji23) 1) == 1) = false := beq_eq_false_iff_ne.mpr c27
           have c27b1 : ((Go.bits .and .u64 (ji23) 1) != 1) = true := bne_iff_ne.mpr c27
           have H' := Aside0.mk H
           clear H
           go_wp2
           first | go_meet | ((simp only [← hji23]); go_meet) | ((simp only [← hji21]); go_meet) | ((simp only [← hji20]); go_meet) | ((simp only [← hji18]); go_meet) | ((simp only [← hji12]); go_meet) | ((simp only [← hji23, ← hji21, ← hji20, ← hji18, ← hji12]); go_meet)
           case rel => exact ⟨_, (ji23), (by first | rfl | (simp; done) | (simp only [← hji23] <;> (first | rfl | simp)) | (simp [*]; done)), H', ⟨by first | omega | exact Nat.le_refl _⟩, ⟨bk BK169.out⟩, ⟨bw HB.out⟩⟩
        ·
         rw [if_neg c25] at H
         have c25b0 : ((Go.bits .and .u64 a2 (IntKind.u64.wrap ((IntKind.u64.wrap (2 * (ji20))) - 1))) == (ji20)) = false := beq_eq_false_iff_ne.mpr c25
         have c25b1 : ((Go.bits .and .u64 a2 (IntKind.u64.wrap ((IntKind.u64.wrap (2 * (ji20))) - 1))) != (ji20)) = true := bne_iff_ne.mpr c25
         have H' := Aside0.mk H
         clear H
         go_wp2
         first | go_meet | ((simp only [← hji23]); go_meet) | ((simp only [← hji21]); go_meet) | ((simp only [← hji20]); go_meet) | ((simp only [← hji18]); go_meet) | ((simp only [← hji12]); go_meet) | ((simp only [← hji23, ← hji21, ← hji20, ← hji18, ← hji12]); go_meet)
         case rel => exact ⟨_, (ji23), (by first | rfl | (simp; done) | (simp only [← hji23] <;> (first | rfl | simp)) | (simp [*]; done)), H', ⟨by first | omega | exact Nat.le_refl _⟩, ⟨bk BK169.out⟩, ⟨bw HB.out⟩⟩
      ·
       rw [if_neg c22] at H
       exact absurd H (by simp)
     ·
      rw [if_neg c19] at H
      exact absurd H (by simp)
    ·
     rw [if_neg c17] at H
     have c17b0 : decide (0 < (wrap64 ((ji12) - a3))) = false := decide_eq_false c17
     clear c17
     obtain ⟨ji28, hji28⟩ : ∃ j_ : Int, (wrap64 (-(wrap64 ((ji12) - a3)))) = j_ := ⟨_, rfl⟩
     replace H : (if 0 ≤ (ji28) then (impl_format_round.j0 k a1 ji12 (shl .u64 a2 (ji28)) a0_0 a0_1) else (none)) = some r := by first | (rw [hji28] at H; exact H) | (simp only [hji28] at H ⊢; exact H)
     have hji28w : (IntKind.i64.wrap (-(wrap64 ((ji12) - a3)))) = ji28 := (i64_w _).trans hji28
     by_cases c29 : 0 ≤ (ji28)
     ·
      rw [if_pos c29] at H
      have c29b0 := eq_true c29
      have c29b1 : decide (0 ≤ (ji28)) = true := decide_eq_true c29
      clear c29
      obtain ⟨ji30, hji30⟩ : ∃ j_ : Int, (shl .u64 a2 (ji28)) = j_ := ⟨_, rfl⟩
      replace H : (impl_format_round.j0 k a1 ji12 ji30 a0_0 a0_1) = some r := by first | (rw [hji30] at H; exact H) | (simp only [hji30] at H ⊢; exact H)
      have hji30_ : (IntKind.u64.wrap (a2 * 2 ^ min (ji28).toNat 64)) = ji30 := hji30
      have hji30z : (ji28) ≤ 64 → (IntKind.u64.wrap (a2 * 2 ^ (ji28).toNat)) = ji30 := shl_small hji30
      have H' := Aside0.mk H
      clear H
      go_wp2
      first | go_meet | ((simp only [← hji30]); go_meet) | ((simp only [← hji28]); go_meet) | ((simp only [← hji12]); go_meet) | ((simp only [← hji30, ← hji28, ← hji12]); go_meet)
      case rel => exact ⟨_, (ji30), (by first | rfl | (simp; done) | (simp only [← hji30] <;> (first | rfl | simp)) | (simp [*]; done)), H', ⟨by first | omega | exact Nat.le_refl _⟩, ⟨bk BK169.out⟩, ⟨bw HB.out⟩⟩
     ·
      rw [if_neg c29] at H
      exact absurd H (by simp)
  case rest =>
   clear HC13
   try clear c1
   try clear c2
   try clear p2
   try clear c5
   try clear c6
   try clear c6b0
   try clear c6b1
   try clear p6
   try clear c16
   try clear c16b0
   try clear c17
   try clear c17b0
   try clear c19
   try clear c19b0
   try clear c19b1
   try clear c22
   try clear c22b0
   try clear c22b1
   try clear c24
   try clear c24b0
   try clear c25
   try clear c25b0
   try clear c25b1
   try clear c26
   try clear c27
   try clear c27b0
   try clear c27b1
   try clear c29
   try clear c29b0
   try clear c29b1
   try clear hcz9_0 hcz9_1
   try clear hfz9_0 hfz9_1
   obtain ⟨kq, x12_12, rfl, HA, HJ12, BK169, HB⟩ := hcut
   cases kq with
   | zero => exact absurd HA.out (by simp [impl_format_round.j0])
   | succ kj12 =>
    have H := HA.out
    clear HA
    simp only [impl_format_round.j0] at H
    by_cases c31 : 0 ≤ a0_0
    ·
     rw [if_pos c31] at H
     have c31b0 := eq_true c31
     have c31b1 : decide (0 ≤ a0_0) = true := decide_eq_true c31
     clear c31
     obtain ⟨ji32, hji32⟩ : ∃ j_ : Int, (shl .u64 2 a0_0) = j_ := ⟨_, rfl⟩
     replace H : (if x12_12 = (ji32) then (impl_format_round.j1 kj12 a1 (wrap64 (ji12 + 1)) (shl .u64 1 a0_0) a0_0 a0_1) else (impl_format_round.j1 kj12 a1 ji12 x12_12 a0_0 a0_1)) = some r := by first | (rw [hji32] at H; exact H) | (simp only [hji32] at H ⊢; exact H)
     have hji32_ : (IntKind.u64.wrap (2 * 2 ^ min a0_0.toNat 64)) = ji32 := hji32
     have hji32z : a0_0 ≤ 64 → (IntKind.u64.wrap (2 * 2 ^ a0_0.toNat)) = ji32 := shl_small hji32
     have HC33 := Aside0.mk H
     clear H
     have hcz34_0 : wc.cell? ⟨gb169, 0, none⟩ = some (.int .i64 a0_0) := (blk_cell BK169.out 0).trans rfl
     have hcz34_1 : wc.cell? ⟨gb169, 1, none⟩ = some (.int .i64 a0_1) := (blk_cell BK169.out 1).trans rfl
     have hfz34_0 := blk_frozen BK169.out 0
     have hfz34_1 := blk_frozen BK169.out 1
     go_upto_if 82 with (fail)
     go_cut [11, 12] (fun v11 v12 wc => ∃ (kq : Nat) (x11_32 : Int) (x12_32 : Int), v11 = .int .i64 x11_32 ∧ v12 = .int .u64 x12_32 ∧ Aside0 (impl_format_round.j1 kq a1 x11_32 x12_32 a0_0 a0_1 = some r) ∧ Aside0 (kq ≤ kj12) ∧ Aside0 (wc.heap[gb169]? = some (.cells #[.int .i64 a0_0, .int .i64 a0_1] 62 (0, 0))) ∧ Aside0 (Below w.heap.size w wc))
     case first =>
      have H := HC33.out
      clear HC33
      by_cases c35 : x12_12 = (ji32)
      ·
       rw [if_pos c35] at H
       have c35b0 : (x12_12 == (ji32)) = true := beq_iff_eq.mpr c35
       have c35b1 : (x12_12 != (ji32)) = false := bne_eq_false_iff_eq.mpr c35
       clear c35
       (first | rw [c35b0] | (simp only [i64_w, i32_w]; rw [c35b0]) | skip)
       have c36b0 := eq_true (of_decide_eq_true (by first | (with_reducible assumption) | assumption) : 0 ≤ a0_0)
       obtain ⟨ji37, hji37⟩ : ∃ j_ : Int, (shl .u64 1 a0_0) = j_ := ⟨_, rfl⟩
       replace H : (impl_format_round.j1 kj12 a1 (wrap64 (ji12 + 1)) ji37 a0_0 a0_1) = some r := by first | (rw [hji37] at H; exact H) | (simp only [hji37] at H ⊢; exact H)
       have hji37_ : (IntKind.u64.wrap (1 * 2 ^ min a0_0.toNat 64)) = ji37 := hji37
       have hji37z : a0_0 ≤ 64 → (IntKind.u64.wrap (1 * 2 ^ a0_0.toNat)) = ji37 := shl_small hji37
       have hji37u : (IntKind.u64.wrap (2 ^ min a0_0.toNat 64)) = ji37 := by have h_ := hji37_; rw [Int.one_mul] at h_; exact h_
       have hji37v : a0_0 ≤ 64 → (IntKind.u64.wrap (2 ^ a0_0.toNat)) = ji37 := fun hle_ => by have h_ := hji37z hle_; rw [Int.one_mul] at h_; exact h_
       have H' := Aside0.mk H
       clear H
       have hcz38_0 : wc.cell? ⟨gb169, 0, none⟩ = some (.int .i64 a0_0) := (blk_cell BK169.out 0).trans rfl
       have hcz38_1 : wc.cell? ⟨gb169, 1, none⟩ = some (.int .i64 a0_1) := (blk_cell BK169.out 1).trans rfl
       have hfz38_0 := blk_frozen BK169.out 0
       have hfz38_1 := blk_frozen BK169.out 1
       go_wp2
       first | go_meet | ((simp only [← hji37]); go_meet) | ((simp only [← hji32]); go_meet) | ((simp only [← hji12]); go_meet) | ((simp only [← hji37, ← hji32, ← hji12]); go_meet)
       case rel => exact ⟨_, (wrap64 (ji12 + 1)), (ji37), (by first | rfl | (simp; done) | (simp only [← hji12] <;> (first | rfl | simp)) | (simp [*]; done)), (by first | rfl | (simp; done) | (simp only [← hji37] <;> (first | rfl | simp)) | (simp [*]; done)), H', ⟨by have := HJ12.out; first | omega | exact Nat.le_refl _⟩, ⟨bk BK169.out⟩, ⟨bw HB.out⟩⟩
      ·
       rw [if_neg c35] at H
       have c35b0 : (x12_12 == (ji32)) = false := beq_eq_false_iff_ne.mpr c35
       have c35b1 : (x12_12 != (ji32)) = true := bne_iff_ne.mpr c35
       (first | rw [c35b0] | (simp only [i64_w, i32_w]; rw [c35b0]) | skip)
       have H' := Aside0.mk H
       clear H
       go_wp2
       first | go_meet | ((simp only [← hji32]); go_meet) | ((simp only [← hji12]); go_meet) | ((simp only [← hji32, ← hji12]); go_meet)
       case rel => exact ⟨_, (ji12), (x12_12), (by first | rfl | (simp; done) | (simp only [← hji12] <;> (first | rfl | simp)) | (simp [*]; done)), (by first | rfl | (simp; done) | (simp [*]; done)), H', ⟨by have := HJ12.out; first | omega | exact Nat.le_refl _⟩, ⟨bk BK169.out⟩, ⟨bw HB.out⟩⟩
     case rest =>
      clear HC33
      try clear c1
      try clear c2
      try clear p2
      try clear c3
      try clear c5
      try clear c6
      try clear c6b0
      try clear c6b1
      try clear p6
      try clear c16
      try clear c16b0
      try clear c17
      try clear c17b0
      try clear c19
      try clear c19b0
      try clear c19b1
      try clear c22
      try clear c22b0
      try clear c22b1
      try clear c24
      try clear c24b0
      try clear c25
      try clear c25b0
      try clear c25b1
      try clear c26
      try clear c27
      try clear c27b0
      try clear c27b1
      try clear c29
      try clear c29b0
      try clear c29b1
      try clear c31
      try clear c31b0
      try clear c31b1
      try clear c35
      try clear c35b0
      try clear c35b1
      try clear c36
      try clear c36b0
      try clear hcz34_0 hcz34_1
      try clear hcz38_0 hcz38_1
      try clear hcz9_0 hcz9_1
      try clear hfz34_0 hfz34_1
      try clear hfz38_0 hfz38_1
      try clear hfz9_0 hfz9_1
      try clear p2
      try clear p6
      obtain ⟨kq, x11_32, x12_32, rfl, rfl, HA, HJ32, BK169, HB⟩ := hcut
      cases kq with
      | zero => exact absurd HA.out (by simp [impl_format_round.j1])
      | succ kj32 =>
       have H := HA.out
       clear HA
       simp only [impl_format_round.j1] at H
       by_cases c39 : 0 ≤ a0_0
       ·
        rw [if_pos c39] at H
        have c39b0 := eq_true c39
        have c39b1 : decide (0 ≤ a0_0) = true := decide_eq_true c39
        clear c39
        obtain ⟨ji40, hji40⟩ : ∃ j_ : Int, (shl .u64 1 a0_0) = j_ := ⟨_, rfl⟩
        replace H : (if x12_32 < (ji40) then ((impl_format_signed.f a0_0 a0_1 a1 ((x12_32) % 4294967296)).bind fun t172 => (some t172)) else ((impl_format_top.f a0_0 a0_1).bind fun t173 => (if (wrap64 ((wrap64 (x11_32 + a0_1)) + a0_0)) ≥ (wrap64 (t173)) then ((impl_format_infinite.f a0_0 a0_1 a1).bind fun t174 => (some t174)) else ((impl_format_signed.f a0_0 a0_1 a1 (Go.bits .or .u32 (shl .u32 ((wrap64 ((wrap64 (x11_32 + a0_1)) + a0_0)) % 4294967296) a0_0) ((IntKind.u64.wrap (x12_32 - (ji40))) % 4294967296))).bind fun t175 => (some t175))))) = some r := by first | (rw [hji40] at H; exact H) | (simp only [hji40] at H ⊢; exact H)
        have hji40_ : (IntKind.u64.wrap (1 * 2 ^ min a0_0.toNat 64)) = ji40 := hji40
        have hji40z : a0_0 ≤ 64 → (IntKind.u64.wrap (1 * 2 ^ a0_0.toNat)) = ji40 := shl_small hji40
        have hji40u : (IntKind.u64.wrap (2 ^ min a0_0.toNat 64)) = ji40 := by have h_ := hji40_; rw [Int.one_mul] at h_; exact h_
        have hji40v : a0_0 ≤ 64 → (IntKind.u64.wrap (2 ^ a0_0.toNat)) = ji40 := fun hle_ => by have h_ := hji40z hle_; rw [Int.one_mul] at h_; exact h_
        by_cases c41 : x12_32 < (ji40)
        ·
         rw [if_pos c41] at H
         have c41b0 : decide (x12_32 < (ji40)) = true := decide_eq_true c41
         clear c41
         replace H := Option.bind_eq_some_iff.mp H
         obtain ⟨t172, A420, H⟩ := H
         replace H : (some t172) = some r := H
         have A42 := Aside0.mk A420
         clear A420
         obtain rfl := Option.some.inj H
         simp only [Option.some.injEq, Prod.mk.injEq] at H
         obtain ⟨rfl⟩ := H
         have hcz43_0 : wc.cell? ⟨gb169, 0, none⟩ = some (.int .i64 a0_0) := (blk_cell BK169.out 0).trans rfl
         have hcz43_1 : wc.cell? ⟨gb169, 1, none⟩ = some (.int .i64 a0_1) := (blk_cell BK169.out 1).trans rfl
         have hfz43_0 := blk_frozen BK169.out 0
         have hfz43_1 := blk_frozen BK169.out 1
         go_wp2_with (first | ((with_reducible refine gate_callee (f := 58) rfl ?_); refine goesL_ (some 97) rfl rfl Try.func58 (by kernel_rfl) rfl #[.agg #[.int .i64 a0_0, .int .i64 a0_1], .bool a1, .int .u32 ((x12_32) % 4294967296)] rfl (by (try simp only [List.map_toArray, List.map_cons, List.map_nil]); first | done | rfl | (simp only [List.length_drop, List.length_take]; rfl) | (go_simp; simp only [IntKind.wrap_u32, IntKind.wrap_u8]; done)) ?_; (with_reducible refine (impl_format_signed.calls a0_0 a0_1 a1 ((x12_32) % 4294967296) t172 _ A42.out).mono ?_); rintro e w44 ⟨rfl, hb⟩; refine ⟨_, rfl, ?_⟩; have n0_ := Aside0.mk (blk_below (g := gb169) (o := .cells #[.int .i64 a0_0, .int .i64 a0_1] 62 (0, 0)) (bk BK169.out) hb); have n1_ := Aside0.mk (below_step (bw HB.out) hb); clear BK169; clear HB; have BK169 := n0_; have HB := n1_; clear n0_ n1_; (try clear hb)))
         go_ret
         exact ⟨by first | rfl | (simp [errW_none, errW_some] <;> rfl) | (simp only [← hji12, ← hji32, ← hji40]; first | rfl | (simp [errW_none, errW_some] <;> rfl)) | (simp [*, errW_none, errW_some] <;> rfl), bw HB.out⟩
        ·
         rw [if_neg c41] at H
         have c41b0 : decide (x12_32 < (ji40)) = false := decide_eq_false c41
         clear c41
         replace H := Option.bind_eq_some_iff.mp H
         obtain ⟨t173, A450, H⟩ := H
         replace H : (if (wrap64 ((wrap64 (x11_32 + a0_1)) + a0_0)) ≥ (wrap64 (t173)) then ((impl_format_infinite.f a0_0 a0_1 a1).bind fun t174 => (some t174)) else ((impl_format_signed.f a0_0 a0_1 a1 (Go.bits .or .u32 (shl .u32 ((wrap64 ((wrap64 (x11_32 + a0_1)) + a0_0)) % 4294967296) a0_0) ((IntKind.u64.wrap (x12_32 - (ji40))) % 4294967296))).bind fun t175 => (some t175))) = some r := H
         have A45 := Aside0.mk A450
         clear A450
         by_cases c46 : (wrap64 ((wrap64 (x11_32 + a0_1)) + a0_0)) ≥ (wrap64 (t173))
         ·
          rw [if_pos c46] at H
          have c46b0 : decide ((wrap64 (t173)) ≤ (wrap64 ((wrap64 (x11_32 + a0_1)) + a0_0))) = true := decide_eq_true c46
          clear c46
          replace H := Option.bind_eq_some_iff.mp H
          obtain ⟨t174, A470, H⟩ := H
          replace H : (some t174) = some r := H
          have A47 := Aside0.mk A470
          clear A470
          obtain rfl := Option.some.inj H
          simp only [Option.some.injEq, Prod.mk.injEq] at H
          obtain ⟨rfl⟩ := H
          have hcz48_0 : wc.cell? ⟨gb169, 0, none⟩ = some (.int .i64 a0_0) := (blk_cell BK169.out 0).trans rfl
          have hcz48_1 : wc.cell? ⟨gb169, 1, none⟩ = some (.int .i64 a0_1) := (blk_cell BK169.out 1).trans rfl
          have hfz48_0 := blk_frozen BK169.out 0
          have hfz48_1 := blk_frozen BK169.out 1
          go_wp2_with (first | ((with_reducible refine gate_callee (f := 85) rfl ?_); refine goesL_ (some 107) rfl rfl Try.func85 (by kernel_rfl) rfl #[.agg #[.int .i64 a0_0, .int .i64 a0_1]] rfl ar ?_; (with_reducible refine (impl_format_top.calls a0_0 a0_1 t173 _ A45.out).mono ?_); rintro e w49 ⟨rfl, hb⟩; refine ⟨_, rfl, ?_⟩; have n0_ := Aside0.mk (blk_below (g := gb169) (o := .cells #[.int .i64 a0_0, .int .i64 a0_1] 62 (0, 0)) (bk BK169.out) hb); have n1_ := Aside0.mk (below_step (bw HB.out) hb); clear BK169; clear HB; have BK169 := n0_; have HB := n1_; clear n0_ n1_; (try clear hb); have hcz50_0 : w49.cell? ⟨gb169, 0, none⟩ = some (.int .i64 a0_0) := (blk_cell BK169.out 0).trans rfl; have hcz50_1 : w49.cell? ⟨gb169, 1, none⟩ = some (.int .i64 a0_1) := (blk_cell BK169.out 1).trans rfl; have hfz50_0 := blk_frozen BK169.out 0; have hfz50_1 := blk_frozen BK169.out 1) | ((with_reducible refine gate_callee (f := 54) rfl ?_); refine goesL_ (some 112) rfl rfl Try.func54 (by kernel_rfl) rfl #[.agg #[.int .i64 a0_0, .int .i64 a0_1], .bool a1] rfl ar ?_; (with_reducible refine (impl_format_infinite.calls a0_0 a0_1 a1 t174 _ A47.out).mono ?_); rintro e w51 ⟨rfl, hb⟩; refine ⟨_, rfl, ?_⟩; have n0_ := Aside0.mk (blk_below (g := gb169) (o := .cells #[.int .i64 a0_0, .int .i64 a0_1] 62 (0, 0)) (bk BK169.out) hb); have n1_ := Aside0.mk (below_step (bw HB.out) hb); clear BK169; clear HB; have BK169 := n0_; have HB := n1_; clear n0_ n1_; (try clear hb)))
          go_ret
          exact ⟨by first | rfl | (simp [errW_none, errW_some] <;> rfl) | (simp only [← hji12, ← hji32, ← hji40]; first | rfl | (simp [errW_none, errW_some] <;> rfl)) | (simp [*, errW_none, errW_some] <;> rfl), bw HB.out⟩
         ·
          rw [if_neg c46] at H
          have c46b0 : decide ((wrap64 (t173)) ≤ (wrap64 ((wrap64 (x11_32 + a0_1)) + a0_0))) = false := decide_eq_false c46
          clear c46
          have c52b0 := eq_true (of_decide_eq_true (by first | (with_reducible assumption) | assumption) : 0 ≤ a0_0)
          obtain ⟨ji53, hji53⟩ : ∃ j_ : Int, (shl .u32 ((wrap64 ((wrap64 (x11_32 + a0_1)) + a0_0)) % 4294967296) a0_0) = j_ := ⟨_, rfl⟩
          replace H : ((impl_format_signed.f a0_0 a0_1 a1 (Go.bits .or .u32 (ji53) ((IntKind.u64.wrap (x12_32 - (ji40))) % 4294967296))).bind fun t175 => (some t175)) = some r := by first | (rw [hji53] at H; exact H) | (simp only [hji53] at H ⊢; exact H)
          (try rw [hji53] at A45)
          have hji53_ : (IntKind.u32.wrap (((wrap64 ((wrap64 (x11_32 + a0_1)) + a0_0)) % 4294967296) * 2 ^ min a0_0.toNat 32)) = ji53 := hji53
          have hji53z : a0_0 ≤ 32 → (IntKind.u32.wrap (((wrap64 ((wrap64 (x11_32 + a0_1)) + a0_0)) % 4294967296) * 2 ^ a0_0.toNat)) = ji53 := shl_small hji53
          have c54b0 := eq_true (of_decide_eq_true (by first | (with_reducible assumption) | assumption) : 0 ≤ a0_0)
          replace H := Option.bind_eq_some_iff.mp H
          obtain ⟨t175, A550, H⟩ := H
          replace H : (some t175) = some r := H
          have A55 := Aside0.mk A550
          clear A550
          obtain rfl := Option.some.inj H
          simp only [Option.some.injEq, Prod.mk.injEq] at H
          obtain ⟨rfl⟩ := H
          have hcz56_0 : wc.cell? ⟨gb169, 0, none⟩ = some (.int .i64 a0_0) := (blk_cell BK169.out 0).trans rfl
          have hcz56_1 : wc.cell? ⟨gb169, 1, none⟩ = some (.int .i64 a0_1) := (blk_cell BK169.out 1).trans rfl
          have hfz56_0 := blk_frozen BK169.out 0
          have hfz56_1 := blk_frozen BK169.out 1
          try go_wp2_with (first | ((with_reducible refine gate_callee (f := 85) rfl ?_); refine goesL_ (some 107) rfl rfl Try.func85 (by kernel_rfl) rfl #[.agg #[.int .i64 a0_0, .int .i64 a0_1]] rfl ar ?_; (with_reducible refine (impl_format_top.calls a0_0 a0_1 t173 _ A45.out).mono ?_); rintro e w57 ⟨rfl, hb⟩; refine ⟨_, rfl, ?_⟩; have n0_ := Aside0.mk (blk_below (g := gb169) (o := .cells #[.int .i64 a0_0, .int .i64 a0_1] 62 (0, 0)) (bk BK169.out) hb); have n1_ := Aside0.mk (below_step (bw HB.out) hb); clear BK169; clear HB; have BK169 := n0_; have HB := n1_; clear n0_ n1_; (try clear hb)))
          have n0_ := Aside0.mk (blk_drew BK169.out)
          have n1_ := Aside0.mk (below_drew1 HB.out)
          clear BK169
          clear HB
          have BK169 := n0_
          have HB := n1_
          clear n0_ n1_
          refine start_ (n := 16) (S := fun w' => w'.cell? ⟨gb169, 0, none⟩ = some (.int .i64 a0_0) ∧ w'.cell? ⟨gb169, 1, none⟩ = some (.int .i64 a0_1)) (ds := []) #[false, false, false, false, false, false, false, false, false, false, false, false, false, false, false, false] (by kernel_rfl) rfl rfl ⟨(blk_cell BK169.out 0).trans rfl, (blk_cell BK169.out 1).trans rfl⟩ (fun hHeld => ?_); refine with_tabW impl_format_round.tab22 impl_format_round.bits22 (fun HT_ HW_ => ?_)
          generalize w57.drew = w58 at BK169 HB hHeld ⊢
          refine pure_ (i := 1) (N := some 114) (v := ?_) (a' := ?_) #[false, true, false, false, false, false, false, false, false, false, false, false, false, false, false, false] rfl rfl (any_of HT_.out (by kernel_rfl)) (fun _ _ _ h => h) (Or.inl ⟨by rfl, ?_⟩) ?_ ?_
          rotate_left
          ·
           intro w'
           go_simp
           with_reducible rfl
          rotate_left
          ·
           simp only [Act.put, List.setIfInBounds_toArray, List.set_cons_zero, List.set_cons_succ, i64_w, i32_w]
           rfl
          refine pure_ (i := 2) (N := some 115) (v := ?_) (a' := ?_) #[false, true, true, false, false, false, false, false, false, false, false, false, false, false, false, false] rfl rfl (any_of HT_.out (by kernel_rfl)) (fun _ _ _ h => h) (Or.inl ⟨by rfl, ?_⟩) ?_ ?_
          rotate_left
          ·
           intro w'
           go_simp
           with_reducible rfl
          rotate_left
          ·
           simp only [Act.put, List.setIfInBounds_toArray, List.set_cons_zero, List.set_cons_succ, i64_w, i32_w]
           rfl
          refine pure_ (i := 3) (N := some 116) (v := ?_) (a' := ?_) #[false, true, true, true, false, false, false, false, false, false, false, false, false, false, false, false] rfl rfl (any_of HT_.out (by kernel_rfl)) (fun _ _ _ h => h) (Or.inl ⟨by rfl, ?_⟩) ?_ ?_
          rotate_left
          ·
           intro w'
           go_simp
           with_reducible rfl
          rotate_left
          ·
           simp only [Act.put, List.setIfInBounds_toArray, List.set_cons_zero, List.set_cons_succ, i64_w, i32_w]
           rfl
          refine pure_ (i := 4) (N := some 117) (v := ?_) (a' := ?_) #[false, true, true, true, true, false, false, false, false, false, false, false, false, false, false, false] rfl rfl (any_of HT_.out (by kernel_rfl)) (fun _ _ _ h => h) (Or.inl ⟨by rfl, ?_⟩) ?_ ?_
          rotate_left
          ·
           intro w'
           go_simp
           with_reducible rfl
          rotate_left
          ·
           simp only [Act.put, List.setIfInBounds_toArray, List.set_cons_zero, List.set_cons_succ, i64_w, i32_w]
           rfl
          refine pure_ (i := 7) (N := some 120) (v := ?_) (a' := ?_) #[false, true, true, true, true, false, false, true, false, false, false, false, false, false, false, false] rfl rfl (any_of HT_.out (by kernel_rfl)) (fun _ _ _ h => h) (Or.inl ⟨by rfl, ?_⟩) ?_ ?_
          rotate_left
          ·
           intro w'
           go_simp
           with_reducible rfl
          rotate_left
          ·
           simp only [Act.put, List.setIfInBounds_toArray, List.set_cons_zero, List.set_cons_succ, i64_w, i32_w]
           rfl
          refine pure_ (i := 8) (N := some 121) (v := ?_) (a' := ?_) #[false, true, true, true, true, false, false, true, true, false, false, false, false, false, false, false] rfl rfl (any_of HT_.out (by kernel_rfl)) (fun _ _ _ h => h) (Or.inl ⟨by rfl, ?_⟩) ?_ ?_
          rotate_left
          ·
           intro w'
           go_simp
           with_reducible rfl
          rotate_left
          ·
           simp only [Act.put, List.setIfInBounds_toArray, List.set_cons_zero, List.set_cons_succ, i64_w, i32_w]
           rfl
          refine take_ (i := 0) (N := some 113) (v := ?_) (a' := ?_) #[true, true, true, true, true, false, false, true, true, false, false, false, false, false, false, false] rfl rfl (take_ofW HT_.out HW_.out (by kernel_rfl)) (fun _ _ _ h => h) (Or.inl ⟨by rfl, ?_⟩) hHeld ?_ ?_
          rotate_left
          ·
           rintro w' ⟨s0, s1⟩
           go_simp
           with_reducible rfl
          rotate_left
          ·
           simp only [Act.put, List.setIfInBounds_toArray, List.set_cons_zero, List.set_cons_succ, i64_w, i32_w]
           rfl
          refine take_ (i := 5) (N := some 118) (v := ?_) (a' := ?_) #[true, true, true, true, true, true, false, true, true, false, false, false, false, false, false, false] rfl rfl (take_ofW HT_.out HW_.out (by kernel_rfl)) (fun _ _ _ h => h) (Or.inl ⟨by rfl, ?_⟩) hHeld ?_ ?_
          rotate_left
          ·
           rintro w' ⟨s0, s1⟩
           go_simp
           with_reducible rfl
          rotate_left
          ·
           simp only [Act.put, List.setIfInBounds_toArray, List.set_cons_zero, List.set_cons_succ, i64_w, i32_w]
           rfl
          refine pure_ (i := 6) (N := some 119) (v := ?_) (a' := ?_) #[true, true, true, true, true, true, true, true, true, false, false, false, false, false, false, false] rfl rfl (any_of HT_.out (by kernel_rfl)) (fun _ _ _ h => h) (Or.inl ⟨by rfl, ?_⟩) ?_ ?_
          rotate_left
          ·
           intro w'
           go_simp
           with_reducible rfl
          rotate_left
          ·
           simp only [Act.put, List.setIfInBounds_toArray, List.set_cons_zero, List.set_cons_succ, i64_w, i32_w]
           rfl
          refine take_ (i := 9) (N := some 122) (v := ?_) (a' := ?_) #[true, true, true, true, true, true, true, true, true, true, false, false, false, false, false, false] rfl rfl (take_ofW HT_.out HW_.out (by kernel_rfl)) (fun _ _ _ h => h) (Or.inl ⟨by rfl, ?_⟩) hHeld ?_ ?_
          rotate_left
          ·
           rintro w' ⟨s0, s1⟩
           go_simp
           with_reducible rfl
          rotate_left
          ·
           simp only [Act.put, List.setIfInBounds_toArray, List.set_cons_zero, List.set_cons_succ, i64_w, i32_w]
           rfl
          refine pure_ (i := 10) (N := some 123) (v := ?_) (a' := ?_) #[true, true, true, true, true, true, true, true, true, true, true, false, false, false, false, false] rfl rfl (any_of HT_.out (by kernel_rfl)) (fun _ _ _ h => h) (Or.inl ⟨by rfl, ?_⟩) ?_ ?_
          rotate_left
          ·
           intro w'
           go_simp
           with_reducible rfl
          rotate_left
          ·
           simp only [Act.put, List.setIfInBounds_toArray, List.set_cons_zero, List.set_cons_succ, i64_w, i32_w]
           rfl
          refine pure_ (i := 11) (N := some 124) (v := ?_) (a' := ?_) #[true, true, true, true, true, true, true, true, true, true, true, true, false, false, false, false] rfl rfl (any_of HT_.out (by kernel_rfl)) (fun _ _ _ h => h) (Or.inl ⟨by rfl, ?_⟩) ?_ ?_
          rotate_left
          ·
           intro w'
           go_simp
           with_reducible rfl
          rotate_left
          ·
           simp only [Act.put, List.setIfInBounds_toArray, List.set_cons_zero, List.set_cons_succ, i64_w, i32_w]
           rfl
          refine pure_ (i := 12) (N := some 125) (v := ?_) (a' := ?_) #[true, true, true, true, true, true, true, true, true, true, true, true, true, false, false, false] rfl rfl (any_of HT_.out (by kernel_rfl)) (fun _ _ _ h => h) (Or.inl ⟨by rfl, ?_⟩) ?_ ?_
          rotate_left
          ·
           intro w'
           go_simp
           with_reducible rfl
          rotate_left
          ·
           simp only [Act.put, List.setIfInBounds_toArray, List.set_cons_zero, List.set_cons_succ, i64_w, i32_w]
           rfl
          refine pure_ (i := 13) (N := some 126) (v := ?_) (a' := ?_) #[true, true, true, true, true, true, true, true, true, true, true, true, true, true, false, false] rfl rfl (any_of HT_.out (by kernel_rfl)) (fun _ _ _ h => h) (Or.inl ⟨by rfl, ?_⟩) ?_ ?_
          rotate_left
          ·
           intro w'
           go_simp
           with_reducible rfl
          rotate_left
          ·
           simp only [Act.put, List.setIfInBounds_toArray, List.set_cons_zero, List.set_cons_succ, i64_w, i32_w]
           rfl
          refine one_ (i := 14) (N := some 127) #[true, true, true, true, true, true, true, true, true, true, true, true, true, true, true, false] rfl rfl (one_of HT_.out (by kernel_rfl)) (by decide) (fun K hK => ?_)
          refine goes_ Try.func58 (by kernel_rfl) rfl #[.agg #[.int .i64 a0_0, .int .i64 a0_1], .bool a1, .int .u32 (Go.bits .or .u32 (ji53) ((IntKind.u64.wrap (x12_32 - (ji40))) % 4294967296))] (by rfl) rfl rfl (by (try simp only [List.map_toArray, List.map_cons, List.map_nil]); first | done | (simp only [hji40, hji53]; rfl) | rfl | (simp only [List.length_drop, List.length_take]; rfl) | (go_simp; simp only [← hji40_, ← hji53_, IntKind.wrap_u32, IntKind.wrap_u8]; done)) ?_
          with_reducible refine (impl_format_signed.calls a0_0 a0_1 a1 (Go.bits .or .u32 (ji53) ((IntKind.u64.wrap (x12_32 - (ji40))) % 4294967296)) t175 _ A55.out).mono ?_
          rintro e w59 ⟨rfl, hb⟩
          refine ⟨_, rfl, ?_⟩
          have n0_ := Aside0.mk (blk_below (g := gb169) (o := .cells #[.int .i64 a0_0, .int .i64 a0_1] 62 (0, 0)) (bk BK169.out) hb)
          have n1_ := Aside0.mk (below_step (bw HB.out) hb)
          clear BK169
          clear HB
          have BK169 := n0_
          have HB := n1_
          clear n0_ n1_
          (try clear hb)
          (try clear hb2)
          (try clear hk)
          (try clear hi)
          refine hK.out _ _ ⟨(blk_cell BK169.out 0).trans rfl, (blk_cell BK169.out 1).trans rfl⟩ (fun hHeld => ?_)
          clear hK K
          refine norm_ (a' := ?_) ?_ ?_
          rotate_left
          ·
           show Act.put _ (some 127) _ = _
           simp only [Act.put, List.setIfInBounds_toArray, List.set_cons_zero, List.set_cons_succ, i64_w, i32_w]
           rfl
          refine pure_ (i := 15) (N := some 10) (v := ?_) (a' := ?_) #[true, true, true, true, true, true, true, true, true, true, true, true, true, true, true, true] rfl rfl (any_of HT_.out (by kernel_rfl)) (fun _ _ _ h => h) (Or.inl ⟨by rfl, ?_⟩) ?_ ?_
          rotate_left
          ·
           intro w'
           go_simp
           with_reducible rfl
          rotate_left
          ·
           simp only [Act.put, List.setIfInBounds_toArray, List.set_cons_zero, List.set_cons_succ, i64_w, i32_w]
           rfl
          refine done_ (done_of HT_.out (by kernel_rfl)) ?_
          try go_wp2
          go_ret
          exact ⟨by first | rfl | (simp [errW_none, errW_some] <;> rfl) | (simp only [← hji12, ← hji32, ← hji40, ← hji53]; first | rfl | (simp [errW_none, errW_some] <;> rfl)) | (simp [*, errW_none, errW_some] <;> rfl), bw HB.out⟩
       ·
        rw [if_neg c39] at H
        exact absurd H (by simp)
    ·
     rw [if_neg c31] at H
     exact absurd H (by simp)

end Go.Proofs.Ytdeogandkgiggaa.Q

namespace Go.Proofs.Ytdeogandkgiggaa.Q
open Go.RowKit Go.Proofs.YtdeogandkgiggaaW.PrintWords Go.Proofs.YtdeogandkgiggaaW.PrintLast Go.Proofs.YtdeogandkgiggaaW.PrintMore
attribute [local go_sem] max2_int min2_int max_two min_two max_three min_three max_four min_four   -- for this text's walks alone
set_option linter.unusedVariables false
set_option linter.unusedSimpArgs false

/-! ### impl_format_mask: function 64 -/
def impl_format_mask.f (a0_0 : Int) (a0_1 : Int) : Option (Int) := (impl_format_sign.f a0_0 a0_1).bind fun t177 => ((impl_format_sign.f a0_0 a0_1).bind fun t178 => (some (Go.bits .or .u32 t177 ((t178 - 1) % 4294967296))))
set_option maxHeartbeats 8000000 in
set_option maxRecDepth 100000 in
theorem impl_format_mask.calls (a0_0 : Int) (a0_1 : Int) (r : Int) (w : World) (h : impl_format_mask.f a0_0 a0_1 = some r) :
  Calls Try.prog 64 #[.agg #[.int .i64 a0_0, .int .i64 a0_1]] w fun e w' => e = .returned (.int .u32 r) ∧ Below w.heap.size w w' := by
 have hu62 := Try.underlying62
 have HB := Aside0.mk (Below.refl w.heap.size w)
 have H : ((impl_format_sign.f a0_0 a0_1).bind fun t177 => ((impl_format_sign.f a0_0 a0_1).bind fun t178 => (some (Go.bits .or .u32 t177 ((t178 - 1) % 4294967296))))) = some r := h
 clear h
 replace H := Option.bind_eq_some_iff.mp H
 obtain ⟨t177, A20, H⟩ := H
 replace H : ((impl_format_sign.f a0_0 a0_1).bind fun t178 => (some (Go.bits .or .u32 t177 ((t178 - 1) % 4294967296)))) = some r := H
 have A2 := Aside0.mk A20
 clear A20
 replace H := Option.bind_eq_some_iff.mp H
 obtain ⟨t178, A30, H⟩ := H
 replace H : (some (Go.bits .or .u32 t177 ((t178 - 1) % 4294967296))) = some r := H
 have A3 := Aside0.mk A30
 clear A30
 obtain rfl := Option.some.inj H
 simp only [Option.some.injEq, Prod.mk.injEq] at H
 obtain ⟨rfl⟩ := H
 go_enter Try.func64, Try.ntmps64
 try go_wp2_with (first | ((with_reducible refine gate_dst (N := 1) rfl ?_); refine box_event ?hg (N := 1) ?hd (cs := #[.int .i64 a0_0, .int .i64 a0_1]) (t := 62) ?hr ?_; (case hd => rfl); (case hg => rfl); (case hr => first | (go_simp; done) | (go_simp; rfl)); intro gb176 hg w4 hbox hb; have n0_ := Aside0.mk (below_step (bw HB.out) hb); have n1_ := Aside0.mk (hbox); have n2_ := Aside0.mk ((by rw [hg]; exact (below_size (bw HB.out)) : w.heap.size ≤ gb176)); have n3_ := Aside0.mk ((by rw [hg]; exact (below_size (bw HB.out)) : w.heap.size ≤ gb176)); clear HB; have HB := n0_; have BK176 := n1_; have GW176 := n2_; have GE176 := n3_; clear n0_ n1_ n2_ n3_; clear hb hbox hg))
 have n0_ := Aside0.mk (blk_drew BK176.out)
 have n1_ := Aside0.mk (below_drew1 HB.out)
 clear BK176
 clear HB
 have BK176 := n0_
 have HB := n1_
 clear n0_ n1_
 refine start_ (n := 7) (S := fun w' => w'.cell? ⟨gb176, 0, none⟩ = some (.int .i64 a0_0) ∧ w'.cell? ⟨gb176, 1, none⟩ = some (.int .i64 a0_1)) (ds := []) #[false, false, false, false, false, false, false] (by kernel_rfl) rfl rfl ⟨(blk_cell BK176.out 0).trans rfl, (blk_cell BK176.out 1).trans rfl⟩ (fun hHeld => ?_)
 generalize w4.drew = w5 at BK176 HB hHeld ⊢
 refine take_ (i := 0) (N := some 3) (v := ?_) (a' := ?_) #[true, false, false, false, false, false, false] rfl rfl (by kernel_rfl) (fun _ _ _ h => h) (Or.inl ⟨by rfl, ?_⟩) hHeld ?_ ?_
 rotate_left
 ·
  rintro w' ⟨s0, s1⟩
  go_simp
  with_reducible rfl
 rotate_left
 ·
  simp only [Act.put, List.setIfInBounds_toArray, List.set_cons_zero, List.set_cons_succ, i64_w, i32_w]
  rfl
 refine take_ (i := 2) (N := some 5) (v := ?_) (a' := ?_) #[true, false, true, false, false, false, false] rfl rfl (by kernel_rfl) (fun _ _ _ h => h) (Or.inl ⟨by rfl, ?_⟩) hHeld ?_ ?_
 rotate_left
 ·
  rintro w' ⟨s0, s1⟩
  go_simp
  with_reducible rfl
 rotate_left
 ·
  simp only [Act.put, List.setIfInBounds_toArray, List.set_cons_zero, List.set_cons_succ, i64_w, i32_w]
  rfl
 refine one_ (i := 1) (N := some 4) #[true, true, true, false, false, false, false] rfl rfl (by kernel_rfl) (by decide) (fun K hK => ?_)
 refine goes_ Try.func72 (by kernel_rfl) rfl #[.agg #[.int .i64 a0_0, .int .i64 a0_1]] (by rfl) rfl rfl ar ?_
 with_reducible refine (impl_format_sign.calls a0_0 a0_1 t177 _ A2.out).mono ?_
 rintro e w6 ⟨rfl, hb⟩
 refine ⟨_, rfl, ?_⟩
 have n0_ := Aside0.mk (blk_below (g := gb176) (o := .cells #[.int .i64 a0_0, .int .i64 a0_1] 62 (0, 0)) (bk BK176.out) hb)
 have n1_ := Aside0.mk (below_step (bw HB.out) hb)
 clear BK176
 clear HB
 have BK176 := n0_
 have HB := n1_
 clear n0_ n1_
 (try clear hb)
 (try clear hb2)
 (try clear hk)
 (try clear hi)
 refine hK.out _ _ ⟨(blk_cell BK176.out 0).trans rfl, (blk_cell BK176.out 1).trans rfl⟩ (fun hHeld => ?_)
 clear hK K
 refine norm_ (a' := ?_) ?_ ?_
 rotate_left
 ·
  show Act.put _ (some 4) _ = _
  simp only [Act.put, List.setIfInBounds_toArray, List.set_cons_zero, List.set_cons_succ, i64_w, i32_w]
  rfl
 refine one_ (i := 3) (N := some 6) #[true, true, true, true, false, false, false] rfl rfl (by kernel_rfl) (by decide) (fun K hK => ?_)
 refine goes_ Try.func72 (by kernel_rfl) rfl #[.agg #[.int .i64 a0_0, .int .i64 a0_1]] (by rfl) rfl rfl ar ?_
 with_reducible refine (impl_format_sign.calls a0_0 a0_1 t178 _ A3.out).mono ?_
 rintro e w7 ⟨rfl, hb⟩
 refine ⟨_, rfl, ?_⟩
 have n0_ := Aside0.mk (blk_below (g := gb176) (o := .cells #[.int .i64 a0_0, .int .i64 a0_1] 62 (0, 0)) (bk BK176.out) hb)
 have n1_ := Aside0.mk (below_step (bw HB.out) hb)
 clear BK176
 clear HB
 have BK176 := n0_
 have HB := n1_
 clear n0_ n1_
 (try clear hb)
 (try clear hb2)
 (try clear hk)
 (try clear hi)
 refine hK.out _ _ ⟨(blk_cell BK176.out 0).trans rfl, (blk_cell BK176.out 1).trans rfl⟩ (fun hHeld => ?_)
 clear hK K
 refine norm_ (a' := ?_) ?_ ?_
 rotate_left
 ·
  show Act.put _ (some 6) _ = _
  simp only [Act.put, List.setIfInBounds_toArray, List.set_cons_zero, List.set_cons_succ, i64_w, i32_w]
  rfl
 refine pure_ (i := 4) (N := some 7) (v := ?_) (a' := ?_) #[true, true, true, true, true, false, false] rfl rfl (by kernel_rfl) (fun _ _ _ h => h) (Or.inl ⟨by rfl, ?_⟩) ?_ ?_
 rotate_left
 ·
  intro w'
  go_simp
  with_reducible rfl
 rotate_left
 ·
  simp only [Act.put, List.setIfInBounds_toArray, List.set_cons_zero, List.set_cons_succ, i64_w, i32_w]
  rfl
 refine pure_ (i := 5) (N := some 8) (v := ?_) (a' := ?_) #[true, true, true, true, true, true, false] rfl rfl (by kernel_rfl) (fun _ _ _ h => h) (Or.inl ⟨by rfl, ?_⟩) ?_ ?_
 rotate_left
 ·
  intro w'
  go_simp
  with_reducible rfl
 rotate_left
 ·
  simp only [Act.put, List.setIfInBounds_toArray, List.set_cons_zero, List.set_cons_succ, i64_w, i32_w]
  rfl
 refine pure_ (i := 6) (N := some 2) (v := ?_) (a' := ?_) #[true, true, true, true, true, true, true] rfl rfl (by kernel_rfl) (fun _ _ _ h => h) (Or.inl ⟨by rfl, ?_⟩) ?_ ?_
 rotate_left
 ·
  intro w'
  go_simp
  with_reducible rfl
 rotate_left
 ·
  simp only [Act.put, List.setIfInBounds_toArray, List.set_cons_zero, List.set_cons_succ, i64_w, i32_w]
  rfl
 refine done_ (by kernel_rfl) ?_
 try go_wp2
 go_ret
 exact ⟨by first | rfl | (simp [errW_none, errW_some] <;> rfl) | (simp [*, errW_none, errW_some] <;> rfl), bw HB.out⟩

end Go.Proofs.Ytdeogandkgiggaa.Q

namespace Go.Proofs.Ytdeogandkgiggaa.Q
open Go.RowKit Go.Proofs.YtdeogandkgiggaaW.PrintWords Go.Proofs.YtdeogandkgiggaaW.PrintLast Go.Proofs.YtdeogandkgiggaaW.PrintMore
attribute [local go_sem] max2_int min2_int max_two min_two max_three min_three max_four min_four   -- for this text's walks alone
set_option linter.unusedVariables false
set_option linter.unusedSimpArgs false

/-! ### impl_FRound: function 25 -/
mutual
def impl_FRound.j0 : Nat → Int → Int → Bool → Int → Int → Option (Int)
 | 0, _, _, _, _, _ => none
 | k + 1, x1, x2, x24, x183000, x183001 => if x24 = true then (some 0) else ((impl_format_open.f x183000 x183001 x2).bind fun bt183 => (if bt183.2.1 = true then ((impl_format_noNumber.f x183000 x183001).bind fun t189 => (some t189)) else (if bt183.2.2.1 = true then (impl_FRound.j1 k x1 x2 true x183000 x183001 bt183.1 bt183.2.1 bt183.2.2.1 bt183.2.2.2.1 bt183.2.2.2.2) else (impl_FRound.j1 k x1 x2 (decide (bt183.2.2.2.2 ≥ 0)) x183000 x183001 bt183.1 bt183.2.1 bt183.2.2.1 bt183.2.2.2.1 bt183.2.2.2.2))))
def impl_FRound.j1 : Nat → Int → Int → Bool → Int → Int → Bool → Bool → Bool → Int → Int → Option (Int)
 | 0, _, _, _, _, _, _, _, _, _, _ => none
 | k + 1, x1, x2, x33, x183000, x183001, x189000, x189001, x189002, x189003, x189004 => if x33 = true then ((impl_format_mask.f x183000 x183001).bind fun t190 => (some (Go.bits .and .u32 x2 t190))) else ((impl_whole.f k x1 x189000 x189003 x189004).bind fun t191 => ((impl_format_round.f k x183000 x183001 x189000 t191 0 false).bind fun t192 => (some t192)))
end
def impl_FRound.f (k : Nat) (a0 : Int) (a1 : Int) (a2 : Int) : Option (Int) := (impl_formatOf.f a0).bind fun bt179 => (if bt179.2.2 = true then (if a1 < 1 then (impl_FRound.j0 k a1 a2 true bt179.1 bt179.2.1) else (impl_FRound.j0 k a1 a2 (decide (a1 > 4)) bt179.1 bt179.2.1)) else (impl_FRound.j0 k a1 a2 true bt179.1 bt179.2.1))
theorem impl_FRound.mono_l : ∀ k, (∀ y0 y1 y2 y3 y4, LeO (impl_FRound.j0 k y0 y1 y2 y3 y4) (impl_FRound.j0 (k + 1) y0 y1 y2 y3 y4)) ∧ (∀ y0 y1 y2 y3 y4 y5 y6 y7 y8 y9, LeO (impl_FRound.j1 k y0 y1 y2 y3 y4 y5 y6 y7 y8 y9) (impl_FRound.j1 (k + 1) y0 y1 y2 y3 y4 y5 y6 y7 y8 y9))
 | 0 => ⟨fun _ _ _ _ _ r h => by simp [impl_FRound.j0] at h, fun _ _ _ _ _ _ _ _ _ _ r h => by simp [impl_FRound.j1] at h⟩
 | k + 1 => by
  obtain ⟨ih0, ih1⟩ := impl_FRound.mono_l k
  refine ⟨?_, ?_⟩
  ·
   intro y0 y1 y2 y3 y4
   unfold impl_FRound.j0
   repeat' first
   | (with_reducible exact ih0 _ _ _ _ _)
   | (with_reducible exact ih1 _ _ _ _ _ _ _ _ _ _)
   | (with_reducible exact impl_format_round.mono _ _ _ _ _ _ _)
   | (with_reducible exact impl_whole.mono _ _ _ _ _)
   | (with_reducible exact LeO.refl _)
   | (with_reducible exact LeO.none _)
   | (with_reducible refine LeO.ite ?_ ?_)
   | (with_reducible refine LeO.bind ?_ (fun _ => ?_))
   | exact ih0 _ _ _ _ _
   | exact ih1 _ _ _ _ _ _ _ _ _ _
   | exact impl_format_round.mono _ _ _ _ _ _ _
   | exact impl_whole.mono _ _ _ _ _
   | exact LeO.none _
   | refine LeO.ite ?_ ?_
   | refine LeO.bind ?_ (fun _ => ?_)
  ·
   intro y0 y1 y2 y3 y4 y5 y6 y7 y8 y9
   unfold impl_FRound.j1
   repeat' first
   | (with_reducible exact ih0 _ _ _ _ _)
   | (with_reducible exact ih1 _ _ _ _ _ _ _ _ _ _)
   | (with_reducible exact impl_format_round.mono _ _ _ _ _ _ _)
   | (with_reducible exact impl_whole.mono _ _ _ _ _)
   | (with_reducible exact LeO.refl _)
   | (with_reducible exact LeO.none _)
   | (with_reducible refine LeO.ite ?_ ?_)
   | (with_reducible refine LeO.bind ?_ (fun _ => ?_))
   | exact ih0 _ _ _ _ _
   | exact ih1 _ _ _ _ _ _ _ _ _ _
   | exact impl_format_round.mono _ _ _ _ _ _ _
   | exact impl_whole.mono _ _ _ _ _
   | exact LeO.none _
   | refine LeO.ite ?_ ?_
   | refine LeO.bind ?_ (fun _ => ?_)
theorem impl_FRound.mono : ∀ a0 a1 a2 k, LeO (impl_FRound.f k a0 a1 a2) (impl_FRound.f (k + 1) a0 a1 a2) := by
 intro a0 a1 a2 k
 obtain ⟨ih0, ih1⟩ := impl_FRound.mono_l k
 unfold impl_FRound.f
 repeat' first
   | (with_reducible exact ih0 _ _ _ _ _)
   | (with_reducible exact ih1 _ _ _ _ _ _ _ _ _ _)
   | (with_reducible exact impl_format_round.mono _ _ _ _ _ _ _)
   | (with_reducible exact impl_whole.mono _ _ _ _ _)
   | (with_reducible exact LeO.refl _)
   | (with_reducible exact LeO.none _)
   | (with_reducible refine LeO.ite ?_ ?_)
   | (with_reducible refine LeO.bind ?_ (fun _ => ?_))
   | exact ih0 _ _ _ _ _
   | exact ih1 _ _ _ _ _ _ _ _ _ _
   | exact impl_format_round.mono _ _ _ _ _ _ _
   | exact impl_whole.mono _ _ _ _ _
   | exact LeO.none _
   | refine LeO.ite ?_ ?_
   | refine LeO.bind ?_ (fun _ => ?_)
def impl_FRound.T9 : Bool × List (List Nat × List Nat) := (true, [([], []), ([], []), ([1], [1]), ([], []), ([], []), ([4], [4]), ([], []), ([6], [6]), ([], []), ([8], [8]), ([3, 5, 7, 9], [3, 5, 7, 9]), ([0, 2, 10, 10], [0, 2, 10]), ([11, 11, 0, 1, 2, 3, 4, 5, 6, 7, 8, 9, 10, 11], [11])])
def impl_FRound.B9 : List Nat := [0, 0, 2, 0, 0, 16, 0, 64, 0, 256, 1016, 2047, 4095]
theorem impl_FRound.tab9 : rtab .any (opsOf Try.f25 9) = impl_FRound.T9 := by kernel_rfl
theorem impl_FRound.bits9 : waitsOk impl_FRound.T9.2 impl_FRound.B9 = true := by kernel_rfl
set_option maxHeartbeats 8000000 in
set_option maxRecDepth 100000 in
theorem impl_FRound.calls (k : Nat) (a0 : Int) (a1 : Int) (a2 : Int) (r : Int) (w : World) (h : impl_FRound.f k a0 a1 a2 = some r) :
  Calls Try.prog 25 #[.int .i64 a0, .int .i64 a1, .int .u32 a2] w fun e w' => e = .returned (.int .u32 r) ∧ Below w.heap.size w w' := by
 have hu62 := Try.underlying62
 have hu66 := Try.underlying66
 have HB := Aside0.mk (Below.refl w.heap.size w)
 have H : ((impl_formatOf.f a0).bind fun bt179 => (if bt179.2.2 = true then (if a1 < 1 then (impl_FRound.j0 k a1 a2 true bt179.1 bt179.2.1) else (impl_FRound.j0 k a1 a2 (decide (a1 > 4)) bt179.1 bt179.2.1)) else (impl_FRound.j0 k a1 a2 true bt179.1 bt179.2.1))) = some r := h
 clear h
 replace H := Option.bind_eq_some_iff.mp H
 obtain ⟨⟨t179, t180, t181⟩, A40, H⟩ := H
 replace H : (if t181 = true then (if a1 < 1 then (impl_FRound.j0 k a1 a2 true t179 t180) else (impl_FRound.j0 k a1 a2 (decide (a1 > 4)) t179 t180)) else (impl_FRound.j0 k a1 a2 true t179 t180)) = some r := H
 have A4 := Aside0.mk A40
 clear A40
 have HC5 := Aside0.mk H
 clear H
 go_enter Try.func25, Try.ntmps25
 go_upto_region 2 with (first | ((with_reducible refine gate_callee (f := 51) rfl ?_); refine goesL_ (some 12) rfl rfl Try.func51 (by kernel_rfl) rfl #[.int .i64 a0] rfl ar ?_; (with_reducible refine (impl_formatOf.calls a0 t179 t180 t181 _ A4.out).mono ?_); rintro e w6 ⟨rfl, hb⟩; refine ⟨_, rfl, ?_⟩; have n0_ := Aside0.mk (below_step (bw HB.out) hb); clear HB; have HB := n0_; clear n0_; (try clear hb)) | ((with_reducible refine gate_dst (N := 7) rfl ?_); refine box_event ?hg (N := 7) ?hd (cs := #[.int .i64 0, .int .i64 0]) (t := 62) ?hr ?_; (case hd => rfl); (case hg => rfl); (case hr => first | (go_simp; done) | (go_simp; rfl)); intro gb182 hg w7 hbox hb; have n0_ := Aside0.mk (below_step (bw HB.out) hb); have n1_ := Aside0.mk (hbox); have n2_ := Aside0.mk ((by rw [hg]; exact (below_size (bw HB.out)) : w.heap.size ≤ gb182)); have n3_ := Aside0.mk ((by rw [hg]; exact (below_size (bw HB.out)) : w.heap.size ≤ gb182)); clear HB; have HB := n0_; have BK182 := n1_; have GW182 := n2_; have GE182 := n3_; clear n0_ n1_ n2_ n3_; clear hb hbox hg; have hcz8_0 : w7.cell? ⟨gb182, 0, none⟩ = some (.int .i64 0) := (blk_cell BK182.out 0).trans rfl; have hcz8_1 : w7.cell? ⟨gb182, 1, none⟩ = some (.int .i64 0) := (blk_cell BK182.out 1).trans rfl; have hfz8_0 := blk_frozen BK182.out 0; have hfz8_1 := blk_frozen BK182.out 1))
 (try simp only [Act.put, List.setIfInBounds_toArray, List.set_cons_zero, List.set_cons_succ])
 go_cut [24] (fun v24 wc => ∃ (kq : Nat) (x24_4 : Bool), v24 = .bool x24_4 ∧ Aside0 (impl_FRound.j0 kq a1 a2 x24_4 t179 t180 = some r) ∧ Aside0 (kq ≤ k) ∧ Aside0 (wc.heap[gb182]? = some (.cells #[.int .i64 t179, .int .i64 t180] 62 (0, 0))) ∧ Aside0 (Below w.heap.size w wc))
 case first =>
  have H := HC5.out
  clear HC5
  by_cases c9 : t181 = true
  ·
   subst c9
   have H1 : (if a1 < 1 then (impl_FRound.j0 k a1 a2 true t179 t180) else (impl_FRound.j0 k a1 a2 (decide (a1 > 4)) t179 t180)) = some r := by rw [if_pos rfl] at H; exact H
   clear H
   have H := H1
   clear H1
   by_cases c10 : a1 < 1
   ·
    rw [if_pos c10] at H
    have c10b0 : decide (a1 < 1) = true := decide_eq_true c10
    clear c10
    (first | rw [c10b0] | (simp only [i64_w, i32_w]; rw [c10b0]) | skip)
    have H' := Aside0.mk H
    clear H
    go_wp2
    go_meet
    case rel => exact ⟨_, (true), (by first | rfl | (simp; done) | (simp [*]; done)), H', ⟨by first | omega | exact Nat.le_refl _⟩, ⟨by (with_reducible repeat (first | refine blk_drewN ?_ _ | refine blk_drew ?_ | refine blk_alloc ?_ _)); refine blk_put (cs := #[.int .i64 t179, .int .i64 0]) ?_ 1 _ rfl; (with_reducible repeat (first | refine blk_drewN ?_ _ | refine blk_drew ?_ | refine blk_alloc ?_ _)); refine blk_put (cs := #[.int .i64 0, .int .i64 0]) ?_ 0 _ rfl; (with_reducible repeat (first | refine blk_drewN ?_ _ | refine blk_drew ?_ | refine blk_alloc ?_ _)); exact BK182.out⟩, ⟨bw HB.out⟩⟩
   ·
    rw [if_neg c10] at H
    have c10b0 : decide (a1 < 1) = false := decide_eq_false c10
    clear c10
    (first | rw [c10b0] | (simp only [i64_w, i32_w]; rw [c10b0]) | skip)
    have H' := Aside0.mk H
    clear H
    go_wp2
    go_meet
    case rel => exact ⟨_, (decide (a1 > 4)), (by first | rfl | (simp; done) | (simp [*]; done)), H', ⟨by first | omega | exact Nat.le_refl _⟩, ⟨by (with_reducible repeat (first | refine blk_drewN ?_ _ | refine blk_drew ?_ | refine blk_alloc ?_ _)); refine blk_put (cs := #[.int .i64 t179, .int .i64 0]) ?_ 1 _ rfl; (with_reducible repeat (first | refine blk_drewN ?_ _ | refine blk_drew ?_ | refine blk_alloc ?_ _)); refine blk_put (cs := #[.int .i64 0, .int .i64 0]) ?_ 0 _ rfl; (with_reducible repeat (first | refine blk_drewN ?_ _ | refine blk_drew ?_ | refine blk_alloc ?_ _)); exact BK182.out⟩, ⟨bw HB.out⟩⟩
  ·
   replace c9 := Bool.eq_false_iff.mpr c9
   subst c9
   have H1 : (impl_FRound.j0 k a1 a2 true t179 t180) = some r := by rw [if_neg (show ¬ (false = true) by decide)] at H; exact H
   clear H
   have H := H1
   clear H1
   have H' := Aside0.mk H
   clear H
   go_wp2
   go_meet
   case rel => exact ⟨_, (true), (by first | rfl | (simp; done) | (simp [*]; done)), H', ⟨by first | omega | exact Nat.le_refl _⟩, ⟨by (with_reducible repeat (first | refine blk_drewN ?_ _ | refine blk_drew ?_ | refine blk_alloc ?_ _)); refine blk_put (cs := #[.int .i64 t179, .int .i64 0]) ?_ 1 _ rfl; (with_reducible repeat (first | refine blk_drewN ?_ _ | refine blk_drew ?_ | refine blk_alloc ?_ _)); refine blk_put (cs := #[.int .i64 0, .int .i64 0]) ?_ 0 _ rfl; (with_reducible repeat (first | refine blk_drewN ?_ _ | refine blk_drew ?_ | refine blk_alloc ?_ _)); exact BK182.out⟩, ⟨bw HB.out⟩⟩
 case rest =>
  clear HC5
  try clear c1
  try clear c2
  try clear p2
  try clear c5
  try clear c9
  try clear c10
  try clear c10b0
  try clear hcz8_0 hcz8_1
  try clear hfz8_0 hfz8_1
  obtain ⟨kq, x24_4, rfl, HA, HJ4, BK182, HB⟩ := hcut
  cases kq with
  | zero => exact absurd HA.out (by simp [impl_FRound.j0])
  | succ kj4 =>
   have H := HA.out
   clear HA
   simp only [impl_FRound.j0] at H
   by_cases c11 : x24_4 = true
   ·
    subst c11
    have H1 : (some 0) = some r := by rw [if_pos rfl] at H; exact H
    clear H
    have H := H1
    clear H1
    obtain rfl := Option.some.inj H
    simp only [Option.some.injEq, Prod.mk.injEq] at H
    obtain ⟨rfl⟩ := H
    go_wp2
    go_ret
    exact ⟨by first | rfl | (simp [errW_none, errW_some] <;> rfl) | (simp [*, errW_none, errW_some] <;> rfl), bw HB.out⟩
   ·
    replace c11 := Bool.eq_false_iff.mpr c11
    subst c11
    have H1 : ((impl_format_open.f t179 t180 a2).bind fun bt183 => (if bt183.2.1 = true then ((impl_format_noNumber.f t179 t180).bind fun t189 => (some t189)) else (if bt183.2.2.1 = true then (impl_FRound.j1 kj4 a1 a2 true t179 t180 bt183.1 bt183.2.1 bt183.2.2.1 bt183.2.2.2.1 bt183.2.2.2.2) else (impl_FRound.j1 kj4 a1 a2 (decide (bt183.2.2.2.2 ≥ 0)) t179 t180 bt183.1 bt183.2.1 bt183.2.2.1 bt183.2.2.2.1 bt183.2.2.2.2)))) = some r := by rw [if_neg (show ¬ (false = true) by decide)] at H; exact H
    clear H
    have H := H1
    clear H1
    replace H := Option.bind_eq_some_iff.mp H
    obtain ⟨⟨t183, t184, t185, t186, t187⟩, A120, H⟩ := H
    replace H : (if t184 = true then ((impl_format_noNumber.f t179 t180).bind fun t189 => (some t189)) else (if t185 = true then (impl_FRound.j1 kj4 a1 a2 true t179 t180 t183 t184 t185 t186 t187) else (impl_FRound.j1 kj4 a1 a2 (decide (t187 ≥ 0)) t179 t180 t183 t184 t185 t186 t187))) = some r := H
    have A12 := Aside0.mk A120
    clear A120
    by_cases c13 : t184 = true
    ·
     subst c13
     have H1 : ((impl_format_noNumber.f t179 t180).bind fun t189 => (some t189)) = some r := by rw [if_pos rfl] at H; exact H
     clear H
     have H := H1
     clear H1
     replace H := Option.bind_eq_some_iff.mp H
     obtain ⟨t189, A140, H⟩ := H
     replace H : (some t189) = some r := H
     have A14 := Aside0.mk A140
     clear A140
     obtain rfl := Option.some.inj H
     simp only [Option.some.injEq, Prod.mk.injEq] at H
     obtain ⟨rfl⟩ := H
     have hcz15_0 : wc.cell? ⟨gb182, 0, none⟩ = some (.int .i64 t179) := (blk_cell BK182.out 0).trans rfl
     have hcz15_1 : wc.cell? ⟨gb182, 1, none⟩ = some (.int .i64 t180) := (blk_cell BK182.out 1).trans rfl
     have hfz15_0 := blk_frozen BK182.out 0
     have hfz15_1 := blk_frozen BK182.out 1
     go_wp2_with (first | ((with_reducible refine gate_callee (f := 52) rfl ?_); refine goesL_ (some 27) rfl rfl Try.func52 (by kernel_rfl) rfl #[.agg #[.int .i64 t179, .int .i64 t180], .int .u32 a2] rfl ar ?_; (with_reducible refine (impl_format_open.calls t179 t180 a2 t183 true t185 t186 t187 _ A12.out).mono ?_); rintro e w16 ⟨rfl, hb⟩; refine ⟨_, rfl, ?_⟩; have n0_ := Aside0.mk (blk_below (g := gb182) (o := .cells #[.int .i64 t179, .int .i64 t180] 62 (0, 0)) (bk BK182.out) hb); have n1_ := Aside0.mk (below_step (bw HB.out) hb); clear BK182; clear HB; have BK182 := n0_; have HB := n1_; clear n0_ n1_; (try clear hb)) | ((with_reducible refine gate_dst (N := 9) rfl ?_); refine box_event ?hg (N := 9) ?hd (cs := #[.bool false, .bool false, .bool false, .int .u64 0, .int .i64 0]) (t := 66) ?hr ?_; (case hd => rfl); (case hg => rfl); (case hr => first | (go_simp; done) | (go_simp; rfl)); intro gb188 hg w17 hbox hb; have n0_ := Aside0.mk (blk_below (g := gb182) (o := .cells #[.int .i64 t179, .int .i64 t180] 62 (0, 0)) (bk BK182.out) hb); have n1_ := Aside0.mk (below_step (bw HB.out) hb); have n2_ := Aside0.mk (hbox); have n3_ := Aside0.mk ((by rw [hg]; exact (below_size (bw HB.out)) : w.heap.size ≤ gb188)); have n4_ := Aside0.mk ((by rw [hg]; exact (below_size (bw HB.out)) : w.heap.size ≤ gb188)); have n5_ := Aside0.mk ((by rw [hg]; exact Nat.ne_of_lt (blk_lt (g := gb182) (o := .cells #[.int .i64 t179, .int .i64 t180] 62 (0, 0)) (bk BK182.out)) : gb182 ≠ gb188)); have n6_ := Aside0.mk ((by rw [hg]; exact Nat.ne_of_gt (blk_lt (g := gb182) (o := .cells #[.int .i64 t179, .int .i64 t180] 62 (0, 0)) (bk BK182.out)) : gb188 ≠ gb182)); clear BK182; clear HB; have BK182 := n0_; have HB := n1_; have BK188 := n2_; have GW188 := n3_; have GE188 := n4_; have NB182_188 := n5_; have NB188_182 := n6_; clear n0_ n1_ n2_ n3_ n4_ n5_ n6_; clear hb hbox hg; have hnb18 := NB188_182.out; have hnc18 := NB182_188.out; have hcz19_0 : w17.cell? ⟨gb188, 0, none⟩ = some (.bool false) := (blk_cell BK188.out 0).trans rfl; have hcz19_1 : w17.cell? ⟨gb188, 1, none⟩ = some (.bool false) := (blk_cell BK188.out 1).trans rfl; have hcz19_2 : w17.cell? ⟨gb188, 2, none⟩ = some (.bool false) := (blk_cell BK188.out 2).trans rfl; have hcz19_3 : w17.cell? ⟨gb188, 3, none⟩ = some (.int .u64 0) := (blk_cell BK188.out 3).trans rfl; have hcz19_4 : w17.cell? ⟨gb188, 4, none⟩ = some (.int .i64 0) := (blk_cell BK188.out 4).trans rfl; have hfz19_0 := blk_frozen BK188.out 0; have hfz19_1 := blk_frozen BK188.out 1; have hfz19_2 := blk_frozen BK188.out 2; have hfz19_3 := blk_frozen BK188.out 3; have hfz19_4 := blk_frozen BK188.out 4) | ((with_reducible refine gate_store (t := 66) (p := 9) rfl ?_); refine store_event (t := 66) (p := 9) (v := ?vo_w20) (w1 := (((((w17.setCell ⟨gb188, 0, none⟩ (.bool t183)).setCell ⟨gb188, 1, none⟩ (.bool true)).setCell ⟨gb188, 2, none⟩ (.bool t185)).setCell ⟨gb188, 3, none⟩ (.int .u64 t186)).setCell ⟨gb188, 4, none⟩ (.int .i64 t187))) ?hg ?ho ?hn ?hr ?_; (case ho => rfl); (case hg => rfl); (case hn => rfl); (case hr => first | (go_simp; done) | (go_simp; rfl)); intro w20 hw; have n0_ : Aside0 (w20.heap[gb182]? = some (.cells #[.int .i64 t179, .int .i64 t180] 62 (0, 0))) := ⟨(by rw [hw]; exact (by (with_reducible repeat (first | refine blk_drewN ?_ _ | refine blk_drew ?_ | refine blk_alloc ?_ _)); refine blk_far ?_ NB182_188.out _; (with_reducible repeat (first | refine blk_drewN ?_ _ | refine blk_drew ?_ | refine blk_alloc ?_ _)); refine blk_far ?_ NB182_188.out _; (with_reducible repeat (first | refine blk_drewN ?_ _ | refine blk_drew ?_ | refine blk_alloc ?_ _)); refine blk_far ?_ NB182_188.out _; (with_reducible repeat (first | refine blk_drewN ?_ _ | refine blk_drew ?_ | refine blk_alloc ?_ _)); refine blk_far ?_ NB182_188.out _; (with_reducible repeat (first | refine blk_drewN ?_ _ | refine blk_drew ?_ | refine blk_alloc ?_ _)); refine blk_far ?_ NB182_188.out _; (with_reducible repeat (first | refine blk_drewN ?_ _ | refine blk_drew ?_ | refine blk_alloc ?_ _)); exact BK182.out))⟩; have n1_ : Aside0 (w20.heap[gb188]? = some (.cells #[.bool t183, .bool true, .bool t185, .int .u64 t186, .int .i64 t187] 66 (0, 0))) := ⟨(by rw [hw]; exact (by (with_reducible repeat (first | refine blk_drewN ?_ _ | refine blk_drew ?_ | refine blk_alloc ?_ _)); refine blk_put (cs := #[.bool t183, .bool true, .bool t185, .int .u64 t186, .int .i64 0]) ?_ 4 _ rfl; (with_reducible repeat (first | refine blk_drewN ?_ _ | refine blk_drew ?_ | refine blk_alloc ?_ _)); refine blk_put (cs := #[.bool t183, .bool true, .bool t185, .int .u64 0, .int .i64 0]) ?_ 3 _ rfl; (with_reducible repeat (first | refine blk_drewN ?_ _ | refine blk_drew ?_ | refine blk_alloc ?_ _)); refine blk_put (cs := #[.bool t183, .bool true, .bool false, .int .u64 0, .int .i64 0]) ?_ 2 _ rfl; (with_reducible repeat (first | refine blk_drewN ?_ _ | refine blk_drew ?_ | refine blk_alloc ?_ _)); refine blk_put (cs := #[.bool t183, .bool false, .bool false, .int .u64 0, .int .i64 0]) ?_ 1 _ rfl; (with_reducible repeat (first | refine blk_drewN ?_ _ | refine blk_drew ?_ | refine blk_alloc ?_ _)); refine blk_put (cs := #[.bool false, .bool false, .bool false, .int .u64 0, .int .i64 0]) ?_ 0 _ rfl; (with_reducible repeat (first | refine blk_drewN ?_ _ | refine blk_drew ?_ | refine blk_alloc ?_ _)); exact BK188.out))⟩; have n2_ : Aside0 (Below w.heap.size w w20) := ⟨(by rw [hw]; exact (bw HB.out))⟩; clear hw; clear BK182; clear BK188; clear HB; have BK182 := n0_; have BK188 := n1_; have HB := n2_; clear n0_ n1_ n2_; have hcz21_0 : w20.cell? ⟨gb188, 0, none⟩ = some (.bool t183) := (blk_cell BK188.out 0).trans rfl; have hcz21_1 : w20.cell? ⟨gb188, 1, none⟩ = some (.bool true) := (blk_cell BK188.out 1).trans rfl; have hcz21_2 : w20.cell? ⟨gb188, 2, none⟩ = some (.bool t185) := (blk_cell BK188.out 2).trans rfl; have hcz21_3 : w20.cell? ⟨gb188, 3, none⟩ = some (.int .u64 t186) := (blk_cell BK188.out 3).trans rfl; have hcz21_4 : w20.cell? ⟨gb188, 4, none⟩ = some (.int .i64 t187) := (blk_cell BK188.out 4).trans rfl; have hfz21_0 := blk_frozen BK188.out 0; have hfz21_1 := blk_frozen BK188.out 1; have hfz21_2 := blk_frozen BK188.out 2; have hfz21_3 := blk_frozen BK188.out 3; have hfz21_4 := blk_frozen BK188.out 4; have hcz22_0 : w20.cell? ⟨gb182, 0, none⟩ = some (.int .i64 t179) := (blk_cell BK182.out 0).trans rfl; have hcz22_1 : w20.cell? ⟨gb182, 1, none⟩ = some (.int .i64 t180) := (blk_cell BK182.out 1).trans rfl; have hfz22_0 := blk_frozen BK182.out 0; have hfz22_1 := blk_frozen BK182.out 1) | ((with_reducible refine gate_callee (f := 53) rfl ?_); refine goesL_ (some 32) rfl rfl Try.func53 (by kernel_rfl) rfl #[.agg #[.int .i64 t179, .int .i64 t180]] rfl ar ?_; (with_reducible refine (impl_format_noNumber.calls t179 t180 t189 _ A14.out).mono ?_); rintro e w23 ⟨rfl, hb⟩; refine ⟨_, rfl, ?_⟩; have n0_ := Aside0.mk (blk_below (g := gb182) (o := .cells #[.int .i64 t179, .int .i64 t180] 62 (0, 0)) (bk BK182.out) hb); have n1_ := Aside0.mk (blk_below (g := gb188) (o := .cells #[.bool t183, .bool true, .bool t185, .int .u64 t186, .int .i64 t187] 66 (0, 0)) (bk BK188.out) hb); have n2_ := Aside0.mk (below_step (bw HB.out) hb); clear BK182; clear BK188; clear HB; have BK182 := n0_; have BK188 := n1_; have HB := n2_; clear n0_ n1_ n2_; (try clear hb)))
     go_ret
     exact ⟨by first | rfl | (simp [errW_none, errW_some] <;> rfl) | (simp [*, errW_none, errW_some] <;> rfl), bw HB.out⟩
    ·
     replace c13 := Bool.eq_false_iff.mpr c13
     subst c13
     have H1 : (if t185 = true then (impl_FRound.j1 kj4 a1 a2 true t179 t180 t183 false t185 t186 t187) else (impl_FRound.j1 kj4 a1 a2 (decide (t187 ≥ 0)) t179 t180 t183 false t185 t186 t187)) = some r := by rw [if_neg (show ¬ (false = true) by decide)] at H; exact H
     clear H
     have H := H1
     clear H1
     have HC24 := Aside0.mk H
     clear H
     have hcz25_0 : wc.cell? ⟨gb182, 0, none⟩ = some (.int .i64 t179) := (blk_cell BK182.out 0).trans rfl
     have hcz25_1 : wc.cell? ⟨gb182, 1, none⟩ = some (.int .i64 t180) := (blk_cell BK182.out 1).trans rfl
     have hfz25_0 := blk_frozen BK182.out 0
     have hfz25_1 := blk_frozen BK182.out 1
     go_upto_region 7 with (first | ((with_reducible refine gate_callee (f := 52) rfl ?_); refine goesL_ (some 27) rfl rfl Try.func52 (by kernel_rfl) rfl #[.agg #[.int .i64 t179, .int .i64 t180], .int .u32 a2] rfl ar ?_; (with_reducible refine (impl_format_open.calls t179 t180 a2 t183 false t185 t186 t187 _ A12.out).mono ?_); rintro e w26 ⟨rfl, hb⟩; refine ⟨_, rfl, ?_⟩; have n0_ := Aside0.mk (blk_below (g := gb182) (o := .cells #[.int .i64 t179, .int .i64 t180] 62 (0, 0)) (bk BK182.out) hb); have n1_ := Aside0.mk (below_step (bw HB.out) hb); clear BK182; clear HB; have BK182 := n0_; have HB := n1_; clear n0_ n1_; (try clear hb)) | ((with_reducible refine gate_dst (N := 9) rfl ?_); refine box_event ?hg (N := 9) ?hd (cs := #[.bool false, .bool false, .bool false, .int .u64 0, .int .i64 0]) (t := 66) ?hr ?_; (case hd => rfl); (case hg => rfl); (case hr => first | (go_simp; done) | (go_simp; rfl)); intro gb188 hg w27 hbox hb; have n0_ := Aside0.mk (blk_below (g := gb182) (o := .cells #[.int .i64 t179, .int .i64 t180] 62 (0, 0)) (bk BK182.out) hb); have n1_ := Aside0.mk (below_step (bw HB.out) hb); have n2_ := Aside0.mk (hbox); have n3_ := Aside0.mk ((by rw [hg]; exact (below_size (bw HB.out)) : w.heap.size ≤ gb188)); have n4_ := Aside0.mk ((by rw [hg]; exact (below_size (bw HB.out)) : w.heap.size ≤ gb188)); have n5_ := Aside0.mk ((by rw [hg]; exact Nat.ne_of_lt (blk_lt (g := gb182) (o := .cells #[.int .i64 t179, .int .i64 t180] 62 (0, 0)) (bk BK182.out)) : gb182 ≠ gb188)); have n6_ := Aside0.mk ((by rw [hg]; exact Nat.ne_of_gt (blk_lt (g := gb182) (o := .cells #[.int .i64 t179, .int .i64 t180] 62 (0, 0)) (bk BK182.out)) : gb188 ≠ gb182)); clear BK182; clear HB; have BK182 := n0_; have HB := n1_; have BK188 := n2_; have GW188 := n3_; have GE188 := n4_; have NB182_188 := n5_; have NB188_182 := n6_; clear n0_ n1_ n2_ n3_ n4_ n5_ n6_; clear hb hbox hg; have hnb28 := NB188_182.out; have hnc28 := NB182_188.out; have hcz29_0 : w27.cell? ⟨gb188, 0, none⟩ = some (.bool false) := (blk_cell BK188.out 0).trans rfl; have hcz29_1 : w27.cell? ⟨gb188, 1, none⟩ = some (.bool false) := (blk_cell BK188.out 1).trans rfl; have hcz29_2 : w27.cell? ⟨gb188, 2, none⟩ = some (.bool false) := (blk_cell BK188.out 2).trans rfl; have hcz29_3 : w27.cell? ⟨gb188, 3, none⟩ = some (.int .u64 0) := (blk_cell BK188.out 3).trans rfl; have hcz29_4 : w27.cell? ⟨gb188, 4, none⟩ = some (.int .i64 0) := (blk_cell BK188.out 4).trans rfl; have hfz29_0 := blk_frozen BK188.out 0; have hfz29_1 := blk_frozen BK188.out 1; have hfz29_2 := blk_frozen BK188.out 2; have hfz29_3 := blk_frozen BK188.out 3; have hfz29_4 := blk_frozen BK188.out 4) | ((with_reducible refine gate_store (t := 66) (p := 9) rfl ?_); refine store_event (t := 66) (p := 9) (v := ?vo_w30) (w1 := (((((w27.setCell ⟨gb188, 0, none⟩ (.bool t183)).setCell ⟨gb188, 1, none⟩ (.bool false)).setCell ⟨gb188, 2, none⟩ (.bool t185)).setCell ⟨gb188, 3, none⟩ (.int .u64 t186)).setCell ⟨gb188, 4, none⟩ (.int .i64 t187))) ?hg ?ho ?hn ?hr ?_; (case ho => rfl); (case hg => rfl); (case hn => rfl); (case hr => first | (go_simp; done) | (go_simp; rfl)); intro w30 hw; have n0_ : Aside0 (w30.heap[gb182]? = some (.cells #[.int .i64 t179, .int .i64 t180] 62 (0, 0))) := ⟨(by rw [hw]; exact (by (with_reducible repeat (first | refine blk_drewN ?_ _ | refine blk_drew ?_ | refine blk_alloc ?_ _)); refine blk_far ?_ NB182_188.out _; (with_reducible repeat (first | refine blk_drewN ?_ _ | refine blk_drew ?_ | refine blk_alloc ?_ _)); refine blk_far ?_ NB182_188.out _; (with_reducible repeat (first | refine blk_drewN ?_ _ | refine blk_drew ?_ | refine blk_alloc ?_ _)); refine blk_far ?_ NB182_188.out _; (with_reducible repeat (first | refine blk_drewN ?_ _ | refine blk_drew ?_ | refine blk_alloc ?_ _)); refine blk_far ?_ NB182_188.out _; (with_reducible repeat (first | refine blk_drewN ?_ _ | refine blk_drew ?_ | refine blk_alloc ?_ _)); refine blk_far ?_ NB182_188.out _; (with_reducible repeat (first | refine blk_drewN ?_ _ | refine blk_drew ?_ | refine blk_alloc ?_ _)); exact BK182.out))⟩; have n1_ : Aside0 (w30.heap[gb188]? = some (.cells #[.bool t183, .bool false, .bool t185, .int .u64 t186, .int .i64 t187] 66 (0, 0))) := ⟨(by rw [hw]; exact (by (with_reducible repeat (first | refine blk_drewN ?_ _ | refine blk_drew ?_ | refine blk_alloc ?_ _)); refine blk_put (cs := #[.bool t183, .bool false, .bool t185, .int .u64 t186, .int .i64 0]) ?_ 4 _ rfl; (with_reducible repeat (first | refine blk_drewN ?_ _ | refine blk_drew ?_ | refine blk_alloc ?_ _)); refine blk_put (cs := #[.bool t183, .bool false, .bool t185, .int .u64 0, .int .i64 0]) ?_ 3 _ rfl; (with_reducible repeat (first | refine blk_drewN ?_ _ | refine blk_drew ?_ | refine blk_alloc ?_ _)); refine blk_put (cs := #[.bool t183, .bool false, .bool false, .int .u64 0, .int .i64 0]) ?_ 2 _ rfl; (with_reducible repeat (first | refine blk_drewN ?_ _ | refine blk_drew ?_ | refine blk_alloc ?_ _)); refine blk_put (cs := #[.bool t183, .bool false, .bool false, .int .u64 0, .int .i64 0]) ?_ 1 _ rfl; (with_reducible repeat (first | refine blk_drewN ?_ _ | refine blk_drew ?_ | refine blk_alloc ?_ _)); refine blk_put (cs := #[.bool false, .bool false, .bool false, .int .u64 0, .int .i64 0]) ?_ 0 _ rfl; (with_reducible repeat (first | refine blk_drewN ?_ _ | refine blk_drew ?_ | refine blk_alloc ?_ _)); exact BK188.out))⟩; have n2_ : Aside0 (Below w.heap.size w w30) := ⟨(by rw [hw]; exact (bw HB.out))⟩; clear hw; clear BK182; clear BK188; clear HB; have BK182 := n0_; have BK188 := n1_; have HB := n2_; clear n0_ n1_ n2_; have hcz31_0 : w30.cell? ⟨gb188, 0, none⟩ = some (.bool t183) := (blk_cell BK188.out 0).trans rfl; have hcz31_1 : w30.cell? ⟨gb188, 1, none⟩ = some (.bool false) := (blk_cell BK188.out 1).trans rfl; have hcz31_2 : w30.cell? ⟨gb188, 2, none⟩ = some (.bool t185) := (blk_cell BK188.out 2).trans rfl; have hcz31_3 : w30.cell? ⟨gb188, 3, none⟩ = some (.int .u64 t186) := (blk_cell BK188.out 3).trans rfl; have hcz31_4 : w30.cell? ⟨gb188, 4, none⟩ = some (.int .i64 t187) := (blk_cell BK188.out 4).trans rfl; have hfz31_0 := blk_frozen BK188.out 0; have hfz31_1 := blk_frozen BK188.out 1; have hfz31_2 := blk_frozen BK188.out 2; have hfz31_3 := blk_frozen BK188.out 3; have hfz31_4 := blk_frozen BK188.out 4))
     (try simp only [Act.put, List.setIfInBounds_toArray, List.set_cons_zero, List.set_cons_succ])
     go_cut [33] (fun v33 wc => ∃ (kq : Nat) (x33_23 : Bool), v33 = .bool x33_23 ∧ Aside0 (impl_FRound.j1 kq a1 a2 x33_23 t179 t180 t183 false t185 t186 t187 = some r) ∧ Aside0 (kq ≤ kj4) ∧ Aside0 (wc.heap[gb182]? = some (.cells #[.int .i64 t179, .int .i64 t180] 62 (0, 0))) ∧ Aside0 (wc.heap[gb188]? = some (.cells #[.bool t183, .bool false, .bool t185, .int .u64 t186, .int .i64 t187] 66 (0, 0))) ∧ Aside0 (Below w.heap.size w wc))
     case first =>
      have H := HC24.out
      clear HC24
      by_cases c32 : t185 = true
      ·
       subst c32
       have H1 : (impl_FRound.j1 kj4 a1 a2 true t179 t180 t183 false true t186 t187) = some r := by rw [if_pos rfl] at H; exact H
       clear H
       have H := H1
       clear H1
       have H' := Aside0.mk H
       clear H
       have hnb33 := NB188_182.out
       have hnc33 := NB182_188.out
       have hcz34_0 : w30.cell? ⟨gb188, 0, none⟩ = some (.bool t183) := (blk_cell BK188.out 0).trans rfl
       have hcz34_1 : w30.cell? ⟨gb188, 1, none⟩ = some (.bool false) := (blk_cell BK188.out 1).trans rfl
       have hcz34_2 : w30.cell? ⟨gb188, 2, none⟩ = some (.bool true) := (blk_cell BK188.out 2).trans rfl
       have hcz34_3 : w30.cell? ⟨gb188, 3, none⟩ = some (.int .u64 t186) := (blk_cell BK188.out 3).trans rfl
       have hcz34_4 : w30.cell? ⟨gb188, 4, none⟩ = some (.int .i64 t187) := (blk_cell BK188.out 4).trans rfl
       have hfz34_0 := blk_frozen BK188.out 0
       have hfz34_1 := blk_frozen BK188.out 1
       have hfz34_2 := blk_frozen BK188.out 2
       have hfz34_3 := blk_frozen BK188.out 3
       have hfz34_4 := blk_frozen BK188.out 4
       go_wp2
       go_meet
       case rel => exact ⟨_, (true), (by first | rfl | (simp; done) | (simp [*]; done)), H', ⟨by have := HJ4.out; first | omega | exact Nat.le_refl _⟩, ⟨bk BK182.out⟩, ⟨bk BK188.out⟩, ⟨bw HB.out⟩⟩
      ·
       replace c32 := Bool.eq_false_iff.mpr c32
       subst c32
       have H1 : (impl_FRound.j1 kj4 a1 a2 (decide (t187 ≥ 0)) t179 t180 t183 false false t186 t187) = some r := by rw [if_neg (show ¬ (false = true) by decide)] at H; exact H
       clear H
       have H := H1
       clear H1
       have H' := Aside0.mk H
       clear H
       have hnb35 := NB188_182.out
       have hnc35 := NB182_188.out
       have hcz36_0 : w30.cell? ⟨gb188, 0, none⟩ = some (.bool t183) := (blk_cell BK188.out 0).trans rfl
       have hcz36_1 : w30.cell? ⟨gb188, 1, none⟩ = some (.bool false) := (blk_cell BK188.out 1).trans rfl
       have hcz36_2 : w30.cell? ⟨gb188, 2, none⟩ = some (.bool false) := (blk_cell BK188.out 2).trans rfl
       have hcz36_3 : w30.cell? ⟨gb188, 3, none⟩ = some (.int .u64 t186) := (blk_cell BK188.out 3).trans rfl
       have hcz36_4 : w30.cell? ⟨gb188, 4, none⟩ = some (.int .i64 t187) := (blk_cell BK188.out 4).trans rfl
       have hfz36_0 := blk_frozen BK188.out 0
       have hfz36_1 := blk_frozen BK188.out 1
       have hfz36_2 := blk_frozen BK188.out 2
       have hfz36_3 := blk_frozen BK188.out 3
       have hfz36_4 := blk_frozen BK188.out 4
       go_wp2
       go_meet
       case rel => exact ⟨_, (decide (t187 ≥ 0)), (by first | rfl | (simp; done) | (simp [*]; done)), H', ⟨by have := HJ4.out; first | omega | exact Nat.le_refl _⟩, ⟨bk BK182.out⟩, ⟨bk BK188.out⟩, ⟨bw HB.out⟩⟩
     case rest =>
      clear HC24
      try clear c1
      try clear c2
      try clear p2
      try clear c3
      try clear c5
      try clear c9
      try clear c10
      try clear c10b0
      try clear c11
      try clear c13
      try clear c18
      try clear c25
      try clear c28
      try clear c32
      try clear c33
      try clear c35
      try clear hcz15_0 hcz15_1
      try clear hcz19_0 hcz19_1 hcz19_2 hcz19_3 hcz19_4
      try clear hcz21_0 hcz21_1 hcz21_2 hcz21_3 hcz21_4
      try clear hcz22_0 hcz22_1
      try clear hcz25_0 hcz25_1
      try clear hcz29_0 hcz29_1 hcz29_2 hcz29_3 hcz29_4
      try clear hcz31_0 hcz31_1 hcz31_2 hcz31_3 hcz31_4
      try clear hcz34_0 hcz34_1 hcz34_2 hcz34_3 hcz34_4
      try clear hcz36_0 hcz36_1 hcz36_2 hcz36_3 hcz36_4
      try clear hcz8_0 hcz8_1
      try clear hfz15_0 hfz15_1
      try clear hfz19_0 hfz19_1 hfz19_2 hfz19_3 hfz19_4
      try clear hfz21_0 hfz21_1 hfz21_2 hfz21_3 hfz21_4
      try clear hfz22_0 hfz22_1
      try clear hfz25_0 hfz25_1
      try clear hfz29_0 hfz29_1 hfz29_2 hfz29_3 hfz29_4
      try clear hfz31_0 hfz31_1 hfz31_2 hfz31_3 hfz31_4
      try clear hfz34_0 hfz34_1 hfz34_2 hfz34_3 hfz34_4
      try clear hfz36_0 hfz36_1 hfz36_2 hfz36_3 hfz36_4
      try clear hfz8_0 hfz8_1
      try clear p2
      obtain ⟨kq, x33_23, rfl, HA, HJ23, BK182, BK188, HB⟩ := hcut
      cases kq with
      | zero => exact absurd HA.out (by simp [impl_FRound.j1])
      | succ kj23 =>
       have H := HA.out
       clear HA
       simp only [impl_FRound.j1] at H
       by_cases c37 : x33_23 = true
       ·
        subst c37
        have H1 : ((impl_format_mask.f t179 t180).bind fun t190 => (some (Go.bits .and .u32 a2 t190))) = some r := by rw [if_pos rfl] at H; exact H
        clear H
        have H := H1
        clear H1
        replace H := Option.bind_eq_some_iff.mp H
        obtain ⟨t190, A380, H⟩ := H
        replace H : (some (Go.bits .and .u32 a2 t190)) = some r := H
        have A38 := Aside0.mk A380
        clear A380
        obtain rfl := Option.some.inj H
        simp only [Option.some.injEq, Prod.mk.injEq] at H
        obtain ⟨rfl⟩ := H
        have hnb39 := NB182_188.out
        have hnc39 := NB188_182.out
        have hcz40_0 : wc.cell? ⟨gb182, 0, none⟩ = some (.int .i64 t179) := (blk_cell BK182.out 0).trans rfl
        have hcz40_1 : wc.cell? ⟨gb182, 1, none⟩ = some (.int .i64 t180) := (blk_cell BK182.out 1).trans rfl
        have hfz40_0 := blk_frozen BK182.out 0
        have hfz40_1 := blk_frozen BK182.out 1
        go_wp2_with (first | ((with_reducible refine gate_callee (f := 64) rfl ?_); refine goesL_ (some 43) rfl rfl Try.func64 (by kernel_rfl) rfl #[.agg #[.int .i64 t179, .int .i64 t180]] rfl ar ?_; (with_reducible refine (impl_format_mask.calls t179 t180 t190 _ A38.out).mono ?_); rintro e w41 ⟨rfl, hb⟩; refine ⟨_, rfl, ?_⟩; have n0_ := Aside0.mk (blk_below (g := gb182) (o := .cells #[.int .i64 t179, .int .i64 t180] 62 (0, 0)) (bk BK182.out) hb); have n1_ := Aside0.mk (blk_below (g := gb188) (o := .cells #[.bool t183, .bool false, .bool t185, .int .u64 t186, .int .i64 t187] 66 (0, 0)) (bk BK188.out) hb); have n2_ := Aside0.mk (below_step (bw HB.out) hb); clear BK182; clear BK188; clear HB; have BK182 := n0_; have BK188 := n1_; have HB := n2_; clear n0_ n1_ n2_; (try clear hb)))
        go_ret
        exact ⟨by first | rfl | (simp [errW_none, errW_some] <;> rfl) | (simp [*, errW_none, errW_some] <;> rfl), bw HB.out⟩
       ·
        replace c37 := Bool.eq_false_iff.mpr c37
        subst c37
        have H1 : ((impl_whole.f kj23 a1 t183 t186 t187).bind fun t191 => ((impl_format_round.f kj23 t179 t180 t183 t191 0 false).bind fun t192 => (some t192))) = some r := by rw [if_neg (show ¬ (false = true) by decide)] at H; exact H
        clear H
        have H := H1
        clear H1
        replace H := Option.bind_eq_some_iff.mp H
        obtain ⟨t191, A420, H⟩ := H
        replace H : ((impl_format_round.f kj23 t179 t180 t183 t191 0 false).bind fun t192 => (some t192)) = some r := H
        have A42 := Aside0.mk A420
        clear A420
        replace H := Option.bind_eq_some_iff.mp H
        obtain ⟨t192, A430, H⟩ := H
        replace H : (some t192) = some r := H
        have A43 := Aside0.mk A430
        clear A430
        obtain rfl := Option.some.inj H
        simp only [Option.some.injEq, Prod.mk.injEq] at H
        obtain ⟨rfl⟩ := H
        try go_wp2
        have n0_ := Aside0.mk (blk_drew BK182.out)
        have n1_ := Aside0.mk (blk_drew BK188.out)
        have n2_ := Aside0.mk (below_drew1 HB.out)
        clear BK182
        clear BK188
        clear HB
        have BK182 := n0_
        have BK188 := n1_
        have HB := n2_
        clear n0_ n1_ n2_
        refine start_ (n := 13) (S := fun w' => w'.cell? ⟨gb182, 0, none⟩ = some (.int .i64 t179) ∧ w'.cell? ⟨gb182, 1, none⟩ = some (.int .i64 t180) ∧ w'.cell? ⟨gb188, 0, none⟩ = some (.bool t183) ∧ w'.cell? ⟨gb188, 1, none⟩ = some (.bool false) ∧ w'.cell? ⟨gb188, 2, none⟩ = some (.bool t185) ∧ w'.cell? ⟨gb188, 3, none⟩ = some (.int .u64 t186) ∧ w'.cell? ⟨gb188, 4, none⟩ = some (.int .i64 t187)) (ds := []) #[false, false, false, false, false, false, false, false, false, false, false, false, false] (by kernel_rfl) rfl rfl ⟨(blk_cell BK182.out 0).trans rfl, (blk_cell BK182.out 1).trans rfl, (blk_cell BK188.out 0).trans rfl, (blk_cell BK188.out 1).trans rfl, (blk_cell BK188.out 2).trans rfl, (blk_cell BK188.out 3).trans rfl, (blk_cell BK188.out 4).trans rfl⟩ (fun hHeld => ?_); refine with_tabW impl_FRound.tab9 impl_FRound.bits9 (fun HT_ HW_ => ?_)
        generalize wc.drew = w44 at BK182 BK188 HB hHeld ⊢
        refine pure_ (i := 1) (N := some 46) (v := ?_) (a' := ?_) #[false, true, false, false, false, false, false, false, false, false, false, false, false] rfl rfl (any_of HT_.out (by kernel_rfl)) (fun _ _ _ h => h) (Or.inl ⟨by rfl, ?_⟩) ?_ ?_
        rotate_left
        ·
         intro w'
         go_simp
         with_reducible rfl
        rotate_left
        ·
         simp only [Act.put, List.setIfInBounds_toArray, List.set_cons_zero, List.set_cons_succ, i64_w, i32_w]
         rfl
        refine pure_ (i := 3) (N := some 48) (v := ?_) (a' := ?_) #[false, true, false, true, false, false, false, false, false, false, false, false, false] rfl rfl (any_of HT_.out (by kernel_rfl)) (fun _ _ _ h => h) (Or.inl ⟨by rfl, ?_⟩) ?_ ?_
        rotate_left
        ·
         intro w'
         go_simp
         with_reducible rfl
        rotate_left
        ·
         simp only [Act.put, List.setIfInBounds_toArray, List.set_cons_zero, List.set_cons_succ, i64_w, i32_w]
         rfl
        refine pure_ (i := 4) (N := some 49) (v := ?_) (a' := ?_) #[false, true, false, true, true, false, false, false, false, false, false, false, false] rfl rfl (any_of HT_.out (by kernel_rfl)) (fun _ _ _ h => h) (Or.inl ⟨by rfl, ?_⟩) ?_ ?_
        rotate_left
        ·
         intro w'
         go_simp
         with_reducible rfl
        rotate_left
        ·
         simp only [Act.put, List.setIfInBounds_toArray, List.set_cons_zero, List.set_cons_succ, i64_w, i32_w]
         rfl
        refine pure_ (i := 6) (N := some 51) (v := ?_) (a' := ?_) #[false, true, false, true, true, false, true, false, false, false, false, false, false] rfl rfl (any_of HT_.out (by kernel_rfl)) (fun _ _ _ h => h) (Or.inl ⟨by rfl, ?_⟩) ?_ ?_
        rotate_left
        ·
         intro w'
         go_simp
         with_reducible rfl
        rotate_left
        ·
         simp only [Act.put, List.setIfInBounds_toArray, List.set_cons_zero, List.set_cons_succ, i64_w, i32_w]
         rfl
        refine pure_ (i := 8) (N := some 53) (v := ?_) (a' := ?_) #[false, true, false, true, true, false, true, false, true, false, false, false, false] rfl rfl (any_of HT_.out (by kernel_rfl)) (fun _ _ _ h => h) (Or.inl ⟨by rfl, ?_⟩) ?_ ?_
        rotate_left
        ·
         intro w'
         go_simp
         with_reducible rfl
        rotate_left
        ·
         simp only [Act.put, List.setIfInBounds_toArray, List.set_cons_zero, List.set_cons_succ, i64_w, i32_w]
         rfl
        refine take_ (i := 0) (N := some 45) (v := ?_) (a' := ?_) #[true, true, false, true, true, false, true, false, true, false, false, false, false] rfl rfl (take_ofW HT_.out HW_.out (by kernel_rfl)) (fun _ _ _ h => h) (Or.inl ⟨by rfl, ?_⟩) hHeld ?_ ?_
        rotate_left
        ·
         rintro w' ⟨s0, s1, s2, s3, s4, s5, s6⟩
         go_simp
         with_reducible rfl
        rotate_left
        ·
         simp only [Act.put, List.setIfInBounds_toArray, List.set_cons_zero, List.set_cons_succ, i64_w, i32_w]
         rfl
        refine take_ (i := 2) (N := some 47) (v := ?_) (a' := ?_) #[true, true, true, true, true, false, true, false, true, false, false, false, false] rfl rfl (take_ofW HT_.out HW_.out (by kernel_rfl)) (fun _ _ _ h => h) (Or.inl ⟨by rfl, ?_⟩) hHeld ?_ ?_
        rotate_left
        ·
         rintro w' ⟨s0, s1, s2, s3, s4, s5, s6⟩
         go_simp
         with_reducible rfl
        rotate_left
        ·
         simp only [Act.put, List.setIfInBounds_toArray, List.set_cons_zero, List.set_cons_succ, i64_w, i32_w]
         rfl
        refine take_ (i := 5) (N := some 50) (v := ?_) (a' := ?_) #[true, true, true, true, true, true, true, false, true, false, false, false, false] rfl rfl (take_ofW HT_.out HW_.out (by kernel_rfl)) (fun _ _ _ h => h) (Or.inl ⟨by rfl, ?_⟩) hHeld ?_ ?_
        rotate_left
        ·
         rintro w' ⟨s0, s1, s2, s3, s4, s5, s6⟩
         go_simp
         with_reducible rfl
        rotate_left
        ·
         simp only [Act.put, List.setIfInBounds_toArray, List.set_cons_zero, List.set_cons_succ, i64_w, i32_w]
         rfl
        refine take_ (i := 7) (N := some 52) (v := ?_) (a' := ?_) #[true, true, true, true, true, true, true, true, true, false, false, false, false] rfl rfl (take_ofW HT_.out HW_.out (by kernel_rfl)) (fun _ _ _ h => h) (Or.inl ⟨by rfl, ?_⟩) hHeld ?_ ?_
        rotate_left
        ·
         rintro w' ⟨s0, s1, s2, s3, s4, s5, s6⟩
         go_simp
         with_reducible rfl
        rotate_left
        ·
         simp only [Act.put, List.setIfInBounds_toArray, List.set_cons_zero, List.set_cons_succ, i64_w, i32_w]
         rfl
        refine take_ (i := 9) (N := some 54) (v := ?_) (a' := ?_) #[true, true, true, true, true, true, true, true, true, true, false, false, false] rfl rfl (take_ofW HT_.out HW_.out (by kernel_rfl)) (fun _ _ _ h => h) (Or.inl ⟨by rfl, ?_⟩) hHeld ?_ ?_
        rotate_left
        ·
         rintro w' ⟨s0, s1, s2, s3, s4, s5, s6⟩
         go_simp
         with_reducible rfl
        rotate_left
        ·
         simp only [Act.put, List.setIfInBounds_toArray, List.set_cons_zero, List.set_cons_succ, i64_w, i32_w]
         rfl
        refine one_ (i := 10) (N := some 55) #[true, true, true, true, true, true, true, true, true, true, true, false, false] rfl rfl (one_of HT_.out (by kernel_rfl)) (by decide) (fun K hK => ?_)
        refine goes_ Try.func65 (by kernel_rfl) rfl #[.int .i64 a1, .bool t183, .int .u64 t186, .int .i64 t187] (by rfl) rfl rfl ar ?_
        with_reducible refine (impl_whole.calls kj23 a1 t183 t186 t187 t191 _ A42.out).mono ?_
        rintro e w' ⟨rfl, ⟨nd, rfl⟩⟩
        refine ⟨_, rfl, ?_⟩
        refine hK.out _ _ ⟨(blk_cell BK182.out 0).trans rfl, (blk_cell BK182.out 1).trans rfl, (blk_cell BK188.out 0).trans rfl, (blk_cell BK188.out 1).trans rfl, (blk_cell BK188.out 2).trans rfl, (blk_cell BK188.out 3).trans rfl, (blk_cell BK188.out 4).trans rfl⟩ (fun hHeld => ?_)
        clear hK K
        refine norm_ (a' := ?_) ?_ ?_
        rotate_left
        ·
         show Act.put _ (some 55) _ = _
         simp only [Act.put, List.setIfInBounds_toArray, List.set_cons_zero, List.set_cons_succ, i64_w, i32_w]
         rfl
        refine one_ (i := 11) (N := some 56) #[true, true, true, true, true, true, true, true, true, true, true, true, false] rfl rfl (one_of HT_.out (by kernel_rfl)) (by decide) (fun K hK => ?_)
        refine goes_ Try.func55 (by kernel_rfl) rfl #[.agg #[.int .i64 t179, .int .i64 t180], .bool t183, .int .u64 t191, .int .i64 0, .bool false] (by rfl) rfl rfl ar ?_
        with_reducible refine (impl_format_round.calls kj23 t179 t180 t183 t191 0 false t192 _ A43.out).mono ?_
        rintro e w45 ⟨rfl, hb⟩
        refine ⟨_, rfl, ?_⟩
        have n0_ := Aside0.mk (blk_below (g := gb182) (o := .cells #[.int .i64 t179, .int .i64 t180] 62 (0, 0)) (bk BK182.out) hb)
        have n1_ := Aside0.mk (blk_below (g := gb188) (o := .cells #[.bool t183, .bool false, .bool t185, .int .u64 t186, .int .i64 t187] 66 (0, 0)) (bk BK188.out) hb)
        have n2_ := Aside0.mk (below_step (bw HB.out) hb)
        clear BK182
        clear BK188
        clear HB
        have BK182 := n0_
        have BK188 := n1_
        have HB := n2_
        clear n0_ n1_ n2_
        (try clear hb)
        (try clear hb2)
        (try clear hk)
        (try clear hi)
        refine hK.out _ _ ⟨(blk_cell BK182.out 0).trans rfl, (blk_cell BK182.out 1).trans rfl, (blk_cell BK188.out 0).trans rfl, (blk_cell BK188.out 1).trans rfl, (blk_cell BK188.out 2).trans rfl, (blk_cell BK188.out 3).trans rfl, (blk_cell BK188.out 4).trans rfl⟩ (fun hHeld => ?_)
        clear hK K
        refine norm_ (a' := ?_) ?_ ?_
        rotate_left
        ·
         show Act.put _ (some 56) _ = _
         simp only [Act.put, List.setIfInBounds_toArray, List.set_cons_zero, List.set_cons_succ, i64_w, i32_w]
         rfl
        refine pure_ (i := 12) (N := some 6) (v := ?_) (a' := ?_) #[true, true, true, true, true, true, true, true, true, true, true, true, true] rfl rfl (any_of HT_.out (by kernel_rfl)) (fun _ _ _ h => h) (Or.inl ⟨by rfl, ?_⟩) ?_ ?_
        rotate_left
        ·
         intro w'
         go_simp
         with_reducible rfl
        rotate_left
        ·
         simp only [Act.put, List.setIfInBounds_toArray, List.set_cons_zero, List.set_cons_succ, i64_w, i32_w]
         rfl
        refine done_ (done_of HT_.out (by kernel_rfl)) ?_
        try go_wp2
        go_ret
        exact ⟨by first | rfl | (simp [errW_none, errW_some] <;> rfl) | (simp [*, errW_none, errW_some] <;> rfl), bw HB.out⟩

end Go.Proofs.Ytdeogandkgiggaa.Q

