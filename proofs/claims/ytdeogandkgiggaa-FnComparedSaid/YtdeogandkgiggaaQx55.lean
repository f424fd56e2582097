-- Written by a program of this session; it walks the functions that the law reaches.
import Derived.Test.YtdeogandkgiggaaQx0
import Derived.Test.YtdeogandkgiggaaQx1
namespace Go.Proofs.Ytdeogandkgiggaa.Q
open Go.RowKit Go.Proofs.YtdeogandkgiggaaW.PrintWords Go.Proofs.YtdeogandkgiggaaW.PrintLast Go.Proofs.YtdeogandkgiggaaW.PrintMore
attribute [local go_sem] max2_int min2_int max_two min_two max_three min_three max_four min_four   -- for this text's walks alone
set_option linter.unusedVariables false
set_option linter.unusedSimpArgs false

/-! ### spec_l4K_order: function 94 -/
def spec_l4K_order.f (a0_0 : Int) (a0_1 : Int) (a1 : Int) : Option (Int) := (spec_l4K_mask.f a0_0 a0_1).bind fun t643 => (if 0 ≤ (IntKind.u64.wrap (a0_0 + a0_1)) then (if (shr .u32 (Go.bits .and .u32 a1 t643) (IntKind.u64.wrap (a0_0 + a0_1))) = 1 then (some (wrap64 (-(wrap64 (Go.bits .and .u32 (Go.bits .and .u32 a1 t643) (((shl .u32 1 (IntKind.u64.wrap (a0_0 + a0_1))) - 1) % 4294967296)))))) else (some (wrap64 (Go.bits .and .u32 (Go.bits .and .u32 a1 t643) (((shl .u32 1 (IntKind.u64.wrap (a0_0 + a0_1))) - 1) % 4294967296))))) else (none))
set_option maxHeartbeats 8000000 in
set_option maxRecDepth 100000 in
theorem spec_l4K_order.calls (a0_0 : Int) (a0_1 : Int) (a1 : Int) (r : Int) (w : World) (h : spec_l4K_order.f a0_0 a0_1 a1 = some r) :
  Calls Try.prog 94 #[.agg #[.int .u64 a0_0, .int .u64 a0_1], .int .u32 a1] w fun e w' => e = .returned (.int .i64 r) ∧ Below w.heap.size w w' := by
 have hu52 := Try.underlying52
 have HB := Aside0.mk (Below.refl w.heap.size w)
 have H : ((spec_l4K_mask.f a0_0 a0_1).bind fun t643 => (if 0 ≤ (IntKind.u64.wrap (a0_0 + a0_1)) then (if (shr .u32 (Go.bits .and .u32 a1 t643) (IntKind.u64.wrap (a0_0 + a0_1))) = 1 then (some (wrap64 (-(wrap64 (Go.bits .and .u32 (Go.bits .and .u32 a1 t643) (((shl .u32 1 (IntKind.u64.wrap (a0_0 + a0_1))) - 1) % 4294967296)))))) else (some (wrap64 (Go.bits .and .u32 (Go.bits .and .u32 a1 t643) (((shl .u32 1 (IntKind.u64.wrap (a0_0 + a0_1))) - 1) % 4294967296))))) else (none))) = some r := h
 clear h
 replace H := Option.bind_eq_some_iff.mp H
 obtain ⟨t643, A30, H⟩ := H
 replace H : (if 0 ≤ (IntKind.u64.wrap (a0_0 + a0_1)) then (if (shr .u32 (Go.bits .and .u32 a1 t643) (IntKind.u64.wrap (a0_0 + a0_1))) = 1 then (some (wrap64 (-(wrap64 (Go.bits .and .u32 (Go.bits .and .u32 a1 t643) (((shl .u32 1 (IntKind.u64.wrap (a0_0 + a0_1))) - 1) % 4294967296)))))) else (some (wrap64 (Go.bits .and .u32 (Go.bits .and .u32 a1 t643) (((shl .u32 1 (IntKind.u64.wrap (a0_0 + a0_1))) - 1) % 4294967296))))) else (none)) = some r := H
 have A3 := Aside0.mk A30
 clear A30
 obtain ⟨ji4, hji4⟩ : ∃ j_ : Int, (IntKind.u64.wrap (a0_0 + a0_1)) = j_ := ⟨_, rfl⟩
 replace H : (if 0 ≤ (ji4) then (if (shr .u32 (Go.bits .and .u32 a1 t643) (ji4)) = 1 then (some (wrap64 (-(wrap64 (Go.bits .and .u32 (Go.bits .and .u32 a1 t643) (((shl .u32 1 (ji4)) - 1) % 4294967296)))))) else (some (wrap64 (Go.bits .and .u32 (Go.bits .and .u32 a1 t643) (((shl .u32 1 (ji4)) - 1) % 4294967296))))) else (none)) = some r := by first | (rw [hji4] at H; exact H) | (simp only [hji4] at H ⊢; exact H)
 (try rw [hji4] at A3)
 by_cases c5 : 0 ≤ (ji4)
 ·
  rw [if_pos c5] at H
  have c5b0 := eq_true c5
  have c5b1 : decide (0 ≤ (ji4)) = true := decide_eq_true c5
  clear c5
  obtain ⟨ji6, hji6⟩ : ∃ j_ : Int, (shl .u32 1 (ji4)) = j_ := ⟨_, rfl⟩
  replace H : (if (shr .u32 (Go.bits .and .u32 a1 t643) (ji4)) = 1 then (some (wrap64 (-(wrap64 (Go.bits .and .u32 (Go.bits .and .u32 a1 t643) (((ji6) - 1) % 4294967296)))))) else (some (wrap64 (Go.bits .and .u32 (Go.bits .and .u32 a1 t643) (((ji6) - 1) % 4294967296))))) = some r := by first | (rw [hji6] at H; exact H) | (simp only [hji6] at H ⊢; exact H)
  (try rw [hji6] at A3)
  have hji6_ : (IntKind.u32.wrap (1 * 2 ^ min (ji4).toNat 32)) = ji6 := hji6
  have hji6z : (ji4) ≤ 32 → (IntKind.u32.wrap (1 * 2 ^ (ji4).toNat)) = ji6 := shl_small hji6
  have hji6u : (IntKind.u32.wrap (2 ^ min (ji4).toNat 32)) = ji6 := by have h_ := hji6_; rw [Int.one_mul] at h_; exact h_
  have hji6v : (ji4) ≤ 32 → (IntKind.u32.wrap (2 ^ (ji4).toNat)) = ji6 := fun hle_ => by have h_ := hji6z hle_; rw [Int.one_mul] at h_; exact h_
  have c7b0 := eq_true (of_decide_eq_true (by first | (with_reducible assumption) | assumption) : 0 ≤ (ji4))
  obtain ⟨ji8, hji8⟩ : ∃ j_ : Int, (shr .u32 (Go.bits .and .u32 a1 t643) (ji4)) = j_ := ⟨_, rfl⟩
  replace H : (if (ji8) = 1 then (some (wrap64 (-(wrap64 (Go.bits .and .u32 (Go.bits .and .u32 a1 t643) (((ji6) - 1) % 4294967296)))))) else (some (wrap64 (Go.bits .and .u32 (Go.bits .and .u32 a1 t643) (((ji6) - 1) % 4294967296))))) = some r := by first | (rw [hji8] at H; exact H) | (simp only [hji8] at H ⊢; exact H)
  (try rw [hji8] at A3)
  have hji8_ : ((Go.bits .and .u32 a1 t643) / 2 ^ min (ji4).toNat 32) = ji8 := hji8
  have hji8z : (ji4) ≤ 32 → ((Go.bits .and .u32 a1 t643) / 2 ^ (ji4).toNat) = ji8 := shr_small hji8
  by_cases c9 : (ji8) = 1
  ·
   rw [if_pos c9] at H
   have c9b0 : ((ji8) == 1) = true := beq_iff_eq.mpr c9
   have c9b1 : ((ji8) != 1) = false := bne_eq_false_iff_eq.mpr c9
   clear c9
   obtain rfl := Option.some.inj H
   simp only [Option.some.injEq, Prod.mk.injEq] at H
   obtain ⟨rfl⟩ := H
   go_enter Try.func94, Try.ntmps94
   go_wp2_with (first | ((with_reducible refine gate_dst (N := 2) rfl ?_); refine box_event ?hg (N := 2) ?hd (cs := #[.int .u64 a0_0, .int .u64 a0_1]) (t := 52) ?hr ?_; (case hd => rfl); (case hg => rfl); (case hr => first | (go_simp; done) | (go_simp; rfl)); intro gb642 hg w10 hbox hb; have n0_ := Aside0.mk (below_step (by repeat (first | (with_reducible first | exact HB.out | apply below_alloc | apply pw_below_drewN | apply below_drew1) | exact HB.out)) hb); have n1_ := Aside0.mk (hbox); have n2_ := Aside0.mk ((by rw [hg]; exact (below_size (by repeat (first | (with_reducible first | exact HB.out | apply below_alloc | apply pw_below_drewN | apply below_drew1) | exact HB.out))) : w.heap.size ≤ gb642)); have n3_ := Aside0.mk ((by rw [hg]; exact (below_size (by repeat (first | (with_reducible first | exact HB.out | apply below_alloc | apply pw_below_drewN | apply below_drew1) | exact HB.out))) : w.heap.size ≤ gb642)); clear HB; have HB := n0_; have BK642 := n1_; have GW642 := n2_; have GE642 := n3_; clear n0_ n1_ n2_ n3_; clear hb hbox hg; have hcz11_0 : w10.cell? ⟨gb642, 0, none⟩ = some (.int .u64 a0_0) := (blk_cell BK642.out 0).trans rfl; have hcz11_1 : w10.cell? ⟨gb642, 1, none⟩ = some (.int .u64 a0_1) := (blk_cell BK642.out 1).trans rfl; have hfz11_0 := blk_frozen BK642.out 0; have hfz11_1 := blk_frozen BK642.out 1) | ((with_reducible refine gate_callee (f := 78) rfl ?_); refine goesL_ (some 8) rfl rfl Try.func78 (by kernel_rfl) rfl #[.agg #[.int .u64 a0_0, .int .u64 a0_1]] rfl (by (try simp only [List.map_toArray, List.map_cons, List.map_nil]); first | done | rfl | (simp only [List.length_drop, List.length_take]; rfl)) ?_; (with_reducible refine (spec_l4K_mask.calls a0_0 a0_1 t643 _ A3.out).mono ?_); rintro e w12 ⟨rfl, hb⟩; refine ⟨_, rfl, ?_⟩; have n0_ := Aside0.mk (blk_below (g := gb642) (o := .cells #[.int .u64 a0_0, .int .u64 a0_1] 52 (0, 0)) (by (with_reducible repeat (first | refine blk_drewN ?_ _ | refine blk_drew ?_ | refine blk_alloc ?_ _)); exact BK642.out) hb); have n1_ := Aside0.mk (below_step (by repeat (first | (with_reducible first | exact HB.out | apply below_alloc | apply pw_below_drewN | apply below_drew1 | refine below_set ?_ GE642.out) | exact HB.out)) hb); clear BK642; clear HB; have BK642 := n0_; have HB := n1_; clear n0_ n1_; (try clear hb); (try clear hb2); (try clear hk); (try clear hi); have hcz13_0 : w12.cell? ⟨gb642, 0, none⟩ = some (.int .u64 a0_0) := (blk_cell BK642.out 0).trans rfl; have hcz13_1 : w12.cell? ⟨gb642, 1, none⟩ = some (.int .u64 a0_1) := (blk_cell BK642.out 1).trans rfl; have hfz13_0 := blk_frozen BK642.out 0; have hfz13_1 := blk_frozen BK642.out 1))
   go_ret
   exact ⟨by first | rfl | (simp [errW_none, errW_some] <;> rfl) | (simp only [← hji4, ← hji6, ← hji8]; first | rfl | (simp [errW_none, errW_some] <;> rfl)) | (simp [*, errW_none, errW_some] <;> rfl), by repeat (first | (with_reducible first | exact HB.out | apply below_alloc | apply pw_below_drewN | apply below_drew1 | refine below_set ?_ GE642.out) | exact HB.out)⟩
  ·
   rw [if_neg c9] at H
   have c9b0 : ((ji8) == 1) = false := beq_eq_false_iff_ne.mpr c9
   have c9b1 : ((ji8) != 1) = true := bne_iff_ne.mpr c9
   obtain rfl := Option.some.inj H
   simp only [Option.some.injEq, Prod.mk.injEq] at H
   obtain ⟨rfl⟩ := H
   go_enter Try.func94, Try.ntmps94
   go_wp2_with (first | ((with_reducible refine gate_dst (N := 2) rfl ?_); refine box_event ?hg (N := 2) ?hd (cs := #[.int .u64 a0_0, .int .u64 a0_1]) (t := 52) ?hr ?_; (case hd => rfl); (case hg => rfl); (case hr => first | (go_simp; done) | (go_simp; rfl)); intro gb642 hg w14 hbox hb; have n0_ := Aside0.mk (below_step (by repeat (first | (with_reducible first | exact HB.out | apply below_alloc | apply pw_below_drewN | apply below_drew1) | exact HB.out)) hb); have n1_ := Aside0.mk (hbox); have n2_ := Aside0.mk ((by rw [hg]; exact (below_size (by repeat (first | (with_reducible first | exact HB.out | apply below_alloc | apply pw_below_drewN | apply below_drew1) | exact HB.out))) : w.heap.size ≤ gb642)); have n3_ := Aside0.mk ((by rw [hg]; exact (below_size (by repeat (first | (with_reducible first | exact HB.out | apply below_alloc | apply pw_below_drewN | apply below_drew1) | exact HB.out))) : w.heap.size ≤ gb642)); clear HB; have HB := n0_; have BK642 := n1_; have GW642 := n2_; have GE642 := n3_; clear n0_ n1_ n2_ n3_; clear hb hbox hg; have hcz15_0 : w14.cell? ⟨gb642, 0, none⟩ = some (.int .u64 a0_0) := (blk_cell BK642.out 0).trans rfl; have hcz15_1 : w14.cell? ⟨gb642, 1, none⟩ = some (.int .u64 a0_1) := (blk_cell BK642.out 1).trans rfl; have hfz15_0 := blk_frozen BK642.out 0; have hfz15_1 := blk_frozen BK642.out 1) | ((with_reducible refine gate_callee (f := 78) rfl ?_); refine goesL_ (some 8) rfl rfl Try.func78 (by kernel_rfl) rfl #[.agg #[.int .u64 a0_0, .int .u64 a0_1]] rfl (by (try simp only [List.map_toArray, List.map_cons, List.map_nil]); first | done | rfl | (simp only [List.length_drop, List.length_take]; rfl)) ?_; (with_reducible refine (spec_l4K_mask.calls a0_0 a0_1 t643 _ A3.out).mono ?_); rintro e w16 ⟨rfl, hb⟩; refine ⟨_, rfl, ?_⟩; have n0_ := Aside0.mk (blk_below (g := gb642) (o := .cells #[.int .u64 a0_0, .int .u64 a0_1] 52 (0, 0)) (by (with_reducible repeat (first | refine blk_drewN ?_ _ | refine blk_drew ?_ | refine blk_alloc ?_ _)); exact BK642.out) hb); have n1_ := Aside0.mk (below_step (by repeat (first | (with_reducible first | exact HB.out | apply below_alloc | apply pw_below_drewN | apply below_drew1 | refine below_set ?_ GE642.out) | exact HB.out)) hb); clear BK642; clear HB; have BK642 := n0_; have HB := n1_; clear n0_ n1_; (try clear hb); (try clear hb2); (try clear hk); (try clear hi); have hcz17_0 : w16.cell? ⟨gb642, 0, none⟩ = some (.int .u64 a0_0) := (blk_cell BK642.out 0).trans rfl; have hcz17_1 : w16.cell? ⟨gb642, 1, none⟩ = some (.int .u64 a0_1) := (blk_cell BK642.out 1).trans rfl; have hfz17_0 := blk_frozen BK642.out 0; have hfz17_1 := blk_frozen BK642.out 1))
   go_ret
   exact ⟨by first | rfl | (simp [errW_none, errW_some] <;> rfl) | (simp only [← hji4, ← hji6, ← hji8]; first | rfl | (simp [errW_none, errW_some] <;> rfl)) | (simp [*, errW_none, errW_some] <;> rfl), by repeat (first | (with_reducible first | exact HB.out | apply below_alloc | apply pw_below_drewN | apply below_drew1 | refine below_set ?_ GE642.out) | exact HB.out)⟩
 ·
  rw [if_neg c5] at H
  exact absurd H (by simp)

end Go.Proofs.Ytdeogandkgiggaa.Q
