-- Written by a program of this session; it walks the functions that the law reaches.
import Derived.Test.YtdeogandkgiggaaQx0
namespace Go.Proofs.Ytdeogandkgiggaa.Q
open Go.RowKit Go.Proofs.YtdeogandkgiggaaW.PrintWords Go.Proofs.YtdeogandkgiggaaW.PrintLast Go.Proofs.YtdeogandkgiggaaW.PrintMore
attribute [local go_sem] max2_int min2_int max_two min_two max_three min_three max_four min_four   -- for this text's walks alone
set_option linter.unusedVariables false
set_option linter.unusedSimpArgs false

/-! ### spec_l4Kind: function 46 -/
def spec_l4Kind.f (a0 : Int) : Option (Int × Int × Bool) := if a0 = 16 then (some (5, 10, true)) else (if a0 = 32 then (some (8, 23, true)) else (some (0, 0, false)))
set_option maxHeartbeats 8000000 in
set_option maxRecDepth 100000 in
theorem spec_l4Kind.calls (a0 : Int) (r1 : Int) (r2 : Int) (r3 : Bool) (w : World) (h : spec_l4Kind.f a0 = some (r1, r2, r3)) :
  Calls Try.prog 46 #[.int .i64 a0] w fun e w' => e = .returned (.tuple #[.agg #[.int .u64 r1, .int .u64 r2], .bool r3]) ∧ Below w.heap.size w w' := by
 have hu52 := Try.underlying52
 have HB := Aside0.mk (Below.refl w.heap.size w)
 have H : (if a0 = 16 then (some (5, 10, true)) else (if a0 = 32 then (some (8, 23, true)) else (some (0, 0, false)))) = some (r1, r2, r3) := h
 clear h
 by_cases c2 : a0 = 16
 ·
  rw [if_pos c2] at H
  have c2b0 : (a0 == 16) = true := beq_iff_eq.mpr c2
  have c2b1 : (a0 != 16) = false := bne_eq_false_iff_eq.mpr c2
  clear c2
  simp only [Option.some.injEq, Prod.mk.injEq] at H
  obtain ⟨rfl, rfl, rfl⟩ := H
  go_enter Try.func46, Try.ntmps46
  go_wp2_with (first | ((with_reducible refine gate_dst (N := 2) rfl ?_); refine box_event ?hg (N := 2) ?hd (cs := #[.int .u64 0, .int .u64 0]) (t := 52) ?hr ?_; (case hd => rfl); (case hg => rfl); (case hr => first | (go_simp; done) | (go_simp; rfl)); intro gb101 hg w3 hbox hb; have n0_ := Aside0.mk (below_step (bw HB.out) hb); have n1_ := Aside0.mk (hbox); have n2_ := Aside0.mk ((by rw [hg]; exact (below_size (bw HB.out)) : w.heap.size ≤ gb101)); have n3_ := Aside0.mk ((by rw [hg]; exact (below_size (bw HB.out)) : w.heap.size ≤ gb101)); clear HB; have HB := n0_; have BK101 := n1_; have GW101 := n2_; have GE101 := n3_; clear n0_ n1_ n2_ n3_; clear hb hbox hg; have hcz4_0 : w3.cell? ⟨gb101, 0, none⟩ = some (.int .u64 0) := (blk_cell BK101.out 0).trans rfl; have hcz4_1 : w3.cell? ⟨gb101, 1, none⟩ = some (.int .u64 0) := (blk_cell BK101.out 1).trans rfl; have hfz4_0 := blk_frozen BK101.out 0; have hfz4_1 := blk_frozen BK101.out 1))
  refine bodyPost_ret (results_ct rfl _ _ gb101 52 #[.int .u64 5, .int .u64 10] (0, 0) _ rfl (by (with_reducible repeat (first | refine blk_drewN ?_ _ | refine blk_drew ?_ | refine blk_alloc ?_ _)); refine blk_put (cs := #[.int .u64 5, .int .u64 0]) ?_ 1 _ rfl; (with_reducible repeat (first | refine blk_drewN ?_ _ | refine blk_drew ?_ | refine blk_alloc ?_ _)); refine blk_put (cs := #[.int .u64 0, .int .u64 0]) ?_ 0 _ rfl; (with_reducible repeat (first | refine blk_drewN ?_ _ | refine blk_drew ?_ | refine blk_alloc ?_ _)); exact BK101.out) Try.underlying52 rfl (by kernel_rfl)) rfl ?_
  exact ⟨by first | rfl | (simp [errW_none, errW_some] <;> rfl) | (simp [*, errW_none, errW_some] <;> rfl), bw HB.out⟩
 ·
  rw [if_neg c2] at H
  have c2b0 : (a0 == 16) = false := beq_eq_false_iff_ne.mpr c2
  have c2b1 : (a0 != 16) = true := bne_iff_ne.mpr c2
  by_cases c5 : a0 = 32
  ·
   rw [if_pos c5] at H
   have c5b0 : (a0 == 32) = true := beq_iff_eq.mpr c5
   have c5b1 : (a0 != 32) = false := bne_eq_false_iff_eq.mpr c5
   clear c5
   simp only [Option.some.injEq, Prod.mk.injEq] at H
   obtain ⟨rfl, rfl, rfl⟩ := H
   go_enter Try.func46, Try.ntmps46
   go_wp2_with (first | ((with_reducible refine gate_dst (N := 2) rfl ?_); refine box_event ?hg (N := 2) ?hd (cs := #[.int .u64 0, .int .u64 0]) (t := 52) ?hr ?_; (case hd => rfl); (case hg => rfl); (case hr => first | (go_simp; done) | (go_simp; rfl)); intro gb101 hg w6 hbox hb; have n0_ := Aside0.mk (below_step (bw HB.out) hb); have n1_ := Aside0.mk (hbox); have n2_ := Aside0.mk ((by rw [hg]; exact (below_size (bw HB.out)) : w.heap.size ≤ gb101)); have n3_ := Aside0.mk ((by rw [hg]; exact (below_size (bw HB.out)) : w.heap.size ≤ gb101)); clear HB; have HB := n0_; have BK101 := n1_; have GW101 := n2_; have GE101 := n3_; clear n0_ n1_ n2_ n3_; clear hb hbox hg; have hcz7_0 : w6.cell? ⟨gb101, 0, none⟩ = some (.int .u64 0) := (blk_cell BK101.out 0).trans rfl; have hcz7_1 : w6.cell? ⟨gb101, 1, none⟩ = some (.int .u64 0) := (blk_cell BK101.out 1).trans rfl; have hfz7_0 := blk_frozen BK101.out 0; have hfz7_1 := blk_frozen BK101.out 1))
   refine bodyPost_ret (results_ct rfl _ _ gb101 52 #[.int .u64 8, .int .u64 23] (0, 0) _ rfl (by (with_reducible repeat (first | refine blk_drewN ?_ _ | refine blk_drew ?_ | refine blk_alloc ?_ _)); refine blk_put (cs := #[.int .u64 8, .int .u64 0]) ?_ 1 _ rfl; (with_reducible repeat (first | refine blk_drewN ?_ _ | refine blk_drew ?_ | refine blk_alloc ?_ _)); refine blk_put (cs := #[.int .u64 0, .int .u64 0]) ?_ 0 _ rfl; (with_reducible repeat (first | refine blk_drewN ?_ _ | refine blk_drew ?_ | refine blk_alloc ?_ _)); exact BK101.out) Try.underlying52 rfl (by kernel_rfl)) rfl ?_
   exact ⟨by first | rfl | (simp [errW_none, errW_some] <;> rfl) | (simp [*, errW_none, errW_some] <;> rfl), bw HB.out⟩
  ·
   rw [if_neg c5] at H
   have c5b0 : (a0 == 32) = false := beq_eq_false_iff_ne.mpr c5
   have c5b1 : (a0 != 32) = true := bne_iff_ne.mpr c5
   simp only [Option.some.injEq, Prod.mk.injEq] at H
   obtain ⟨rfl, rfl, rfl⟩ := H
   go_enter Try.func46, Try.ntmps46
   go_wp2_with (first | ((with_reducible refine gate_dst (N := 2) rfl ?_); refine box_event ?hg (N := 2) ?hd (cs := #[.int .u64 0, .int .u64 0]) (t := 52) ?hr ?_; (case hd => rfl); (case hg => rfl); (case hr => first | (go_simp; done) | (go_simp; rfl)); intro gb101 hg w8 hbox hb; have n0_ := Aside0.mk (below_step (bw HB.out) hb); have n1_ := Aside0.mk (hbox); have n2_ := Aside0.mk ((by rw [hg]; exact (below_size (bw HB.out)) : w.heap.size ≤ gb101)); have n3_ := Aside0.mk ((by rw [hg]; exact (below_size (bw HB.out)) : w.heap.size ≤ gb101)); clear HB; have HB := n0_; have BK101 := n1_; have GW101 := n2_; have GE101 := n3_; clear n0_ n1_ n2_ n3_; clear hb hbox hg; have hcz9_0 : w8.cell? ⟨gb101, 0, none⟩ = some (.int .u64 0) := (blk_cell BK101.out 0).trans rfl; have hcz9_1 : w8.cell? ⟨gb101, 1, none⟩ = some (.int .u64 0) := (blk_cell BK101.out 1).trans rfl; have hfz9_0 := blk_frozen BK101.out 0; have hfz9_1 := blk_frozen BK101.out 1))
   refine bodyPost_ret (results_ct rfl _ _ gb101 52 #[.int .u64 0, .int .u64 0] (0, 0) _ rfl (by (with_reducible repeat (first | refine blk_drewN ?_ _ | refine blk_drew ?_ | refine blk_alloc ?_ _)); refine blk_put (cs := #[.int .u64 0, .int .u64 0]) ?_ 1 _ rfl; (with_reducible repeat (first | refine blk_drewN ?_ _ | refine blk_drew ?_ | refine blk_alloc ?_ _)); refine blk_put (cs := #[.int .u64 0, .int .u64 0]) ?_ 0 _ rfl; (with_reducible repeat (first | refine blk_drewN ?_ _ | refine blk_drew ?_ | refine blk_alloc ?_ _)); exact BK101.out) Try.underlying52 rfl (by kernel_rfl)) rfl ?_
   exact ⟨by first | rfl | (simp [errW_none, errW_some] <;> rfl) | (simp [*, errW_none, errW_some] <;> rfl), bw HB.out⟩

end Go.Proofs.Ytdeogandkgiggaa.Q

namespace Go.Proofs.Ytdeogandkgiggaa.Q
open Go.RowKit Go.Proofs.YtdeogandkgiggaaW.PrintWords Go.Proofs.YtdeogandkgiggaaW.PrintLast Go.Proofs.YtdeogandkgiggaaW.PrintMore
attribute [local go_sem] max2_int min2_int max_two min_two max_three min_three max_four min_four   -- for this text's walks alone
set_option linter.unusedVariables false
set_option linter.unusedSimpArgs false

/-! ### spec_l4K_mask: function 78 -/
def spec_l4K_mask.f (a0_0 : Int) (a0_1 : Int) : Option (Int) := if 0 ≤ (IntKind.u64.wrap ((IntKind.u64.wrap (a0_0 + a0_1)) + 1)) then (some (((shl .u32 1 (IntKind.u64.wrap ((IntKind.u64.wrap (a0_0 + a0_1)) + 1))) - 1) % 4294967296)) else (none)
set_option maxHeartbeats 8000000 in
set_option maxRecDepth 100000 in
theorem spec_l4K_mask.calls (a0_0 : Int) (a0_1 : Int) (r : Int) (w : World) (h : spec_l4K_mask.f a0_0 a0_1 = some r) :
  Calls Try.prog 78 #[.agg #[.int .u64 a0_0, .int .u64 a0_1]] w fun e w' => e = .returned (.int .u32 r) ∧ Below w.heap.size w w' := by
 have hu52 := Try.underlying52
 have HB := Aside0.mk (Below.refl w.heap.size w)
 have H : (if 0 ≤ (IntKind.u64.wrap ((IntKind.u64.wrap (a0_0 + a0_1)) + 1)) then (some (((shl .u32 1 (IntKind.u64.wrap ((IntKind.u64.wrap (a0_0 + a0_1)) + 1))) - 1) % 4294967296)) else (none)) = some r := h
 clear h
 obtain ⟨ji2, hji2⟩ : ∃ j_ : Int, (IntKind.u64.wrap ((IntKind.u64.wrap (a0_0 + a0_1)) + 1)) = j_ := ⟨_, rfl⟩
 replace H : (if 0 ≤ (ji2) then (some (((shl .u32 1 (ji2)) - 1) % 4294967296)) else (none)) = some r := by first | (rw [hji2] at H; exact H) | (simp only [hji2] at H ⊢; exact H)
 by_cases c3 : 0 ≤ (ji2)
 ·
  rw [if_pos c3] at H
  have c3b0 := eq_true c3
  have c3b1 : decide (0 ≤ (ji2)) = true := decide_eq_true c3
  clear c3
  obtain ⟨ji4, hji4⟩ : ∃ j_ : Int, (shl .u32 1 (ji2)) = j_ := ⟨_, rfl⟩
  replace H : (some (((ji4) - 1) % 4294967296)) = some r := by first | (rw [hji4] at H; exact H) | (simp only [hji4] at H ⊢; exact H)
  have hji4_ : (IntKind.u32.wrap (1 * 2 ^ min (ji2).toNat 32)) = ji4 := hji4
  have hji4z : (ji2) ≤ 32 → (IntKind.u32.wrap (1 * 2 ^ (ji2).toNat)) = ji4 := shl_small hji4
  have hji4u : (IntKind.u32.wrap (2 ^ min (ji2).toNat 32)) = ji4 := by have h_ := hji4_; rw [Int.one_mul] at h_; exact h_
  have hji4v : (ji2) ≤ 32 → (IntKind.u32.wrap (2 ^ (ji2).toNat)) = ji4 := fun hle_ => by have h_ := hji4z hle_; rw [Int.one_mul] at h_; exact h_
  obtain rfl := Option.some.inj H
  simp only [Option.some.injEq, Prod.mk.injEq] at H
  obtain ⟨rfl⟩ := H
  go_enter Try.func78, Try.ntmps78
  go_wp2_with (first | ((with_reducible refine gate_dst (N := 1) rfl ?_); refine box_event ?hg (N := 1) ?hd (cs := #[.int .u64 a0_0, .int .u64 a0_1]) (t := 52) ?hr ?_; (case hd => rfl); (case hg => rfl); (case hr => first | (go_simp; done) | (go_simp; rfl)); intro gb102 hg w5 hbox hb; have n0_ := Aside0.mk (below_step (bw HB.out) hb); have n1_ := Aside0.mk (hbox); have n2_ := Aside0.mk ((by rw [hg]; exact (below_size (bw HB.out)) : w.heap.size ≤ gb102)); have n3_ := Aside0.mk ((by rw [hg]; exact (below_size (bw HB.out)) : w.heap.size ≤ gb102)); clear HB; have HB := n0_; have BK102 := n1_; have GW102 := n2_; have GE102 := n3_; clear n0_ n1_ n2_ n3_; clear hb hbox hg; have hcz6_0 : w5.cell? ⟨gb102, 0, none⟩ = some (.int .u64 a0_0) := (blk_cell BK102.out 0).trans rfl; have hcz6_1 : w5.cell? ⟨gb102, 1, none⟩ = some (.int .u64 a0_1) := (blk_cell BK102.out 1).trans rfl; have hfz6_0 := blk_frozen BK102.out 0; have hfz6_1 := blk_frozen BK102.out 1))
  go_ret
  exact ⟨by first | rfl | (simp [errW_none, errW_some] <;> rfl) | (simp only [← hji2, ← hji4]; first | rfl | (simp [errW_none, errW_some] <;> rfl)) | (simp [*, errW_none, errW_some] <;> rfl), bw HB.out⟩
 ·
  rw [if_neg c3] at H
  exact absurd H (by simp)

end Go.Proofs.Ytdeogandkgiggaa.Q

namespace Go.Proofs.Ytdeogandkgiggaa.Q
open Go.RowKit Go.Proofs.YtdeogandkgiggaaW.PrintWords Go.Proofs.YtdeogandkgiggaaW.PrintLast Go.Proofs.YtdeogandkgiggaaW.PrintMore
attribute [local go_sem] max2_int min2_int max_two min_two max_three min_three max_four min_four   -- for this text's walks alone
set_option linter.unusedVariables false
set_option linter.unusedSimpArgs false

/-! ### spec_l4K_least: function 82 -/
def spec_l4K_least.f (a0_0 : Int) (a0_1 : Int) : Option (Int) := if 0 ≤ (IntKind.u64.wrap (a0_0 - 1)) then (some (wrap64 ((wrap64 (2 - (shl .i64 1 (IntKind.u64.wrap (a0_0 - 1))))) - (wrap64 (a0_1))))) else (none)
set_option maxHeartbeats 8000000 in
set_option maxRecDepth 100000 in
theorem spec_l4K_least.calls (a0_0 : Int) (a0_1 : Int) (r : Int) (w : World) (h : spec_l4K_least.f a0_0 a0_1 = some r) :
  Calls Try.prog 82 #[.agg #[.int .u64 a0_0, .int .u64 a0_1]] w fun e w' => e = .returned (.int .i64 r) ∧ Below w.heap.size w w' := by
 have hu52 := Try.underlying52
 have HB := Aside0.mk (Below.refl w.heap.size w)
 have H : (if 0 ≤ (IntKind.u64.wrap (a0_0 - 1)) then (some (wrap64 ((wrap64 (2 - (shl .i64 1 (IntKind.u64.wrap (a0_0 - 1))))) - (wrap64 (a0_1))))) else (none)) = some r := h
 clear h
 obtain ⟨ji2, hji2⟩ : ∃ j_ : Int, (IntKind.u64.wrap (a0_0 - 1)) = j_ := ⟨_, rfl⟩
 replace H : (if 0 ≤ (ji2) then (some (wrap64 ((wrap64 (2 - (shl .i64 1 (ji2)))) - (wrap64 (a0_1))))) else (none)) = some r := by first | (rw [hji2] at H; exact H) | (simp only [hji2] at H ⊢; exact H)
 by_cases c3 : 0 ≤ (ji2)
 ·
  rw [if_pos c3] at H
  have c3b0 := eq_true c3
  have c3b1 : decide (0 ≤ (ji2)) = true := decide_eq_true c3
  clear c3
  obtain ⟨ji4, hji4⟩ : ∃ j_ : Int, (shl .i64 1 (ji2)) = j_ := ⟨_, rfl⟩
  replace H : (some (wrap64 ((wrap64 (2 - (ji4))) - (wrap64 (a0_1))))) = some r := by first | (rw [hji4] at H; exact H) | (simp only [hji4] at H ⊢; exact H)
  have hji4_ : (IntKind.i64.wrap (1 * 2 ^ min (ji2).toNat 64)) = ji4 := hji4
  have hji4z : (ji2) ≤ 64 → (IntKind.i64.wrap (1 * 2 ^ (ji2).toNat)) = ji4 := shl_small hji4
  have hji4u : (IntKind.i64.wrap (2 ^ min (ji2).toNat 64)) = ji4 := by have h_ := hji4_; rw [Int.one_mul] at h_; exact h_
  have hji4v : (ji2) ≤ 64 → (IntKind.i64.wrap (2 ^ (ji2).toNat)) = ji4 := fun hle_ => by have h_ := hji4z hle_; rw [Int.one_mul] at h_; exact h_
  have hji4y : (wrap64 (1 * 2 ^ min (ji2).toNat 64)) = ji4 := (i64_w _).symm.trans hji4_
  have hji4x : (ji2) ≤ 64 → (wrap64 (1 * 2 ^ (ji2).toNat)) = ji4 := fun h_ => (i64_w _).symm.trans (hji4z h_)
  obtain rfl := Option.some.inj H
  simp only [Option.some.injEq, Prod.mk.injEq] at H
  obtain ⟨rfl⟩ := H
  go_enter Try.func82, Try.ntmps82
  go_wp2_with (first | ((with_reducible refine gate_dst (N := 1) rfl ?_); refine box_event ?hg (N := 1) ?hd (cs := #[.int .u64 a0_0, .int .u64 a0_1]) (t := 52) ?hr ?_; (case hd => rfl); (case hg => rfl); (case hr => first | (go_simp; done) | (go_simp; rfl)); intro gb103 hg w5 hbox hb; have n0_ := Aside0.mk (below_step (bw HB.out) hb); have n1_ := Aside0.mk (hbox); have n2_ := Aside0.mk ((by rw [hg]; exact (below_size (bw HB.out)) : w.heap.size ≤ gb103)); have n3_ := Aside0.mk ((by rw [hg]; exact (below_size (bw HB.out)) : w.heap.size ≤ gb103)); clear HB; have HB := n0_; have BK103 := n1_; have GW103 := n2_; have GE103 := n3_; clear n0_ n1_ n2_ n3_; clear hb hbox hg; have hcz6_0 : w5.cell? ⟨gb103, 0, none⟩ = some (.int .u64 a0_0) := (blk_cell BK103.out 0).trans rfl; have hcz6_1 : w5.cell? ⟨gb103, 1, none⟩ = some (.int .u64 a0_1) := (blk_cell BK103.out 1).trans rfl; have hfz6_0 := blk_frozen BK103.out 0; have hfz6_1 := blk_frozen BK103.out 1))
  go_ret
  exact ⟨by first | rfl | (simp [errW_none, errW_some] <;> rfl) | (simp only [← hji2, ← hji4]; first | rfl | (simp [errW_none, errW_some] <;> rfl)) | (simp [*, errW_none, errW_some] <;> rfl), bw HB.out⟩
 ·
  rw [if_neg c3] at H
  exact absurd H (by simp)

end Go.Proofs.Ytdeogandkgiggaa.Q

namespace Go.Proofs.Ytdeogandkgiggaa.Q
open Go.RowKit Go.Proofs.YtdeogandkgiggaaW.PrintWords Go.Proofs.YtdeogandkgiggaaW.PrintLast Go.Proofs.YtdeogandkgiggaaW.PrintMore
attribute [local go_sem] max2_int min2_int max_two min_two max_three min_three max_four min_four   -- for this text's walks alone
set_option linter.unusedVariables false
set_option linter.unusedSimpArgs false

/-! ### spec_l4K_open: function 47 -/
def spec_l4K_open.f (a0_0 : Int) (a0_1 : Int) (a1 : Int) : Option (Bool × Bool × Bool × Int × Int) := (spec_l4K_mask.f a0_0 a0_1).bind fun t106 => (if 0 ≤ a0_1 then (if 0 ≤ a0_0 then (if 0 ≤ (IntKind.u64.wrap (a0_0 + a0_1)) then (if (Go.bits .and .u32 (shr .u32 (Go.bits .and .u32 a1 t106) a0_1) (((shl .u32 1 a0_0) - 1) % 4294967296)) = (((shl .u32 1 a0_0) - 1) % 4294967296) then (some (((shr .u32 (Go.bits .and .u32 a1 t106) (IntKind.u64.wrap (a0_0 + a0_1))) == 1), ((Go.bits .and .u32 (Go.bits .and .u32 a1 t106) (((shl .u32 1 a0_1) - 1) % 4294967296)) == 0), ((Go.bits .and .u32 (Go.bits .and .u32 a1 t106) (((shl .u32 1 a0_1) - 1) % 4294967296)) != 0), 0, 0)) else (if (Go.bits .and .u32 (shr .u32 (Go.bits .and .u32 a1 t106) a0_1) (((shl .u32 1 a0_0) - 1) % 4294967296)) = 0 then ((spec_l4K_least.f a0_0 a0_1).bind fun t108 => (some (((shr .u32 (Go.bits .and .u32 a1 t106) (IntKind.u64.wrap (a0_0 + a0_1))) == 1), false, false, IntKind.u64.wrap (Go.bits .and .u32 (Go.bits .and .u32 a1 t106) (((shl .u32 1 a0_1) - 1) % 4294967296)), t108))) else ((spec_l4K_least.f a0_0 a0_1).bind fun t109 => (some (((shr .u32 (Go.bits .and .u32 a1 t106) (IntKind.u64.wrap (a0_0 + a0_1))) == 1), false, false, IntKind.u64.wrap (Go.bits .or .u32 (Go.bits .and .u32 (Go.bits .and .u32 a1 t106) (((shl .u32 1 a0_1) - 1) % 4294967296)) (shl .u32 1 a0_1)), wrap64 ((wrap64 (t109 + (wrap64 (Go.bits .and .u32 (shr .u32 (Go.bits .and .u32 a1 t106) a0_1) (((shl .u32 1 a0_0) - 1) % 4294967296))))) - 1)))))) else (none)) else (none)) else (none))
set_option maxHeartbeats 8000000 in
set_option maxRecDepth 100000 in
theorem spec_l4K_open.calls (a0_0 : Int) (a0_1 : Int) (a1 : Int) (r1 : Bool) (r2 : Bool) (r3 : Bool) (r4 : Int) (r5 : Int) (w : World) (h : spec_l4K_open.f a0_0 a0_1 a1 = some (r1, r2, r3, r4, r5)) :
  Calls Try.prog 47 #[.agg #[.int .u64 a0_0, .int .u64 a0_1], .int .u32 a1] w fun e w' => e = .returned (.agg #[.bool r1, .bool r2, .bool r3, .int .u64 r4, .int .i64 r5]) ∧ Below w.heap.size w w' := by
 have hu52 := Try.underlying52
 have hu56 := Try.underlying56
 have HB := Aside0.mk (Below.refl w.heap.size w)
 have H : ((spec_l4K_mask.f a0_0 a0_1).bind fun t106 => (if 0 ≤ a0_1 then (if 0 ≤ a0_0 then (if 0 ≤ (IntKind.u64.wrap (a0_0 + a0_1)) then (if (Go.bits .and .u32 (shr .u32 (Go.bits .and .u32 a1 t106) a0_1) (((shl .u32 1 a0_0) - 1) % 4294967296)) = (((shl .u32 1 a0_0) - 1) % 4294967296) then (some (((shr .u32 (Go.bits .and .u32 a1 t106) (IntKind.u64.wrap (a0_0 + a0_1))) == 1), ((Go.bits .and .u32 (Go.bits .and .u32 a1 t106) (((shl .u32 1 a0_1) - 1) % 4294967296)) == 0), ((Go.bits .and .u32 (Go.bits .and .u32 a1 t106) (((shl .u32 1 a0_1) - 1) % 4294967296)) != 0), 0, 0)) else (if (Go.bits .and .u32 (shr .u32 (Go.bits .and .u32 a1 t106) a0_1) (((shl .u32 1 a0_0) - 1) % 4294967296)) = 0 then ((spec_l4K_least.f a0_0 a0_1).bind fun t108 => (some (((shr .u32 (Go.bits .and .u32 a1 t106) (IntKind.u64.wrap (a0_0 + a0_1))) == 1), false, false, IntKind.u64.wrap (Go.bits .and .u32 (Go.bits .and .u32 a1 t106) (((shl .u32 1 a0_1) - 1) % 4294967296)), t108))) else ((spec_l4K_least.f a0_0 a0_1).bind fun t109 => (some (((shr .u32 (Go.bits .and .u32 a1 t106) (IntKind.u64.wrap (a0_0 + a0_1))) == 1), false, false, IntKind.u64.wrap (Go.bits .or .u32 (Go.bits .and .u32 (Go.bits .and .u32 a1 t106) (((shl .u32 1 a0_1) - 1) % 4294967296)) (shl .u32 1 a0_1)), wrap64 ((wrap64 (t109 + (wrap64 (Go.bits .and .u32 (shr .u32 (Go.bits .and .u32 a1 t106) a0_1) (((shl .u32 1 a0_0) - 1) % 4294967296))))) - 1)))))) else (none)) else (none)) else (none))) = some (r1, r2, r3, r4, r5) := h
 clear h
 replace H := Option.bind_eq_some_iff.mp H
 obtain ⟨t106, A30, H⟩ := H
 replace H : (if 0 ≤ a0_1 then (if 0 ≤ a0_0 then (if 0 ≤ (IntKind.u64.wrap (a0_0 + a0_1)) then (if (Go.bits .and .u32 (shr .u32 (Go.bits .and .u32 a1 t106) a0_1) (((shl .u32 1 a0_0) - 1) % 4294967296)) = (((shl .u32 1 a0_0) - 1) % 4294967296) then (some (((shr .u32 (Go.bits .and .u32 a1 t106) (IntKind.u64.wrap (a0_0 + a0_1))) == 1), ((Go.bits .and .u32 (Go.bits .and .u32 a1 t106) (((shl .u32 1 a0_1) - 1) % 4294967296)) == 0), ((Go.bits .and .u32 (Go.bits .and .u32 a1 t106) (((shl .u32 1 a0_1) - 1) % 4294967296)) != 0), 0, 0)) else (if (Go.bits .and .u32 (shr .u32 (Go.bits .and .u32 a1 t106) a0_1) (((shl .u32 1 a0_0) - 1) % 4294967296)) = 0 then ((spec_l4K_least.f a0_0 a0_1).bind fun t108 => (some (((shr .u32 (Go.bits .and .u32 a1 t106) (IntKind.u64.wrap (a0_0 + a0_1))) == 1), false, false, IntKind.u64.wrap (Go.bits .and .u32 (Go.bits .and .u32 a1 t106) (((shl .u32 1 a0_1) - 1) % 4294967296)), t108))) else ((spec_l4K_least.f a0_0 a0_1).bind fun t109 => (some (((shr .u32 (Go.bits .and .u32 a1 t106) (IntKind.u64.wrap (a0_0 + a0_1))) == 1), false, false, IntKind.u64.wrap (Go.bits .or .u32 (Go.bits .and .u32 (Go.bits .and .u32 a1 t106) (((shl .u32 1 a0_1) - 1) % 4294967296)) (shl .u32 1 a0_1)), wrap64 ((wrap64 (t109 + (wrap64 (Go.bits .and .u32 (shr .u32 (Go.bits .and .u32 a1 t106) a0_1) (((shl .u32 1 a0_0) - 1) % 4294967296))))) - 1)))))) else (none)) else (none)) else (none)) = some (r1, r2, r3, r4, r5) := H
 have A3 := Aside0.mk A30
 clear A30
 by_cases c4 : 0 ≤ a0_1
 ·
  rw [if_pos c4] at H
  have c4b0 := eq_true c4
  have c4b1 : decide (0 ≤ a0_1) = true := decide_eq_true c4
  clear c4
  obtain ⟨ji5, hji5⟩ : ∃ j_ : Int, (shl .u32 1 a0_1) = j_ := ⟨_, rfl⟩
  replace H : (if 0 ≤ a0_0 then (if 0 ≤ (IntKind.u64.wrap (a0_0 + a0_1)) then (if (Go.bits .and .u32 (shr .u32 (Go.bits .and .u32 a1 t106) a0_1) (((shl .u32 1 a0_0) - 1) % 4294967296)) = (((shl .u32 1 a0_0) - 1) % 4294967296) then (some (((shr .u32 (Go.bits .and .u32 a1 t106) (IntKind.u64.wrap (a0_0 + a0_1))) == 1), ((Go.bits .and .u32 (Go.bits .and .u32 a1 t106) (((ji5) - 1) % 4294967296)) == 0), ((Go.bits .and .u32 (Go.bits .and .u32 a1 t106) (((ji5) - 1) % 4294967296)) != 0), 0, 0)) else (if (Go.bits .and .u32 (shr .u32 (Go.bits .and .u32 a1 t106) a0_1) (((shl .u32 1 a0_0) - 1) % 4294967296)) = 0 then ((spec_l4K_least.f a0_0 a0_1).bind fun t108 => (some (((shr .u32 (Go.bits .and .u32 a1 t106) (IntKind.u64.wrap (a0_0 + a0_1))) == 1), false, false, IntKind.u64.wrap (Go.bits .and .u32 (Go.bits .and .u32 a1 t106) (((ji5) - 1) % 4294967296)), t108))) else ((spec_l4K_least.f a0_0 a0_1).bind fun t109 => (some (((shr .u32 (Go.bits .and .u32 a1 t106) (IntKind.u64.wrap (a0_0 + a0_1))) == 1), false, false, IntKind.u64.wrap (Go.bits .or .u32 (Go.bits .and .u32 (Go.bits .and .u32 a1 t106) (((ji5) - 1) % 4294967296)) (ji5)), wrap64 ((wrap64 (t109 + (wrap64 (Go.bits .and .u32 (shr .u32 (Go.bits .and .u32 a1 t106) a0_1) (((shl .u32 1 a0_0) - 1) % 4294967296))))) - 1)))))) else (none)) else (none)) = some (r1, r2, r3, r4, r5) := by first | (rw [hji5] at H; exact H) | (simp only [hji5] at H ⊢; exact H)
  (try rw [hji5] at A3)
  have hji5_ : (IntKind.u32.wrap (1 * 2 ^ min a0_1.toNat 32)) = ji5 := hji5
  have hji5z : a0_1 ≤ 32 → (IntKind.u32.wrap (1 * 2 ^ a0_1.toNat)) = ji5 := shl_small hji5
  have hji5u : (IntKind.u32.wrap (2 ^ min a0_1.toNat 32)) = ji5 := by have h_ := hji5_; rw [Int.one_mul] at h_; exact h_
  have hji5v : a0_1 ≤ 32 → (IntKind.u32.wrap (2 ^ a0_1.toNat)) = ji5 := fun hle_ => by have h_ := hji5z hle_; rw [Int.one_mul] at h_; exact h_
  have c6b0 := eq_true (of_decide_eq_true (by first | (with_reducible assumption) | assumption) : 0 ≤ a0_1)
  obtain ⟨ji7, hji7⟩ : ∃ j_ : Int, (shr .u32 (Go.bits .and .u32 a1 t106) a0_1) = j_ := ⟨_, rfl⟩
  replace H : (if 0 ≤ a0_0 then (if 0 ≤ (IntKind.u64.wrap (a0_0 + a0_1)) then (if (Go.bits .and .u32 (ji7) (((shl .u32 1 a0_0) - 1) % 4294967296)) = (((shl .u32 1 a0_0) - 1) % 4294967296) then (some (((shr .u32 (Go.bits .and .u32 a1 t106) (IntKind.u64.wrap (a0_0 + a0_1))) == 1), ((Go.bits .and .u32 (Go.bits .and .u32 a1 t106) (((ji5) - 1) % 4294967296)) == 0), ((Go.bits .and .u32 (Go.bits .and .u32 a1 t106) (((ji5) - 1) % 4294967296)) != 0), 0, 0)) else (if (Go.bits .and .u32 (ji7) (((shl .u32 1 a0_0) - 1) % 4294967296)) = 0 then ((spec_l4K_least.f a0_0 a0_1).bind fun t108 => (some (((shr .u32 (Go.bits .and .u32 a1 t106) (IntKind.u64.wrap (a0_0 + a0_1))) == 1), false, false, IntKind.u64.wrap (Go.bits .and .u32 (Go.bits .and .u32 a1 t106) (((ji5) - 1) % 4294967296)), t108))) else ((spec_l4K_least.f a0_0 a0_1).bind fun t109 => (some (((shr .u32 (Go.bits .and .u32 a1 t106) (IntKind.u64.wrap (a0_0 + a0_1))) == 1), false, false, IntKind.u64.wrap (Go.bits .or .u32 (Go.bits .and .u32 (Go.bits .and .u32 a1 t106) (((ji5) - 1) % 4294967296)) (ji5)), wrap64 ((wrap64 (t109 + (wrap64 (Go.bits .and .u32 (ji7) (((shl .u32 1 a0_0) - 1) % 4294967296))))) - 1)))))) else (none)) else (none)) = some (r1, r2, r3, r4, r5) := by first | (rw [hji7] at H; exact H) | (simp only [hji7] at H ⊢; exact H)
  (try rw [hji7] at A3)
  have hji7_ : ((Go.bits .and .u32 a1 t106) / 2 ^ min a0_1.toNat 32) = ji7 := hji7
  have hji7z : a0_1 ≤ 32 → ((Go.bits .and .u32 a1 t106) / 2 ^ a0_1.toNat) = ji7 := shr_small hji7
  by_cases c8 : 0 ≤ a0_0
  ·
   rw [if_pos c8] at H
   have c8b0 := eq_true c8
   have c8b1 : decide (0 ≤ a0_0) = true := decide_eq_true c8
   clear c8
   obtain ⟨ji9, hji9⟩ : ∃ j_ : Int, (shl .u32 1 a0_0) = j_ := ⟨_, rfl⟩
   replace H : (if 0 ≤ (IntKind.u64.wrap (a0_0 + a0_1)) then (if (Go.bits .and .u32 (ji7) (((ji9) - 1) % 4294967296)) = (((ji9) - 1) % 4294967296) then (some (((shr .u32 (Go.bits .and .u32 a1 t106) (IntKind.u64.wrap (a0_0 + a0_1))) == 1), ((Go.bits .and .u32 (Go.bits .and .u32 a1 t106) (((ji5) - 1) % 4294967296)) == 0), ((Go.bits .and .u32 (Go.bits .and .u32 a1 t106) (((ji5) - 1) % 4294967296)) != 0), 0, 0)) else (if (Go.bits .and .u32 (ji7) (((ji9) - 1) % 4294967296)) = 0 then ((spec_l4K_least.f a0_0 a0_1).bind fun t108 => (some (((shr .u32 (Go.bits .and .u32 a1 t106) (IntKind.u64.wrap (a0_0 + a0_1))) == 1), false, false, IntKind.u64.wrap (Go.bits .and .u32 (Go.bits .and .u32 a1 t106) (((ji5) - 1) % 4294967296)), t108))) else ((spec_l4K_least.f a0_0 a0_1).bind fun t109 => (some (((shr .u32 (Go.bits .and .u32 a1 t106) (IntKind.u64.wrap (a0_0 + a0_1))) == 1), false, false, IntKind.u64.wrap (Go.bits .or .u32 (Go.bits .and .u32 (Go.bits .and .u32 a1 t106) (((ji5) - 1) % 4294967296)) (ji5)), wrap64 ((wrap64 (t109 + (wrap64 (Go.bits .and .u32 (ji7) (((ji9) - 1) % 4294967296))))) - 1)))))) else (none)) = some (r1, r2, r3, r4, r5) := by first | (rw [hji9] at H; exact H) | (simp only [hji9] at H ⊢; exact H)
   (try rw [hji9] at A3)
   have hji9_ : (IntKind.u32.wrap (1 * 2 ^ min a0_0.toNat 32)) = ji9 := hji9
   have hji9z : a0_0 ≤ 32 → (IntKind.u32.wrap (1 * 2 ^ a0_0.toNat)) = ji9 := shl_small hji9
   have hji9u : (IntKind.u32.wrap (2 ^ min a0_0.toNat 32)) = ji9 := by have h_ := hji9_; rw [Int.one_mul] at h_; exact h_
   have hji9v : a0_0 ≤ 32 → (IntKind.u32.wrap (2 ^ a0_0.toNat)) = ji9 := fun hle_ => by have h_ := hji9z hle_; rw [Int.one_mul] at h_; exact h_
   obtain ⟨ji10, hji10⟩ : ∃ j_ : Int, (IntKind.u64.wrap (a0_0 + a0_1)) = j_ := ⟨_, rfl⟩
   replace H : (if 0 ≤ (ji10) then (if (Go.bits .and .u32 (ji7) (((ji9) - 1) % 4294967296)) = (((ji9) - 1) % 4294967296) then (some (((shr .u32 (Go.bits .and .u32 a1 t106) (ji10)) == 1), ((Go.bits .and .u32 (Go.bits .and .u32 a1 t106) (((ji5) - 1) % 4294967296)) == 0), ((Go.bits .and .u32 (Go.bits .and .u32 a1 t106) (((ji5) - 1) % 4294967296)) != 0), 0, 0)) else (if (Go.bits .and .u32 (ji7) (((ji9) - 1) % 4294967296)) = 0 then ((spec_l4K_least.f a0_0 a0_1).bind fun t108 => (some (((shr .u32 (Go.bits .and .u32 a1 t106) (ji10)) == 1), false, false, IntKind.u64.wrap (Go.bits .and .u32 (Go.bits .and .u32 a1 t106) (((ji5) - 1) % 4294967296)), t108))) else ((spec_l4K_least.f a0_0 a0_1).bind fun t109 => (some (((shr .u32 (Go.bits .and .u32 a1 t106) (ji10)) == 1), false, false, IntKind.u64.wrap (Go.bits .or .u32 (Go.bits .and .u32 (Go.bits .and .u32 a1 t106) (((ji5) - 1) % 4294967296)) (ji5)), wrap64 ((wrap64 (t109 + (wrap64 (Go.bits .and .u32 (ji7) (((ji9) - 1) % 4294967296))))) - 1)))))) else (none)) = some (r1, r2, r3, r4, r5) := by first | (rw [hji10] at H; exact H) | (simp only [hji10] at H ⊢; exact H)
   (try rw [hji10] at A3)
   by_cases c11 : 0 ≤ (ji10)
   ·
    rw [if_pos c11] at H
    have c11b0 := eq_true c11
    have c11b1 : decide (0 ≤ (ji10)) = true := decide_eq_true c11
    clear c11
    obtain ⟨ji12, hji12⟩ : ∃ j_ : Int, (shr .u32 (Go.bits .and .u32 a1 t106) (ji10)) = j_ := ⟨_, rfl⟩
    replace H : (if (Go.bits .and .u32 (ji7) (((ji9) - 1) % 4294967296)) = (((ji9) - 1) % 4294967296) then (some (((ji12) == 1), ((Go.bits .and .u32 (Go.bits .and .u32 a1 t106) (((ji5) - 1) % 4294967296)) == 0), ((Go.bits .and .u32 (Go.bits .and .u32 a1 t106) (((ji5) - 1) % 4294967296)) != 0), 0, 0)) else (if (Go.bits .and .u32 (ji7) (((ji9) - 1) % 4294967296)) = 0 then ((spec_l4K_least.f a0_0 a0_1).bind fun t108 => (some (((ji12) == 1), false, false, IntKind.u64.wrap (Go.bits .and .u32 (Go.bits .and .u32 a1 t106) (((ji5) - 1) % 4294967296)), t108))) else ((spec_l4K_least.f a0_0 a0_1).bind fun t109 => (some (((ji12) == 1), false, false, IntKind.u64.wrap (Go.bits .or .u32 (Go.bits .and .u32 (Go.bits .and .u32 a1 t106) (((ji5) - 1) % 4294967296)) (ji5)), wrap64 ((wrap64 (t109 + (wrap64 (Go.bits .and .u32 (ji7) (((ji9) - 1) % 4294967296))))) - 1)))))) = some (r1, r2, r3, r4, r5) := by first | (rw [hji12] at H; exact H) | (simp only [hji12] at H ⊢; exact H)
    (try rw [hji12] at A3)
    have hji12_ : ((Go.bits .and .u32 a1 t106) / 2 ^ min (ji10).toNat 32) = ji12 := hji12
    have hji12z : (ji10) ≤ 32 → ((Go.bits .and .u32 a1 t106) / 2 ^ (ji10).toNat) = ji12 := shr_small hji12
    have c13b0 := eq_true (of_decide_eq_true (by first | (with_reducible assumption) | assumption) : 0 ≤ a0_0)
    by_cases c14 : (Go.bits .and .u32 (ji7) (((ji9) - 1) % 4294967296)) = (((ji9) - 1) % 4294967296)
    ·
     rw [if_pos c14] at H
     have c14b0 : ((Go.bits .and .u32 (ji7) (((ji9) - 1) % 4294967296)) == (((ji9) - 1) % 4294967296)) = true := beq_iff_eq.mpr c14
     have c14b1 : ((Go.bits .and .u32 (ji7) (((ji9) - 1) % 4294967296)) != (((ji9) - 1) % 4294967296)) = false := bne_eq_false_iff_eq.mpr c14
     clear c14
     obtain ⟨jb15, hjb15⟩ : ∃ b_ : Bool, ((ji12) == 1) = b_ := ⟨_, rfl⟩
     replace H : (some (jb15, ((Go.bits .and .u32 (Go.bits .and .u32 a1 t106) (((ji5) - 1) % 4294967296)) == 0), ((Go.bits .and .u32 (Go.bits .and .u32 a1 t106) (((ji5) - 1) % 4294967296)) != 0), 0, 0)) = some (r1, r2, r3, r4, r5) := by first | (rw [hjb15] at H; exact H) | exact H
     obtain ⟨jb16, hjb16⟩ : ∃ b_ : Bool, ((Go.bits .and .u32 (Go.bits .and .u32 a1 t106) (((ji5) - 1) % 4294967296)) == 0) = b_ := ⟨_, rfl⟩
     replace H : (some (jb15, jb16, ((Go.bits .and .u32 (Go.bits .and .u32 a1 t106) (((ji5) - 1) % 4294967296)) != 0), 0, 0)) = some (r1, r2, r3, r4, r5) := by first | (rw [hjb16] at H; exact H) | exact H
     obtain ⟨jb17, hjb17⟩ : ∃ b_ : Bool, ((Go.bits .and .u32 (Go.bits .and .u32 a1 t106) (((ji5) - 1) % 4294967296)) != 0) = b_ := ⟨_, rfl⟩
     replace H : (some (jb15, jb16, jb17, 0, 0)) = some (r1, r2, r3, r4, r5) := by first | (rw [hjb17] at H; exact H) | exact H
     simp only [Option.some.injEq, Prod.mk.injEq] at H
     obtain ⟨rfl, rfl, rfl, rfl, rfl⟩ := H
     go_enter Try.func47, Try.ntmps47
     go_wp2_with (first | ((with_reducible refine gate_dst (N := 2) rfl ?_); refine box_event ?hg (N := 2) ?hd (cs := #[.int .u64 a0_0, .int .u64 a0_1]) (t := 52) ?hr ?_; (case hd => rfl); (case hg => rfl); (case hr => first | (go_simp; done) | (go_simp; rfl)); intro gb104 hg w18 hbox hb; have n0_ := Aside0.mk (below_step (bw HB.out) hb); have n1_ := Aside0.mk (hbox); have n2_ := Aside0.mk ((by rw [hg]; exact (below_size (bw HB.out)) : w.heap.size ≤ gb104)); have n3_ := Aside0.mk ((by rw [hg]; exact (below_size (bw HB.out)) : w.heap.size ≤ gb104)); clear HB; have HB := n0_; have BK104 := n1_; have GW104 := n2_; have GE104 := n3_; clear n0_ n1_ n2_ n3_; clear hb hbox hg) | ((with_reducible refine gate_dst (N := 4) rfl ?_); refine box_event ?hg (N := 4) ?hd (cs := #[.bool false, .bool false, .bool false, .int .u64 0, .int .i64 0]) (t := 56) ?hr ?_; (case hd => rfl); (case hg => rfl); (case hr => first | (go_simp; done) | (go_simp; rfl)); intro gb105 hg w19 hbox hb; have n0_ := Aside0.mk (blk_below (g := gb104) (o := .cells #[.int .u64 a0_0, .int .u64 a0_1] 52 (0, 0)) (bk BK104.out) hb); have n1_ := Aside0.mk (below_step (bw HB.out) hb); have n2_ := Aside0.mk (hbox); have n3_ := Aside0.mk ((by rw [hg]; exact (below_size (bw HB.out)) : w.heap.size ≤ gb105)); have n4_ := Aside0.mk ((by rw [hg]; exact (below_size (bw HB.out)) : w.heap.size ≤ gb105)); have n5_ := Aside0.mk ((by rw [hg]; exact Nat.ne_of_lt (blk_lt (g := gb104) (o := .cells #[.int .u64 a0_0, .int .u64 a0_1] 52 (0, 0)) (bk BK104.out)) : gb104 ≠ gb105)); have n6_ := Aside0.mk ((by rw [hg]; exact Nat.ne_of_gt (blk_lt (g := gb104) (o := .cells #[.int .u64 a0_0, .int .u64 a0_1] 52 (0, 0)) (bk BK104.out)) : gb105 ≠ gb104)); clear BK104; clear HB; have BK104 := n0_; have HB := n1_; have BK105 := n2_; have GW105 := n3_; have GE105 := n4_; have NB104_105 := n5_; have NB105_104 := n6_; clear n0_ n1_ n2_ n3_ n4_ n5_ n6_; clear hb hbox hg; have hnb20 := NB104_105.out; have hnc20 := NB105_104.out; have hcz21_0 : w19.cell? ⟨gb104, 0, none⟩ = some (.int .u64 a0_0) := (blk_cell BK104.out 0).trans rfl; have hcz21_1 : w19.cell? ⟨gb104, 1, none⟩ = some (.int .u64 a0_1) := (blk_cell BK104.out 1).trans rfl; have hfz21_0 := blk_frozen BK104.out 0; have hfz21_1 := blk_frozen BK104.out 1) | ((with_reducible refine gate_callee (f := 78) rfl ?_); refine goesL_ (some 10) rfl rfl Try.func78 (by kernel_rfl) rfl #[.agg #[.int .u64 a0_0, .int .u64 a0_1]] rfl ar ?_; (with_reducible refine (spec_l4K_mask.calls a0_0 a0_1 t106 _ A3.out).mono ?_); rintro e w22 ⟨rfl, hb⟩; refine ⟨_, rfl, ?_⟩; have n0_ := Aside0.mk (blk_below (g := gb104) (o := .cells #[.int .u64 a0_0, .int .u64 a0_1] 52 (0, 0)) (bk BK104.out) hb); have n1_ := Aside0.mk (blk_below (g := gb105) (o := .cells #[.bool false, .bool false, .bool false, .int .u64 0, .int .i64 0] 56 (0, 0)) (bk BK105.out) hb); have n2_ := Aside0.mk (below_step (bw HB.out) hb); clear BK104; clear BK105; clear HB; have BK104 := n0_; have BK105 := n1_; have HB := n2_; clear n0_ n1_ n2_; (try clear hb); have hcz23_0 : w22.cell? ⟨gb104, 0, none⟩ = some (.int .u64 a0_0) := (blk_cell BK104.out 0).trans rfl; have hcz23_1 : w22.cell? ⟨gb104, 1, none⟩ = some (.int .u64 a0_1) := (blk_cell BK104.out 1).trans rfl; have hfz23_0 := blk_frozen BK104.out 0; have hfz23_1 := blk_frozen BK104.out 1) | ((with_reducible refine gate_dst (N := 7) rfl ?_); refine box_event ?hg (N := 7) ?hd (cs := #[.bool false, .bool false, .bool false, .int .u64 0, .int .i64 0]) (t := 56) ?hr ?_; (case hd => rfl); (case hg => rfl); (case hr => first | (go_simp; done) | (go_simp; rfl)); intro gb107 hg w24 hbox hb; have n0_ := Aside0.mk (blk_below (g := gb104) (o := .cells #[.int .u64 a0_0, .int .u64 a0_1] 52 (0, 0)) (bk BK104.out) hb); have n1_ := Aside0.mk (blk_below (g := gb105) (o := .cells #[.bool false, .bool false, .bool false, .int .u64 0, .int .i64 0] 56 (0, 0)) (bk BK105.out) hb); have n2_ := Aside0.mk (below_step (bw HB.out) hb); have n3_ := Aside0.mk (hbox); have n4_ := Aside0.mk ((by rw [hg]; exact (below_size (bw HB.out)) : w.heap.size ≤ gb107)); have n5_ := Aside0.mk ((by rw [hg]; exact (below_size (bw HB.out)) : w.heap.size ≤ gb107)); have n6_ := Aside0.mk ((by rw [hg]; exact Nat.ne_of_lt (blk_lt (g := gb104) (o := .cells #[.int .u64 a0_0, .int .u64 a0_1] 52 (0, 0)) (bk BK104.out)) : gb104 ≠ gb107)); have n7_ := Aside0.mk ((by rw [hg]; exact Nat.ne_of_gt (blk_lt (g := gb104) (o := .cells #[.int .u64 a0_0, .int .u64 a0_1] 52 (0, 0)) (bk BK104.out)) : gb107 ≠ gb104)); have n8_ := Aside0.mk ((by rw [hg]; exact Nat.ne_of_lt (blk_lt (g := gb105) (o := .cells #[.bool false, .bool false, .bool false, .int .u64 0, .int .i64 0] 56 (0, 0)) (bk BK105.out)) : gb105 ≠ gb107)); have n9_ := Aside0.mk ((by rw [hg]; exact Nat.ne_of_gt (blk_lt (g := gb105) (o := .cells #[.bool false, .bool false, .bool false, .int .u64 0, .int .i64 0] 56 (0, 0)) (bk BK105.out)) : gb107 ≠ gb105)); clear BK104; clear BK105; clear HB; have BK104 := n0_; have BK105 := n1_; have HB := n2_; have BK107 := n3_; have GW107 := n4_; have GE107 := n5_; have NB104_107 := n6_; have NB107_104 := n7_; have NB105_107 := n8_; have NB107_105 := n9_; clear n0_ n1_ n2_ n3_ n4_ n5_ n6_ n7_ n8_ n9_; clear hb hbox hg; have hnb25 := NB107_104.out; have hnc25 := NB104_107.out; have hnb26 := NB107_105.out; have hnc26 := NB105_107.out; have hcz27_0 : w24.cell? ⟨gb107, 0, none⟩ = some (.bool false) := (blk_cell BK107.out 0).trans rfl; have hcz27_1 : w24.cell? ⟨gb107, 1, none⟩ = some (.bool false) := (blk_cell BK107.out 1).trans rfl; have hcz27_2 : w24.cell? ⟨gb107, 2, none⟩ = some (.bool false) := (blk_cell BK107.out 2).trans rfl; have hcz27_3 : w24.cell? ⟨gb107, 3, none⟩ = some (.int .u64 0) := (blk_cell BK107.out 3).trans rfl; have hcz27_4 : w24.cell? ⟨gb107, 4, none⟩ = some (.int .i64 0) := (blk_cell BK107.out 4).trans rfl; have hfz27_0 := blk_frozen BK107.out 0; have hfz27_1 := blk_frozen BK107.out 1; have hfz27_2 := blk_frozen BK107.out 2; have hfz27_3 := blk_frozen BK107.out 3; have hfz27_4 := blk_frozen BK107.out 4) | ((with_reducible refine gate_store (t := 56) (p := 7) rfl ?_); refine store_event (t := 56) (p := 7) (v := ?vo_w28) (w1 := (((((w24.setCell ⟨gb107, 0, none⟩ (.bool jb15)).setCell ⟨gb107, 1, none⟩ (.bool false)).setCell ⟨gb107, 2, none⟩ (.bool false)).setCell ⟨gb107, 3, none⟩ (.int .u64 0)).setCell ⟨gb107, 4, none⟩ (.int .i64 0))) ?hg ?ho ?hn ?hr ?_; (case ho => rfl); (case hg => rfl); (case hn => rfl); (case hr => first | (go_simp; done) | (go_simp; rfl)); intro w28 hw; have n0_ : Aside0 (w28.heap[gb104]? = some (.cells #[.int .u64 a0_0, .int .u64 a0_1] 52 (0, 0))) := ⟨(by rw [hw]; exact (by (with_reducible repeat (first | refine blk_drewN ?_ _ | refine blk_drew ?_ | refine blk_alloc ?_ _)); refine blk_far ?_ NB104_107.out _; (with_reducible repeat (first | refine blk_drewN ?_ _ | refine blk_drew ?_ | refine blk_alloc ?_ _)); refine blk_far ?_ NB104_107.out _; (with_reducible repeat (first | refine blk_drewN ?_ _ | refine blk_drew ?_ | refine blk_alloc ?_ _)); refine blk_far ?_ NB104_107.out _; (with_reducible repeat (first | refine blk_drewN ?_ _ | refine blk_drew ?_ | refine blk_alloc ?_ _)); refine blk_far ?_ NB104_107.out _; (with_reducible repeat (first | refine blk_drewN ?_ _ | refine blk_drew ?_ | refine blk_alloc ?_ _)); refine blk_far ?_ NB104_107.out _; (with_reducible repeat (first | refine blk_drewN ?_ _ | refine blk_drew ?_ | refine blk_alloc ?_ _)); exact BK104.out))⟩; have n1_ : Aside0 (w28.heap[gb105]? = some (.cells #[.bool false, .bool false, .bool false, .int .u64 0, .int .i64 0] 56 (0, 0))) := ⟨(by rw [hw]; exact (by (with_reducible repeat (first | refine blk_drewN ?_ _ | refine blk_drew ?_ | refine blk_alloc ?_ _)); refine blk_far ?_ NB105_107.out _; (with_reducible repeat (first | refine blk_drewN ?_ _ | refine blk_drew ?_ | refine blk_alloc ?_ _)); refine blk_far ?_ NB105_107.out _; (with_reducible repeat (first | refine blk_drewN ?_ _ | refine blk_drew ?_ | refine blk_alloc ?_ _)); refine blk_far ?_ NB105_107.out _; (with_reducible repeat (first | refine blk_drewN ?_ _ | refine blk_drew ?_ | refine blk_alloc ?_ _)); refine blk_far ?_ NB105_107.out _; (with_reducible repeat (first | refine blk_drewN ?_ _ | refine blk_drew ?_ | refine blk_alloc ?_ _)); refine blk_far ?_ NB105_107.out _; (with_reducible repeat (first | refine blk_drewN ?_ _ | refine blk_drew ?_ | refine blk_alloc ?_ _)); exact BK105.out))⟩; have n2_ : Aside0 (w28.heap[gb107]? = some (.cells #[.bool jb15, .bool false, .bool false, .int .u64 0, .int .i64 0] 56 (0, 0))) := ⟨(by rw [hw]; exact (by (with_reducible repeat (first | refine blk_drewN ?_ _ | refine blk_drew ?_ | refine blk_alloc ?_ _)); refine blk_put (cs := #[.bool jb15, .bool false, .bool false, .int .u64 0, .int .i64 0]) ?_ 4 _ rfl; (with_reducible repeat (first | refine blk_drewN ?_ _ | refine blk_drew ?_ | refine blk_alloc ?_ _)); refine blk_put (cs := #[.bool jb15, .bool false, .bool false, .int .u64 0, .int .i64 0]) ?_ 3 _ rfl; (with_reducible repeat (first | refine blk_drewN ?_ _ | refine blk_drew ?_ | refine blk_alloc ?_ _)); refine blk_put (cs := #[.bool jb15, .bool false, .bool false, .int .u64 0, .int .i64 0]) ?_ 2 _ rfl; (with_reducible repeat (first | refine blk_drewN ?_ _ | refine blk_drew ?_ | refine blk_alloc ?_ _)); refine blk_put (cs := #[.bool jb15, .bool false, .bool false, .int .u64 0, .int .i64 0]) ?_ 1 _ rfl; (with_reducible repeat (first | refine blk_drewN ?_ _ | refine blk_drew ?_ | refine blk_alloc ?_ _)); refine blk_put (cs := #[.bool false, .bool false, .bool false, .int .u64 0, .int .i64 0]) ?_ 0 _ rfl; (with_reducible repeat (first | refine blk_drewN ?_ _ | refine blk_drew ?_ | refine blk_alloc ?_ _)); exact BK107.out))⟩; have n3_ : Aside0 (Below w.heap.size w w28) := ⟨(by rw [hw]; exact (bw HB.out))⟩; clear hw; clear BK104; clear BK105; clear BK107; clear HB; have BK104 := n0_; have BK105 := n1_; have BK107 := n2_; have HB := n3_; clear n0_ n1_ n2_ n3_; have hcz29_0 : w28.cell? ⟨gb104, 0, none⟩ = some (.int .u64 a0_0) := (blk_cell BK104.out 0).trans rfl; have hcz29_1 : w28.cell? ⟨gb104, 1, none⟩ = some (.int .u64 a0_1) := (blk_cell BK104.out 1).trans rfl; have hfz29_0 := blk_frozen BK104.out 0; have hfz29_1 := blk_frozen BK104.out 1; have hcz30_0 : w28.cell? ⟨gb107, 0, none⟩ = some (.bool jb15) := (blk_cell BK107.out 0).trans rfl; have hcz30_1 : w28.cell? ⟨gb107, 1, none⟩ = some (.bool false) := (blk_cell BK107.out 1).trans rfl; have hcz30_2 : w28.cell? ⟨gb107, 2, none⟩ = some (.bool false) := (blk_cell BK107.out 2).trans rfl; have hcz30_3 : w28.cell? ⟨gb107, 3, none⟩ = some (.int .u64 0) := (blk_cell BK107.out 3).trans rfl; have hcz30_4 : w28.cell? ⟨gb107, 4, none⟩ = some (.int .i64 0) := (blk_cell BK107.out 4).trans rfl; have hfz30_0 := blk_frozen BK107.out 0; have hfz30_1 := blk_frozen BK107.out 1; have hfz30_2 := blk_frozen BK107.out 2; have hfz30_3 := blk_frozen BK107.out 3; have hfz30_4 := blk_frozen BK107.out 4; have hcz31_0 : w28.cell? ⟨gb105, 0, none⟩ = some (.bool false) := (blk_cell BK105.out 0).trans rfl; have hcz31_1 : w28.cell? ⟨gb105, 1, none⟩ = some (.bool false) := (blk_cell BK105.out 1).trans rfl; have hcz31_2 : w28.cell? ⟨gb105, 2, none⟩ = some (.bool false) := (blk_cell BK105.out 2).trans rfl; have hcz31_3 : w28.cell? ⟨gb105, 3, none⟩ = some (.int .u64 0) := (blk_cell BK105.out 3).trans rfl; have hcz31_4 : w28.cell? ⟨gb105, 4, none⟩ = some (.int .i64 0) := (blk_cell BK105.out 4).trans rfl; have hfz31_0 := blk_frozen BK105.out 0; have hfz31_1 := blk_frozen BK105.out 1; have hfz31_2 := blk_frozen BK105.out 2; have hfz31_3 := blk_frozen BK105.out 3; have hfz31_4 := blk_frozen BK105.out 4) | ((with_reducible refine gate_store (t := 56) (p := 4) rfl ?_); refine store_event (t := 56) (p := 4) (v := ?vo_w32) (w1 := (((((((w28.setCell ⟨gb107, 1, none⟩ (.bool jb16)).setCell ⟨gb107, 2, none⟩ (.bool jb17)).setCell ⟨gb105, 0, none⟩ (.bool jb15)).setCell ⟨gb105, 1, none⟩ (.bool jb16)).setCell ⟨gb105, 2, none⟩ (.bool jb17)).setCell ⟨gb105, 3, none⟩ (.int .u64 0)).setCell ⟨gb105, 4, none⟩ (.int .i64 0))) ?hg ?ho ?hn ?hr ?_; (case ho => rfl); (case hg => rfl); (case hn => rfl); (case hr => first | (go_simp; done) | (go_simp; rfl)); intro w32 hw; have n0_ : Aside0 (w32.heap[gb104]? = some (.cells #[.int .u64 a0_0, .int .u64 a0_1] 52 (0, 0))) := ⟨(by rw [hw]; exact (by (with_reducible repeat (first | refine blk_drewN ?_ _ | refine blk_drew ?_ | refine blk_alloc ?_ _)); refine blk_far ?_ NB104_105.out _; (with_reducible repeat (first | refine blk_drewN ?_ _ | refine blk_drew ?_ | refine blk_alloc ?_ _)); refine blk_far ?_ NB104_105.out _; (with_reducible repeat (first | refine blk_drewN ?_ _ | refine blk_drew ?_ | refine blk_alloc ?_ _)); refine blk_far ?_ NB104_105.out _; (with_reducible repeat (first | refine blk_drewN ?_ _ | refine blk_drew ?_ | refine blk_alloc ?_ _)); refine blk_far ?_ NB104_105.out _; (with_reducible repeat (first | refine blk_drewN ?_ _ | refine blk_drew ?_ | refine blk_alloc ?_ _)); refine blk_far ?_ NB104_105.out _; (with_reducible repeat (first | refine blk_drewN ?_ _ | refine blk_drew ?_ | refine blk_alloc ?_ _)); refine blk_far ?_ NB104_107.out _; (with_reducible repeat (first | refine blk_drewN ?_ _ | refine blk_drew ?_ | refine blk_alloc ?_ _)); refine blk_far ?_ NB104_107.out _; (with_reducible repeat (first | refine blk_drewN ?_ _ | refine blk_drew ?_ | refine blk_alloc ?_ _)); exact BK104.out))⟩; have n1_ : Aside0 (w32.heap[gb105]? = some (.cells #[.bool jb15, .bool jb16, .bool jb17, .int .u64 0, .int .i64 0] 56 (0, 0))) := ⟨(by rw [hw]; exact (by (with_reducible repeat (first | refine blk_drewN ?_ _ | refine blk_drew ?_ | refine blk_alloc ?_ _)); refine blk_put (cs := #[.bool jb15, .bool jb16, .bool jb17, .int .u64 0, .int .i64 0]) ?_ 4 _ rfl; (with_reducible repeat (first | refine blk_drewN ?_ _ | refine blk_drew ?_ | refine blk_alloc ?_ _)); refine blk_put (cs := #[.bool jb15, .bool jb16, .bool jb17, .int .u64 0, .int .i64 0]) ?_ 3 _ rfl; (with_reducible repeat (first | refine blk_drewN ?_ _ | refine blk_drew ?_ | refine blk_alloc ?_ _)); refine blk_put (cs := #[.bool jb15, .bool jb16, .bool false, .int .u64 0, .int .i64 0]) ?_ 2 _ rfl; (with_reducible repeat (first | refine blk_drewN ?_ _ | refine blk_drew ?_ | refine blk_alloc ?_ _)); refine blk_put (cs := #[.bool jb15, .bool false, .bool false, .int .u64 0, .int .i64 0]) ?_ 1 _ rfl; (with_reducible repeat (first | refine blk_drewN ?_ _ | refine blk_drew ?_ | refine blk_alloc ?_ _)); refine blk_put (cs := #[.bool false, .bool false, .bool false, .int .u64 0, .int .i64 0]) ?_ 0 _ rfl; (with_reducible repeat (first | refine blk_drewN ?_ _ | refine blk_drew ?_ | refine blk_alloc ?_ _)); refine blk_far ?_ NB105_107.out _; (with_reducible repeat (first | refine blk_drewN ?_ _ | refine blk_drew ?_ | refine blk_alloc ?_ _)); refine blk_far ?_ NB105_107.out _; (with_reducible repeat (first | refine blk_drewN ?_ _ | refine blk_drew ?_ | refine blk_alloc ?_ _)); exact BK105.out))⟩; have n2_ : Aside0 (w32.heap[gb107]? = some (.cells #[.bool jb15, .bool jb16, .bool jb17, .int .u64 0, .int .i64 0] 56 (0, 0))) := ⟨(by rw [hw]; exact (by (with_reducible repeat (first | refine blk_drewN ?_ _ | refine blk_drew ?_ | refine blk_alloc ?_ _)); refine blk_far ?_ NB107_105.out _; (with_reducible repeat (first | refine blk_drewN ?_ _ | refine blk_drew ?_ | refine blk_alloc ?_ _)); refine blk_far ?_ NB107_105.out _; (with_reducible repeat (first | refine blk_drewN ?_ _ | refine blk_drew ?_ | refine blk_alloc ?_ _)); refine blk_far ?_ NB107_105.out _; (with_reducible repeat (first | refine blk_drewN ?_ _ | refine blk_drew ?_ | refine blk_alloc ?_ _)); refine blk_far ?_ NB107_105.out _; (with_reducible repeat (first | refine blk_drewN ?_ _ | refine blk_drew ?_ | refine blk_alloc ?_ _)); refine blk_far ?_ NB107_105.out _; (with_reducible repeat (first | refine blk_drewN ?_ _ | refine blk_drew ?_ | refine blk_alloc ?_ _)); refine blk_put (cs := #[.bool jb15, .bool jb16, .bool false, .int .u64 0, .int .i64 0]) ?_ 2 _ rfl; (with_reducible repeat (first | refine blk_drewN ?_ _ | refine blk_drew ?_ | refine blk_alloc ?_ _)); refine blk_put (cs := #[.bool jb15, .bool false, .bool false, .int .u64 0, .int .i64 0]) ?_ 1 _ rfl; (with_reducible repeat (first | refine blk_drewN ?_ _ | refine blk_drew ?_ | refine blk_alloc ?_ _)); exact BK107.out))⟩; have n3_ : Aside0 (Below w.heap.size w w32) := ⟨(by rw [hw]; exact (bw HB.out))⟩; clear hw; clear BK104; clear BK105; clear BK107; clear HB; have BK104 := n0_; have BK105 := n1_; have BK107 := n2_; have HB := n3_; clear n0_ n1_ n2_ n3_))
     refine bodyPost_ret (results_cell_row rfl _ _ gb105 56 #[.bool jb15, .bool jb16, .bool jb17, .int .u64 0, .int .i64 0] (0, 0) _ rfl (bk BK105.out) Try.underlying56 rfl (by kernel_rfl)) rfl ?_
     exact ⟨by first | rfl | (simp [errW_none, errW_some] <;> rfl) | (simp only [← hji5, ← hji7, ← hji9, ← hji10, ← hji12]; first | rfl | (simp [errW_none, errW_some] <;> rfl)) | (simp [*, errW_none, errW_some] <;> rfl), bw HB.out⟩
    ·
     rw [if_neg c14] at H
     have c14b0 : ((Go.bits .and .u32 (ji7) (((ji9) - 1) % 4294967296)) == (((ji9) - 1) % 4294967296)) = false := beq_eq_false_iff_ne.mpr c14
     have c14b1 : ((Go.bits .and .u32 (ji7) (((ji9) - 1) % 4294967296)) != (((ji9) - 1) % 4294967296)) = true := bne_iff_ne.mpr c14
     by_cases c33 : (Go.bits .and .u32 (ji7) (((ji9) - 1) % 4294967296)) = 0
     ·
      rw [if_pos c33] at H
      have c33b0 : ((Go.bits .and .u32 (ji7) (((ji9) - 1) % 4294967296)) == 0) = true := beq_iff_eq.mpr c33
      have c33b1 : ((Go.bits .and .u32 (ji7) (((ji9) - 1) % 4294967296)) != 0) = false := bne_eq_false_iff_eq.mpr c33
      clear c33
      replace H := Option.bind_eq_some_iff.mp H
      obtain ⟨t108, A340, H⟩ := H
      replace H : (some (((ji12) == 1), false, false, IntKind.u64.wrap (Go.bits .and .u32 (Go.bits .and .u32 a1 t106) (((ji5) - 1) % 4294967296)), t108)) = some (r1, r2, r3, r4, r5) := H
      have A34 := Aside0.mk A340
      clear A340
      obtain ⟨jb35, hjb35⟩ : ∃ b_ : Bool, ((ji12) == 1) = b_ := ⟨_, rfl⟩
      replace H : (some (jb35, false, false, IntKind.u64.wrap (Go.bits .and .u32 (Go.bits .and .u32 a1 t106) (((ji5) - 1) % 4294967296)), t108)) = some (r1, r2, r3, r4, r5) := by first | (rw [hjb35] at H; exact H) | exact H
      simp only [Option.some.injEq, Prod.mk.injEq] at H
      obtain ⟨rfl, rfl, rfl, rfl, rfl⟩ := H
      go_enter Try.func47, Try.ntmps47
      go_wp2_with (first | ((with_reducible refine gate_dst (N := 2) rfl ?_); refine box_event ?hg (N := 2) ?hd (cs := #[.int .u64 a0_0, .int .u64 a0_1]) (t := 52) ?hr ?_; (case hd => rfl); (case hg => rfl); (case hr => first | (go_simp; done) | (go_simp; rfl)); intro gb104 hg w36 hbox hb; have n0_ := Aside0.mk (below_step (bw HB.out) hb); have n1_ := Aside0.mk (hbox); have n2_ := Aside0.mk ((by rw [hg]; exact (below_size (bw HB.out)) : w.heap.size ≤ gb104)); have n3_ := Aside0.mk ((by rw [hg]; exact (below_size (bw HB.out)) : w.heap.size ≤ gb104)); clear HB; have HB := n0_; have BK104 := n1_; have GW104 := n2_; have GE104 := n3_; clear n0_ n1_ n2_ n3_; clear hb hbox hg) | ((with_reducible refine gate_dst (N := 4) rfl ?_); refine box_event ?hg (N := 4) ?hd (cs := #[.bool false, .bool false, .bool false, .int .u64 0, .int .i64 0]) (t := 56) ?hr ?_; (case hd => rfl); (case hg => rfl); (case hr => first | (go_simp; done) | (go_simp; rfl)); intro gb105 hg w37 hbox hb; have n0_ := Aside0.mk (blk_below (g := gb104) (o := .cells #[.int .u64 a0_0, .int .u64 a0_1] 52 (0, 0)) (bk BK104.out) hb); have n1_ := Aside0.mk (below_step (bw HB.out) hb); have n2_ := Aside0.mk (hbox); have n3_ := Aside0.mk ((by rw [hg]; exact (below_size (bw HB.out)) : w.heap.size ≤ gb105)); have n4_ := Aside0.mk ((by rw [hg]; exact (below_size (bw HB.out)) : w.heap.size ≤ gb105)); have n5_ := Aside0.mk ((by rw [hg]; exact Nat.ne_of_lt (blk_lt (g := gb104) (o := .cells #[.int .u64 a0_0, .int .u64 a0_1] 52 (0, 0)) (bk BK104.out)) : gb104 ≠ gb105)); have n6_ := Aside0.mk ((by rw [hg]; exact Nat.ne_of_gt (blk_lt (g := gb104) (o := .cells #[.int .u64 a0_0, .int .u64 a0_1] 52 (0, 0)) (bk BK104.out)) : gb105 ≠ gb104)); clear BK104; clear HB; have BK104 := n0_; have HB := n1_; have BK105 := n2_; have GW105 := n3_; have GE105 := n4_; have NB104_105 := n5_; have NB105_104 := n6_; clear n0_ n1_ n2_ n3_ n4_ n5_ n6_; clear hb hbox hg; have hnb38 := NB104_105.out; have hnc38 := NB105_104.out; have hcz39_0 : w37.cell? ⟨gb104, 0, none⟩ = some (.int .u64 a0_0) := (blk_cell BK104.out 0).trans rfl; have hcz39_1 : w37.cell? ⟨gb104, 1, none⟩ = some (.int .u64 a0_1) := (blk_cell BK104.out 1).trans rfl; have hfz39_0 := blk_frozen BK104.out 0; have hfz39_1 := blk_frozen BK104.out 1) | ((with_reducible refine gate_callee (f := 78) rfl ?_); refine goesL_ (some 10) rfl rfl Try.func78 (by kernel_rfl) rfl #[.agg #[.int .u64 a0_0, .int .u64 a0_1]] rfl ar ?_; (with_reducible refine (spec_l4K_mask.calls a0_0 a0_1 t106 _ A3.out).mono ?_); rintro e w40 ⟨rfl, hb⟩; refine ⟨_, rfl, ?_⟩; have n0_ := Aside0.mk (blk_below (g := gb104) (o := .cells #[.int .u64 a0_0, .int .u64 a0_1] 52 (0, 0)) (bk BK104.out) hb); have n1_ := Aside0.mk (blk_below (g := gb105) (o := .cells #[.bool false, .bool false, .bool false, .int .u64 0, .int .i64 0] 56 (0, 0)) (bk BK105.out) hb); have n2_ := Aside0.mk (below_step (bw HB.out) hb); clear BK104; clear BK105; clear HB; have BK104 := n0_; have BK105 := n1_; have HB := n2_; clear n0_ n1_ n2_; (try clear hb); have hcz41_0 : w40.cell? ⟨gb104, 0, none⟩ = some (.int .u64 a0_0) := (blk_cell BK104.out 0).trans rfl; have hcz41_1 : w40.cell? ⟨gb104, 1, none⟩ = some (.int .u64 a0_1) := (blk_cell BK104.out 1).trans rfl; have hfz41_0 := blk_frozen BK104.out 0; have hfz41_1 := blk_frozen BK104.out 1) | ((with_reducible refine gate_dst (N := 7) rfl ?_); refine box_event ?hg (N := 7) ?hd (cs := #[.bool false, .bool false, .bool false, .int .u64 0, .int .i64 0]) (t := 56) ?hr ?_; (case hd => rfl); (case hg => rfl); (case hr => first | (go_simp; done) | (go_simp; rfl)); intro gb107 hg w42 hbox hb; have n0_ := Aside0.mk (blk_below (g := gb104) (o := .cells #[.int .u64 a0_0, .int .u64 a0_1] 52 (0, 0)) (bk BK104.out) hb); have n1_ := Aside0.mk (blk_below (g := gb105) (o := .cells #[.bool false, .bool false, .bool false, .int .u64 0, .int .i64 0] 56 (0, 0)) (bk BK105.out) hb); have n2_ := Aside0.mk (below_step (bw HB.out) hb); have n3_ := Aside0.mk (hbox); have n4_ := Aside0.mk ((by rw [hg]; exact (below_size (bw HB.out)) : w.heap.size ≤ gb107)); have n5_ := Aside0.mk ((by rw [hg]; exact (below_size (bw HB.out)) : w.heap.size ≤ gb107)); have n6_ := Aside0.mk ((by rw [hg]; exact Nat.ne_of_lt (blk_lt (g := gb104) (o := .cells #[.int .u64 a0_0, .int .u64 a0_1] 52 (0, 0)) (bk BK104.out)) : gb104 ≠ gb107)); have n7_ := Aside0.mk ((by rw [hg]; exact Nat.ne_of_gt (blk_lt (g := gb104) (o := .cells #[.int .u64 a0_0, .int .u64 a0_1] 52 (0, 0)) (bk BK104.out)) : gb107 ≠ gb104)); have n8_ := Aside0.mk ((by rw [hg]; exact Nat.ne_of_lt (blk_lt (g := gb105) (o := .cells #[.bool false, .bool false, .bool false, .int .u64 0, .int .i64 0] 56 (0, 0)) (bk BK105.out)) : gb105 ≠ gb107)); have n9_ := Aside0.mk ((by rw [hg]; exact Nat.ne_of_gt (blk_lt (g := gb105) (o := .cells #[.bool false, .bool false, .bool false, .int .u64 0, .int .i64 0] 56 (0, 0)) (bk BK105.out)) : gb107 ≠ gb105)); clear BK104; clear BK105; clear HB; have BK104 := n0_; have BK105 := n1_; have HB := n2_; have BK107 := n3_; have GW107 := n4_; have GE107 := n5_; have NB104_107 := n6_; have NB107_104 := n7_; have NB105_107 := n8_; have NB107_105 := n9_; clear n0_ n1_ n2_ n3_ n4_ n5_ n6_ n7_ n8_ n9_; clear hb hbox hg; have hnb43 := NB107_104.out; have hnc43 := NB104_107.out; have hnb44 := NB107_105.out; have hnc44 := NB105_107.out; have hcz45_0 : w42.cell? ⟨gb107, 0, none⟩ = some (.bool false) := (blk_cell BK107.out 0).trans rfl; have hcz45_1 : w42.cell? ⟨gb107, 1, none⟩ = some (.bool false) := (blk_cell BK107.out 1).trans rfl; have hcz45_2 : w42.cell? ⟨gb107, 2, none⟩ = some (.bool false) := (blk_cell BK107.out 2).trans rfl; have hcz45_3 : w42.cell? ⟨gb107, 3, none⟩ = some (.int .u64 0) := (blk_cell BK107.out 3).trans rfl; have hcz45_4 : w42.cell? ⟨gb107, 4, none⟩ = some (.int .i64 0) := (blk_cell BK107.out 4).trans rfl; have hfz45_0 := blk_frozen BK107.out 0; have hfz45_1 := blk_frozen BK107.out 1; have hfz45_2 := blk_frozen BK107.out 2; have hfz45_3 := blk_frozen BK107.out 3; have hfz45_4 := blk_frozen BK107.out 4) | ((with_reducible refine gate_store (t := 56) (p := 7) rfl ?_); refine store_event (t := 56) (p := 7) (v := ?vo_w46) (w1 := (((((w42.setCell ⟨gb107, 0, none⟩ (.bool jb35)).setCell ⟨gb107, 1, none⟩ (.bool false)).setCell ⟨gb107, 2, none⟩ (.bool false)).setCell ⟨gb107, 3, none⟩ (.int .u64 0)).setCell ⟨gb107, 4, none⟩ (.int .i64 0))) ?hg ?ho ?hn ?hr ?_; (case ho => rfl); (case hg => rfl); (case hn => rfl); (case hr => first | (go_simp; done) | (go_simp; rfl)); intro w46 hw; have n0_ : Aside0 (w46.heap[gb104]? = some (.cells #[.int .u64 a0_0, .int .u64 a0_1] 52 (0, 0))) := ⟨(by rw [hw]; exact (by (with_reducible repeat (first | refine blk_drewN ?_ _ | refine blk_drew ?_ | refine blk_alloc ?_ _)); refine blk_far ?_ NB104_107.out _; (with_reducible repeat (first | refine blk_drewN ?_ _ | refine blk_drew ?_ | refine blk_alloc ?_ _)); refine blk_far ?_ NB104_107.out _; (with_reducible repeat (first | refine blk_drewN ?_ _ | refine blk_drew ?_ | refine blk_alloc ?_ _)); refine blk_far ?_ NB104_107.out _; (with_reducible repeat (first | refine blk_drewN ?_ _ | refine blk_drew ?_ | refine blk_alloc ?_ _)); refine blk_far ?_ NB104_107.out _; (with_reducible repeat (first | refine blk_drewN ?_ _ | refine blk_drew ?_ | refine blk_alloc ?_ _)); refine blk_far ?_ NB104_107.out _; (with_reducible repeat (first | refine blk_drewN ?_ _ | refine blk_drew ?_ | refine blk_alloc ?_ _)); exact BK104.out))⟩; have n1_ : Aside0 (w46.heap[gb105]? = some (.cells #[.bool false, .bool false, .bool false, .int .u64 0, .int .i64 0] 56 (0, 0))) := ⟨(by rw [hw]; exact (by (with_reducible repeat (first | refine blk_drewN ?_ _ | refine blk_drew ?_ | refine blk_alloc ?_ _)); refine blk_far ?_ NB105_107.out _; (with_reducible repeat (first | refine blk_drewN ?_ _ | refine blk_drew ?_ | refine blk_alloc ?_ _)); refine blk_far ?_ NB105_107.out _; (with_reducible repeat (first | refine blk_drewN ?_ _ | refine blk_drew ?_ | refine blk_alloc ?_ _)); refine blk_far ?_ NB105_107.out _; (with_reducible repeat (first | refine blk_drewN ?_ _ | refine blk_drew ?_ | refine blk_alloc ?_ _)); refine blk_far ?_ NB105_107.out _; (with_reducible repeat (first | refine blk_drewN ?_ _ | refine blk_drew ?_ | refine blk_alloc ?_ _)); refine blk_far ?_ NB105_107.out _; (with_reducible repeat (first | refine blk_drewN ?_ _ | refine blk_drew ?_ | refine blk_alloc ?_ _)); exact BK105.out))⟩; have n2_ : Aside0 (w46.heap[gb107]? = some (.cells #[.bool jb35, .bool false, .bool false, .int .u64 0, .int .i64 0] 56 (0, 0))) := ⟨(by rw [hw]; exact (by (with_reducible repeat (first | refine blk_drewN ?_ _ | refine blk_drew ?_ | refine blk_alloc ?_ _)); refine blk_put (cs := #[.bool jb35, .bool false, .bool false, .int .u64 0, .int .i64 0]) ?_ 4 _ rfl; (with_reducible repeat (first | refine blk_drewN ?_ _ | refine blk_drew ?_ | refine blk_alloc ?_ _)); refine blk_put (cs := #[.bool jb35, .bool false, .bool false, .int .u64 0, .int .i64 0]) ?_ 3 _ rfl; (with_reducible repeat (first | refine blk_drewN ?_ _ | refine blk_drew ?_ | refine blk_alloc ?_ _)); refine blk_put (cs := #[.bool jb35, .bool false, .bool false, .int .u64 0, .int .i64 0]) ?_ 2 _ rfl; (with_reducible repeat (first | refine blk_drewN ?_ _ | refine blk_drew ?_ | refine blk_alloc ?_ _)); refine blk_put (cs := #[.bool jb35, .bool false, .bool false, .int .u64 0, .int .i64 0]) ?_ 1 _ rfl; (with_reducible repeat (first | refine blk_drewN ?_ _ | refine blk_drew ?_ | refine blk_alloc ?_ _)); refine blk_put (cs := #[.bool false, .bool false, .bool false, .int .u64 0, .int .i64 0]) ?_ 0 _ rfl; (with_reducible repeat (first | refine blk_drewN ?_ _ | refine blk_drew ?_ | refine blk_alloc ?_ _)); exact BK107.out))⟩; have n3_ : Aside0 (Below w.heap.size w w46) := ⟨(by rw [hw]; exact (bw HB.out))⟩; clear hw; clear BK104; clear BK105; clear BK107; clear HB; have BK104 := n0_; have BK105 := n1_; have BK107 := n2_; have HB := n3_; clear n0_ n1_ n2_ n3_; have hcz47_0 : w46.cell? ⟨gb104, 0, none⟩ = some (.int .u64 a0_0) := (blk_cell BK104.out 0).trans rfl; have hcz47_1 : w46.cell? ⟨gb104, 1, none⟩ = some (.int .u64 a0_1) := (blk_cell BK104.out 1).trans rfl; have hfz47_0 := blk_frozen BK104.out 0; have hfz47_1 := blk_frozen BK104.out 1; have hcz48_0 : w46.cell? ⟨gb107, 0, none⟩ = some (.bool jb35) := (blk_cell BK107.out 0).trans rfl; have hcz48_1 : w46.cell? ⟨gb107, 1, none⟩ = some (.bool false) := (blk_cell BK107.out 1).trans rfl; have hcz48_2 : w46.cell? ⟨gb107, 2, none⟩ = some (.bool false) := (blk_cell BK107.out 2).trans rfl; have hcz48_3 : w46.cell? ⟨gb107, 3, none⟩ = some (.int .u64 0) := (blk_cell BK107.out 3).trans rfl; have hcz48_4 : w46.cell? ⟨gb107, 4, none⟩ = some (.int .i64 0) := (blk_cell BK107.out 4).trans rfl; have hfz48_0 := blk_frozen BK107.out 0; have hfz48_1 := blk_frozen BK107.out 1; have hfz48_2 := blk_frozen BK107.out 2; have hfz48_3 := blk_frozen BK107.out 3; have hfz48_4 := blk_frozen BK107.out 4) | ((with_reducible refine gate_callee (f := 82) rfl ?_); refine goesL_ (some 70) rfl rfl Try.func82 (by kernel_rfl) rfl #[.agg #[.int .u64 a0_0, .int .u64 a0_1]] rfl ar ?_; (with_reducible refine (spec_l4K_least.calls a0_0 a0_1 t108 _ A34.out).mono ?_); rintro e w49 ⟨rfl, hb⟩; refine ⟨_, rfl, ?_⟩; have n0_ := Aside0.mk (blk_below (g := gb104) (o := .cells #[.int .u64 a0_0, .int .u64 a0_1] 52 (0, 0)) (by (with_reducible repeat (first | refine blk_drewN ?_ _ | refine blk_drew ?_ | refine blk_alloc ?_ _)); refine blk_far ?_ NB104_107.out _; (with_reducible repeat (first | refine blk_drewN ?_ _ | refine blk_drew ?_ | refine blk_alloc ?_ _)); exact BK104.out) hb); have n1_ := Aside0.mk (blk_below (g := gb105) (o := .cells #[.bool false, .bool false, .bool false, .int .u64 0, .int .i64 0] 56 (0, 0)) (by (with_reducible repeat (first | refine blk_drewN ?_ _ | refine blk_drew ?_ | refine blk_alloc ?_ _)); refine blk_far ?_ NB105_107.out _; (with_reducible repeat (first | refine blk_drewN ?_ _ | refine blk_drew ?_ | refine blk_alloc ?_ _)); exact BK105.out) hb); have n2_ := Aside0.mk (blk_below (g := gb107) (o := .cells #[.bool jb35, .bool false, .bool false, .int .u64 (IntKind.u64.wrap (Go.bits .and .u32 (Go.bits .and .u32 a1 t106) (((ji5) - 1) % 4294967296))), .int .i64 0] 56 (0, 0)) (by (with_reducible repeat (first | refine blk_drewN ?_ _ | refine blk_drew ?_ | refine blk_alloc ?_ _)); refine blk_put (cs := #[.bool jb35, .bool false, .bool false, .int .u64 0, .int .i64 0]) ?_ 3 _ rfl; (with_reducible repeat (first | refine blk_drewN ?_ _ | refine blk_drew ?_ | refine blk_alloc ?_ _)); exact BK107.out) hb); have n3_ := Aside0.mk (below_step (bw HB.out) hb); clear BK104; clear BK105; clear BK107; clear HB; have BK104 := n0_; have BK105 := n1_; have BK107 := n2_; have HB := n3_; clear n0_ n1_ n2_ n3_; (try clear hb); have hcz50_0 : w49.cell? ⟨gb107, 0, none⟩ = some (.bool jb35) := (blk_cell BK107.out 0).trans rfl; have hcz50_1 : w49.cell? ⟨gb107, 1, none⟩ = some (.bool false) := (blk_cell BK107.out 1).trans rfl; have hcz50_2 : w49.cell? ⟨gb107, 2, none⟩ = some (.bool false) := (blk_cell BK107.out 2).trans rfl; have hcz50_3 : w49.cell? ⟨gb107, 3, none⟩ = some (.int .u64 (IntKind.u64.wrap (Go.bits .and .u32 (Go.bits .and .u32 a1 t106) (((ji5) - 1) % 4294967296)))) := (blk_cell BK107.out 3).trans rfl; have hcz50_4 : w49.cell? ⟨gb107, 4, none⟩ = some (.int .i64 0) := (blk_cell BK107.out 4).trans rfl; have hfz50_0 := blk_frozen BK107.out 0; have hfz50_1 := blk_frozen BK107.out 1; have hfz50_2 := blk_frozen BK107.out 2; have hfz50_3 := blk_frozen BK107.out 3; have hfz50_4 := blk_frozen BK107.out 4; have hcz51_0 : w49.cell? ⟨gb105, 0, none⟩ = some (.bool false) := (blk_cell BK105.out 0).trans rfl; have hcz51_1 : w49.cell? ⟨gb105, 1, none⟩ = some (.bool false) := (blk_cell BK105.out 1).trans rfl; have hcz51_2 : w49.cell? ⟨gb105, 2, none⟩ = some (.bool false) := (blk_cell BK105.out 2).trans rfl; have hcz51_3 : w49.cell? ⟨gb105, 3, none⟩ = some (.int .u64 0) := (blk_cell BK105.out 3).trans rfl; have hcz51_4 : w49.cell? ⟨gb105, 4, none⟩ = some (.int .i64 0) := (blk_cell BK105.out 4).trans rfl; have hfz51_0 := blk_frozen BK105.out 0; have hfz51_1 := blk_frozen BK105.out 1; have hfz51_2 := blk_frozen BK105.out 2; have hfz51_3 := blk_frozen BK105.out 3; have hfz51_4 := blk_frozen BK105.out 4) | ((with_reducible refine gate_store (t := 56) (p := 4) rfl ?_); refine store_event (t := 56) (p := 4) (v := ?vo_w52) (w1 := ((((((w49.setCell ⟨gb107, 4, none⟩ (.int .i64 t108)).setCell ⟨gb105, 0, none⟩ (.bool jb35)).setCell ⟨gb105, 1, none⟩ (.bool false)).setCell ⟨gb105, 2, none⟩ (.bool false)).setCell ⟨gb105, 3, none⟩ (.int .u64 (IntKind.u64.wrap (Go.bits .and .u32 (Go.bits .and .u32 a1 t106) (((ji5) - 1) % 4294967296))))).setCell ⟨gb105, 4, none⟩ (.int .i64 t108))) ?hg ?ho ?hn ?hr ?_; (case ho => rfl); (case hg => rfl); (case hn => rfl); (case hr => first | (go_simp; done) | (go_simp; rfl)); intro w52 hw; have n0_ : Aside0 (w52.heap[gb104]? = some (.cells #[.int .u64 a0_0, .int .u64 a0_1] 52 (0, 0))) := ⟨(by rw [hw]; exact (by (with_reducible repeat (first | refine blk_drewN ?_ _ | refine blk_drew ?_ | refine blk_alloc ?_ _)); refine blk_far ?_ NB104_105.out _; (with_reducible repeat (first | refine blk_drewN ?_ _ | refine blk_drew ?_ | refine blk_alloc ?_ _)); refine blk_far ?_ NB104_105.out _; (with_reducible repeat (first | refine blk_drewN ?_ _ | refine blk_drew ?_ | refine blk_alloc ?_ _)); refine blk_far ?_ NB104_105.out _; (with_reducible repeat (first | refine blk_drewN ?_ _ | refine blk_drew ?_ | refine blk_alloc ?_ _)); refine blk_far ?_ NB104_105.out _; (with_reducible repeat (first | refine blk_drewN ?_ _ | refine blk_drew ?_ | refine blk_alloc ?_ _)); refine blk_far ?_ NB104_105.out _; (with_reducible repeat (first | refine blk_drewN ?_ _ | refine blk_drew ?_ | refine blk_alloc ?_ _)); refine blk_far ?_ NB104_107.out _; (with_reducible repeat (first | refine blk_drewN ?_ _ | refine blk_drew ?_ | refine blk_alloc ?_ _)); exact BK104.out))⟩; have n1_ : Aside0 (w52.heap[gb105]? = some (.cells #[.bool jb35, .bool false, .bool false, .int .u64 (IntKind.u64.wrap (Go.bits .and .u32 (Go.bits .and .u32 a1 t106) (((ji5) - 1) % 4294967296))), .int .i64 t108] 56 (0, 0))) := ⟨(by rw [hw]; exact (by (with_reducible repeat (first | refine blk_drewN ?_ _ | refine blk_drew ?_ | refine blk_alloc ?_ _)); refine blk_put (cs := #[.bool jb35, .bool false, .bool false, .int .u64 (IntKind.u64.wrap (Go.bits .and .u32 (Go.bits .and .u32 a1 t106) (((ji5) - 1) % 4294967296))), .int .i64 0]) ?_ 4 _ rfl; (with_reducible repeat (first | refine blk_drewN ?_ _ | refine blk_drew ?_ | refine blk_alloc ?_ _)); refine blk_put (cs := #[.bool jb35, .bool false, .bool false, .int .u64 0, .int .i64 0]) ?_ 3 _ rfl; (with_reducible repeat (first | refine blk_drewN ?_ _ | refine blk_drew ?_ | refine blk_alloc ?_ _)); refine blk_put (cs := #[.bool jb35, .bool false, .bool false, .int .u64 0, .int .i64 0]) ?_ 2 _ rfl; (with_reducible repeat (first | refine blk_drewN ?_ _ | refine blk_drew ?_ | refine blk_alloc ?_ _)); refine blk_put (cs := #[.bool jb35, .bool false, .bool false, .int .u64 0, .int .i64 0]) ?_ 1 _ rfl; (with_reducible repeat (first | refine blk_drewN ?_ _ | refine blk_drew ?_ | refine blk_alloc ?_ _)); refine blk_put (cs := #[.bool false, .bool false, .bool false, .int .u64 0, .int .i64 0]) ?_ 0 _ rfl; (with_reducible repeat (first | refine blk_drewN ?_ _ | refine blk_drew ?_ | refine blk_alloc ?_ _)); refine blk_far ?_ NB105_107.out _; (with_reducible repeat (first | refine blk_drewN ?_ _ | refine blk_drew ?_ | refine blk_alloc ?_ _)); exact BK105.out))⟩; have n2_ : Aside0 (w52.heap[gb107]? = some (.cells #[.bool jb35, .bool false, .bool false, .int .u64 (IntKind.u64.wrap (Go.bits .and .u32 (Go.bits .and .u32 a1 t106) (((ji5) - 1) % 4294967296))), .int .i64 t108] 56 (0, 0))) := ⟨(by rw [hw]; exact (by (with_reducible repeat (first | refine blk_drewN ?_ _ | refine blk_drew ?_ | refine blk_alloc ?_ _)); refine blk_far ?_ NB107_105.out _; (with_reducible repeat (first | refine blk_drewN ?_ _ | refine blk_drew ?_ | refine blk_alloc ?_ _)); refine blk_far ?_ NB107_105.out _; (with_reducible repeat (first | refine blk_drewN ?_ _ | refine blk_drew ?_ | refine blk_alloc ?_ _)); refine blk_far ?_ NB107_105.out _; (with_reducible repeat (first | refine blk_drewN ?_ _ | refine blk_drew ?_ | refine blk_alloc ?_ _)); refine blk_far ?_ NB107_105.out _; (with_reducible repeat (first | refine blk_drewN ?_ _ | refine blk_drew ?_ | refine blk_alloc ?_ _)); refine blk_far ?_ NB107_105.out _; (with_reducible repeat (first | refine blk_drewN ?_ _ | refine blk_drew ?_ | refine blk_alloc ?_ _)); refine blk_put (cs := #[.bool jb35, .bool false, .bool false, .int .u64 (IntKind.u64.wrap (Go.bits .and .u32 (Go.bits .and .u32 a1 t106) (((ji5) - 1) % 4294967296))), .int .i64 0]) ?_ 4 _ rfl; (with_reducible repeat (first | refine blk_drewN ?_ _ | refine blk_drew ?_ | refine blk_alloc ?_ _)); exact BK107.out))⟩; have n3_ : Aside0 (Below w.heap.size w w52) := ⟨(by rw [hw]; exact (bw HB.out))⟩; clear hw; clear BK104; clear BK105; clear BK107; clear HB; have BK104 := n0_; have BK105 := n1_; have BK107 := n2_; have HB := n3_; clear n0_ n1_ n2_ n3_))
      refine bodyPost_ret (results_cell_row rfl _ _ gb105 56 #[.bool jb35, .bool false, .bool false, .int .u64 (IntKind.u64.wrap (Go.bits .and .u32 (Go.bits .and .u32 a1 t106) (((ji5) - 1) % 4294967296))), .int .i64 t108] (0, 0) _ rfl (bk BK105.out) Try.underlying56 rfl (by kernel_rfl)) rfl ?_
      exact ⟨by first | rfl | (simp [errW_none, errW_some] <;> rfl) | (simp only [← hji5, ← hji7, ← hji9, ← hji10, ← hji12]; first | rfl | (simp [errW_none, errW_some] <;> rfl)) | (simp [*, errW_none, errW_some] <;> rfl), bw HB.out⟩
     ·
      rw [if_neg c33] at H
      have c33b0 : ((Go.bits .and .u32 (ji7) (((ji9) - 1) % 4294967296)) == 0) = false := beq_eq_false_iff_ne.mpr c33
      have c33b1 : ((Go.bits .and .u32 (ji7) (((ji9) - 1) % 4294967296)) != 0) = true := bne_iff_ne.mpr c33
      have c53b0 := eq_true (of_decide_eq_true (by first | (with_reducible assumption) | assumption) : 0 ≤ a0_1)
      replace H := Option.bind_eq_some_iff.mp H
      obtain ⟨t109, A540, H⟩ := H
      replace H : (some (((ji12) == 1), false, false, IntKind.u64.wrap (Go.bits .or .u32 (Go.bits .and .u32 (Go.bits .and .u32 a1 t106) (((ji5) - 1) % 4294967296)) (ji5)), wrap64 ((wrap64 (t109 + (wrap64 (Go.bits .and .u32 (ji7) (((ji9) - 1) % 4294967296))))) - 1))) = some (r1, r2, r3, r4, r5) := H
      have A54 := Aside0.mk A540
      clear A540
      obtain ⟨jb55, hjb55⟩ : ∃ b_ : Bool, ((ji12) == 1) = b_ := ⟨_, rfl⟩
      replace H : (some (jb55, false, false, IntKind.u64.wrap (Go.bits .or .u32 (Go.bits .and .u32 (Go.bits .and .u32 a1 t106) (((ji5) - 1) % 4294967296)) (ji5)), wrap64 ((wrap64 (t109 + (wrap64 (Go.bits .and .u32 (ji7) (((ji9) - 1) % 4294967296))))) - 1))) = some (r1, r2, r3, r4, r5) := by first | (rw [hjb55] at H; exact H) | exact H
      simp only [Option.some.injEq, Prod.mk.injEq] at H
      obtain ⟨rfl, rfl, rfl, rfl, rfl⟩ := H
      go_enter Try.func47, Try.ntmps47
      go_wp2_with (first | ((with_reducible refine gate_dst (N := 2) rfl ?_); refine box_event ?hg (N := 2) ?hd (cs := #[.int .u64 a0_0, .int .u64 a0_1]) (t := 52) ?hr ?_; (case hd => rfl); (case hg => rfl); (case hr => first | (go_simp; done) | (go_simp; rfl)); intro gb104 hg w56 hbox hb; have n0_ := Aside0.mk (below_step (bw HB.out) hb); have n1_ := Aside0.mk (hbox); have n2_ := Aside0.mk ((by rw [hg]; exact (below_size (bw HB.out)) : w.heap.size ≤ gb104)); have n3_ := Aside0.mk ((by rw [hg]; exact (below_size (bw HB.out)) : w.heap.size ≤ gb104)); clear HB; have HB := n0_; have BK104 := n1_; have GW104 := n2_; have GE104 := n3_; clear n0_ n1_ n2_ n3_; clear hb hbox hg) | ((with_reducible refine gate_dst (N := 4) rfl ?_); refine box_event ?hg (N := 4) ?hd (cs := #[.bool false, .bool false, .bool false, .int .u64 0, .int .i64 0]) (t := 56) ?hr ?_; (case hd => rfl); (case hg => rfl); (case hr => first | (go_simp; done) | (go_simp; rfl)); intro gb105 hg w57 hbox hb; have n0_ := Aside0.mk (blk_below (g := gb104) (o := .cells #[.int .u64 a0_0, .int .u64 a0_1] 52 (0, 0)) (bk BK104.out) hb); have n1_ := Aside0.mk (below_step (bw HB.out) hb); have n2_ := Aside0.mk (hbox); have n3_ := Aside0.mk ((by rw [hg]; exact (below_size (bw HB.out)) : w.heap.size ≤ gb105)); have n4_ := Aside0.mk ((by rw [hg]; exact (below_size (bw HB.out)) : w.heap.size ≤ gb105)); have n5_ := Aside0.mk ((by rw [hg]; exact Nat.ne_of_lt (blk_lt (g := gb104) (o := .cells #[.int .u64 a0_0, .int .u64 a0_1] 52 (0, 0)) (bk BK104.out)) : gb104 ≠ gb105)); have n6_ := Aside0.mk ((by rw [hg]; exact Nat.ne_of_gt (blk_lt (g := gb104) (o := .cells #[.int .u64 a0_0, .int .u64 a0_1] 52 (0, 0)) (bk BK104.out)) : gb105 ≠ gb104)); clear BK104; clear HB; have BK104 := n0_; have HB := n1_; have BK105 := n2_; have GW105 := n3_; have GE105 := n4_; have NB104_105 := n5_; have NB105_104 := n6_; clear n0_ n1_ n2_ n3_ n4_ n5_ n6_; clear hb hbox hg; have hnb58 := NB104_105.out; have hnc58 := NB105_104.out; have hcz59_0 : w57.cell? ⟨gb104, 0, none⟩ = some (.int .u64 a0_0) := (blk_cell BK104.out 0).trans rfl; have hcz59_1 : w57.cell? ⟨gb104, 1, none⟩ = some (.int .u64 a0_1) := (blk_cell BK104.out 1).trans rfl; have hfz59_0 := blk_frozen BK104.out 0; have hfz59_1 := blk_frozen BK104.out 1) | ((with_reducible refine gate_callee (f := 78) rfl ?_); refine goesL_ (some 10) rfl rfl Try.func78 (by kernel_rfl) rfl #[.agg #[.int .u64 a0_0, .int .u64 a0_1]] rfl ar ?_; (with_reducible refine (spec_l4K_mask.calls a0_0 a0_1 t106 _ A3.out).mono ?_); rintro e w60 ⟨rfl, hb⟩; refine ⟨_, rfl, ?_⟩; have n0_ := Aside0.mk (blk_below (g := gb104) (o := .cells #[.int .u64 a0_0, .int .u64 a0_1] 52 (0, 0)) (bk BK104.out) hb); have n1_ := Aside0.mk (blk_below (g := gb105) (o := .cells #[.bool false, .bool false, .bool false, .int .u64 0, .int .i64 0] 56 (0, 0)) (bk BK105.out) hb); have n2_ := Aside0.mk (below_step (bw HB.out) hb); clear BK104; clear BK105; clear HB; have BK104 := n0_; have BK105 := n1_; have HB := n2_; clear n0_ n1_ n2_; (try clear hb); have hcz61_0 : w60.cell? ⟨gb104, 0, none⟩ = some (.int .u64 a0_0) := (blk_cell BK104.out 0).trans rfl; have hcz61_1 : w60.cell? ⟨gb104, 1, none⟩ = some (.int .u64 a0_1) := (blk_cell BK104.out 1).trans rfl; have hfz61_0 := blk_frozen BK104.out 0; have hfz61_1 := blk_frozen BK104.out 1) | ((with_reducible refine gate_dst (N := 7) rfl ?_); refine box_event ?hg (N := 7) ?hd (cs := #[.bool false, .bool false, .bool false, .int .u64 0, .int .i64 0]) (t := 56) ?hr ?_; (case hd => rfl); (case hg => rfl); (case hr => first | (go_simp; done) | (go_simp; rfl)); intro gb107 hg w62 hbox hb; have n0_ := Aside0.mk (blk_below (g := gb104) (o := .cells #[.int .u64 a0_0, .int .u64 a0_1] 52 (0, 0)) (bk BK104.out) hb); have n1_ := Aside0.mk (blk_below (g := gb105) (o := .cells #[.bool false, .bool false, .bool false, .int .u64 0, .int .i64 0] 56 (0, 0)) (bk BK105.out) hb); have n2_ := Aside0.mk (below_step (bw HB.out) hb); have n3_ := Aside0.mk (hbox); have n4_ := Aside0.mk ((by rw [hg]; exact (below_size (bw HB.out)) : w.heap.size ≤ gb107)); have n5_ := Aside0.mk ((by rw [hg]; exact (below_size (bw HB.out)) : w.heap.size ≤ gb107)); have n6_ := Aside0.mk ((by rw [hg]; exact Nat.ne_of_lt (blk_lt (g := gb104) (o := .cells #[.int .u64 a0_0, .int .u64 a0_1] 52 (0, 0)) (bk BK104.out)) : gb104 ≠ gb107)); have n7_ := Aside0.mk ((by rw [hg]; exact Nat.ne_of_gt (blk_lt (g := gb104) (o := .cells #[.int .u64 a0_0, .int .u64 a0_1] 52 (0, 0)) (bk BK104.out)) : gb107 ≠ gb104)); have n8_ := Aside0.mk ((by rw [hg]; exact Nat.ne_of_lt (blk_lt (g := gb105) (o := .cells #[.bool false, .bool false, .bool false, .int .u64 0, .int .i64 0] 56 (0, 0)) (bk BK105.out)) : gb105 ≠ gb107)); have n9_ := Aside0.mk ((by rw [hg]; exact Nat.ne_of_gt (blk_lt (g := gb105) (o := .cells #[.bool false, .bool false, .bool false, .int .u64 0, .int .i64 0] 56 (0, 0)) (bk BK105.out)) : gb107 ≠ gb105)); clear BK104; clear BK105; clear HB; have BK104 := n0_; have BK105 := n1_; have HB := n2_; have BK107 := n3_; have GW107 := n4_; have GE107 := n5_; have NB104_107 := n6_; have NB107_104 := n7_; have NB105_107 := n8_; have NB107_105 := n9_; clear n0_ n1_ n2_ n3_ n4_ n5_ n6_ n7_ n8_ n9_; clear hb hbox hg; have hnb63 := NB107_104.out; have hnc63 := NB104_107.out; have hnb64 := NB107_105.out; have hnc64 := NB105_107.out; have hcz65_0 : w62.cell? ⟨gb107, 0, none⟩ = some (.bool false) := (blk_cell BK107.out 0).trans rfl; have hcz65_1 : w62.cell? ⟨gb107, 1, none⟩ = some (.bool false) := (blk_cell BK107.out 1).trans rfl; have hcz65_2 : w62.cell? ⟨gb107, 2, none⟩ = some (.bool false) := (blk_cell BK107.out 2).trans rfl; have hcz65_3 : w62.cell? ⟨gb107, 3, none⟩ = some (.int .u64 0) := (blk_cell BK107.out 3).trans rfl; have hcz65_4 : w62.cell? ⟨gb107, 4, none⟩ = some (.int .i64 0) := (blk_cell BK107.out 4).trans rfl; have hfz65_0 := blk_frozen BK107.out 0; have hfz65_1 := blk_frozen BK107.out 1; have hfz65_2 := blk_frozen BK107.out 2; have hfz65_3 := blk_frozen BK107.out 3; have hfz65_4 := blk_frozen BK107.out 4) | ((with_reducible refine gate_store (t := 56) (p := 7) rfl ?_); refine store_event (t := 56) (p := 7) (v := ?vo_w66) (w1 := (((((w62.setCell ⟨gb107, 0, none⟩ (.bool jb55)).setCell ⟨gb107, 1, none⟩ (.bool false)).setCell ⟨gb107, 2, none⟩ (.bool false)).setCell ⟨gb107, 3, none⟩ (.int .u64 0)).setCell ⟨gb107, 4, none⟩ (.int .i64 0))) ?hg ?ho ?hn ?hr ?_; (case ho => rfl); (case hg => rfl); (case hn => rfl); (case hr => first | (go_simp; done) | (go_simp; rfl)); intro w66 hw; have n0_ : Aside0 (w66.heap[gb104]? = some (.cells #[.int .u64 a0_0, .int .u64 a0_1] 52 (0, 0))) := ⟨(by rw [hw]; exact (by (with_reducible repeat (first | refine blk_drewN ?_ _ | refine blk_drew ?_ | refine blk_alloc ?_ _)); refine blk_far ?_ NB104_107.out _; (with_reducible repeat (first | refine blk_drewN ?_ _ | refine blk_drew ?_ | refine blk_alloc ?_ _)); refine blk_far ?_ NB104_107.out _; (with_reducible repeat (first | refine blk_drewN ?_ _ | refine blk_drew ?_ | refine blk_alloc ?_ _)); refine blk_far ?_ NB104_107.out _; (with_reducible repeat (first | refine blk_drewN ?_ _ | refine blk_drew ?_ | refine blk_alloc ?_ _)); refine blk_far ?_ NB104_107.out _; (with_reducible repeat (first | refine blk_drewN ?_ _ | refine blk_drew ?_ | refine blk_alloc ?_ _)); refine blk_far ?_ NB104_107.out _; (with_reducible repeat (first | refine blk_drewN ?_ _ | refine blk_drew ?_ | refine blk_alloc ?_ _)); exact BK104.out))⟩; have n1_ : Aside0 (w66.heap[gb105]? = some (.cells #[.bool false, .bool false, .bool false, .int .u64 0, .int .i64 0] 56 (0, 0))) := ⟨(by rw [hw]; exact (by (with_reducible repeat (first | refine blk_drewN ?_ _ | refine blk_drew ?_ | refine blk_alloc ?_ _)); refine blk_far ?_ NB105_107.out _; (with_reducible repeat (first | refine blk_drewN ?_ _ | refine blk_drew ?_ | refine blk_alloc ?_ _)); refine blk_far ?_ NB105_107.out _; (with_reducible repeat (first | refine blk_drewN ?_ _ | refine blk_drew ?_ | refine blk_alloc ?_ _)); refine blk_far ?_ NB105_107.out _; (with_reducible repeat (first | refine blk_drewN ?_ _ | refine blk_drew ?_ | refine blk_alloc ?_ _)); refine blk_far ?_ NB105_107.out _; (with_reducible repeat (first | refine blk_drewN ?_ _ | refine blk_drew ?_ | refine blk_alloc ?_ _)); refine blk_far ?_ NB105_107.out _; (with_reducible repeat (first | refine blk_drewN ?_ _ | refine blk_drew ?_ | refine blk_alloc ?_ _)); exact BK105.out))⟩; have n2_ : Aside0 (w66.heap[gb107]? = some (.cells #[.bool jb55, .bool false, .bool false, .int .u64 0, .int .i64 0] 56 (0, 0))) := ⟨(by rw [hw]; exact (by (with_reducible repeat (first | refine blk_drewN ?_ _ | refine blk_drew ?_ | refine blk_alloc ?_ _)); refine blk_put (cs := #[.bool jb55, .bool false, .bool false, .int .u64 0, .int .i64 0]) ?_ 4 _ rfl; (with_reducible repeat (first | refine blk_drewN ?_ _ | refine blk_drew ?_ | refine blk_alloc ?_ _)); refine blk_put (cs := #[.bool jb55, .bool false, .bool false, .int .u64 0, .int .i64 0]) ?_ 3 _ rfl; (with_reducible repeat (first | refine blk_drewN ?_ _ | refine blk_drew ?_ | refine blk_alloc ?_ _)); refine blk_put (cs := #[.bool jb55, .bool false, .bool false, .int .u64 0, .int .i64 0]) ?_ 2 _ rfl; (with_reducible repeat (first | refine blk_drewN ?_ _ | refine blk_drew ?_ | refine blk_alloc ?_ _)); refine blk_put (cs := #[.bool jb55, .bool false, .bool false, .int .u64 0, .int .i64 0]) ?_ 1 _ rfl; (with_reducible repeat (first | refine blk_drewN ?_ _ | refine blk_drew ?_ | refine blk_alloc ?_ _)); refine blk_put (cs := #[.bool false, .bool false, .bool false, .int .u64 0, .int .i64 0]) ?_ 0 _ rfl; (with_reducible repeat (first | refine blk_drewN ?_ _ | refine blk_drew ?_ | refine blk_alloc ?_ _)); exact BK107.out))⟩; have n3_ : Aside0 (Below w.heap.size w w66) := ⟨(by rw [hw]; exact (bw HB.out))⟩; clear hw; clear BK104; clear BK105; clear BK107; clear HB; have BK104 := n0_; have BK105 := n1_; have BK107 := n2_; have HB := n3_; clear n0_ n1_ n2_ n3_; have hcz67_0 : w66.cell? ⟨gb104, 0, none⟩ = some (.int .u64 a0_0) := (blk_cell BK104.out 0).trans rfl; have hcz67_1 : w66.cell? ⟨gb104, 1, none⟩ = some (.int .u64 a0_1) := (blk_cell BK104.out 1).trans rfl; have hfz67_0 := blk_frozen BK104.out 0; have hfz67_1 := blk_frozen BK104.out 1; have hcz68_0 : w66.cell? ⟨gb107, 0, none⟩ = some (.bool jb55) := (blk_cell BK107.out 0).trans rfl; have hcz68_1 : w66.cell? ⟨gb107, 1, none⟩ = some (.bool false) := (blk_cell BK107.out 1).trans rfl; have hcz68_2 : w66.cell? ⟨gb107, 2, none⟩ = some (.bool false) := (blk_cell BK107.out 2).trans rfl; have hcz68_3 : w66.cell? ⟨gb107, 3, none⟩ = some (.int .u64 0) := (blk_cell BK107.out 3).trans rfl; have hcz68_4 : w66.cell? ⟨gb107, 4, none⟩ = some (.int .i64 0) := (blk_cell BK107.out 4).trans rfl; have hfz68_0 := blk_frozen BK107.out 0; have hfz68_1 := blk_frozen BK107.out 1; have hfz68_2 := blk_frozen BK107.out 2; have hfz68_3 := blk_frozen BK107.out 3; have hfz68_4 := blk_frozen BK107.out 4) | ((with_reducible refine gate_callee (f := 82) rfl ?_); refine goesL_ (some 44) rfl rfl Try.func82 (by kernel_rfl) rfl #[.agg #[.int .u64 a0_0, .int .u64 a0_1]] rfl ar ?_; (with_reducible refine (spec_l4K_least.calls a0_0 a0_1 t109 _ A54.out).mono ?_); rintro e w69 ⟨rfl, hb⟩; refine ⟨_, rfl, ?_⟩; have n0_ := Aside0.mk (blk_below (g := gb104) (o := .cells #[.int .u64 a0_0, .int .u64 a0_1] 52 (0, 0)) (by (with_reducible repeat (first | refine blk_drewN ?_ _ | refine blk_drew ?_ | refine blk_alloc ?_ _)); refine blk_far ?_ NB104_107.out _; (with_reducible repeat (first | refine blk_drewN ?_ _ | refine blk_drew ?_ | refine blk_alloc ?_ _)); exact BK104.out) hb); have n1_ := Aside0.mk (blk_below (g := gb105) (o := .cells #[.bool false, .bool false, .bool false, .int .u64 0, .int .i64 0] 56 (0, 0)) (by (with_reducible repeat (first | refine blk_drewN ?_ _ | refine blk_drew ?_ | refine blk_alloc ?_ _)); refine blk_far ?_ NB105_107.out _; (with_reducible repeat (first | refine blk_drewN ?_ _ | refine blk_drew ?_ | refine blk_alloc ?_ _)); exact BK105.out) hb); have n2_ := Aside0.mk (blk_below (g := gb107) (o := .cells #[.bool jb55, .bool false, .bool false, .int .u64 (IntKind.u64.wrap (Go.bits .or .u32 (Go.bits .and .u32 (Go.bits .and .u32 a1 t106) (((ji5) - 1) % 4294967296)) (ji5))), .int .i64 0] 56 (0, 0)) (by (with_reducible repeat (first | refine blk_drewN ?_ _ | refine blk_drew ?_ | refine blk_alloc ?_ _)); refine blk_put (cs := #[.bool jb55, .bool false, .bool false, .int .u64 0, .int .i64 0]) ?_ 3 _ rfl; (with_reducible repeat (first | refine blk_drewN ?_ _ | refine blk_drew ?_ | refine blk_alloc ?_ _)); exact BK107.out) hb); have n3_ := Aside0.mk (below_step (bw HB.out) hb); clear BK104; clear BK105; clear BK107; clear HB; have BK104 := n0_; have BK105 := n1_; have BK107 := n2_; have HB := n3_; clear n0_ n1_ n2_ n3_; (try clear hb); have hcz70_0 : w69.cell? ⟨gb107, 0, none⟩ = some (.bool jb55) := (blk_cell BK107.out 0).trans rfl; have hcz70_1 : w69.cell? ⟨gb107, 1, none⟩ = some (.bool false) := (blk_cell BK107.out 1).trans rfl; have hcz70_2 : w69.cell? ⟨gb107, 2, none⟩ = some (.bool false) := (blk_cell BK107.out 2).trans rfl; have hcz70_3 : w69.cell? ⟨gb107, 3, none⟩ = some (.int .u64 (IntKind.u64.wrap (Go.bits .or .u32 (Go.bits .and .u32 (Go.bits .and .u32 a1 t106) (((ji5) - 1) % 4294967296)) (ji5)))) := (blk_cell BK107.out 3).trans rfl; have hcz70_4 : w69.cell? ⟨gb107, 4, none⟩ = some (.int .i64 0) := (blk_cell BK107.out 4).trans rfl; have hfz70_0 := blk_frozen BK107.out 0; have hfz70_1 := blk_frozen BK107.out 1; have hfz70_2 := blk_frozen BK107.out 2; have hfz70_3 := blk_frozen BK107.out 3; have hfz70_4 := blk_frozen BK107.out 4; have hcz71_0 : w69.cell? ⟨gb105, 0, none⟩ = some (.bool false) := (blk_cell BK105.out 0).trans rfl; have hcz71_1 : w69.cell? ⟨gb105, 1, none⟩ = some (.bool false) := (blk_cell BK105.out 1).trans rfl; have hcz71_2 : w69.cell? ⟨gb105, 2, none⟩ = some (.bool false) := (blk_cell BK105.out 2).trans rfl; have hcz71_3 : w69.cell? ⟨gb105, 3, none⟩ = some (.int .u64 0) := (blk_cell BK105.out 3).trans rfl; have hcz71_4 : w69.cell? ⟨gb105, 4, none⟩ = some (.int .i64 0) := (blk_cell BK105.out 4).trans rfl; have hfz71_0 := blk_frozen BK105.out 0; have hfz71_1 := blk_frozen BK105.out 1; have hfz71_2 := blk_frozen BK105.out 2; have hfz71_3 := blk_frozen BK105.out 3; have hfz71_4 := blk_frozen BK105.out 4) | ((with_reducible refine gate_store (t := 56) (p := 4) rfl ?_); refine store_event (t := 56) (p := 4) (v := ?vo_w72) (w1 := ((((((w69.setCell ⟨gb107, 4, none⟩ (.int .i64 (wrap64 ((wrap64 (t109 + (wrap64 (Go.bits .and .u32 (ji7) (((ji9) - 1) % 4294967296))))) - 1)))).setCell ⟨gb105, 0, none⟩ (.bool jb55)).setCell ⟨gb105, 1, none⟩ (.bool false)).setCell ⟨gb105, 2, none⟩ (.bool false)).setCell ⟨gb105, 3, none⟩ (.int .u64 (IntKind.u64.wrap (Go.bits .or .u32 (Go.bits .and .u32 (Go.bits .and .u32 a1 t106) (((ji5) - 1) % 4294967296)) (ji5))))).setCell ⟨gb105, 4, none⟩ (.int .i64 (wrap64 ((wrap64 (t109 + (wrap64 (Go.bits .and .u32 (ji7) (((ji9) - 1) % 4294967296))))) - 1))))) ?hg ?ho ?hn ?hr ?_; (case ho => rfl); (case hg => rfl); (case hn => rfl); (case hr => first | (go_simp; done) | (go_simp; rfl)); intro w72 hw; have n0_ : Aside0 (w72.heap[gb104]? = some (.cells #[.int .u64 a0_0, .int .u64 a0_1] 52 (0, 0))) := ⟨(by rw [hw]; exact (by (with_reducible repeat (first | refine blk_drewN ?_ _ | refine blk_drew ?_ | refine blk_alloc ?_ _)); refine blk_far ?_ NB104_105.out _; (with_reducible repeat (first | refine blk_drewN ?_ _ | refine blk_drew ?_ | refine blk_alloc ?_ _)); refine blk_far ?_ NB104_105.out _; (with_reducible repeat (first | refine blk_drewN ?_ _ | refine blk_drew ?_ | refine blk_alloc ?_ _)); refine blk_far ?_ NB104_105.out _; (with_reducible repeat (first | refine blk_drewN ?_ _ | refine blk_drew ?_ | refine blk_alloc ?_ _)); refine blk_far ?_ NB104_105.out _; (with_reducible repeat (first | refine blk_drewN ?_ _ | refine blk_drew ?_ | refine blk_alloc ?_ _)); refine blk_far ?_ NB104_105.out _; (with_reducible repeat (first | refine blk_drewN ?_ _ | refine blk_drew ?_ | refine blk_alloc ?_ _)); refine blk_far ?_ NB104_107.out _; (with_reducible repeat (first | refine blk_drewN ?_ _ | refine blk_drew ?_ | refine blk_alloc ?_ _)); exact BK104.out))⟩; have n1_ : Aside0 (w72.heap[gb105]? = some (.cells #[.bool jb55, .bool false, .bool false, .int .u64 (IntKind.u64.wrap (Go.bits .or .u32 (Go.bits .and .u32 (Go.bits .and .u32 a1 t106) (((ji5) - 1) % 4294967296)) (ji5))), .int .i64 (wrap64 ((wrap64 (t109 + (wrap64 (Go.bits .and .u32 (ji7) (((ji9) - 1) % 4294967296))))) - 1))] 56 (0, 0))) := ⟨(by rw [hw]; exact (by (with_reducible repeat (first | refine blk_drewN ?_ _ | refine blk_drew ?_ | refine blk_alloc ?_ _)); refine blk_put (cs := #[.bool jb55, .bool false, .bool false, .int .u64 (IntKind.u64.wrap (Go.bits .or .u32 (Go.bits .and .u32 (Go.bits .and .u32 a1 t106) (((ji5) - 1) % 4294967296)) (ji5))), .int .i64 0]) ?_ 4 _ rfl; (with_reducible repeat (first | refine blk_drewN ?_ _ | refine blk_drew ?_ | refine blk_alloc ?_ _)); refine blk_put (cs := #[.bool jb55, .bool false, .bool false, .int .u64 0, .int .i64 0]) ?_ 3 _ rfl; (with_reducible repeat (first | refine blk_drewN ?_ _ | refine blk_drew ?_ | refine blk_alloc ?_ _)); refine blk_put (cs := #[.bool jb55, .bool false, .bool false, .int .u64 0, .int .i64 0]) ?_ 2 _ rfl; (with_reducible repeat (first | refine blk_drewN ?_ _ | refine blk_drew ?_ | refine blk_alloc ?_ _)); refine blk_put (cs := #[.bool jb55, .bool false, .bool false, .int .u64 0, .int .i64 0]) ?_ 1 _ rfl; (with_reducible repeat (first | refine blk_drewN ?_ _ | refine blk_drew ?_ | refine blk_alloc ?_ _)); refine blk_put (cs := #[.bool false, .bool false, .bool false, .int .u64 0, .int .i64 0]) ?_ 0 _ rfl; (with_reducible repeat (first | refine blk_drewN ?_ _ | refine blk_drew ?_ | refine blk_alloc ?_ _)); refine blk_far ?_ NB105_107.out _; (with_reducible repeat (first | refine blk_drewN ?_ _ | refine blk_drew ?_ | refine blk_alloc ?_ _)); exact BK105.out))⟩; have n2_ : Aside0 (w72.heap[gb107]? = some (.cells #[.bool jb55, .bool false, .bool false, .int .u64 (IntKind.u64.wrap (Go.bits .or .u32 (Go.bits .and .u32 (Go.bits .and .u32 a1 t106) (((ji5) - 1) % 4294967296)) (ji5))), .int .i64 (wrap64 ((wrap64 (t109 + (wrap64 (Go.bits .and .u32 (ji7) (((ji9) - 1) % 4294967296))))) - 1))] 56 (0, 0))) := ⟨(by rw [hw]; exact (by (with_reducible repeat (first | refine blk_drewN ?_ _ | refine blk_drew ?_ | refine blk_alloc ?_ _)); refine blk_far ?_ NB107_105.out _; (with_reducible repeat (first | refine blk_drewN ?_ _ | refine blk_drew ?_ | refine blk_alloc ?_ _)); refine blk_far ?_ NB107_105.out _; (with_reducible repeat (first | refine blk_drewN ?_ _ | refine blk_drew ?_ | refine blk_alloc ?_ _)); refine blk_far ?_ NB107_105.out _; (with_reducible repeat (first | refine blk_drewN ?_ _ | refine blk_drew ?_ | refine blk_alloc ?_ _)); refine blk_far ?_ NB107_105.out _; (with_reducible repeat (first | refine blk_drewN ?_ _ | refine blk_drew ?_ | refine blk_alloc ?_ _)); refine blk_far ?_ NB107_105.out _; (with_reducible repeat (first | refine blk_drewN ?_ _ | refine blk_drew ?_ | refine blk_alloc ?_ _)); refine blk_put (cs := #[.bool jb55, .bool false, .bool false, .int .u64 (IntKind.u64.wrap (Go.bits .or .u32 (Go.bits .and .u32 (Go.bits .and .u32 a1 t106) (((ji5) - 1) % 4294967296)) (ji5))), .int .i64 0]) ?_ 4 _ rfl; (with_reducible repeat (first | refine blk_drewN ?_ _ | refine blk_drew ?_ | refine blk_alloc ?_ _)); exact BK107.out))⟩; have n3_ : Aside0 (Below w.heap.size w w72) := ⟨(by rw [hw]; exact (bw HB.out))⟩; clear hw; clear BK104; clear BK105; clear BK107; clear HB; have BK104 := n0_; have BK105 := n1_; have BK107 := n2_; have HB := n3_; clear n0_ n1_ n2_ n3_))
      refine bodyPost_ret (results_cell_row rfl _ _ gb105 56 #[.bool jb55, .bool false, .bool false, .int .u64 (IntKind.u64.wrap (Go.bits .or .u32 (Go.bits .and .u32 (Go.bits .and .u32 a1 t106) (((ji5) - 1) % 4294967296)) (ji5))), .int .i64 (wrap64 ((wrap64 (t109 + (wrap64 (Go.bits .and .u32 (ji7) (((ji9) - 1) % 4294967296))))) - 1))] (0, 0) _ rfl (bk BK105.out) Try.underlying56 rfl (by kernel_rfl)) rfl ?_
      exact ⟨by first | rfl | (simp [errW_none, errW_some] <;> rfl) | (simp only [← hji5, ← hji7, ← hji9, ← hji10, ← hji12]; first | rfl | (simp [errW_none, errW_some] <;> rfl)) | (simp [*, errW_none, errW_some] <;> rfl), bw HB.out⟩
   ·
    rw [if_neg c11] at H
    exact absurd H (by simp)
  ·
   rw [if_neg c8] at H
   exact absurd H (by simp)
 ·
  rw [if_neg c4] at H
  exact absurd H (by simp)

end Go.Proofs.Ytdeogandkgiggaa.Q

namespace Go.Proofs.Ytdeogandkgiggaa.Q
open Go.RowKit Go.Proofs.YtdeogandkgiggaaW.PrintWords Go.Proofs.YtdeogandkgiggaaW.PrintLast Go.Proofs.YtdeogandkgiggaaW.PrintMore
attribute [local go_sem] max2_int min2_int max_two min_two max_three min_three max_four min_four   -- for this text's walks alone
set_option linter.unusedVariables false
set_option linter.unusedSimpArgs false

/-! ### spec_l4K_nan: function 48 -/
def spec_l4K_nan.f (a0_0 : Int) (a0_1 : Int) : Option (Int) := if 0 ≤ a0_0 then (if 0 ≤ a0_1 then (if 0 ≤ (IntKind.u64.wrap (a0_1 - 1)) then (some (Go.bits .or .u32 (shl .u32 (((shl .u32 1 a0_0) - 1) % 4294967296) a0_1) (shl .u32 1 (IntKind.u64.wrap (a0_1 - 1))))) else (none)) else (none)) else (none)
set_option maxHeartbeats 8000000 in
set_option maxRecDepth 100000 in
theorem spec_l4K_nan.calls (a0_0 : Int) (a0_1 : Int) (r : Int) (w : World) (h : spec_l4K_nan.f a0_0 a0_1 = some r) :
  Calls Try.prog 48 #[.agg #[.int .u64 a0_0, .int .u64 a0_1]] w fun e w' => e = .returned (.int .u32 r) ∧ Below w.heap.size w w' := by
 have hu52 := Try.underlying52
 have HB := Aside0.mk (Below.refl w.heap.size w)
 have H : (if 0 ≤ a0_0 then (if 0 ≤ a0_1 then (if 0 ≤ (IntKind.u64.wrap (a0_1 - 1)) then (some (Go.bits .or .u32 (shl .u32 (((shl .u32 1 a0_0) - 1) % 4294967296) a0_1) (shl .u32 1 (IntKind.u64.wrap (a0_1 - 1))))) else (none)) else (none)) else (none)) = some r := h
 clear h
 by_cases c2 : 0 ≤ a0_0
 ·
  rw [if_pos c2] at H
  have c2b0 := eq_true c2
  have c2b1 : decide (0 ≤ a0_0) = true := decide_eq_true c2
  clear c2
  obtain ⟨ji3, hji3⟩ : ∃ j_ : Int, (shl .u32 1 a0_0) = j_ := ⟨_, rfl⟩
  replace H : (if 0 ≤ a0_1 then (if 0 ≤ (IntKind.u64.wrap (a0_1 - 1)) then (some (Go.bits .or .u32 (shl .u32 (((ji3) - 1) % 4294967296) a0_1) (shl .u32 1 (IntKind.u64.wrap (a0_1 - 1))))) else (none)) else (none)) = some r := by first | (rw [hji3] at H; exact H) | (simp only [hji3] at H ⊢; exact H)
  have hji3_ : (IntKind.u32.wrap (1 * 2 ^ min a0_0.toNat 32)) = ji3 := hji3
  have hji3z : a0_0 ≤ 32 → (IntKind.u32.wrap (1 * 2 ^ a0_0.toNat)) = ji3 := shl_small hji3
  have hji3u : (IntKind.u32.wrap (2 ^ min a0_0.toNat 32)) = ji3 := by have h_ := hji3_; rw [Int.one_mul] at h_; exact h_
  have hji3v : a0_0 ≤ 32 → (IntKind.u32.wrap (2 ^ a0_0.toNat)) = ji3 := fun hle_ => by have h_ := hji3z hle_; rw [Int.one_mul] at h_; exact h_
  by_cases c4 : 0 ≤ a0_1
  ·
   rw [if_pos c4] at H
   have c4b0 := eq_true c4
   have c4b1 : decide (0 ≤ a0_1) = true := decide_eq_true c4
   clear c4
   obtain ⟨ji5, hji5⟩ : ∃ j_ : Int, (shl .u32 (((ji3) - 1) % 4294967296) a0_1) = j_ := ⟨_, rfl⟩
   replace H : (if 0 ≤ (IntKind.u64.wrap (a0_1 - 1)) then (some (Go.bits .or .u32 (ji5) (shl .u32 1 (IntKind.u64.wrap (a0_1 - 1))))) else (none)) = some r := by first | (rw [hji5] at H; exact H) | (simp only [hji5] at H ⊢; exact H)
   have hji5_ : (IntKind.u32.wrap ((((ji3) - 1) % 4294967296) * 2 ^ min a0_1.toNat 32)) = ji5 := hji5
   have hji5z : a0_1 ≤ 32 → (IntKind.u32.wrap ((((ji3) - 1) % 4294967296) * 2 ^ a0_1.toNat)) = ji5 := shl_small hji5
   obtain ⟨ji6, hji6⟩ : ∃ j_ : Int, (IntKind.u64.wrap (a0_1 - 1)) = j_ := ⟨_, rfl⟩
   replace H : (if 0 ≤ (ji6) then (some (Go.bits .or .u32 (ji5) (shl .u32 1 (ji6)))) else (none)) = some r := by first | (rw [hji6] at H; exact H) | (simp only [hji6] at H ⊢; exact H)
   by_cases c7 : 0 ≤ (ji6)
   ·
    rw [if_pos c7] at H
    have c7b0 := eq_true c7
    have c7b1 : decide (0 ≤ (ji6)) = true := decide_eq_true c7
    clear c7
    obtain ⟨ji8, hji8⟩ : ∃ j_ : Int, (shl .u32 1 (ji6)) = j_ := ⟨_, rfl⟩
    replace H : (some (Go.bits .or .u32 (ji5) (ji8))) = some r := by first | (rw [hji8] at H; exact H) | (simp only [hji8] at H ⊢; exact H)
    have hji8_ : (IntKind.u32.wrap (1 * 2 ^ min (ji6).toNat 32)) = ji8 := hji8
    have hji8z : (ji6) ≤ 32 → (IntKind.u32.wrap (1 * 2 ^ (ji6).toNat)) = ji8 := shl_small hji8
    have hji8u : (IntKind.u32.wrap (2 ^ min (ji6).toNat 32)) = ji8 := by have h_ := hji8_; rw [Int.one_mul] at h_; exact h_
    have hji8v : (ji6) ≤ 32 → (IntKind.u32.wrap (2 ^ (ji6).toNat)) = ji8 := fun hle_ => by have h_ := hji8z hle_; rw [Int.one_mul] at h_; exact h_
    obtain rfl := Option.some.inj H
    simp only [Option.some.injEq, Prod.mk.injEq] at H
    obtain ⟨rfl⟩ := H
    go_enter Try.func48, Try.ntmps48
    go_wp2_with (first | ((with_reducible refine gate_dst (N := 1) rfl ?_); refine box_event ?hg (N := 1) ?hd (cs := #[.int .u64 a0_0, .int .u64 a0_1]) (t := 52) ?hr ?_; (case hd => rfl); (case hg => rfl); (case hr => first | (go_simp; done) | (go_simp; rfl)); intro gb110 hg w9 hbox hb; have n0_ := Aside0.mk (below_step (bw HB.out) hb); have n1_ := Aside0.mk (hbox); have n2_ := Aside0.mk ((by rw [hg]; exact (below_size (bw HB.out)) : w.heap.size ≤ gb110)); have n3_ := Aside0.mk ((by rw [hg]; exact (below_size (bw HB.out)) : w.heap.size ≤ gb110)); clear HB; have HB := n0_; have BK110 := n1_; have GW110 := n2_; have GE110 := n3_; clear n0_ n1_ n2_ n3_; clear hb hbox hg; have hcz10_0 : w9.cell? ⟨gb110, 0, none⟩ = some (.int .u64 a0_0) := (blk_cell BK110.out 0).trans rfl; have hcz10_1 : w9.cell? ⟨gb110, 1, none⟩ = some (.int .u64 a0_1) := (blk_cell BK110.out 1).trans rfl; have hfz10_0 := blk_frozen BK110.out 0; have hfz10_1 := blk_frozen BK110.out 1))
    go_ret
    exact ⟨by first | rfl | (simp [errW_none, errW_some] <;> rfl) | (simp only [← hji3, ← hji5, ← hji6, ← hji8]; first | rfl | (simp [errW_none, errW_some] <;> rfl)) | (simp [*, errW_none, errW_some] <;> rfl), bw HB.out⟩
   ·
    rw [if_neg c7] at H
    exact absurd H (by simp)
  ·
   rw [if_neg c4] at H
   exact absurd H (by simp)
 ·
  rw [if_neg c2] at H
  exact absurd H (by simp)

end Go.Proofs.Ytdeogandkgiggaa.Q

namespace Go.Proofs.Ytdeogandkgiggaa.Q
open Go.RowKit Go.Proofs.YtdeogandkgiggaaW.PrintWords Go.Proofs.YtdeogandkgiggaaW.PrintLast Go.Proofs.YtdeogandkgiggaaW.PrintMore
attribute [local go_sem] max2_int min2_int max_two min_two max_three min_three max_four min_four   -- for this text's walks alone
set_option linter.unusedVariables false
set_option linter.unusedSimpArgs false

/-! ### spec_l4K_sign: function 83 -/
def spec_l4K_sign.f (a0_0 : Int) (a0_1 : Int) (a1 : Bool) : Option (Int) := if a1 = true then (if 0 ≤ (IntKind.u64.wrap (a0_0 + a0_1)) then (some (shl .u32 1 (IntKind.u64.wrap (a0_0 + a0_1)))) else (none)) else (some 0)
set_option maxHeartbeats 8000000 in
set_option maxRecDepth 100000 in
theorem spec_l4K_sign.calls (a0_0 : Int) (a0_1 : Int) (a1 : Bool) (r : Int) (w : World) (h : spec_l4K_sign.f a0_0 a0_1 a1 = some r) :
  Calls Try.prog 83 #[.agg #[.int .u64 a0_0, .int .u64 a0_1], .bool a1] w fun e w' => e = .returned (.int .u32 r) ∧ Below w.heap.size w w' := by
 have hu52 := Try.underlying52
 have HB := Aside0.mk (Below.refl w.heap.size w)
 have H : (if a1 = true then (if 0 ≤ (IntKind.u64.wrap (a0_0 + a0_1)) then (some (shl .u32 1 (IntKind.u64.wrap (a0_0 + a0_1)))) else (none)) else (some 0)) = some r := h
 clear h
 by_cases c3 : a1 = true
 ·
  subst c3
  have H1 : (if 0 ≤ (IntKind.u64.wrap (a0_0 + a0_1)) then (some (shl .u32 1 (IntKind.u64.wrap (a0_0 + a0_1)))) else (none)) = some r := by rw [if_pos rfl] at H; exact H
  clear H
  have H := H1
  clear H1
  obtain ⟨ji4, hji4⟩ : ∃ j_ : Int, (IntKind.u64.wrap (a0_0 + a0_1)) = j_ := ⟨_, rfl⟩
  replace H : (if 0 ≤ (ji4) then (some (shl .u32 1 (ji4))) else (none)) = some r := by first | (rw [hji4] at H; exact H) | (simp only [hji4] at H ⊢; exact H)
  by_cases c5 : 0 ≤ (ji4)
  ·
   rw [if_pos c5] at H
   have c5b0 := eq_true c5
   have c5b1 : decide (0 ≤ (ji4)) = true := decide_eq_true c5
   clear c5
   obtain ⟨ji6, hji6⟩ : ∃ j_ : Int, (shl .u32 1 (ji4)) = j_ := ⟨_, rfl⟩
   replace H : (some ji6) = some r := by first | (rw [hji6] at H; exact H) | (simp only [hji6] at H ⊢; exact H)
   have hji6_ : (IntKind.u32.wrap (1 * 2 ^ min (ji4).toNat 32)) = ji6 := hji6
   have hji6z : (ji4) ≤ 32 → (IntKind.u32.wrap (1 * 2 ^ (ji4).toNat)) = ji6 := shl_small hji6
   have hji6u : (IntKind.u32.wrap (2 ^ min (ji4).toNat 32)) = ji6 := by have h_ := hji6_; rw [Int.one_mul] at h_; exact h_
   have hji6v : (ji4) ≤ 32 → (IntKind.u32.wrap (2 ^ (ji4).toNat)) = ji6 := fun hle_ => by have h_ := hji6z hle_; rw [Int.one_mul] at h_; exact h_
   obtain rfl := Option.some.inj H
   simp only [Option.some.injEq, Prod.mk.injEq] at H
   obtain ⟨rfl⟩ := H
   go_enter Try.func83, Try.ntmps83
   go_wp2_with (first | ((with_reducible refine gate_dst (N := 2) rfl ?_); refine box_event ?hg (N := 2) ?hd (cs := #[.int .u64 a0_0, .int .u64 a0_1]) (t := 52) ?hr ?_; (case hd => rfl); (case hg => rfl); (case hr => first | (go_simp; done) | (go_simp; rfl)); intro gb111 hg w7 hbox hb; have n0_ := Aside0.mk (below_step (bw HB.out) hb); have n1_ := Aside0.mk (hbox); have n2_ := Aside0.mk ((by rw [hg]; exact (below_size (bw HB.out)) : w.heap.size ≤ gb111)); have n3_ := Aside0.mk ((by rw [hg]; exact (below_size (bw HB.out)) : w.heap.size ≤ gb111)); clear HB; have HB := n0_; have BK111 := n1_; have GW111 := n2_; have GE111 := n3_; clear n0_ n1_ n2_ n3_; clear hb hbox hg; have hcz8_0 : w7.cell? ⟨gb111, 0, none⟩ = some (.int .u64 a0_0) := (blk_cell BK111.out 0).trans rfl; have hcz8_1 : w7.cell? ⟨gb111, 1, none⟩ = some (.int .u64 a0_1) := (blk_cell BK111.out 1).trans rfl; have hfz8_0 := blk_frozen BK111.out 0; have hfz8_1 := blk_frozen BK111.out 1))
   go_ret
   exact ⟨by first | rfl | (simp [errW_none, errW_some] <;> rfl) | (simp only [← hji4, ← hji6]; first | rfl | (simp [errW_none, errW_some] <;> rfl)) | (simp [*, errW_none, errW_some] <;> rfl), bw HB.out⟩
  ·
   rw [if_neg c5] at H
   exact absurd H (by simp)
 ·
  replace c3 := Bool.eq_false_iff.mpr c3
  subst c3
  have H1 : (some 0) = some r := by rw [if_neg (show ¬ (false = true) by decide)] at H; exact H
  clear H
  have H := H1
  clear H1
  obtain rfl := Option.some.inj H
  simp only [Option.some.injEq, Prod.mk.injEq] at H
  obtain ⟨rfl⟩ := H
  go_enter Try.func83, Try.ntmps83
  go_wp2_with (first | ((with_reducible refine gate_dst (N := 2) rfl ?_); refine box_event ?hg (N := 2) ?hd (cs := #[.int .u64 a0_0, .int .u64 a0_1]) (t := 52) ?hr ?_; (case hd => rfl); (case hg => rfl); (case hr => first | (go_simp; done) | (go_simp; rfl)); intro gb111 hg w9 hbox hb; have n0_ := Aside0.mk (below_step (bw HB.out) hb); have n1_ := Aside0.mk (hbox); have n2_ := Aside0.mk ((by rw [hg]; exact (below_size (bw HB.out)) : w.heap.size ≤ gb111)); have n3_ := Aside0.mk ((by rw [hg]; exact (below_size (bw HB.out)) : w.heap.size ≤ gb111)); clear HB; have HB := n0_; have BK111 := n1_; have GW111 := n2_; have GE111 := n3_; clear n0_ n1_ n2_ n3_; clear hb hbox hg))
  go_ret
  exact ⟨by first | rfl | (simp [errW_none, errW_some] <;> rfl) | (simp [*, errW_none, errW_some] <;> rfl), bw HB.out⟩

end Go.Proofs.Ytdeogandkgiggaa.Q

namespace Go.Proofs.Ytdeogandkgiggaa.Q
open Go.RowKit Go.Proofs.YtdeogandkgiggaaW.PrintWords Go.Proofs.YtdeogandkgiggaaW.PrintLast Go.Proofs.YtdeogandkgiggaaW.PrintMore
attribute [local go_sem] max2_int min2_int max_two min_two max_three min_three max_four min_four   -- for this text's walks alone
set_option linter.unusedVariables false
set_option linter.unusedSimpArgs false

/-! ### spec_l4K_inf: function 49 -/
def spec_l4K_inf.f (a0_0 : Int) (a0_1 : Int) (a1 : Bool) : Option (Int) := if 0 ≤ a0_0 then (if 0 ≤ a0_1 then ((spec_l4K_sign.f a0_0 a0_1 a1).bind fun t113 => (some (Go.bits .or .u32 (shl .u32 (((shl .u32 1 a0_0) - 1) % 4294967296) a0_1) t113))) else (none)) else (none)
set_option maxHeartbeats 8000000 in
set_option maxRecDepth 100000 in
theorem spec_l4K_inf.calls (a0_0 : Int) (a0_1 : Int) (a1 : Bool) (r : Int) (w : World) (h : spec_l4K_inf.f a0_0 a0_1 a1 = some r) :
  Calls Try.prog 49 #[.agg #[.int .u64 a0_0, .int .u64 a0_1], .bool a1] w fun e w' => e = .returned (.int .u32 r) ∧ Below w.heap.size w w' := by
 have hu52 := Try.underlying52
 have HB := Aside0.mk (Below.refl w.heap.size w)
 have H : (if 0 ≤ a0_0 then (if 0 ≤ a0_1 then ((spec_l4K_sign.f a0_0 a0_1 a1).bind fun t113 => (some (Go.bits .or .u32 (shl .u32 (((shl .u32 1 a0_0) - 1) % 4294967296) a0_1) t113))) else (none)) else (none)) = some r := h
 clear h
 by_cases c3 : 0 ≤ a0_0
 ·
  rw [if_pos c3] at H
  have c3b0 := eq_true c3
  have c3b1 : decide (0 ≤ a0_0) = true := decide_eq_true c3
  clear c3
  obtain ⟨ji4, hji4⟩ : ∃ j_ : Int, (shl .u32 1 a0_0) = j_ := ⟨_, rfl⟩
  replace H : (if 0 ≤ a0_1 then ((spec_l4K_sign.f a0_0 a0_1 a1).bind fun t113 => (some (Go.bits .or .u32 (shl .u32 (((ji4) - 1) % 4294967296) a0_1) t113))) else (none)) = some r := by first | (rw [hji4] at H; exact H) | (simp only [hji4] at H ⊢; exact H)
  have hji4_ : (IntKind.u32.wrap (1 * 2 ^ min a0_0.toNat 32)) = ji4 := hji4
  have hji4z : a0_0 ≤ 32 → (IntKind.u32.wrap (1 * 2 ^ a0_0.toNat)) = ji4 := shl_small hji4
  have hji4u : (IntKind.u32.wrap (2 ^ min a0_0.toNat 32)) = ji4 := by have h_ := hji4_; rw [Int.one_mul] at h_; exact h_
  have hji4v : a0_0 ≤ 32 → (IntKind.u32.wrap (2 ^ a0_0.toNat)) = ji4 := fun hle_ => by have h_ := hji4z hle_; rw [Int.one_mul] at h_; exact h_
  by_cases c5 : 0 ≤ a0_1
  ·
   rw [if_pos c5] at H
   have c5b0 := eq_true c5
   have c5b1 : decide (0 ≤ a0_1) = true := decide_eq_true c5
   clear c5
   obtain ⟨ji6, hji6⟩ : ∃ j_ : Int, (shl .u32 (((ji4) - 1) % 4294967296) a0_1) = j_ := ⟨_, rfl⟩
   replace H : ((spec_l4K_sign.f a0_0 a0_1 a1).bind fun t113 => (some (Go.bits .or .u32 (ji6) t113))) = some r := by first | (rw [hji6] at H; exact H) | (simp only [hji6] at H ⊢; exact H)
   have hji6_ : (IntKind.u32.wrap ((((ji4) - 1) % 4294967296) * 2 ^ min a0_1.toNat 32)) = ji6 := hji6
   have hji6z : a0_1 ≤ 32 → (IntKind.u32.wrap ((((ji4) - 1) % 4294967296) * 2 ^ a0_1.toNat)) = ji6 := shl_small hji6
   replace H := Option.bind_eq_some_iff.mp H
   obtain ⟨t113, A70, H⟩ := H
   replace H : (some (Go.bits .or .u32 (ji6) t113)) = some r := H
   have A7 := Aside0.mk A70
   clear A70
   obtain rfl := Option.some.inj H
   simp only [Option.some.injEq, Prod.mk.injEq] at H
   obtain ⟨rfl⟩ := H
   go_enter Try.func49, Try.ntmps49
   go_wp2_with (first | ((with_reducible refine gate_dst (N := 2) rfl ?_); refine box_event ?hg (N := 2) ?hd (cs := #[.int .u64 a0_0, .int .u64 a0_1]) (t := 52) ?hr ?_; (case hd => rfl); (case hg => rfl); (case hr => first | (go_simp; done) | (go_simp; rfl)); intro gb112 hg w8 hbox hb; have n0_ := Aside0.mk (below_step (bw HB.out) hb); have n1_ := Aside0.mk (hbox); have n2_ := Aside0.mk ((by rw [hg]; exact (below_size (bw HB.out)) : w.heap.size ≤ gb112)); have n3_ := Aside0.mk ((by rw [hg]; exact (below_size (bw HB.out)) : w.heap.size ≤ gb112)); clear HB; have HB := n0_; have BK112 := n1_; have GW112 := n2_; have GE112 := n3_; clear n0_ n1_ n2_ n3_; clear hb hbox hg; have hcz9_0 : w8.cell? ⟨gb112, 0, none⟩ = some (.int .u64 a0_0) := (blk_cell BK112.out 0).trans rfl; have hcz9_1 : w8.cell? ⟨gb112, 1, none⟩ = some (.int .u64 a0_1) := (blk_cell BK112.out 1).trans rfl; have hfz9_0 := blk_frozen BK112.out 0; have hfz9_1 := blk_frozen BK112.out 1) | ((with_reducible refine gate_callee (f := 83) rfl ?_); refine goesL_ (some 16) rfl rfl Try.func83 (by kernel_rfl) rfl #[.agg #[.int .u64 a0_0, .int .u64 a0_1], .bool a1] rfl ar ?_; (with_reducible refine (spec_l4K_sign.calls a0_0 a0_1 a1 t113 _ A7.out).mono ?_); rintro e w10 ⟨rfl, hb⟩; refine ⟨_, rfl, ?_⟩; have n0_ := Aside0.mk (blk_below (g := gb112) (o := .cells #[.int .u64 a0_0, .int .u64 a0_1] 52 (0, 0)) (bk BK112.out) hb); have n1_ := Aside0.mk (below_step (bw HB.out) hb); clear BK112; clear HB; have BK112 := n0_; have HB := n1_; clear n0_ n1_; (try clear hb)))
   go_ret
   exact ⟨by first | rfl | (simp [errW_none, errW_some] <;> rfl) | (simp only [← hji4, ← hji6]; first | rfl | (simp [errW_none, errW_some] <;> rfl)) | (simp [*, errW_none, errW_some] <;> rfl), bw HB.out⟩
  ·
   rw [if_neg c5] at H
   exact absurd H (by simp)
 ·
  rw [if_neg c3] at H
  exact absurd H (by simp)

end Go.Proofs.Ytdeogandkgiggaa.Q

namespace Go.Proofs.Ytdeogandkgiggaa.Q
open Go.RowKit Go.Proofs.YtdeogandkgiggaaW.PrintWords Go.Proofs.YtdeogandkgiggaaW.PrintLast Go.Proofs.YtdeogandkgiggaaW.PrintMore
attribute [local go_sem] max2_int min2_int max_two min_two max_three min_three max_four min_four   -- for this text's walks alone
set_option linter.unusedVariables false
set_option linter.unusedSimpArgs false

/-! ### spec_l4Len: function 84 -/
def spec_l4Len.l0 : Nat → Int → Int → Option (Int)
 | 0, _, _ => none
 | k + 1, x0, x3 => if x0 > 0 then (spec_l4Len.l0 k (x0 / 2) (wrap64 (x3 + 1))) else (some x3)
def spec_l4Len.f (k : Nat) (a0 : Int) : Option (Int) := spec_l4Len.l0 k a0 0
theorem spec_l4Len.mono_l : ∀ k, (∀ y0 y1, LeO (spec_l4Len.l0 k y0 y1) (spec_l4Len.l0 (k + 1) y0 y1))
 | 0 => fun _ _ r h => by simp [spec_l4Len.l0] at h
 | k + 1 => by
  have ih0 := spec_l4Len.mono_l k
  ·
   intro y0 y1
   unfold spec_l4Len.l0
   repeat' first
   | (with_reducible exact ih0 _ _)
   | (with_reducible exact LeO.refl _)
   | (with_reducible exact LeO.none _)
   | (with_reducible refine LeO.ite ?_ ?_)
   | (with_reducible refine LeO.bind ?_ (fun _ => ?_))
   | exact ih0 _ _
   | exact LeO.none _
   | refine LeO.ite ?_ ?_
   | refine LeO.bind ?_ (fun _ => ?_)
theorem spec_l4Len.mono : ∀ a0 k, LeO (spec_l4Len.f k a0) (spec_l4Len.f (k + 1) a0) := by
 intro a0 k
 have ih0 := spec_l4Len.mono_l k
 unfold spec_l4Len.f
 repeat' first
   | (with_reducible exact ih0 _ _)
   | (with_reducible exact LeO.refl _)
   | (with_reducible exact LeO.none _)
   | (with_reducible refine LeO.ite ?_ ?_)
   | (with_reducible refine LeO.bind ?_ (fun _ => ?_))
   | exact ih0 _ _
   | exact LeO.none _
   | refine LeO.ite ?_ ?_
   | refine LeO.bind ?_ (fun _ => ?_)
set_option maxHeartbeats 8000000 in
set_option maxRecDepth 100000 in
theorem spec_l4Len.calls (k : Nat) (a0 : Int) (r : Int) (w : World) (h : spec_l4Len.f k a0 = some r) :
  Calls Try.prog 84 #[.int .u64 a0] w fun e w' => e = .returned (.int .i64 r) ∧ Drawn0 w w' := by
 have H : (spec_l4Len.l0 k a0 0) = some r := h
 clear h
 have H' := Aside0.mk H
 clear H
 go_enter Try.func84, Try.ntmps84
 go_wp2
 (try simp only [Act.put, List.setIfInBounds_toArray, List.set_cons_zero, List.set_cons_succ])
 go_loopg [0, 3] k (fun kq v0 v3 w' => ∃ (x0_1 : Int) (x3_1 : Int), v0 = .int .u64 x0_1 ∧ v3 = .int .i64 x3_1 ∧ Aside0 (spec_l4Len.l0 kq x0_1 x3_1 = some r) ∧ Aside0 (kq ≤ k) ∧ Drawn0 w w')
 case atStart => exact ⟨(a0), (0), (by first | rfl | (simp; done) | (simp [*]; done)), (by first | rfl | (simp; done) | (simp [*]; done)), H', ⟨Nat.le_refl _⟩, by repeat (first | exact Drawn0.refl _ | apply Drawn0.step)⟩
 case round =>
  clear H'
  obtain ⟨x0_1, x3_1, rfl, rfl, HA, HK1, ⟨m1, rfl⟩⟩ := hrel
  cases gk with
  | zero => exact absurd HA.out (by simp [spec_l4Len.l0])
  | succ k1 =>
   have H := HA.out
   clear HA
   simp only [spec_l4Len.l0] at H
   by_cases c2 : x0_1 > 0
   ·
    rw [if_pos c2] at H
    have c2b0 : decide (0 < x0_1) = true := decide_eq_true c2
    clear c2
    have H' := Aside0.mk H
    clear H
    go_wp2
    go_roundg k1
    case measure => have := HK1.out; omega
    case rel => exact ⟨(x0_1 / 2), (wrap64 (x3_1 + 1)), (by first | rfl | (simp; done) | (simp [*]; done)), (by first | rfl | (simp; done) | (simp [*]; done)), H', ⟨by have := HK1.out; omega⟩, by repeat (first | exact Drawn0.refl _ | apply Drawn0.step)⟩
   ·
    rw [if_neg c2] at H
    have c2b0 : decide (0 < x0_1) = false := decide_eq_false c2
    clear c2
    obtain rfl := Option.some.inj H
    simp only [Option.some.injEq, Prod.mk.injEq] at H
    obtain ⟨rfl⟩ := H
    go_wp2
    go_ret
    exact ⟨by first | rfl | (simp; done) | (simp [*]; done), by repeat (first | exact Drawn0.refl _ | apply Drawn0.step)⟩

end Go.Proofs.Ytdeogandkgiggaa.Q

namespace Go.Proofs.Ytdeogandkgiggaa.Q
open Go.RowKit Go.Proofs.YtdeogandkgiggaaW.PrintWords Go.Proofs.YtdeogandkgiggaaW.PrintLast Go.Proofs.YtdeogandkgiggaaW.PrintMore
attribute [local go_sem] max2_int min2_int max_two min_two max_three min_three max_four min_four   -- for this text's walks alone
set_option linter.unusedVariables false
set_option linter.unusedSimpArgs false

/-! ### spec_l4K_round: function 50 -/
mutual
def spec_l4K_round.j0 : Nat → Bool → Int → Int → Bool → Int → Int → Int → Option (Int)
 | 0, _, _, _, _, _, _, _ => none
 | k + 1, x1, x2, x3, x4, x11, x115000, x115001 => if (wrap64 (x11 - x3)) ≤ 0 then (if 0 ≤ (IntKind.u64.wrap (wrap64 (-(wrap64 (x11 - x3))))) then (spec_l4K_round.j1 k x1 (shl .u64 x2 (IntKind.u64.wrap (wrap64 (-(wrap64 (x11 - x3)))))) x11 x115000 x115001) else (none)) else (if (wrap64 (x11 - x3)) < 64 then (if 0 ≤ (IntKind.u64.wrap (wrap64 (x11 - x3))) then (if 0 ≤ (IntKind.u64.wrap (wrap64 ((wrap64 (x11 - x3)) - 1))) then (if (Go.bits .and .u64 x2 (IntKind.u64.wrap ((shl .u64 1 (IntKind.u64.wrap (wrap64 (x11 - x3)))) - 1))) > (shl .u64 1 (IntKind.u64.wrap (wrap64 ((wrap64 (x11 - x3)) - 1)))) then (spec_l4K_round.j1 k x1 (IntKind.u64.wrap ((shr .u64 x2 (IntKind.u64.wrap (wrap64 (x11 - x3)))) + 1)) x11 x115000 x115001) else (if (Go.bits .and .u64 x2 (IntKind.u64.wrap ((shl .u64 1 (IntKind.u64.wrap (wrap64 (x11 - x3)))) - 1))) = (shl .u64 1 (IntKind.u64.wrap (wrap64 ((wrap64 (x11 - x3)) - 1)))) then (if x4 = true then (spec_l4K_round.j1 k x1 (IntKind.u64.wrap ((shr .u64 x2 (IntKind.u64.wrap (wrap64 (x11 - x3)))) + 1)) x11 x115000 x115001) else (if (Go.bits .and .u64 (shr .u64 x2 (IntKind.u64.wrap (wrap64 (x11 - x3)))) 1) = 1 then (spec_l4K_round.j1 k x1 (IntKind.u64.wrap ((shr .u64 x2 (IntKind.u64.wrap (wrap64 (x11 - x3)))) + 1)) x11 x115000 x115001) else (spec_l4K_round.j1 k x1 (shr .u64 x2 (IntKind.u64.wrap (wrap64 (x11 - x3)))) x11 x115000 x115001))) else (spec_l4K_round.j1 k x1 (shr .u64 x2 (IntKind.u64.wrap (wrap64 (x11 - x3)))) x11 x115000 x115001))) else (none)) else (none)) else (if 0 > 1 then (spec_l4K_round.j1 k x1 (0 + 1) x11 x115000 x115001) else (if 0 = 1 then (spec_l4K_round.j1 k x1 (0 + 1) x11 x115000 x115001) else (spec_l4K_round.j1 k x1 0 x11 x115000 x115001))))
def spec_l4K_round.j1 : Nat → Bool → Int → Int → Int → Int → Option (Int)
 | 0, _, _, _, _, _ => none
 | k + 1, x1, x2, x11, x115000, x115001 => if 0 ≤ (IntKind.u64.wrap (x115001 + 1)) then (if x2 = (shl .u64 1 (IntKind.u64.wrap (x115001 + 1))) then (spec_l4K_round.j2 k x1 (x2 / 2) (wrap64 (x11 + 1)) x115000 x115001) else (spec_l4K_round.j2 k x1 x2 x11 x115000 x115001)) else (none)
def spec_l4K_round.j2 : Nat → Bool → Int → Int → Int → Int → Option (Int)
 | 0, _, _, _, _, _ => none
 | k + 1, x1, x2, x11, x115000, x115001 => if 0 ≤ x115001 then (if x2 < (shl .u64 1 x115001) then ((spec_l4K_sign.f x115000 x115001 x1).bind fun t119 => (some (Go.bits .or .u32 t119 ((x2) % 4294967296)))) else ((spec_l4K_least.f x115000 x115001).bind fun t120 => (if 0 ≤ x115000 then (if (wrap64 ((wrap64 (x11 - t120)) + 1)) ≥ (wrap64 ((shl .i64 1 x115000) - 1)) then ((spec_l4K_inf.f x115000 x115001 x1).bind fun t121 => (some t121)) else ((spec_l4K_sign.f x115000 x115001 x1).bind fun t122 => (some (Go.bits .or .u32 (Go.bits .or .u32 t122 (shl .u32 ((wrap64 ((wrap64 (x11 - t120)) + 1)) % 4294967296) x115001)) (Go.bits .and .u32 ((x2) % 4294967296) (((shl .u32 1 x115001) - 1) % 4294967296)))))) else (none)))) else (none)
end
def spec_l4K_round.f (k : Nat) (a0_0 : Int) (a0_1 : Int) (a1 : Bool) (a2 : Int) (a3 : Int) (a4 : Bool) : Option (Int) := if a2 = 0 then ((spec_l4K_sign.f a0_0 a0_1 a1).bind fun t115 => (some t115)) else ((spec_l4Len.f k a2).bind fun t116 => ((spec_l4K_least.f a0_0 a0_1).bind fun t117 => (if (wrap64 ((wrap64 ((wrap64 (a3 + t116)) - (wrap64 (a0_1)))) - 1)) < t117 then ((spec_l4K_least.f a0_0 a0_1).bind fun t118 => (spec_l4K_round.j0 k a1 a2 a3 a4 t118 a0_0 a0_1)) else (spec_l4K_round.j0 k a1 a2 a3 a4 (wrap64 ((wrap64 ((wrap64 (a3 + t116)) - (wrap64 (a0_1)))) - 1)) a0_0 a0_1))))
theorem spec_l4K_round.mono_l : ∀ k, (∀ y0 y1 y2 y3 y4 y5 y6, LeO (spec_l4K_round.j0 k y0 y1 y2 y3 y4 y5 y6) (spec_l4K_round.j0 (k + 1) y0 y1 y2 y3 y4 y5 y6)) ∧ (∀ y0 y1 y2 y3 y4, LeO (spec_l4K_round.j1 k y0 y1 y2 y3 y4) (spec_l4K_round.j1 (k + 1) y0 y1 y2 y3 y4)) ∧ (∀ y0 y1 y2 y3 y4, LeO (spec_l4K_round.j2 k y0 y1 y2 y3 y4) (spec_l4K_round.j2 (k + 1) y0 y1 y2 y3 y4))
 | 0 => ⟨fun _ _ _ _ _ _ _ r h => by simp [spec_l4K_round.j0] at h, fun _ _ _ _ _ r h => by simp [spec_l4K_round.j1] at h, fun _ _ _ _ _ r h => by simp [spec_l4K_round.j2] at h⟩
 | k + 1 => by
  obtain ⟨ih0, ih1, ih2⟩ := spec_l4K_round.mono_l k
  refine ⟨?_, ?_, ?_⟩
  ·
   intro y0 y1 y2 y3 y4 y5 y6
   unfold spec_l4K_round.j0
   repeat' first
   | (with_reducible exact ih0 _ _ _ _ _ _ _)
   | (with_reducible exact ih1 _ _ _ _ _)
   | (with_reducible exact ih2 _ _ _ _ _)
   | (with_reducible exact spec_l4Len.mono _ _)
   | (with_reducible exact LeO.refl _)
   | (with_reducible exact LeO.none _)
   | (with_reducible refine LeO.ite ?_ ?_)
   | (with_reducible refine LeO.bind ?_ (fun _ => ?_))
   | exact ih0 _ _ _ _ _ _ _
   | exact ih1 _ _ _ _ _
   | exact ih2 _ _ _ _ _
   | exact spec_l4Len.mono _ _
   | exact LeO.none _
   | refine LeO.ite ?_ ?_
   | refine LeO.bind ?_ (fun _ => ?_)
  ·
   intro y0 y1 y2 y3 y4
   unfold spec_l4K_round.j1
   repeat' first
   | (with_reducible exact ih0 _ _ _ _ _ _ _)
   | (with_reducible exact ih1 _ _ _ _ _)
   | (with_reducible exact ih2 _ _ _ _ _)
   | (with_reducible exact spec_l4Len.mono _ _)
   | (with_reducible exact LeO.refl _)
   | (with_reducible exact LeO.none _)
   | (with_reducible refine LeO.ite ?_ ?_)
   | (with_reducible refine LeO.bind ?_ (fun _ => ?_))
   | exact ih0 _ _ _ _ _ _ _
   | exact ih1 _ _ _ _ _
   | exact ih2 _ _ _ _ _
   | exact spec_l4Len.mono _ _
   | exact LeO.none _
   | refine LeO.ite ?_ ?_
   | refine LeO.bind ?_ (fun _ => ?_)
  ·
   intro y0 y1 y2 y3 y4
   unfold spec_l4K_round.j2
   repeat' first
   | (with_reducible exact ih0 _ _ _ _ _ _ _)
   | (with_reducible exact ih1 _ _ _ _ _)
   | (with_reducible exact ih2 _ _ _ _ _)
   | (with_reducible exact spec_l4Len.mono _ _)
   | (with_reducible exact LeO.refl _)
   | (with_reducible exact LeO.none _)
   | (with_reducible refine LeO.ite ?_ ?_)
   | (with_reducible refine LeO.bind ?_ (fun _ => ?_))
   | exact ih0 _ _ _ _ _ _ _
   | exact ih1 _ _ _ _ _
   | exact ih2 _ _ _ _ _
   | exact spec_l4Len.mono _ _
   | exact LeO.none _
   | refine LeO.ite ?_ ?_
   | refine LeO.bind ?_ (fun _ => ?_)
theorem spec_l4K_round.mono : ∀ a0 a1 a2 a3 a4 a5 k, LeO (spec_l4K_round.f k a0 a1 a2 a3 a4 a5) (spec_l4K_round.f (k + 1) a0 a1 a2 a3 a4 a5) := by
 intro a0 a1 a2 a3 a4 a5 k
 obtain ⟨ih0, ih1, ih2⟩ := spec_l4K_round.mono_l k
 unfold spec_l4K_round.f
 repeat' first
   | (with_reducible exact ih0 _ _ _ _ _ _ _)
   | (with_reducible exact ih1 _ _ _ _ _)
   | (with_reducible exact ih2 _ _ _ _ _)
   | (with_reducible exact spec_l4Len.mono _ _)
   | (with_reducible exact LeO.refl _)
   | (with_reducible exact LeO.none _)
   | (with_reducible refine LeO.ite ?_ ?_)
   | (with_reducible refine LeO.bind ?_ (fun _ => ?_))
   | exact ih0 _ _ _ _ _ _ _
   | exact ih1 _ _ _ _ _
   | exact ih2 _ _ _ _ _
   | exact spec_l4Len.mono _ _
   | exact LeO.none _
   | refine LeO.ite ?_ ?_
   | refine LeO.bind ?_ (fun _ => ?_)
def spec_l4K_round.T3 : Bool × List (List Nat × List Nat) := (true, [([], []), ([], []), ([1], [1]), ([0, 2], [0, 2]), ([], []), ([4], [4]), ([5], [5]), ([3, 6], [3, 6]), ([7], [7]), ([8, 2, 0, 1, 2, 3, 4, 5, 6, 7, 8], [8])])
def spec_l4K_round.B3 : List Nat := [0, 0, 2, 7, 0, 16, 48, 127, 255, 511]
theorem spec_l4K_round.tab3 : rtab .any (opsOf Try.f50 3) = spec_l4K_round.T3 := by kernel_rfl
theorem spec_l4K_round.bits3 : waitsOk spec_l4K_round.T3.2 spec_l4K_round.B3 = true := by kernel_rfl
def spec_l4K_round.T29 : Bool × List (List Nat × List Nat) := (true, [([], []), ([], []), ([0, 1], [0, 1]), ([], []), ([3], [3]), ([], []), ([5], [5]), ([4, 6], [4, 6]), ([2, 7], [2, 7]), ([], []), ([9], [9]), ([], []), ([11], [11]), ([12], [12]), ([13], [13]), ([10, 14], [10, 14]), ([8, 15], [8, 15]), ([16, 2, 0, 1, 2, 3, 4, 5, 6, 7, 8, 9, 10, 11, 12, 13, 14, 15, 16], [16])])
def spec_l4K_round.B29 : List Nat := [0, 0, 3, 0, 8, 0, 32, 120, 255, 0, 512, 0, 2048, 6144, 14336, 32256, 65535, 131071]
theorem spec_l4K_round.tab29 : rtab .any (opsOf Try.f50 29) = spec_l4K_round.T29 := by kernel_rfl
theorem spec_l4K_round.bits29 : waitsOk spec_l4K_round.T29.2 spec_l4K_round.B29 = true := by kernel_rfl
set_option maxHeartbeats 8000000 in
set_option maxRecDepth 100000 in
theorem spec_l4K_round.calls (k : Nat) (a0_0 : Int) (a0_1 : Int) (a1 : Bool) (a2 : Int) (a3 : Int) (a4 : Bool) (r : Int) (w : World) (h : spec_l4K_round.f k a0_0 a0_1 a1 a2 a3 a4 = some r) :
  Calls Try.prog 50 #[.agg #[.int .u64 a0_0, .int .u64 a0_1], .bool a1, .int .u64 a2, .int .i64 a3, .bool a4] w fun e w' => e = .returned (.int .u32 r) ∧ Below w.heap.size w w' := by
 have hu52 := Try.underlying52
 have HB := Aside0.mk (Below.refl w.heap.size w)
 have H : (if a2 = 0 then ((spec_l4K_sign.f a0_0 a0_1 a1).bind fun t115 => (some t115)) else ((spec_l4Len.f k a2).bind fun t116 => ((spec_l4K_least.f a0_0 a0_1).bind fun t117 => (if (wrap64 ((wrap64 ((wrap64 (a3 + t116)) - (wrap64 (a0_1)))) - 1)) < t117 then ((spec_l4K_least.f a0_0 a0_1).bind fun t118 => (spec_l4K_round.j0 k a1 a2 a3 a4 t118 a0_0 a0_1)) else (spec_l4K_round.j0 k a1 a2 a3 a4 (wrap64 ((wrap64 ((wrap64 (a3 + t116)) - (wrap64 (a0_1)))) - 1)) a0_0 a0_1))))) = some r := h
 clear h
 by_cases c6 : a2 = 0
 ·
  rw [if_pos c6] at H
  have c6b0 : (a2 == 0) = true := beq_iff_eq.mpr c6
  have c6b1 : (a2 != 0) = false := bne_eq_false_iff_eq.mpr c6
  clear c6
  replace H := Option.bind_eq_some_iff.mp H
  obtain ⟨t115, A70, H⟩ := H
  replace H : (some t115) = some r := H
  have A7 := Aside0.mk A70
  clear A70
  obtain rfl := Option.some.inj H
  simp only [Option.some.injEq, Prod.mk.injEq] at H
  obtain ⟨rfl⟩ := H
  go_enter Try.func50, Try.ntmps50
  go_wp2_with (first | ((with_reducible refine gate_dst (N := 5) rfl ?_); refine box_event ?hg (N := 5) ?hd (cs := #[.int .u64 a0_0, .int .u64 a0_1]) (t := 52) ?hr ?_; (case hd => rfl); (case hg => rfl); (case hr => first | (go_simp; done) | (go_simp; rfl)); intro gb114 hg w8 hbox hb; have n0_ := Aside0.mk (below_step (bw HB.out) hb); have n1_ := Aside0.mk (hbox); have n2_ := Aside0.mk ((by rw [hg]; exact (below_size (bw HB.out)) : w.heap.size ≤ gb114)); have n3_ := Aside0.mk ((by rw [hg]; exact (below_size (bw HB.out)) : w.heap.size ≤ gb114)); clear HB; have HB := n0_; have BK114 := n1_; have GW114 := n2_; have GE114 := n3_; clear n0_ n1_ n2_ n3_; clear hb hbox hg; have hcz9_0 : w8.cell? ⟨gb114, 0, none⟩ = some (.int .u64 a0_0) := (blk_cell BK114.out 0).trans rfl; have hcz9_1 : w8.cell? ⟨gb114, 1, none⟩ = some (.int .u64 a0_1) := (blk_cell BK114.out 1).trans rfl; have hfz9_0 := blk_frozen BK114.out 0; have hfz9_1 := blk_frozen BK114.out 1) | ((with_reducible refine gate_callee (f := 83) rfl ?_); refine goesL_ (some 20) rfl rfl Try.func83 (by kernel_rfl) rfl #[.agg #[.int .u64 a0_0, .int .u64 a0_1], .bool a1] rfl ar ?_; (with_reducible refine (spec_l4K_sign.calls a0_0 a0_1 a1 t115 _ A7.out).mono ?_); rintro e w10 ⟨rfl, hb⟩; refine ⟨_, rfl, ?_⟩; have n0_ := Aside0.mk (blk_below (g := gb114) (o := .cells #[.int .u64 a0_0, .int .u64 a0_1] 52 (0, 0)) (bk BK114.out) hb); have n1_ := Aside0.mk (below_step (bw HB.out) hb); clear BK114; clear HB; have BK114 := n0_; have HB := n1_; clear n0_ n1_; (try clear hb)))
  go_ret
  exact ⟨by first | rfl | (simp [errW_none, errW_some] <;> rfl) | (simp [*, errW_none, errW_some] <;> rfl), bw HB.out⟩
 ·
  rw [if_neg c6] at H
  have c6b0 : (a2 == 0) = false := beq_eq_false_iff_ne.mpr c6
  have c6b1 : (a2 != 0) = true := bne_iff_ne.mpr c6
  replace H := Option.bind_eq_some_iff.mp H
  obtain ⟨t116, A110, H⟩ := H
  replace H : ((spec_l4K_least.f a0_0 a0_1).bind fun t117 => (if (wrap64 ((wrap64 ((wrap64 (a3 + t116)) - (wrap64 (a0_1)))) - 1)) < t117 then ((spec_l4K_least.f a0_0 a0_1).bind fun t118 => (spec_l4K_round.j0 k a1 a2 a3 a4 t118 a0_0 a0_1)) else (spec_l4K_round.j0 k a1 a2 a3 a4 (wrap64 ((wrap64 ((wrap64 (a3 + t116)) - (wrap64 (a0_1)))) - 1)) a0_0 a0_1))) = some r := H
  have A11 := Aside0.mk A110
  clear A110
  replace H := Option.bind_eq_some_iff.mp H
  obtain ⟨t117, A120, H⟩ := H
  replace H : (if (wrap64 ((wrap64 ((wrap64 (a3 + t116)) - (wrap64 (a0_1)))) - 1)) < t117 then ((spec_l4K_least.f a0_0 a0_1).bind fun t118 => (spec_l4K_round.j0 k a1 a2 a3 a4 t118 a0_0 a0_1)) else (spec_l4K_round.j0 k a1 a2 a3 a4 (wrap64 ((wrap64 ((wrap64 (a3 + t116)) - (wrap64 (a0_1)))) - 1)) a0_0 a0_1)) = some r := H
  have A12 := Aside0.mk A120
  clear A120
  have HC13 := Aside0.mk H
  clear H
  go_enter Try.func50, Try.ntmps50
  try go_wp2_with (first | ((with_reducible refine gate_dst (N := 5) rfl ?_); refine box_event ?hg (N := 5) ?hd (cs := #[.int .u64 a0_0, .int .u64 a0_1]) (t := 52) ?hr ?_; (case hd => rfl); (case hg => rfl); (case hr => first | (go_simp; done) | (go_simp; rfl)); intro gb114 hg w14 hbox hb; have n0_ := Aside0.mk (below_step (bw HB.out) hb); have n1_ := Aside0.mk (hbox); have n2_ := Aside0.mk ((by rw [hg]; exact (below_size (bw HB.out)) : w.heap.size ≤ gb114)); have n3_ := Aside0.mk ((by rw [hg]; exact (below_size (bw HB.out)) : w.heap.size ≤ gb114)); clear HB; have HB := n0_; have BK114 := n1_; have GW114 := n2_; have GE114 := n3_; clear n0_ n1_ n2_ n3_; clear hb hbox hg))
  have n0_ := Aside0.mk (blk_drew BK114.out)
  have n1_ := Aside0.mk (below_drew1 HB.out)
  clear BK114
  clear HB
  have BK114 := n0_
  have HB := n1_
  clear n0_ n1_
  refine start_ (n := 10) (S := fun w' => w'.cell? ⟨gb114, 0, none⟩ = some (.int .u64 a0_0) ∧ w'.cell? ⟨gb114, 1, none⟩ = some (.int .u64 a0_1)) (ds := []) #[false, false, false, false, false, false, false, false, false, false] (by kernel_rfl) rfl rfl ⟨(blk_cell BK114.out 0).trans rfl, (blk_cell BK114.out 1).trans rfl⟩ (fun hHeld => ?_); refine with_tabW spec_l4K_round.tab3 spec_l4K_round.bits3 (fun HT_ HW_ => ?_)
  generalize w14.drew = w15 at BK114 HB hHeld ⊢
  refine pure_ (i := 0) (N := some 21) (v := ?_) (a' := ?_) #[true, false, false, false, false, false, false, false, false, false] rfl rfl (any_of HT_.out (by kernel_rfl)) (fun _ _ _ h => h) (Or.inl ⟨by rfl, ?_⟩) ?_ ?_
  rotate_left
  ·
   intro w'
   go_simp
   with_reducible rfl
  rotate_left
  ·
   simp only [Act.put, List.setIfInBounds_toArray, List.set_cons_zero, List.set_cons_succ, i64_w, i32_w]
   rfl
  refine pure_ (i := 1) (N := some 22) (v := ?_) (a' := ?_) #[true, true, false, false, false, false, false, false, false, false] rfl rfl (any_of HT_.out (by kernel_rfl)) (fun _ _ _ h => h) (Or.inl ⟨by rfl, ?_⟩) ?_ ?_
  rotate_left
  ·
   intro w'
   go_simp
   with_reducible rfl
  rotate_left
  ·
   simp only [Act.put, List.setIfInBounds_toArray, List.set_cons_zero, List.set_cons_succ, i64_w, i32_w]
   rfl
  refine pure_ (i := 4) (N := some 25) (v := ?_) (a' := ?_) #[true, true, false, false, true, false, false, false, false, false] rfl rfl (any_of HT_.out (by kernel_rfl)) (fun _ _ _ h => h) (Or.inl ⟨by rfl, ?_⟩) ?_ ?_
  rotate_left
  ·
   intro w'
   go_simp
   with_reducible rfl
  rotate_left
  ·
   simp only [Act.put, List.setIfInBounds_toArray, List.set_cons_zero, List.set_cons_succ, i64_w, i32_w]
   rfl
  refine take_ (i := 5) (N := some 26) (v := ?_) (a' := ?_) #[true, true, false, false, true, true, false, false, false, false] rfl rfl (take_ofW HT_.out HW_.out (by kernel_rfl)) (fun _ _ _ h => h) (Or.inl ⟨by rfl, ?_⟩) hHeld ?_ ?_
  rotate_left
  ·
   rintro w' ⟨s0, s1⟩
   go_simp
   with_reducible rfl
  rotate_left
  ·
   simp only [Act.put, List.setIfInBounds_toArray, List.set_cons_zero, List.set_cons_succ, i64_w, i32_w]
   rfl
  refine pure_ (i := 6) (N := some 27) (v := ?_) (a' := ?_) #[true, true, false, false, true, true, true, false, false, false] rfl rfl (any_of HT_.out (by kernel_rfl)) (fun _ _ _ h => h) (Or.inl ⟨by rfl, ?_⟩) ?_ ?_
  rotate_left
  ·
   intro w'
   go_simp
   with_reducible rfl
  rotate_left
  ·
   simp only [Act.put, List.setIfInBounds_toArray, List.set_cons_zero, List.set_cons_succ, i64_w, i32_w]
   rfl
  refine one_ (i := 2) (N := some 23) #[true, true, true, false, true, true, true, false, false, false] rfl rfl (one_of HT_.out (by kernel_rfl)) (by decide) (fun K hK => ?_)
  refine goes_ Try.func84 (by kernel_rfl) rfl #[.int .u64 a2] (by rfl) rfl rfl ar ?_
  with_reducible refine (spec_l4Len.calls k a2 t116 _ A11.out).mono ?_
  rintro e w' ⟨rfl, ⟨nd, rfl⟩⟩
  refine ⟨_, rfl, ?_⟩
  refine hK.out _ _ ⟨(blk_cell BK114.out 0).trans rfl, (blk_cell BK114.out 1).trans rfl⟩ (fun hHeld => ?_)
  clear hK K
  refine norm_ (a' := ?_) ?_ ?_
  rotate_left
  ·
   show Act.put _ (some 23) _ = _
   simp only [Act.put, List.setIfInBounds_toArray, List.set_cons_zero, List.set_cons_succ, i64_w, i32_w]
   rfl
  refine pure_ (i := 3) (N := some 24) (v := ?_) (a' := ?_) #[true, true, true, true, true, true, true, false, false, false] rfl rfl (any_of HT_.out (by kernel_rfl)) (fun _ _ _ h => h) (Or.inl ⟨by rfl, ?_⟩) ?_ ?_
  rotate_left
  ·
   intro w'
   go_simp
   with_reducible rfl
  rotate_left
  ·
   simp only [Act.put, List.setIfInBounds_toArray, List.set_cons_zero, List.set_cons_succ, i64_w, i32_w]
   rfl
  refine pure_ (i := 7) (N := some 28) (v := ?_) (a' := ?_) #[true, true, true, true, true, true, true, true, false, false] rfl rfl (any_of HT_.out (by kernel_rfl)) (fun _ _ _ h => h) (Or.inl ⟨by rfl, ?_⟩) ?_ ?_
  rotate_left
  ·
   intro w'
   go_simp
   with_reducible rfl
  rotate_left
  ·
   simp only [Act.put, List.setIfInBounds_toArray, List.set_cons_zero, List.set_cons_succ, i64_w, i32_w]
   rfl
  refine pure_ (i := 8) (N := some 29) (v := ?_) (a' := ?_) #[true, true, true, true, true, true, true, true, true, false] rfl rfl (any_of HT_.out (by kernel_rfl)) (fun _ _ _ h => h) (Or.inl ⟨by rfl, ?_⟩) ?_ ?_
  rotate_left
  ·
   intro w'
   go_simp
   with_reducible rfl
  rotate_left
  ·
   simp only [Act.put, List.setIfInBounds_toArray, List.set_cons_zero, List.set_cons_succ, i64_w, i32_w]
   rfl
  refine pure_ (i := 9) (N := some 11) (v := ?_) (a' := ?_) #[true, true, true, true, true, true, true, true, true, true] rfl rfl (any_of HT_.out (by kernel_rfl)) (fun _ _ _ h => h) (Or.inl ⟨by rfl, ?_⟩) ?_ ?_
  rotate_left
  ·
   intro w'
   go_simp
   with_reducible rfl
  rotate_left
  ·
   simp only [Act.put, List.setIfInBounds_toArray, List.set_cons_zero, List.set_cons_succ, i64_w, i32_w]
   rfl
  refine done_ (done_of HT_.out (by kernel_rfl)) ?_
  have hcz16_0 : w15.cell? ⟨gb114, 0, none⟩ = some (.int .u64 a0_0) := (blk_cell BK114.out 0).trans rfl
  have hcz16_1 : w15.cell? ⟨gb114, 1, none⟩ = some (.int .u64 a0_1) := (blk_cell BK114.out 1).trans rfl
  have hfz16_0 := blk_frozen BK114.out 0
  have hfz16_1 := blk_frozen BK114.out 1
  go_upto_if 33 with (first | ((with_reducible refine gate_callee (f := 82) rfl ?_); refine goesL_ (some 32) rfl rfl Try.func82 (by kernel_rfl) rfl #[.agg #[.int .u64 a0_0, .int .u64 a0_1]] rfl ar ?_; (with_reducible refine (spec_l4K_least.calls a0_0 a0_1 t117 _ A12.out).mono ?_); rintro e w17 ⟨rfl, hb⟩; refine ⟨_, rfl, ?_⟩; have n0_ := Aside0.mk (blk_below (g := gb114) (o := .cells #[.int .u64 a0_0, .int .u64 a0_1] 52 (0, 0)) (bk BK114.out) hb); have n1_ := Aside0.mk (below_step (bw HB.out) hb); clear BK114; clear HB; have BK114 := n0_; have HB := n1_; clear n0_ n1_; (try clear hb)))
  (try simp only [Act.put, List.setIfInBounds_toArray, List.set_cons_zero, List.set_cons_succ])
  go_cut [11] (fun v11 wc => ∃ (kq : Nat) (x11_12 : Int), v11 = .int .i64 x11_12 ∧ Aside0 (spec_l4K_round.j0 kq a1 a2 a3 a4 x11_12 a0_0 a0_1 = some r) ∧ Aside0 (kq ≤ k) ∧ Aside0 (wc.heap[gb114]? = some (.cells #[.int .u64 a0_0, .int .u64 a0_1] 52 (0, 0))) ∧ Aside0 (Below w.heap.size w wc))
  case first =>
   have H := HC13.out
   clear HC13
   by_cases c18 : (wrap64 ((wrap64 ((wrap64 (a3 + t116)) - (wrap64 (a0_1)))) - 1)) < t117
   ·
    rw [if_pos c18] at H
    have c18b0 : decide ((wrap64 ((wrap64 ((wrap64 (a3 + t116)) - (wrap64 (a0_1)))) - 1)) < t117) = true := decide_eq_true c18
    clear c18
    (first | rw [c18b0] | (simp only [i64_w, i32_w]; rw [c18b0]) | skip)
    replace H := Option.bind_eq_some_iff.mp H
    obtain ⟨t118, A190, H⟩ := H
    replace H : (spec_l4K_round.j0 k a1 a2 a3 a4 t118 a0_0 a0_1) = some r := H
    have A19 := Aside0.mk A190
    clear A190
    have H' := Aside0.mk H
    clear H
    have hcz20_0 : w17.cell? ⟨gb114, 0, none⟩ = some (.int .u64 a0_0) := (blk_cell BK114.out 0).trans rfl
    have hcz20_1 : w17.cell? ⟨gb114, 1, none⟩ = some (.int .u64 a0_1) := (blk_cell BK114.out 1).trans rfl
    have hfz20_0 := blk_frozen BK114.out 0
    have hfz20_1 := blk_frozen BK114.out 1
    go_wp2_with (first | ((with_reducible refine gate_callee (f := 82) rfl ?_); refine goesL_ (some 35) rfl rfl Try.func82 (by kernel_rfl) rfl #[.agg #[.int .u64 a0_0, .int .u64 a0_1]] rfl ar ?_; (with_reducible refine (spec_l4K_least.calls a0_0 a0_1 t118 _ A19.out).mono ?_); rintro e w21 ⟨rfl, hb⟩; refine ⟨_, rfl, ?_⟩; have n0_ := Aside0.mk (blk_below (g := gb114) (o := .cells #[.int .u64 a0_0, .int .u64 a0_1] 52 (0, 0)) (bk BK114.out) hb); have n1_ := Aside0.mk (below_step (bw HB.out) hb); clear BK114; clear HB; have BK114 := n0_; have HB := n1_; clear n0_ n1_; (try clear hb)))
    go_meet
    case rel => exact ⟨_, (t118), (by first | rfl | (simp; done) | (simp [*]; done)), H', ⟨by first | omega | exact Nat.le_refl _⟩, ⟨bk BK114.out⟩, ⟨bw HB.out⟩⟩
   ·
    rw [if_neg c18] at H
    have c18b0 : decide ((wrap64 ((wrap64 ((wrap64 (a3 + t116)) - (wrap64 (a0_1)))) - 1)) < t117) = false := decide_eq_false c18
    clear c18
    (first | rw [c18b0] | (simp only [i64_w, i32_w]; rw [c18b0]) | skip)
    have H' := Aside0.mk H
    clear H
    go_wp2
    go_meet
    case rel => exact ⟨_, (wrap64 ((wrap64 ((wrap64 (a3 + t116)) - (wrap64 (a0_1)))) - 1)), (by first | rfl | (simp; done) | (simp [*]; done)), H', ⟨by first | omega | exact Nat.le_refl _⟩, ⟨bk BK114.out⟩, ⟨bw HB.out⟩⟩
  case rest =>
   clear HC13
   try clear c1
   try clear p2
   try clear c5
   try clear c6
   try clear c6b0
   try clear c6b1
   try clear p6
   try clear c8
   try clear c18
   try clear c18b0
   try clear hcz16_0 hcz16_1
   try clear hcz20_0 hcz20_1
   try clear hcz9_0 hcz9_1
   try clear hfz16_0 hfz16_1
   try clear hfz20_0 hfz20_1
   try clear hfz9_0 hfz9_1
   obtain ⟨kq, x11_12, rfl, HA, HJ12, BK114, HB⟩ := hcut
   cases kq with
   | zero => exact absurd HA.out (by simp [spec_l4K_round.j0])
   | succ kj12 =>
    have H := HA.out
    clear HA
    simp only [spec_l4K_round.j0] at H
    have HC22 := Aside0.mk H
    clear H
    go_upto_if 40 with (fail)
    go_cut [2] (fun v2 wc => ∃ (kq : Nat) (x2_21 : Int), v2 = .int .u64 x2_21 ∧ Aside0 (spec_l4K_round.j1 kq a1 x2_21 x11_12 a0_0 a0_1 = some r) ∧ Aside0 (kq ≤ kj12) ∧ Aside0 (wc.heap[gb114]? = some (.cells #[.int .u64 a0_0, .int .u64 a0_1] 52 (0, 0))) ∧ Aside0 (Below w.heap.size w wc))
    case first =>
     have H := HC22.out
     clear HC22
     by_cases c23 : (wrap64 (x11_12 - a3)) ≤ 0
     ·
      rw [if_pos c23] at H
      have c23b0 : decide ((wrap64 (x11_12 - a3)) ≤ 0) = true := decide_eq_true c23
      clear c23
      (first | rw [c23b0] | (simp only [i64_w, i32_w]; rw [c23b0]) | skip)
      obtain ⟨ji24, hji24⟩ : ∃ j_ : Int, (IntKind.u64.wrap (wrap64 (-(wrap64 (x11_12 - a3))))) = j_ := ⟨_, rfl⟩
      replace H : (if 0 ≤ (ji24) then (spec_l4K_round.j1 kj12 a1 (shl .u64 a2 (ji24)) x11_12 a0_0 a0_1) else (none)) = some r := by first | (rw [hji24] at H; exact H) | (simp only [hji24] at H ⊢; exact H)
      by_cases c25 : 0 ≤ (ji24)
      ·
       rw [if_pos c25] at H
       have c25b0 := eq_true c25
       have c25b1 : decide (0 ≤ (ji24)) = true := decide_eq_true c25
       clear c25
       obtain ⟨ji26, hji26⟩ : ∃ j_ : Int, (shl .u64 a2 (ji24)) = j_ := ⟨_, rfl⟩
       replace H : (spec_l4K_round.j1 kj12 a1 ji26 x11_12 a0_0 a0_1) = some r := by first | (rw [hji26] at H; exact H) | (simp only [hji26] at H ⊢; exact H)
       have hji26_ : (IntKind.u64.wrap (a2 * 2 ^ min (ji24).toNat 64)) = ji26 := hji26
       have hji26z : (ji24) ≤ 64 → (IntKind.u64.wrap (a2 * 2 ^ (ji24).toNat)) = ji26 := shl_small hji26
       have H' := Aside0.mk H
       clear H
       go_wp2
       first | go_meet | ((simp only [← hji26]); go_meet) | ((simp only [← hji24]); go_meet) | ((simp only [← hji26, ← hji24]); go_meet)
       case rel => exact ⟨_, (ji26), (by first | rfl | (simp; done) | (simp only [← hji26] <;> (first | rfl | simp)) | (simp [*]; done)), H', ⟨by have := HJ12.out; first | omega | exact Nat.le_refl _⟩, ⟨bk BK114.out⟩, ⟨bw HB.out⟩⟩
      ·
       rw [if_neg c25] at H
       exact absurd H (by simp)
     ·
      rw [if_neg c23] at H
      have c23b0 : decide ((wrap64 (x11_12 - a3)) ≤ 0) = false := decide_eq_false c23
      clear c23
      (first | rw [c23b0] | (simp only [i64_w, i32_w]; rw [c23b0]) | skip)
      by_cases c27 : (wrap64 (x11_12 - a3)) < 64
      ·
       rw [if_pos c27] at H
       have c27b0 : decide ((wrap64 (x11_12 - a3)) < 64) = true := decide_eq_true c27
       clear c27
       obtain ⟨ji28, hji28⟩ : ∃ j_ : Int, (IntKind.u64.wrap (wrap64 (x11_12 - a3))) = j_ := ⟨_, rfl⟩
       replace H : (if 0 ≤ (ji28) then (if 0 ≤ (IntKind.u64.wrap (wrap64 ((wrap64 (x11_12 - a3)) - 1))) then (if (Go.bits .and .u64 a2 (IntKind.u64.wrap ((shl .u64 1 (ji28)) - 1))) > (shl .u64 1 (IntKind.u64.wrap (wrap64 ((wrap64 (x11_12 - a3)) - 1)))) then (spec_l4K_round.j1 kj12 a1 (IntKind.u64.wrap ((shr .u64 a2 (ji28)) + 1)) x11_12 a0_0 a0_1) else (if (Go.bits .and .u64 a2 (IntKind.u64.wrap ((shl .u64 1 (ji28)) - 1))) = (shl .u64 1 (IntKind.u64.wrap (wrap64 ((wrap64 (x11_12 - a3)) - 1)))) then (if a4 = true then (spec_l4K_round.j1 kj12 a1 (IntKind.u64.wrap ((shr .u64 a2 (ji28)) + 1)) x11_12 a0_0 a0_1) else (if (Go.bits .and .u64 (shr .u64 a2 (ji28)) 1) = 1 then (spec_l4K_round.j1 kj12 a1 (IntKind.u64.wrap ((shr .u64 a2 (ji28)) + 1)) x11_12 a0_0 a0_1) else (spec_l4K_round.j1 kj12 a1 (shr .u64 a2 (ji28)) x11_12 a0_0 a0_1))) else (spec_l4K_round.j1 kj12 a1 (shr .u64 a2 (ji28)) x11_12 a0_0 a0_1))) else (none)) else (none)) = some r := by first | (rw [hji28] at H; exact H) | (simp only [hji28] at H ⊢; exact H)
       by_cases c29 : 0 ≤ (ji28)
       ·
        rw [if_pos c29] at H
        have c29b0 := eq_true c29
        have c29b1 : decide (0 ≤ (ji28)) = true := decide_eq_true c29
        clear c29
        obtain ⟨ji30, hji30⟩ : ∃ j_ : Int, (shl .u64 1 (ji28)) = j_ := ⟨_, rfl⟩
        replace H : (if 0 ≤ (IntKind.u64.wrap (wrap64 ((wrap64 (x11_12 - a3)) - 1))) then (if (Go.bits .and .u64 a2 (IntKind.u64.wrap ((ji30) - 1))) > (shl .u64 1 (IntKind.u64.wrap (wrap64 ((wrap64 (x11_12 - a3)) - 1)))) then (spec_l4K_round.j1 kj12 a1 (IntKind.u64.wrap ((shr .u64 a2 (ji28)) + 1)) x11_12 a0_0 a0_1) else (if (Go.bits .and .u64 a2 (IntKind.u64.wrap ((ji30) - 1))) = (shl .u64 1 (IntKind.u64.wrap (wrap64 ((wrap64 (x11_12 - a3)) - 1)))) then (if a4 = true then (spec_l4K_round.j1 kj12 a1 (IntKind.u64.wrap ((shr .u64 a2 (ji28)) + 1)) x11_12 a0_0 a0_1) else (if (Go.bits .and .u64 (shr .u64 a2 (ji28)) 1) = 1 then (spec_l4K_round.j1 kj12 a1 (IntKind.u64.wrap ((shr .u64 a2 (ji28)) + 1)) x11_12 a0_0 a0_1) else (spec_l4K_round.j1 kj12 a1 (shr .u64 a2 (ji28)) x11_12 a0_0 a0_1))) else (spec_l4K_round.j1 kj12 a1 (shr .u64 a2 (ji28)) x11_12 a0_0 a0_1))) else (none)) = some r := by first | (rw [hji30] at H; exact H) | (simp only [hji30] at H ⊢; exact H)
        have hji30_ : (IntKind.u64.wrap (1 * 2 ^ min (ji28).toNat 64)) = ji30 := hji30
        have hji30z : (ji28) ≤ 64 → (IntKind.u64.wrap (1 * 2 ^ (ji28).toNat)) = ji30 := shl_small hji30
        have hji30u : (IntKind.u64.wrap (2 ^ min (ji28).toNat 64)) = ji30 := by have h_ := hji30_; rw [Int.one_mul] at h_; exact h_
        have hji30v : (ji28) ≤ 64 → (IntKind.u64.wrap (2 ^ (ji28).toNat)) = ji30 := fun hle_ => by have h_ := hji30z hle_; rw [Int.one_mul] at h_; exact h_
        obtain ⟨ji31, hji31⟩ : ∃ j_ : Int, (IntKind.u64.wrap (wrap64 ((wrap64 (x11_12 - a3)) - 1))) = j_ := ⟨_, rfl⟩
        replace H : (if 0 ≤ (ji31) then (if (Go.bits .and .u64 a2 (IntKind.u64.wrap ((ji30) - 1))) > (shl .u64 1 (ji31)) then (spec_l4K_round.j1 kj12 a1 (IntKind.u64.wrap ((shr .u64 a2 (ji28)) + 1)) x11_12 a0_0 a0_1) else (if (Go.bits .and .u64 a2 (IntKind.u64.wrap ((ji30) - 1))) = (shl .u64 1 (ji31)) then (if a4 = true then (spec_l4K_round.j1 kj12 a1 (IntKind.u64.wrap ((shr .u64 a2 (ji28)) + 1)) x11_12 a0_0 a0_1) else (if (Go.bits .and .u64 (shr .u64 a2 (ji28)) 1) = 1 then (spec_l4K_round.j1 kj12 a1 (IntKind.u64.wrap ((shr .u64 a2 (ji28)) + 1)) x11_12 a0_0 a0_1) else (spec_l4K_round.j1 kj12 a1 (shr .u64 a2 (ji28)) x11_12 a0_0 a0_1))) else (spec_l4K_round.j1 kj12 a1 (shr .u64 a2 (ji28)) x11_12 a0_0 a0_1))) else (none)) = some r := by first | (rw [hji31] at H; exact H) | (simp only [hji31] at H ⊢; exact H)
        by_cases c32 : 0 ≤ (ji31)
        ·
         rw [if_pos c32] at H
         have c32b0 := eq_true c32
         have c32b1 : decide (0 ≤ (ji31)) = true := decide_eq_true c32
         clear c32
         obtain ⟨ji33, hji33⟩ : ∃ j_ : Int, (shl .u64 1 (ji31)) = j_ := ⟨_, rfl⟩
         replace H : (if (Go.bits .and .u64 a2 (IntKind.u64.wrap ((ji30) - 1))) > (ji33) then (spec_l4K_round.j1 kj12 a1 (IntKind.u64.wrap ((shr .u64 a2 (ji28)) + 1)) x11_12 a0_0 a0_1) else (if (Go.bits .and .u64 a2 (IntKind.u64.wrap ((ji30) - 1))) = (ji33) then (if a4 = true then (spec_l4K_round.j1 kj12 a1 (IntKind.u64.wrap ((shr .u64 a2 (ji28)) + 1)) x11_12 a0_0 a0_1) else (if (Go.bits .and .u64 (shr .u64 a2 (ji28)) 1) = 1 then (spec_l4K_round.j1 kj12 a1 (IntKind.u64.wrap ((shr .u64 a2 (ji28)) + 1)) x11_12 a0_0 a0_1) else (spec_l4K_round.j1 kj12 a1 (shr .u64 a2 (ji28)) x11_12 a0_0 a0_1))) else (spec_l4K_round.j1 kj12 a1 (shr .u64 a2 (ji28)) x11_12 a0_0 a0_1))) = some r := by first | (rw [hji33] at H; exact H) | (simp only [hji33] at H ⊢; exact H)
         have hji33_ : (IntKind.u64.wrap (1 * 2 ^ min (ji31).toNat 64)) = ji33 := hji33
         have hji33z : (ji31) ≤ 64 → (IntKind.u64.wrap (1 * 2 ^ (ji31).toNat)) = ji33 := shl_small hji33
         have hji33u : (IntKind.u64.wrap (2 ^ min (ji31).toNat 64)) = ji33 := by have h_ := hji33_; rw [Int.one_mul] at h_; exact h_
         have hji33v : (ji31) ≤ 64 → (IntKind.u64.wrap (2 ^ (ji31).toNat)) = ji33 := fun hle_ => by have h_ := hji33z hle_; rw [Int.one_mul] at h_; exact h_
         have c34b0 := eq_true (of_decide_eq_true (by first | (with_reducible assumption) | assumption) : 0 ≤ (ji28))
         obtain ⟨ji35, hji35⟩ : ∃ j_ : Int, (shr .u64 a2 (ji28)) = j_ := ⟨_, rfl⟩
         replace H : (if (Go.bits .and .u64 a2 (IntKind.u64.wrap ((ji30) - 1))) > (ji33) then (spec_l4K_round.j1 kj12 a1 (IntKind.u64.wrap ((ji35) + 1)) x11_12 a0_0 a0_1) else (if (Go.bits .and .u64 a2 (IntKind.u64.wrap ((ji30) - 1))) = (ji33) then (if a4 = true then (spec_l4K_round.j1 kj12 a1 (IntKind.u64.wrap ((ji35) + 1)) x11_12 a0_0 a0_1) else (if (Go.bits .and .u64 (ji35) 1) = 1 then (spec_l4K_round.j1 kj12 a1 (IntKind.u64.wrap ((ji35) + 1)) x11_12 a0_0 a0_1) else (spec_l4K_round.j1 kj12 a1 ji35 x11_12 a0_0 a0_1))) else (spec_l4K_round.j1 kj12 a1 ji35 x11_12 a0_0 a0_1))) = some r := by first | (rw [hji35] at H; exact H) | (simp only [hji35] at H ⊢; exact H)
         have hji35_ : (a2 / 2 ^ min (ji28).toNat 64) = ji35 := hji35
         have hji35z : (ji28) ≤ 64 → (a2 / 2 ^ (ji28).toNat) = ji35 := shr_small hji35
         by_cases c36 : (Go.bits .and .u64 a2 (IntKind.u64.wrap ((ji30) - 1))) > (ji33)
         ·
          rw [if_pos c36] at H
          have c36b0 : decide ((ji33) < (Go.bits .and .u64 a2 (IntKind.u64.wrap ((ji30) - 1)))) = true := decide_eq_true c36
          clear c36
          have H' := Aside0.mk H
          clear H
          go_wp2
          first | go_meet | ((simp only [← hji35]); go_meet) | ((simp only [← hji33]); go_meet) | ((simp only [← hji31]); go_meet) | ((simp only [← hji30]); go_meet) | ((simp only [← hji28]); go_meet) | ((simp only [← hji35, ← hji33, ← hji31, ← hji30, ← hji28]); go_meet)
          case rel => exact ⟨_, (IntKind.u64.wrap ((ji35) + 1)), (by first | rfl | (simp; done) | (simp only [← hji35] <;> (first | rfl | simp)) | (simp [*]; done)), H', ⟨by have := HJ12.out; first | omega | exact Nat.le_refl _⟩, ⟨bk BK114.out⟩, ⟨bw HB.out⟩⟩
         ·
          rw [if_neg c36] at H
          have c36b0 : decide ((ji33) < (Go.bits .and .u64 a2 (IntKind.u64.wrap ((ji30) - 1)))) = false := decide_eq_false c36
          clear c36
          by_cases c37 : (Go.bits .and .u64 a2 (IntKind.u64.wrap ((ji30) - 1))) = (ji33)
          ·
           rw [if_pos c37] at H
           have c37b0 : ((Go.bits .and .u64 a2 (IntKind.u64.wrap ((ji30) - 1))) == (ji33)) = true := beq_iff_eq.mpr c37
           have c37b1 : ((Go.bits .and .u64 a2 (IntKind.u64.wrap ((ji30) - 1))) != (ji33)) = false := bne_eq_false_iff_eq.mpr c37
           clear c37
           by_cases c38 : a4 = true
           ·
            subst c38
            have H1 : (spec_l4K_round.j1 kj12 a1 (IntKind.u64.wrap ((ji35) + 1)) x11_12 a0_0 a0_1) = some r := by rw [if_pos rfl] at H; exact H
            clear H
            have H := H1
            clear H1
            have H' := Aside0.mk H
            clear H
            go_wp2
            first | go_meet | ((simp only [← hji35]); go_meet) | ((simp only [← hji33]); go_meet) | ((simp only [← hji31]); go_meet) | ((simp only [← hji30]); go_meet) | ((simp only [← hji28]); go_meet) | ((simp only [← hji35, ← hji33, ← hji31, ← hji30, ← hji28]); go_meet)
            case rel => exact ⟨_, (IntKind.u64.wrap ((ji35) + 1)), (by first | rfl | (simp; done) | (simp only [← hji35] <;> (first | rfl | simp)) | (simp [*]; done)), H', ⟨by have := HJ12.out; first | omega | exact Nat.le_refl _⟩, ⟨bk BK114.out⟩, ⟨bw HB.out⟩⟩
           ·
            replace c38 := Bool.eq_false_iff.mpr c38
            subst c38
            have H1 : (if (Go.bits .and .u64 (ji35) 1) = 1 then (spec_l4K_round.j1 kj12 a1 (IntKind.u64.wrap ((ji35) + 1)) x11_12 a0_0 a0_1) else (spec_l4K_round.j1 kj12 a1 ji35 x11_12 a0_0 a0_1)) = some r := by rw [if_neg (show ¬ (false = true) by decide)] at H; exact H
            clear H
            have H := H1
            clear H1
            by_cases c39 : (Go.bits .and .u64 (ji35) 1) = 1
            ·
             rw [if_pos c39] at H
             have c39b0 : ((Go.bits .and .u64 (ji35) 1) == 1) = true := beq_iff_eq.mpr c39
             have c39b1 : ((Go.bits .and .u64 (ji35) 1) != 1) = false := bne_eq_false_iff_eq.mpr c39
             clear c39
             have H' := Aside0.mk H
             clear H
             go_wp2
             first | go_meet | ((simp only [← hji35]); go_meet) | ((simp only [← hji33]); go_meet) | ((simp only [← hji31]); go_meet) | ((simp only [← hji30]); go_meet) | ((simp only [← hji28]); go_meet) | ((simp only [← hji35, ← hji33, ← hji31, ← hji30, ← hji28]); go_meet)
             case rel => exact ⟨_, (IntKind.u64.wrap ((ji35) + 1)), (by first | rfl | (simp; done) | (simp only [← hji35] <;> (first | rfl | simp)) | (simp [*]; done)), H', ⟨by have := HJ12.out; first | omega | exact Nat.le_refl _⟩, ⟨bk BK114.out⟩, ⟨bw HB.out⟩⟩
            ·
             rw [if_neg c39] at H
             have c39b0 : ((Go.bits .and .u64 (ji35) 1) == 1) = false := beq_eq_false_iff_ne.mpr c39
             have c39b1 : ((Go.bits .and .u64 (ji35) 1) != 1) = true := bne_iff_ne.mpr c39
             have H' := Aside0.mk H
             clear H
             go_wp2
             first | go_meet | ((simp only [← hji35]); go_meet) | ((simp only [← hji33]); go_meet) | ((simp only [← hji31]); go_meet) | ((simp only [← hji30]); go_meet) | ((simp only [← hji28]); go_meet) | ((simp only [← hji35, ← hji33, ← hji31, ← hji30, ← hji28]); go_meet)
             case rel => exact ⟨_, (ji35), (by first | rfl | (simp; done) | (simp only [← hji35] <;> (first | rfl | simp)) | (simp [*]; done)), H', ⟨by have := HJ12.out; first | omega | exact Nat.le_refl _⟩, ⟨bk BK114.out⟩, ⟨bw HB.out⟩⟩
          ·
           rw [if_neg c37] at H
           have c37b0 : ((Go.bits .and .u64 a2 (IntKind.u64.wrap ((ji30) - 1))) == (ji33)) = false := beq_eq_false_iff_ne.mpr c37
           have c37b1 : ((Go.bits .and .u64 a2 (IntKind.u64.wrap ((ji30) - 1))) != (ji33)) = true := bne_iff_ne.mpr c37
           have H' := Aside0.mk H
           clear H
           go_wp2
           first | go_meet | ((simp only [← hji35]); go_meet) | ((simp only [← hji33]); go_meet) | ((simp only [← hji31]); go_meet) | ((simp only [← hji30]); go_meet) | ((simp only [← hji28]); go_meet) | ((simp only [← hji35, ← hji33, ← hji31, ← hji30, ← hji28]); go_meet)
           case rel => exact ⟨_, (ji35), (by first | rfl | (simp; done) | (simp only [← hji35] <;> (first | rfl | simp)) | (simp [*]; done)), H', ⟨by have := HJ12.out; first | omega | exact Nat.le_refl _⟩, ⟨bk BK114.out⟩, ⟨bw HB.out⟩⟩
        ·
         rw [if_neg c32] at H
         exact absurd H (by simp)
       ·
        rw [if_neg c29] at H
        exact absurd H (by simp)
      ·
       rw [if_neg c27] at H
       have c27b0 : decide ((wrap64 (x11_12 - a3)) < 64) = false := decide_eq_false c27
       clear c27
       by_cases c40 : 0 > 1
       ·
        exact absurd c40 (by decide)
       ·
        rw [if_neg c40] at H
        have c40b0 : decide (1 < 0) = false := decide_eq_false c40
        clear c40
        by_cases c41 : 0 = 1
        ·
         exact absurd c41 (by decide)
        ·
         rw [if_neg c41] at H
         have c41b0 : (0 == 1) = false := beq_eq_false_iff_ne.mpr c41
         have c41b1 : (0 != 1) = true := bne_iff_ne.mpr c41
         have H' := Aside0.mk H
         clear H
         go_wp2
         go_meet
         case rel => exact ⟨_, (0), (by first | rfl | (simp; done) | (simp [*]; done)), H', ⟨by have := HJ12.out; first | omega | exact Nat.le_refl _⟩, ⟨bk BK114.out⟩, ⟨bw HB.out⟩⟩
    case rest =>
     clear HC22
     try clear c1
     try clear c2
     try clear p2
     try clear c3
     try clear c4
     try clear c5
     try clear c6
     try clear c6b0
     try clear c6b1
     try clear p6
     try clear c8
     try clear c18
     try clear c18b0
     try clear c23
     try clear c23b0
     try clear c25
     try clear c25b0
     try clear c25b1
     try clear c27
     try clear c27b0
     try clear c29
     try clear c29b0
     try clear c29b1
     try clear c32
     try clear c32b0
     try clear c32b1
     try clear c34
     try clear c34b0
     try clear c36
     try clear c36b0
     try clear c37
     try clear c37b0
     try clear c37b1
     try clear c38
     try clear c39
     try clear c39b0
     try clear c39b1
     try clear c40
     try clear c40b0
     try clear c41
     try clear c41b0
     try clear c41b1
     try clear hcz16_0 hcz16_1
     try clear hcz20_0 hcz20_1
     try clear hcz9_0 hcz9_1
     try clear hfz16_0 hfz16_1
     try clear hfz20_0 hfz20_1
     try clear hfz9_0 hfz9_1
     try clear p2
     try clear p6
     obtain ⟨kq, x2_21, rfl, HA, HJ21, BK114, HB⟩ := hcut
     cases kq with
     | zero => exact absurd HA.out (by simp [spec_l4K_round.j1])
     | succ kj21 =>
      have H := HA.out
      clear HA
      simp only [spec_l4K_round.j1] at H
      obtain ⟨ji42, hji42⟩ : ∃ j_ : Int, (IntKind.u64.wrap (a0_1 + 1)) = j_ := ⟨_, rfl⟩
      replace H : (if 0 ≤ (ji42) then (if x2_21 = (shl .u64 1 (ji42)) then (spec_l4K_round.j2 kj21 a1 (x2_21 / 2) (wrap64 (x11_12 + 1)) a0_0 a0_1) else (spec_l4K_round.j2 kj21 a1 x2_21 x11_12 a0_0 a0_1)) else (none)) = some r := by first | (rw [hji42] at H; exact H) | (simp only [hji42] at H ⊢; exact H)
      by_cases c43 : 0 ≤ (ji42)
      ·
       rw [if_pos c43] at H
       have c43b0 := eq_true c43
       have c43b1 : decide (0 ≤ (ji42)) = true := decide_eq_true c43
       clear c43
       obtain ⟨ji44, hji44⟩ : ∃ j_ : Int, (shl .u64 1 (ji42)) = j_ := ⟨_, rfl⟩
       replace H : (if x2_21 = (ji44) then (spec_l4K_round.j2 kj21 a1 (x2_21 / 2) (wrap64 (x11_12 + 1)) a0_0 a0_1) else (spec_l4K_round.j2 kj21 a1 x2_21 x11_12 a0_0 a0_1)) = some r := by first | (rw [hji44] at H; exact H) | (simp only [hji44] at H ⊢; exact H)
       have hji44_ : (IntKind.u64.wrap (1 * 2 ^ min (ji42).toNat 64)) = ji44 := hji44
       have hji44z : (ji42) ≤ 64 → (IntKind.u64.wrap (1 * 2 ^ (ji42).toNat)) = ji44 := shl_small hji44
       have hji44u : (IntKind.u64.wrap (2 ^ min (ji42).toNat 64)) = ji44 := by have h_ := hji44_; rw [Int.one_mul] at h_; exact h_
       have hji44v : (ji42) ≤ 64 → (IntKind.u64.wrap (2 ^ (ji42).toNat)) = ji44 := fun hle_ => by have h_ := hji44z hle_; rw [Int.one_mul] at h_; exact h_
       have HC45 := Aside0.mk H
       clear H
       have hcz46_0 : wc.cell? ⟨gb114, 0, none⟩ = some (.int .u64 a0_0) := (blk_cell BK114.out 0).trans rfl
       have hcz46_1 : wc.cell? ⟨gb114, 1, none⟩ = some (.int .u64 a0_1) := (blk_cell BK114.out 1).trans rfl
       have hfz46_0 := blk_frozen BK114.out 0
       have hfz46_1 := blk_frozen BK114.out 1
       go_upto_if 86 with (fail)
       go_cut [2, 11] (fun v2 v11 wc => ∃ (kq : Nat) (x2_44 : Int) (x11_44 : Int), v2 = .int .u64 x2_44 ∧ v11 = .int .i64 x11_44 ∧ Aside0 (spec_l4K_round.j2 kq a1 x2_44 x11_44 a0_0 a0_1 = some r) ∧ Aside0 (kq ≤ kj21) ∧ Aside0 (wc.heap[gb114]? = some (.cells #[.int .u64 a0_0, .int .u64 a0_1] 52 (0, 0))) ∧ Aside0 (Below w.heap.size w wc))
       case first =>
        have H := HC45.out
        clear HC45
        by_cases c47 : x2_21 = (ji44)
        ·
         rw [if_pos c47] at H
         have c47b0 : (x2_21 == (ji44)) = true := beq_iff_eq.mpr c47
         have c47b1 : (x2_21 != (ji44)) = false := bne_eq_false_iff_eq.mpr c47
         clear c47
         (first | rw [c47b0] | (simp only [i64_w, i32_w]; rw [c47b0]) | skip)
         have H' := Aside0.mk H
         clear H
         go_wp2
         first | go_meet | ((simp only [← hji44]); go_meet) | ((simp only [← hji42]); go_meet) | ((simp only [← hji44, ← hji42]); go_meet)
         case rel => exact ⟨_, (x2_21 / 2), (wrap64 (x11_12 + 1)), (by first | rfl | (simp; done) | (simp [*]; done)), (by first | rfl | (simp; done) | (simp [*]; done)), H', ⟨by have := HJ12.out; have := HJ21.out; first | omega | exact Nat.le_refl _⟩, ⟨bk BK114.out⟩, ⟨bw HB.out⟩⟩
        ·
         rw [if_neg c47] at H
         have c47b0 : (x2_21 == (ji44)) = false := beq_eq_false_iff_ne.mpr c47
         have c47b1 : (x2_21 != (ji44)) = true := bne_iff_ne.mpr c47
         (first | rw [c47b0] | (simp only [i64_w, i32_w]; rw [c47b0]) | skip)
         have H' := Aside0.mk H
         clear H
         go_wp2
         first | go_meet | ((simp only [← hji44]); go_meet) | ((simp only [← hji42]); go_meet) | ((simp only [← hji44, ← hji42]); go_meet)
         case rel => exact ⟨_, (x2_21), (x11_12), (by first | rfl | (simp; done) | (simp [*]; done)), (by first | rfl | (simp; done) | (simp [*]; done)), H', ⟨by have := HJ12.out; have := HJ21.out; first | omega | exact Nat.le_refl _⟩, ⟨bk BK114.out⟩, ⟨bw HB.out⟩⟩
       case rest =>
        clear HC45
        try clear c1
        try clear c2
        try clear p2
        try clear c3
        try clear c4
        try clear c5
        try clear c6
        try clear c6b0
        try clear c6b1
        try clear p6
        try clear c8
        try clear c18
        try clear c18b0
        try clear c23
        try clear c23b0
        try clear c25
        try clear c25b0
        try clear c25b1
        try clear c27
        try clear c27b0
        try clear c29
        try clear c29b0
        try clear c29b1
        try clear c32
        try clear c32b0
        try clear c32b1
        try clear c34
        try clear c34b0
        try clear c36
        try clear c36b0
        try clear c37
        try clear c37b0
        try clear c37b1
        try clear c38
        try clear c39
        try clear c39b0
        try clear c39b1
        try clear c40
        try clear c40b0
        try clear c41
        try clear c41b0
        try clear c41b1
        try clear c43
        try clear c43b0
        try clear c43b1
        try clear c47
        try clear c47b0
        try clear c47b1
        try clear hcz16_0 hcz16_1
        try clear hcz20_0 hcz20_1
        try clear hcz46_0 hcz46_1
        try clear hcz9_0 hcz9_1
        try clear hfz16_0 hfz16_1
        try clear hfz20_0 hfz20_1
        try clear hfz46_0 hfz46_1
        try clear hfz9_0 hfz9_1
        try clear p2
        try clear p6
        obtain ⟨kq, x2_44, x11_44, rfl, rfl, HA, HJ44, BK114, HB⟩ := hcut
        cases kq with
        | zero => exact absurd HA.out (by simp [spec_l4K_round.j2])
        | succ kj44 =>
         have H := HA.out
         clear HA
         simp only [spec_l4K_round.j2] at H
         by_cases c48 : 0 ≤ a0_1
         ·
          rw [if_pos c48] at H
          have c48b0 := eq_true c48
          have c48b1 : decide (0 ≤ a0_1) = true := decide_eq_true c48
          clear c48
          obtain ⟨ji49, hji49⟩ : ∃ j_ : Int, (shl .u64 1 a0_1) = j_ := ⟨_, rfl⟩
          replace H : (if x2_44 < (ji49) then ((spec_l4K_sign.f a0_0 a0_1 a1).bind fun t119 => (some (Go.bits .or .u32 t119 ((x2_44) % 4294967296)))) else ((spec_l4K_least.f a0_0 a0_1).bind fun t120 => (if 0 ≤ a0_0 then (if (wrap64 ((wrap64 (x11_44 - t120)) + 1)) ≥ (wrap64 ((shl .i64 1 a0_0) - 1)) then ((spec_l4K_inf.f a0_0 a0_1 a1).bind fun t121 => (some t121)) else ((spec_l4K_sign.f a0_0 a0_1 a1).bind fun t122 => (some (Go.bits .or .u32 (Go.bits .or .u32 t122 (shl .u32 ((wrap64 ((wrap64 (x11_44 - t120)) + 1)) % 4294967296) a0_1)) (Go.bits .and .u32 ((x2_44) % 4294967296) (((shl .u32 1 a0_1) - 1) % 4294967296)))))) else (none)))) = some r := by first | (rw [hji49] at H; exact H) | (simp only [hji49] at H ⊢; exact H)
          have hji49_ : (IntKind.u64.wrap (1 * 2 ^ min a0_1.toNat 64)) = ji49 := hji49
          have hji49z : a0_1 ≤ 64 → (IntKind.u64.wrap (1 * 2 ^ a0_1.toNat)) = ji49 := shl_small hji49
          have hji49u : (IntKind.u64.wrap (2 ^ min a0_1.toNat 64)) = ji49 := by have h_ := hji49_; rw [Int.one_mul] at h_; exact h_
          have hji49v : a0_1 ≤ 64 → (IntKind.u64.wrap (2 ^ a0_1.toNat)) = ji49 := fun hle_ => by have h_ := hji49z hle_; rw [Int.one_mul] at h_; exact h_
          by_cases c50 : x2_44 < (ji49)
          ·
           rw [if_pos c50] at H
           have c50b0 : decide (x2_44 < (ji49)) = true := decide_eq_true c50
           clear c50
           replace H := Option.bind_eq_some_iff.mp H
           obtain ⟨t119, A510, H⟩ := H
           replace H : (some (Go.bits .or .u32 t119 ((x2_44) % 4294967296))) = some r := H
           have A51 := Aside0.mk A510
           clear A510
           obtain rfl := Option.some.inj H
           simp only [Option.some.injEq, Prod.mk.injEq] at H
           obtain ⟨rfl⟩ := H
           have hcz52_0 : wc.cell? ⟨gb114, 0, none⟩ = some (.int .u64 a0_0) := (blk_cell BK114.out 0).trans rfl
           have hcz52_1 : wc.cell? ⟨gb114, 1, none⟩ = some (.int .u64 a0_1) := (blk_cell BK114.out 1).trans rfl
           have hfz52_0 := blk_frozen BK114.out 0
           have hfz52_1 := blk_frozen BK114.out 1
           go_wp2_with (first | ((with_reducible refine gate_callee (f := 83) rfl ?_); refine goesL_ (some 98) rfl rfl Try.func83 (by kernel_rfl) rfl #[.agg #[.int .u64 a0_0, .int .u64 a0_1], .bool a1] rfl ar ?_; (with_reducible refine (spec_l4K_sign.calls a0_0 a0_1 a1 t119 _ A51.out).mono ?_); rintro e w53 ⟨rfl, hb⟩; refine ⟨_, rfl, ?_⟩; have n0_ := Aside0.mk (blk_below (g := gb114) (o := .cells #[.int .u64 a0_0, .int .u64 a0_1] 52 (0, 0)) (bk BK114.out) hb); have n1_ := Aside0.mk (below_step (bw HB.out) hb); clear BK114; clear HB; have BK114 := n0_; have HB := n1_; clear n0_ n1_; (try clear hb)))
           go_ret
           exact ⟨by first | rfl | (simp [errW_none, errW_some] <;> rfl) | (simp only [← hji42, ← hji44, ← hji49]; first | rfl | (simp [errW_none, errW_some] <;> rfl)) | (simp [*, errW_none, errW_some] <;> rfl), bw HB.out⟩
          ·
           rw [if_neg c50] at H
           have c50b0 : decide (x2_44 < (ji49)) = false := decide_eq_false c50
           clear c50
           replace H := Option.bind_eq_some_iff.mp H
           obtain ⟨t120, A540, H⟩ := H
           replace H : (if 0 ≤ a0_0 then (if (wrap64 ((wrap64 (x11_44 - t120)) + 1)) ≥ (wrap64 ((shl .i64 1 a0_0) - 1)) then ((spec_l4K_inf.f a0_0 a0_1 a1).bind fun t121 => (some t121)) else ((spec_l4K_sign.f a0_0 a0_1 a1).bind fun t122 => (some (Go.bits .or .u32 (Go.bits .or .u32 t122 (shl .u32 ((wrap64 ((wrap64 (x11_44 - t120)) + 1)) % 4294967296) a0_1)) (Go.bits .and .u32 ((x2_44) % 4294967296) (((shl .u32 1 a0_1) - 1) % 4294967296)))))) else (none)) = some r := H
           have A54 := Aside0.mk A540
           clear A540
           by_cases c55 : 0 ≤ a0_0
           ·
            rw [if_pos c55] at H
            have c55b0 := eq_true c55
            have c55b1 : decide (0 ≤ a0_0) = true := decide_eq_true c55
            clear c55
            obtain ⟨ji56, hji56⟩ : ∃ j_ : Int, (shl .i64 1 a0_0) = j_ := ⟨_, rfl⟩
            replace H : (if (wrap64 ((wrap64 (x11_44 - t120)) + 1)) ≥ (wrap64 ((ji56) - 1)) then ((spec_l4K_inf.f a0_0 a0_1 a1).bind fun t121 => (some t121)) else ((spec_l4K_sign.f a0_0 a0_1 a1).bind fun t122 => (some (Go.bits .or .u32 (Go.bits .or .u32 t122 (shl .u32 ((wrap64 ((wrap64 (x11_44 - t120)) + 1)) % 4294967296) a0_1)) (Go.bits .and .u32 ((x2_44) % 4294967296) (((shl .u32 1 a0_1) - 1) % 4294967296)))))) = some r := by first | (rw [hji56] at H; exact H) | (simp only [hji56] at H ⊢; exact H)
            (try rw [hji56] at A54)
            have hji56_ : (IntKind.i64.wrap (1 * 2 ^ min a0_0.toNat 64)) = ji56 := hji56
            have hji56z : a0_0 ≤ 64 → (IntKind.i64.wrap (1 * 2 ^ a0_0.toNat)) = ji56 := shl_small hji56
            have hji56u : (IntKind.i64.wrap (2 ^ min a0_0.toNat 64)) = ji56 := by have h_ := hji56_; rw [Int.one_mul] at h_; exact h_
            have hji56v : a0_0 ≤ 64 → (IntKind.i64.wrap (2 ^ a0_0.toNat)) = ji56 := fun hle_ => by have h_ := hji56z hle_; rw [Int.one_mul] at h_; exact h_
            have hji56y : (wrap64 (1 * 2 ^ min a0_0.toNat 64)) = ji56 := (i64_w _).symm.trans hji56_
            have hji56x : a0_0 ≤ 64 → (wrap64 (1 * 2 ^ a0_0.toNat)) = ji56 := fun h_ => (i64_w _).symm.trans (hji56z h_)
            by_cases c57 : (wrap64 ((wrap64 (x11_44 - t120)) + 1)) ≥ (wrap64 ((ji56) - 1))
            ·
             rw [if_pos c57] at H
             have c57b0 : decide ((wrap64 ((ji56) - 1)) ≤ (wrap64 ((wrap64 (x11_44 - t120)) + 1))) = true := decide_eq_true c57
             clear c57
             replace H := Option.bind_eq_some_iff.mp H
             obtain ⟨t121, A580, H⟩ := H
             replace H : (some t121) = some r := H
             have A58 := Aside0.mk A580
             clear A580
             obtain rfl := Option.some.inj H
             simp only [Option.some.injEq, Prod.mk.injEq] at H
             obtain ⟨rfl⟩ := H
             have hcz59_0 : wc.cell? ⟨gb114, 0, none⟩ = some (.int .u64 a0_0) := (blk_cell BK114.out 0).trans rfl
             have hcz59_1 : wc.cell? ⟨gb114, 1, none⟩ = some (.int .u64 a0_1) := (blk_cell BK114.out 1).trans rfl
             have hfz59_0 := blk_frozen BK114.out 0
             have hfz59_1 := blk_frozen BK114.out 1
             go_wp2_with (first | ((with_reducible refine gate_callee (f := 82) rfl ?_); refine goesL_ (some 104) rfl rfl Try.func82 (by kernel_rfl) rfl #[.agg #[.int .u64 a0_0, .int .u64 a0_1]] rfl ar ?_; (with_reducible refine (spec_l4K_least.calls a0_0 a0_1 t120 _ A54.out).mono ?_); rintro e w60 ⟨rfl, hb⟩; refine ⟨_, rfl, ?_⟩; have n0_ := Aside0.mk (blk_below (g := gb114) (o := .cells #[.int .u64 a0_0, .int .u64 a0_1] 52 (0, 0)) (bk BK114.out) hb); have n1_ := Aside0.mk (below_step (bw HB.out) hb); clear BK114; clear HB; have BK114 := n0_; have HB := n1_; clear n0_ n1_; (try clear hb); have hcz61_0 : w60.cell? ⟨gb114, 0, none⟩ = some (.int .u64 a0_0) := (blk_cell BK114.out 0).trans rfl; have hcz61_1 : w60.cell? ⟨gb114, 1, none⟩ = some (.int .u64 a0_1) := (blk_cell BK114.out 1).trans rfl; have hfz61_0 := blk_frozen BK114.out 0; have hfz61_1 := blk_frozen BK114.out 1) | ((with_reducible refine gate_callee (f := 49) rfl ?_); refine goesL_ (some 115) rfl rfl Try.func49 (by kernel_rfl) rfl #[.agg #[.int .u64 a0_0, .int .u64 a0_1], .bool a1] rfl ar ?_; (with_reducible refine (spec_l4K_inf.calls a0_0 a0_1 a1 t121 _ A58.out).mono ?_); rintro e w62 ⟨rfl, hb⟩; refine ⟨_, rfl, ?_⟩; have n0_ := Aside0.mk (blk_below (g := gb114) (o := .cells #[.int .u64 a0_0, .int .u64 a0_1] 52 (0, 0)) (bk BK114.out) hb); have n1_ := Aside0.mk (below_step (bw HB.out) hb); clear BK114; clear HB; have BK114 := n0_; have HB := n1_; clear n0_ n1_; (try clear hb)))
             go_ret
             exact ⟨by first | rfl | (simp [errW_none, errW_some] <;> rfl) | (simp only [← hji42, ← hji44, ← hji49, ← hji56]; first | rfl | (simp [errW_none, errW_some] <;> rfl)) | (simp [*, errW_none, errW_some] <;> rfl), bw HB.out⟩
            ·
             rw [if_neg c57] at H
             have c57b0 : decide ((wrap64 ((ji56) - 1)) ≤ (wrap64 ((wrap64 (x11_44 - t120)) + 1))) = false := decide_eq_false c57
             clear c57
             replace H := Option.bind_eq_some_iff.mp H
             obtain ⟨t122, A630, H⟩ := H
             replace H : (some (Go.bits .or .u32 (Go.bits .or .u32 t122 (shl .u32 ((wrap64 ((wrap64 (x11_44 - t120)) + 1)) % 4294967296) a0_1)) (Go.bits .and .u32 ((x2_44) % 4294967296) (((shl .u32 1 a0_1) - 1) % 4294967296)))) = some r := H
             have A63 := Aside0.mk A630
             clear A630
             have c64b0 := eq_true (of_decide_eq_true (by first | (with_reducible assumption) | assumption) : 0 ≤ a0_1)
             obtain ⟨ji65, hji65⟩ : ∃ j_ : Int, (shl .u32 ((wrap64 ((wrap64 (x11_44 - t120)) + 1)) % 4294967296) a0_1) = j_ := ⟨_, rfl⟩
             replace H : (some (Go.bits .or .u32 (Go.bits .or .u32 t122 (ji65)) (Go.bits .and .u32 ((x2_44) % 4294967296) (((shl .u32 1 a0_1) - 1) % 4294967296)))) = some r := by first | (rw [hji65] at H; exact H) | (simp only [hji65] at H ⊢; exact H)
             (try rw [hji65] at A54)
             (try rw [hji65] at A63)
             have hji65_ : (IntKind.u32.wrap (((wrap64 ((wrap64 (x11_44 - t120)) + 1)) % 4294967296) * 2 ^ min a0_1.toNat 32)) = ji65 := hji65
             have hji65z : a0_1 ≤ 32 → (IntKind.u32.wrap (((wrap64 ((wrap64 (x11_44 - t120)) + 1)) % 4294967296) * 2 ^ a0_1.toNat)) = ji65 := shl_small hji65
             have c66b0 := eq_true (of_decide_eq_true (by first | (with_reducible assumption) | assumption) : 0 ≤ a0_1)
             obtain ⟨ji67, hji67⟩ : ∃ j_ : Int, (shl .u32 1 a0_1) = j_ := ⟨_, rfl⟩
             replace H : (some (Go.bits .or .u32 (Go.bits .or .u32 t122 (ji65)) (Go.bits .and .u32 ((x2_44) % 4294967296) (((ji67) - 1) % 4294967296)))) = some r := by first | (rw [hji67] at H; exact H) | (simp only [hji67] at H ⊢; exact H)
             (try rw [hji67] at A54)
             (try rw [hji67] at A63)
             have hji67_ : (IntKind.u32.wrap (1 * 2 ^ min a0_1.toNat 32)) = ji67 := hji67
             have hji67z : a0_1 ≤ 32 → (IntKind.u32.wrap (1 * 2 ^ a0_1.toNat)) = ji67 := shl_small hji67
             have hji67u : (IntKind.u32.wrap (2 ^ min a0_1.toNat 32)) = ji67 := by have h_ := hji67_; rw [Int.one_mul] at h_; exact h_
             have hji67v : a0_1 ≤ 32 → (IntKind.u32.wrap (2 ^ a0_1.toNat)) = ji67 := fun hle_ => by have h_ := hji67z hle_; rw [Int.one_mul] at h_; exact h_
             obtain rfl := Option.some.inj H
             simp only [Option.some.injEq, Prod.mk.injEq] at H
             obtain ⟨rfl⟩ := H
             have hcz68_0 : wc.cell? ⟨gb114, 0, none⟩ = some (.int .u64 a0_0) := (blk_cell BK114.out 0).trans rfl
             have hcz68_1 : wc.cell? ⟨gb114, 1, none⟩ = some (.int .u64 a0_1) := (blk_cell BK114.out 1).trans rfl
             have hfz68_0 := blk_frozen BK114.out 0
             have hfz68_1 := blk_frozen BK114.out 1
             try go_wp2_with (first | ((with_reducible refine gate_callee (f := 82) rfl ?_); refine goesL_ (some 104) rfl rfl Try.func82 (by kernel_rfl) rfl #[.agg #[.int .u64 a0_0, .int .u64 a0_1]] rfl ar ?_; (with_reducible refine (spec_l4K_least.calls a0_0 a0_1 t120 _ A54.out).mono ?_); rintro e w69 ⟨rfl, hb⟩; refine ⟨_, rfl, ?_⟩; have n0_ := Aside0.mk (blk_below (g := gb114) (o := .cells #[.int .u64 a0_0, .int .u64 a0_1] 52 (0, 0)) (bk BK114.out) hb); have n1_ := Aside0.mk (below_step (bw HB.out) hb); clear BK114; clear HB; have BK114 := n0_; have HB := n1_; clear n0_ n1_; (try clear hb); have hcz70_0 : w69.cell? ⟨gb114, 0, none⟩ = some (.int .u64 a0_0) := (blk_cell BK114.out 0).trans rfl; have hcz70_1 : w69.cell? ⟨gb114, 1, none⟩ = some (.int .u64 a0_1) := (blk_cell BK114.out 1).trans rfl; have hfz70_0 := blk_frozen BK114.out 0; have hfz70_1 := blk_frozen BK114.out 1))
             have n0_ := Aside0.mk (blk_drew BK114.out)
             have n1_ := Aside0.mk (below_drew1 HB.out)
             clear BK114
             clear HB
             have BK114 := n0_
             have HB := n1_
             clear n0_ n1_
             refine start_ (n := 18) (S := fun w' => w'.cell? ⟨gb114, 0, none⟩ = some (.int .u64 a0_0) ∧ w'.cell? ⟨gb114, 1, none⟩ = some (.int .u64 a0_1)) (ds := []) #[false, false, false, false, false, false, false, false, false, false, false, false, false, false, false, false, false, false] (by kernel_rfl) rfl rfl ⟨(blk_cell BK114.out 0).trans rfl, (blk_cell BK114.out 1).trans rfl⟩ (fun hHeld => ?_); refine with_tabW spec_l4K_round.tab29 spec_l4K_round.bits29 (fun HT_ HW_ => ?_)
             generalize w69.drew = w71 at BK114 HB hHeld ⊢
             refine pure_ (i := 1) (N := some 117) (v := ?_) (a' := ?_) #[false, true, false, false, false, false, false, false, false, false, false, false, false, false, false, false, false, false] rfl rfl (any_of HT_.out (by kernel_rfl)) (fun _ _ _ h => h) (Or.inl ⟨by rfl, ?_⟩) ?_ ?_
             rotate_left
             ·
              intro w'
              go_simp
              with_reducible rfl
             rotate_left
             ·
              simp only [Act.put, List.setIfInBounds_toArray, List.set_cons_zero, List.set_cons_succ, i64_w, i32_w]
              rfl
             refine pure_ (i := 3) (N := some 119) (v := ?_) (a' := ?_) #[false, true, false, true, false, false, false, false, false, false, false, false, false, false, false, false, false, false] rfl rfl (any_of HT_.out (by kernel_rfl)) (fun _ _ _ h => h) (Or.inl ⟨by rfl, ?_⟩) ?_ ?_
             rotate_left
             ·
              intro w'
              go_simp
              with_reducible rfl
             rotate_left
             ·
              simp only [Act.put, List.setIfInBounds_toArray, List.set_cons_zero, List.set_cons_succ, i64_w, i32_w]
              rfl
             refine pure_ (i := 4) (N := some 120) (v := ?_) (a' := ?_) #[false, true, false, true, true, false, false, false, false, false, false, false, false, false, false, false, false, false] rfl rfl (any_of HT_.out (by kernel_rfl)) (fun _ _ _ h => h) (Or.inl ⟨by rfl, ?_⟩) ?_ ?_
             rotate_left
             ·
              intro w'
              go_simp
              with_reducible rfl
             rotate_left
             ·
              simp only [Act.put, List.setIfInBounds_toArray, List.set_cons_zero, List.set_cons_succ, i64_w, i32_w]
              rfl
             refine pure_ (i := 5) (N := some 121) (v := ?_) (a' := ?_) #[false, true, false, true, true, true, false, false, false, false, false, false, false, false, false, false, false, false] rfl rfl (any_of HT_.out (by kernel_rfl)) (fun _ _ _ h => h) (Or.inl ⟨by rfl, ?_⟩) ?_ ?_
             rotate_left
             ·
              intro w'
              go_simp
              with_reducible rfl
             rotate_left
             ·
              simp only [Act.put, List.setIfInBounds_toArray, List.set_cons_zero, List.set_cons_succ, i64_w, i32_w]
              rfl
             refine pure_ (i := 9) (N := some 125) (v := ?_) (a' := ?_) #[false, true, false, true, true, true, false, false, false, true, false, false, false, false, false, false, false, false] rfl rfl (any_of HT_.out (by kernel_rfl)) (fun _ _ _ h => h) (Or.inl ⟨by rfl, ?_⟩) ?_ ?_
             rotate_left
             ·
              intro w'
              go_simp
              with_reducible rfl
             rotate_left
             ·
              simp only [Act.put, List.setIfInBounds_toArray, List.set_cons_zero, List.set_cons_succ, i64_w, i32_w]
              rfl
             refine pure_ (i := 10) (N := some 126) (v := ?_) (a' := ?_) #[false, true, false, true, true, true, false, false, false, true, true, false, false, false, false, false, false, false] rfl rfl (any_of HT_.out (by kernel_rfl)) (fun _ _ _ h => h) (Or.inl ⟨by rfl, ?_⟩) ?_ ?_
             rotate_left
             ·
              intro w'
              go_simp
              with_reducible rfl
             rotate_left
             ·
              simp only [Act.put, List.setIfInBounds_toArray, List.set_cons_zero, List.set_cons_succ, i64_w, i32_w]
              rfl
             refine pure_ (i := 11) (N := some 127) (v := ?_) (a' := ?_) #[false, true, false, true, true, true, false, false, false, true, true, true, false, false, false, false, false, false] rfl rfl (any_of HT_.out (by kernel_rfl)) (fun _ _ _ h => h) (Or.inl ⟨by rfl, ?_⟩) ?_ ?_
             rotate_left
             ·
              intro w'
              go_simp
              with_reducible rfl
             rotate_left
             ·
              simp only [Act.put, List.setIfInBounds_toArray, List.set_cons_zero, List.set_cons_succ, i64_w, i32_w]
              rfl
             refine take_ (i := 0) (N := some 116) (v := ?_) (a' := ?_) #[true, true, false, true, true, true, false, false, false, true, true, true, false, false, false, false, false, false] rfl rfl (take_ofW HT_.out HW_.out (by kernel_rfl)) (fun _ _ _ h => h) (Or.inl ⟨by rfl, ?_⟩) hHeld ?_ ?_
             rotate_left
             ·
              rintro w' ⟨s0, s1⟩
              go_simp
              with_reducible rfl
             rotate_left
             ·
              simp only [Act.put, List.setIfInBounds_toArray, List.set_cons_zero, List.set_cons_succ, i64_w, i32_w]
              rfl
             refine take_ (i := 6) (N := some 122) (v := ?_) (a' := ?_) #[true, true, false, true, true, true, true, false, false, true, true, true, false, false, false, false, false, false] rfl rfl (take_ofW HT_.out HW_.out (by kernel_rfl)) (fun _ _ _ h => h) (Or.inl ⟨by rfl, ?_⟩) hHeld ?_ ?_
             rotate_left
             ·
              rintro w' ⟨s0, s1⟩
              go_simp
              with_reducible rfl
             rotate_left
             ·
              simp only [Act.put, List.setIfInBounds_toArray, List.set_cons_zero, List.set_cons_succ, i64_w, i32_w]
              rfl
             refine pure_ (i := 7) (N := some 123) (v := ?_) (a' := ?_) #[true, true, false, true, true, true, true, true, false, true, true, true, false, false, false, false, false, false] rfl rfl (any_of HT_.out (by kernel_rfl)) (fun _ _ _ h => h) (Or.inl ⟨by rfl, ?_⟩) ?_ ?_
             rotate_left
             ·
              intro w'
              go_simp
              with_reducible rfl
             rotate_left
             ·
              simp only [Act.put, List.setIfInBounds_toArray, List.set_cons_zero, List.set_cons_succ, i64_w, i32_w]
              rfl
             refine take_ (i := 12) (N := some 128) (v := ?_) (a' := ?_) #[true, true, false, true, true, true, true, true, false, true, true, true, true, false, false, false, false, false] rfl rfl (take_ofW HT_.out HW_.out (by kernel_rfl)) (fun _ _ _ h => h) (Or.inl ⟨by rfl, ?_⟩) hHeld ?_ ?_
             rotate_left
             ·
              rintro w' ⟨s0, s1⟩
              go_simp
              with_reducible rfl
             rotate_left
             ·
              simp only [Act.put, List.setIfInBounds_toArray, List.set_cons_zero, List.set_cons_succ, i64_w, i32_w]
              rfl
             refine pure_ (i := 13) (N := some 129) (v := ?_) (a' := ?_) #[true, true, false, true, true, true, true, true, false, true, true, true, true, true, false, false, false, false] rfl rfl (any_of HT_.out (by kernel_rfl)) (fun _ _ _ h => h) (Or.inl ⟨by rfl, ?_⟩) ?_ ?_
             rotate_left
             ·
              intro w'
              go_simp
              with_reducible rfl
             rotate_left
             ·
              simp only [Act.put, List.setIfInBounds_toArray, List.set_cons_zero, List.set_cons_succ, i64_w, i32_w]
              rfl
             refine pure_ (i := 14) (N := some 130) (v := ?_) (a' := ?_) #[true, true, false, true, true, true, true, true, false, true, true, true, true, true, true, false, false, false] rfl rfl (any_of HT_.out (by kernel_rfl)) (fun _ _ _ h => h) (Or.inl ⟨by rfl, ?_⟩) ?_ ?_
             rotate_left
             ·
              intro w'
              go_simp
              with_reducible rfl
             rotate_left
             ·
              simp only [Act.put, List.setIfInBounds_toArray, List.set_cons_zero, List.set_cons_succ, i64_w, i32_w]
              rfl
             refine pure_ (i := 15) (N := some 131) (v := ?_) (a' := ?_) #[true, true, false, true, true, true, true, true, false, true, true, true, true, true, true, true, false, false] rfl rfl (any_of HT_.out (by kernel_rfl)) (fun _ _ _ h => h) (Or.inl ⟨by rfl, ?_⟩) ?_ ?_
             rotate_left
             ·
              intro w'
              go_simp
              with_reducible rfl
             rotate_left
             ·
              simp only [Act.put, List.setIfInBounds_toArray, List.set_cons_zero, List.set_cons_succ, i64_w, i32_w]
              rfl
             refine one_ (i := 2) (N := some 118) #[true, true, true, true, true, true, true, true, false, true, true, true, true, true, true, true, false, false] rfl rfl (one_of HT_.out (by kernel_rfl)) (by decide) (fun K hK => ?_)
             refine goes_ Try.func83 (by kernel_rfl) rfl #[.agg #[.int .u64 a0_0, .int .u64 a0_1], .bool a1] (by rfl) rfl rfl ar ?_
             with_reducible refine (spec_l4K_sign.calls a0_0 a0_1 a1 t122 _ A63.out).mono ?_
             rintro e w72 ⟨rfl, hb⟩
             refine ⟨_, rfl, ?_⟩
             have n0_ := Aside0.mk (blk_below (g := gb114) (o := .cells #[.int .u64 a0_0, .int .u64 a0_1] 52 (0, 0)) (bk BK114.out) hb)
             have n1_ := Aside0.mk (below_step (bw HB.out) hb)
             clear BK114
             clear HB
             have BK114 := n0_
             have HB := n1_
             clear n0_ n1_
             (try clear hb)
             (try clear hb2)
             (try clear hk)
             (try clear hi)
             refine hK.out _ _ ⟨(blk_cell BK114.out 0).trans rfl, (blk_cell BK114.out 1).trans rfl⟩ (fun hHeld => ?_)
             clear hK K
             refine norm_ (a' := ?_) ?_ ?_
             rotate_left
             ·
              show Act.put _ (some 118) _ = _
              simp only [Act.put, List.setIfInBounds_toArray, List.set_cons_zero, List.set_cons_succ, i64_w, i32_w]
              rfl
             refine pure_ (i := 8) (N := some 124) (v := ?_) (a' := ?_) #[true, true, true, true, true, true, true, true, true, true, true, true, true, true, true, true, false, false] rfl rfl (any_of HT_.out (by kernel_rfl)) (fun _ _ _ h => h) (Or.inl ⟨by rfl, ?_⟩) ?_ ?_
             rotate_left
             ·
              intro w'
              go_simp
              with_reducible rfl
             rotate_left
             ·
              simp only [Act.put, List.setIfInBounds_toArray, List.set_cons_zero, List.set_cons_succ, i64_w, i32_w]
              rfl
             refine pure_ (i := 16) (N := some 132) (v := ?_) (a' := ?_) #[true, true, true, true, true, true, true, true, true, true, true, true, true, true, true, true, true, false] rfl rfl (any_of HT_.out (by kernel_rfl)) (fun _ _ _ h => h) (Or.inl ⟨by rfl, ?_⟩) ?_ ?_
             rotate_left
             ·
              intro w'
              go_simp
              with_reducible rfl
             rotate_left
             ·
              simp only [Act.put, List.setIfInBounds_toArray, List.set_cons_zero, List.set_cons_succ, i64_w, i32_w]
              rfl
             refine pure_ (i := 17) (N := some 10) (v := ?_) (a' := ?_) #[true, true, true, true, true, true, true, true, true, true, true, true, true, true, true, true, true, true] rfl rfl (any_of HT_.out (by kernel_rfl)) (fun _ _ _ h => h) (Or.inl ⟨by rfl, ?_⟩) ?_ ?_
             rotate_left
             ·
              intro w'
              go_simp
              with_reducible rfl
             rotate_left
             ·
              simp only [Act.put, List.setIfInBounds_toArray, List.set_cons_zero, List.set_cons_succ, i64_w, i32_w]
              rfl
             refine done_ (done_of HT_.out (by kernel_rfl)) ?_
             try go_wp2
             go_ret
             exact ⟨by first | rfl | (simp [errW_none, errW_some] <;> rfl) | (simp only [← hji42, ← hji44, ← hji49, ← hji56, ← hji65, ← hji67]; first | rfl | (simp [errW_none, errW_some] <;> rfl)) | (simp [*, errW_none, errW_some] <;> rfl), bw HB.out⟩
           ·
            rw [if_neg c55] at H
            exact absurd H (by simp)
         ·
          rw [if_neg c48] at H
          exact absurd H (by simp)
      ·
       rw [if_neg c43] at H
       exact absurd H (by simp)

end Go.Proofs.Ytdeogandkgiggaa.Q

namespace Go.Proofs.Ytdeogandkgiggaa.Q
open Go.RowKit Go.Proofs.YtdeogandkgiggaaW.PrintWords Go.Proofs.YtdeogandkgiggaaW.PrintLast Go.Proofs.YtdeogandkgiggaaW.PrintMore
attribute [local go_sem] max2_int min2_int max_two min_two max_three min_three max_four min_four   -- for this text's walks alone
set_option linter.unusedVariables false
set_option linter.unusedSimpArgs false

/-! ### spec_l4Side: function 88 -/
def spec_l4Side.f (a0 : Int) (a1 : Int) : Option (Int) := if a0 < a1 then (some (-1)) else (if a0 > a1 then (some 1) else (some 0))
set_option maxHeartbeats 8000000 in
set_option maxRecDepth 100000 in
theorem spec_l4Side.calls (a0 : Int) (a1 : Int) (r : Int) (w : World) (h : spec_l4Side.f a0 a1 = some r) :
  Calls Try.prog 88 #[.int .u64 a0, .int .u64 a1] w fun e w' => e = .returned (.int .i64 r) ∧ Drawn0 w w' := by
 have H : (if a0 < a1 then (some (-1)) else (if a0 > a1 then (some 1) else (some 0))) = some r := h
 clear h
 by_cases c3 : a0 < a1
 ·
  rw [if_pos c3] at H
  have c3b0 : decide (a0 < a1) = true := decide_eq_true c3
  clear c3
  obtain rfl := Option.some.inj H
  simp only [Option.some.injEq, Prod.mk.injEq] at H
  obtain ⟨rfl⟩ := H
  go_enter Try.func88, Try.ntmps88
  go_wp2
  go_ret
  exact ⟨by first | rfl | (simp; done) | (simp [*]; done), by repeat (first | exact Drawn0.refl _ | apply Drawn0.step)⟩
 ·
  rw [if_neg c3] at H
  have c3b0 : decide (a0 < a1) = false := decide_eq_false c3
  clear c3
  by_cases c4 : a0 > a1
  ·
   rw [if_pos c4] at H
   have c4b0 : decide (a1 < a0) = true := decide_eq_true c4
   clear c4
   obtain rfl := Option.some.inj H
   simp only [Option.some.injEq, Prod.mk.injEq] at H
   obtain ⟨rfl⟩ := H
   go_enter Try.func88, Try.ntmps88
   go_wp2
   go_ret
   exact ⟨by first | rfl | (simp; done) | (simp [*]; done), by repeat (first | exact Drawn0.refl _ | apply Drawn0.step)⟩
  ·
   rw [if_neg c4] at H
   have c4b0 : decide (a1 < a0) = false := decide_eq_false c4
   clear c4
   obtain rfl := Option.some.inj H
   simp only [Option.some.injEq, Prod.mk.injEq] at H
   obtain ⟨rfl⟩ := H
   go_enter Try.func88, Try.ntmps88
   go_wp2
   go_ret
   exact ⟨by first | rfl | (simp; done) | (simp [*]; done), by repeat (first | exact Drawn0.refl _ | apply Drawn0.step)⟩

end Go.Proofs.Ytdeogandkgiggaa.Q

