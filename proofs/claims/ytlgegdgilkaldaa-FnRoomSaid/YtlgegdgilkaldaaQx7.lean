-- Written by a program of this session; it walks the functions that the law reaches.
import Derived.Test.YtlgegdgilkaldaaQx0
import Derived.Test.YtlgegdgilkaldaaQx4
import Derived.Test.YtlgegdgilkaldaaQx6
namespace Go.Proofs.Ytlgegdgilkaldaa.Q
open Go.RowKit Go.Proofs.YtlgegdgilkaldaaW.PrintWords Go.Proofs.YtlgegdgilkaldaaW.PrintLast Go.Proofs.YtlgegdgilkaldaaW.PrintMore
attribute [local go_sem] max2_int min2_int max_two min_two max_three min_three max_four min_four   -- for this text's walks alone
set_option linter.unusedVariables false
set_option linter.unusedSimpArgs false


/-! ### spec_l11Core: function 54 (walked by hand) -/

/-! The reference's core types of a tree; at most n deep. -/
def coreE : S52 := ⟨0, 0, []⟩
def coreC (t : S52) : List S52 := if t.f0 = 17 then coreE :: t.f2 else t.f2
def cjoin (a b : Int) : Int := if a = b then a else if a = 126 then 126 else if b = 126 then 126 else 127
def cmergeI (s : List Int) (i : Nat) (k : Int) : List Int := if i + 1 < s.length then s.set (i + 1) (cjoin (rd s ((i + 1 : Nat) : Int)) k) else s ++ [k]
def cmergeN (s l : List Int) : Nat → List Int
 | 0 => s
 | j + 1 => cmergeI (cmergeN s l j) j (rd l (j : Int))
def cmergeA (s l : List Int) : List Int := cmergeN s l l.length
def coreT : Nat → S52 → List Int
 | 0, _ => []
 | n + 1, t =>
  if t.f0 = 0 then [] else if t.f0 = 8 then [126] else if t.f0 = 9 then [126] else if t.f0 = 10 then [125] else if t.f0 = 12 then [127, 127] else if t.f0 = 13 then [127, 127]
  else if t.f0 = 14 then t.f2.foldl (fun s p => s ++ coreT n p) []
  else if (t.f0 == 15 || t.f0 == 17 || t.f0 == 18) = true then (coreC t).foldl (fun s p => cmergeA s (coreT n p)) [127]
  else [127]
def fewB : Nat → S52 → Bool
 | 0, _ => false
 | n + 1, t => decide (t.f2.length ≤ 8) && t.f2.all (fewB n)
theorem fewB_kids {n : Nat} {t : S52} (h : fewB (n + 1) t = true) : t.f2.length ≤ 8 ∧ ∀ x ∈ t.f2, fewB n x = true := by
 rw [fewB, Bool.and_eq_true] at h
 exact ⟨of_decide_eq_true h.1, fun x hx => List.all_eq_true.1 h.2 x hx⟩
theorem cmergeI_len (s : List Int) (i : Nat) (k : Int) (m : Nat) (h1 : s.length ≤ m) (h2 : i + 2 ≤ m) : (cmergeI s i k).length ≤ m := by
 unfold cmergeI
 split
 ·
  rw [List.length_set]; exact h1
 ·
  rw [List.length_append, List.length_singleton]; omega
theorem cmergeN_len (s l : List Int) (m : Nat) (h1 : s.length ≤ m) : ∀ j, j + 1 ≤ m → (cmergeN s l j).length ≤ m
 | 0, _ => h1
 | j + 1, h => cmergeI_len _ _ _ _ (cmergeN_len s l m h1 j (by omega)) (by omega)
theorem cfoldl_cat_len (f : S52 → List Int) (m : Nat) : ∀ (l : List S52) (s : List Int), (∀ x ∈ l, (f x).length ≤ m) → (l.foldl (fun s p => s ++ f p) s).length ≤ s.length + l.length * m
 | [], s, _ => by simp
 | x :: l, s, h => by
  have h1 := cfoldl_cat_len f m l (s ++ f x) (fun y hy => h y (List.mem_cons_of_mem _ hy))
  have h2 := h x List.mem_cons_self
  rw [List.foldl_cons]
  rw [List.length_append] at h1
  rw [List.length_cons, Nat.succ_mul]
  omega
theorem cfoldl_merge_len (f : S52 → List Int) (m : Nat) : ∀ (l : List S52) (s : List Int), (∀ x ∈ l, (f x).length + 1 ≤ m) → s.length ≤ m → (l.foldl (fun s p => cmergeA s (f p)) s).length ≤ m
 | [], s, _, hs => hs
 | x :: l, s, h, hs => cfoldl_merge_len f m l _ (fun y hy => h y (List.mem_cons_of_mem _ hy)) (cmergeN_len s (f x) m hs _ (h x List.mem_cons_self))
theorem coreE_nil (n : Nat) : coreT n coreE = [] := by
 cases n with
 | zero => rfl
 | succ n => rw [coreT, if_pos (show coreE.f0 = 0 from rfl)]
theorem core_len : ∀ (n : Nat) (t : S52), fewB n t = true → (coreT n t).length ≤ 2 * 8 ^ n
 | 0, _, _ => by simp [coreT]
 | n + 1, t, h => by
  obtain ⟨hl, hx⟩ := fewB_kids h
  have hm : ∀ x ∈ t.f2, (coreT n x).length ≤ 2 * 8 ^ n := fun x h => core_len n x (hx x h)
  have hp : 1 ≤ 8 ^ n := Nat.one_le_pow _ _ (by decide)
  have hq : 8 ^ (n + 1) = 8 * 8 ^ n := by rw [Nat.pow_succ, Nat.mul_comm]
  have hc : ∀ x ∈ coreC t, (coreT n x).length + 1 ≤ 2 * 8 ^ (n + 1) := by
   intro x hxx
   unfold coreC at hxx
   have hk : ∀ y ∈ t.f2, (coreT n y).length + 1 ≤ 2 * 8 ^ (n + 1) := fun y hy => by have := hm y hy; omega
   split at hxx
   ·
    rcases List.mem_cons.1 hxx with rfl | hxx
    ·
     rw [coreE_nil]; simp; omega
    ·
     exact hk x hxx
   ·
    exact hk x hxx
  have h8 : t.f2.length * (2 * 8 ^ n) ≤ 8 * (2 * 8 ^ n) := Nat.mul_le_mul_right _ hl
  have h1 := cfoldl_cat_len (coreT n) _ t.f2 [] hm
  have h2 := cfoldl_merge_len (coreT n) (2 * 8 ^ (n + 1)) (coreC t) [127] hc (by simp; omega)
  rw [List.length_nil] at h1
  unfold coreT
  repeat' split
  all_goals first | (simp; done) | (simp; omega) | omega

theorem cjoin_any (a b : Int) (w : World) : Calls Try.prog 72 #[.int .i64 a, .int .i64 b] w fun e w' => e = .returned (.int .i64 (cjoin a b)) ∧ w = w' := by
 unfold cjoin
 by_cases c1 : a = b
 ·
  subst c1
  rw [if_pos rfl]
  go_enter Try.func72, Try.ntmps72
  go_wp2
  go_ret
  exact ⟨rfl, rfl⟩
 ·
  have c1b : (a == b) = false := beq_eq_false_iff_ne.2 c1
  rw [if_neg c1]
  by_cases c2 : a = 126
  ·
   have c2b : (a != 126) = false := bne_eq_false_iff_eq.2 c2
   rw [if_pos c2]
   clear c1 c2
   go_enter Try.func72, Try.ntmps72
   go_wp2
   go_ret
   exact ⟨rfl, rfl⟩
  ·
   have c2b : (a != 126) = true := bne_iff_ne.2 c2
   rw [if_neg c2]
   by_cases c3 : b = 126
   ·
    have c3b : (b != 126) = false := bne_eq_false_iff_eq.2 c3
    rw [if_pos c3]
    clear c1 c2 c3
    go_enter Try.func72, Try.ntmps72
    go_wp2
    go_ret
    exact ⟨rfl, rfl⟩
   ·
    have c3b : (b != 126) = true := bne_iff_ne.2 c3
    rw [if_neg c3]
    clear c1 c2 c3
    go_enter Try.func72, Try.ntmps72
    go_wp2
    go_ret
    exact ⟨rfl, rfl⟩


set_option maxHeartbeats 2000000 in
set_option maxRecDepth 100000 in
/-- The empty part. -/
theorem core_nil (A : Option Addr) (c : Nat) (w : World) (t : S52) (h : t = coreE) : Calls Try.prog 54 #[.agg #[.int .i64 t.f0, .int .i64 t.f1, .slice A t.f2.length c]] w fun e w' => ∃ v0 : Value, e = .returned v0 ∧ Kd.R (Kd.int .i64) 3 w' w.heap.size (fun _ => True) v0 ([] : List Int) ∧ Below w.heap.size w w' := by
 have hu52 := Try.underlying52
 have c0b : (t.f0 == 0) = true := by rw [h]; rfl
 clear h
 go_enter Try.func54, Try.ntmps54
 go_wp2_with (first | ((with_reducible refine gate_dst (N := 1) rfl ?_); refine box_event ?hg (N := 1) ?hd (cs := #[.int .i64 t.f0, .int .i64 t.f1, .slice A t.f2.length c]) (t := 52) ?hr ?_; (case hd => rfl); (case hg => rfl); (case hr => first | (go_simp; done) | (go_simp; rfl)); intro g0 hg w0 hbox hb; have BK0 := Aside0.mk hbox; have HB := Aside0.mk hb; have GE0 := Aside0.mk (show w.heap.size ≤ g0 from Nat.le_of_eq hg.symm); clear hbox hb hg; have q0 : w0.cell? ⟨g0, 0, none⟩ = some (.int .i64 t.f0) := (blk_cell BK0.out 0).trans rfl; have q1 : w0.cell? ⟨g0, 1, none⟩ = some (.int .i64 t.f1) := (blk_cell BK0.out 1).trans rfl; have q2 : w0.cell? ⟨g0, 2, none⟩ = some (.slice A t.f2.length c) := (blk_cell BK0.out 2).trans rfl))
 go_ret
 exact ⟨_, rfl, Kd.R_nil _ _ _ _ _, HB.out⟩

set_option maxHeartbeats 8000000 in
set_option maxRecDepth 100000 in
theorem core_any (n : Nat) : n ≤ 12 → ∀ (t : S52) (A : Option Addr) (c : Nat) (w : World), fewB n t = true → Kd.C k52 w A t.f2.length t.f2 → t.f2.length ≤ c →
  Calls Try.prog 54 #[.agg #[.int .i64 t.f0, .int .i64 t.f1, .slice A t.f2.length c]] w fun e w' => ∃ v0 : Value, e = .returned v0 ∧ Kd.R (Kd.int .i64) 3 w' w.heap.size (fun _ => True) v0 (coreT n t) ∧ Below w.heap.size w w' := by
 induction n with
 | zero => intro hn t A c w h; cases h
 | succ n ih =>
  intro hn t A c w hf hC hc
  have hu52 := Try.underlying52
  have HF8 := Aside0.mk (fewB_kids hf)
  have HC := Aside0.mk hC
  clear hC hf
  by_cases c0 : t.f0 = 0
  ·
   have E : coreT (n + 1) t = [] := by rw [coreT, if_pos c0]
   rw [E]; clear E
   have c0b : (t.f0 == 0) = true := beq_iff_eq.2 c0
   clear c0
   go_enter Try.func54, Try.ntmps54
   go_wp2_with (first | ((with_reducible refine gate_dst (N := 1) rfl ?_); refine box_event ?hg (N := 1) ?hd (cs := #[.int .i64 t.f0, .int .i64 t.f1, .slice A t.f2.length c]) (t := 52) ?hr ?_; (case hd => rfl); (case hg => rfl); (case hr => first | (go_simp; done) | (go_simp; rfl)); intro g0 hg w0 hbox hb; have BK0 := Aside0.mk hbox; have HB := Aside0.mk hb; have GE0 := Aside0.mk (show w.heap.size ≤ g0 from Nat.le_of_eq hg.symm); clear hbox hb hg; have q0 : w0.cell? ⟨g0, 0, none⟩ = some (.int .i64 t.f0) := (blk_cell BK0.out 0).trans rfl; have q1 : w0.cell? ⟨g0, 1, none⟩ = some (.int .i64 t.f1) := (blk_cell BK0.out 1).trans rfl; have q2 : w0.cell? ⟨g0, 2, none⟩ = some (.slice A t.f2.length c) := (blk_cell BK0.out 2).trans rfl))
   go_ret
   exact ⟨_, rfl, Kd.R_nil _ _ _ _ _, HB.out⟩
  have c0b : (t.f0 == 0) = false := beq_eq_false_iff_ne.2 c0
  by_cases c8 : t.f0 = 8
  ·
   have E : coreT (n + 1) t = [126] := by rw [coreT, if_neg c0, if_pos c8]
   rw [E]; clear E
   have c8b : (t.f0 == 8) = true := beq_iff_eq.2 c8
   clear c0 c8
   go_enter Try.func54, Try.ntmps54
   go_wp2_with (first | ((with_reducible refine gate_dst (N := 1) rfl ?_); refine box_event ?hg (N := 1) ?hd (cs := #[.int .i64 t.f0, .int .i64 t.f1, .slice A t.f2.length c]) (t := 52) ?hr ?_; (case hd => rfl); (case hg => rfl); (case hr => first | (go_simp; done) | (go_simp; rfl)); intro g0 hg w0 hbox hb; have BK0 := Aside0.mk hbox; have HB := Aside0.mk hb; have GE0 := Aside0.mk (show w.heap.size ≤ g0 from Nat.le_of_eq hg.symm); clear hbox hb hg; have q0 : w0.cell? ⟨g0, 0, none⟩ = some (.int .i64 t.f0) := (blk_cell BK0.out 0).trans rfl; have q1 : w0.cell? ⟨g0, 1, none⟩ = some (.int .i64 t.f1) := (blk_cell BK0.out 1).trans rfl; have q2 : w0.cell? ⟨g0, 2, none⟩ = some (.slice A t.f2.length c) := (blk_cell BK0.out 2).trans rfl) | ((with_reducible refine gate_dst (N := 18) rfl ?_); refine Kd.R_lit (Kd.int .i64) _ 3 ?hg (N := 18) ?hd (xs := ([126] : List Int)) (inner := [.int .i64 126]) (ok := fun _ => True) (okp := fun _ => True) ?hr ?hp (fun _ hk => hk) trivial (Below.refl _ _) (Nat.le_refl _) (by simp) ?_; (case hd => rfl); (case hg => rfl); (case hr => first | (go_simp; done) | (go_simp; rfl)); (case hp => exact (Reps.one (show Kd.M (Kd.int .i64) _ _ _ 126 [.int .i64 126] from rfl) (Reps.none _ _))); intro v1 w1 ho hb hg_ hnew_; clear hg_ hnew_; have HO := Aside0.mk (Kd.R_lower ho HB.out.size); have n0_ := Aside0.mk (HB.out.trans (hb.mono HB.out.size)); try have Q2 := Aside0.mk ((hb.cell (World.block_lt_of_cell? _ _ q2)).trans q2); try have Q1 := Aside0.mk ((hb.cell (World.block_lt_of_cell? _ _ q1)).trans q1); try have Q0 := Aside0.mk ((hb.cell (World.block_lt_of_cell? _ _ q0)).trans q0); clear HB ho hb q0 q1 q2; have HB := n0_; clear n0_; have q0 := Q0.out; have q1 := Q1.out; have q2 := Q2.out; clear Q0 Q1 Q2))
   go_ret
   exact ⟨_, rfl, HO.out, HB.out⟩
  have c8b : (t.f0 == 8) = false := beq_eq_false_iff_ne.2 c8
  by_cases c9 : t.f0 = 9
  ·
   have E : coreT (n + 1) t = [126] := by rw [coreT, if_neg c0, if_neg c8, if_pos c9]
   rw [E]; clear E
   have c9b : (t.f0 == 9) = true := beq_iff_eq.2 c9
   clear c0 c8 c9
   go_enter Try.func54, Try.ntmps54
   go_wp2_with (first | ((with_reducible refine gate_dst (N := 1) rfl ?_); refine box_event ?hg (N := 1) ?hd (cs := #[.int .i64 t.f0, .int .i64 t.f1, .slice A t.f2.length c]) (t := 52) ?hr ?_; (case hd => rfl); (case hg => rfl); (case hr => first | (go_simp; done) | (go_simp; rfl)); intro g0 hg w0 hbox hb; have BK0 := Aside0.mk hbox; have HB := Aside0.mk hb; have GE0 := Aside0.mk (show w.heap.size ≤ g0 from Nat.le_of_eq hg.symm); clear hbox hb hg; have q0 : w0.cell? ⟨g0, 0, none⟩ = some (.int .i64 t.f0) := (blk_cell BK0.out 0).trans rfl; have q1 : w0.cell? ⟨g0, 1, none⟩ = some (.int .i64 t.f1) := (blk_cell BK0.out 1).trans rfl; have q2 : w0.cell? ⟨g0, 2, none⟩ = some (.slice A t.f2.length c) := (blk_cell BK0.out 2).trans rfl) | ((with_reducible refine gate_dst (N := 18) rfl ?_); refine Kd.R_lit (Kd.int .i64) _ 3 ?hg (N := 18) ?hd (xs := ([126] : List Int)) (inner := [.int .i64 126]) (ok := fun _ => True) (okp := fun _ => True) ?hr ?hp (fun _ hk => hk) trivial (Below.refl _ _) (Nat.le_refl _) (by simp) ?_; (case hd => rfl); (case hg => rfl); (case hr => first | (go_simp; done) | (go_simp; rfl)); (case hp => exact (Reps.one (show Kd.M (Kd.int .i64) _ _ _ 126 [.int .i64 126] from rfl) (Reps.none _ _))); intro v1 w1 ho hb hg_ hnew_; clear hg_ hnew_; have HO := Aside0.mk (Kd.R_lower ho HB.out.size); have n0_ := Aside0.mk (HB.out.trans (hb.mono HB.out.size)); try have Q2 := Aside0.mk ((hb.cell (World.block_lt_of_cell? _ _ q2)).trans q2); try have Q1 := Aside0.mk ((hb.cell (World.block_lt_of_cell? _ _ q1)).trans q1); try have Q0 := Aside0.mk ((hb.cell (World.block_lt_of_cell? _ _ q0)).trans q0); clear HB ho hb q0 q1 q2; have HB := n0_; clear n0_; have q0 := Q0.out; have q1 := Q1.out; have q2 := Q2.out; clear Q0 Q1 Q2))
   go_ret
   exact ⟨_, rfl, HO.out, HB.out⟩
  have c9b : (t.f0 == 9) = false := beq_eq_false_iff_ne.2 c9
  by_cases c10 : t.f0 = 10
  ·
   have E : coreT (n + 1) t = [125] := by rw [coreT, if_neg c0, if_neg c8, if_neg c9, if_pos c10]
   rw [E]; clear E
   have c10b : (t.f0 == 10) = true := beq_iff_eq.2 c10
   clear c0 c8 c9 c10
   go_enter Try.func54, Try.ntmps54
   go_wp2_with (first | ((with_reducible refine gate_dst (N := 1) rfl ?_); refine box_event ?hg (N := 1) ?hd (cs := #[.int .i64 t.f0, .int .i64 t.f1, .slice A t.f2.length c]) (t := 52) ?hr ?_; (case hd => rfl); (case hg => rfl); (case hr => first | (go_simp; done) | (go_simp; rfl)); intro g0 hg w0 hbox hb; have BK0 := Aside0.mk hbox; have HB := Aside0.mk hb; have GE0 := Aside0.mk (show w.heap.size ≤ g0 from Nat.le_of_eq hg.symm); clear hbox hb hg; have q0 : w0.cell? ⟨g0, 0, none⟩ = some (.int .i64 t.f0) := (blk_cell BK0.out 0).trans rfl; have q1 : w0.cell? ⟨g0, 1, none⟩ = some (.int .i64 t.f1) := (blk_cell BK0.out 1).trans rfl; have q2 : w0.cell? ⟨g0, 2, none⟩ = some (.slice A t.f2.length c) := (blk_cell BK0.out 2).trans rfl) | ((with_reducible refine gate_dst (N := 21) rfl ?_); refine Kd.R_lit (Kd.int .i64) _ 3 ?hg (N := 21) ?hd (xs := ([125] : List Int)) (inner := [.int .i64 125]) (ok := fun _ => True) (okp := fun _ => True) ?hr ?hp (fun _ hk => hk) trivial (Below.refl _ _) (Nat.le_refl _) (by simp) ?_; (case hd => rfl); (case hg => rfl); (case hr => first | (go_simp; done) | (go_simp; rfl)); (case hp => exact (Reps.one (show Kd.M (Kd.int .i64) _ _ _ 125 [.int .i64 125] from rfl) (Reps.none _ _))); intro v1 w1 ho hb hg_ hnew_; clear hg_ hnew_; have HO := Aside0.mk (Kd.R_lower ho HB.out.size); have n0_ := Aside0.mk (HB.out.trans (hb.mono HB.out.size)); try have Q2 := Aside0.mk ((hb.cell (World.block_lt_of_cell? _ _ q2)).trans q2); try have Q1 := Aside0.mk ((hb.cell (World.block_lt_of_cell? _ _ q1)).trans q1); try have Q0 := Aside0.mk ((hb.cell (World.block_lt_of_cell? _ _ q0)).trans q0); clear HB ho hb q0 q1 q2; have HB := n0_; clear n0_; have q0 := Q0.out; have q1 := Q1.out; have q2 := Q2.out; clear Q0 Q1 Q2))
   go_ret
   exact ⟨_, rfl, HO.out, HB.out⟩
  have c10b : (t.f0 == 10) = false := beq_eq_false_iff_ne.2 c10
  by_cases c12 : t.f0 = 12
  ·
   have E : coreT (n + 1) t = [127, 127] := by rw [coreT, if_neg c0, if_neg c8, if_neg c9, if_neg c10, if_pos c12]
   rw [E]; clear E
   have c12b : (t.f0 == 12) = true := beq_iff_eq.2 c12
   clear c0 c8 c9 c10 c12
   go_enter Try.func54, Try.ntmps54
   go_wp2_with (first | ((with_reducible refine gate_dst (N := 1) rfl ?_); refine box_event ?hg (N := 1) ?hd (cs := #[.int .i64 t.f0, .int .i64 t.f1, .slice A t.f2.length c]) (t := 52) ?hr ?_; (case hd => rfl); (case hg => rfl); (case hr => first | (go_simp; done) | (go_simp; rfl)); intro g0 hg w0 hbox hb; have BK0 := Aside0.mk hbox; have HB := Aside0.mk hb; have GE0 := Aside0.mk (show w.heap.size ≤ g0 from Nat.le_of_eq hg.symm); clear hbox hb hg; have q0 : w0.cell? ⟨g0, 0, none⟩ = some (.int .i64 t.f0) := (blk_cell BK0.out 0).trans rfl; have q1 : w0.cell? ⟨g0, 1, none⟩ = some (.int .i64 t.f1) := (blk_cell BK0.out 1).trans rfl; have q2 : w0.cell? ⟨g0, 2, none⟩ = some (.slice A t.f2.length c) := (blk_cell BK0.out 2).trans rfl) | ((with_reducible refine gate_dst (N := 25) rfl ?_); refine Kd.R_lit (Kd.int .i64) _ 3 ?hg (N := 25) ?hd (xs := ([127, 127] : List Int)) (inner := [.int .i64 127, .int .i64 127]) (ok := fun _ => True) (okp := fun _ => True) ?hr ?hp (fun _ hk => hk) trivial (Below.refl _ _) (Nat.le_refl _) (by simp) ?_; (case hd => rfl); (case hg => rfl); (case hr => first | (go_simp; done) | (go_simp; rfl)); (case hp => exact (Reps.one (show Kd.M (Kd.int .i64) _ _ _ 127 [.int .i64 127] from rfl) (Reps.one (show Kd.M (Kd.int .i64) _ _ _ 127 [.int .i64 127] from rfl) (Reps.none _ _)))); intro v1 w1 ho hb hg_ hnew_; clear hg_ hnew_; have HO := Aside0.mk (Kd.R_lower ho HB.out.size); have n0_ := Aside0.mk (HB.out.trans (hb.mono HB.out.size)); try have Q2 := Aside0.mk ((hb.cell (World.block_lt_of_cell? _ _ q2)).trans q2); try have Q1 := Aside0.mk ((hb.cell (World.block_lt_of_cell? _ _ q1)).trans q1); try have Q0 := Aside0.mk ((hb.cell (World.block_lt_of_cell? _ _ q0)).trans q0); clear HB ho hb q0 q1 q2; have HB := n0_; clear n0_; have q0 := Q0.out; have q1 := Q1.out; have q2 := Q2.out; clear Q0 Q1 Q2))
   go_ret
   exact ⟨_, rfl, HO.out, HB.out⟩
  have c12b : (t.f0 == 12) = false := beq_eq_false_iff_ne.2 c12
  by_cases c13 : t.f0 = 13
  ·
   have E : coreT (n + 1) t = [127, 127] := by rw [coreT, if_neg c0, if_neg c8, if_neg c9, if_neg c10, if_neg c12, if_pos c13]
   rw [E]; clear E
   have c13b : (t.f0 == 13) = true := beq_iff_eq.2 c13
   clear c0 c8 c9 c10 c12 c13
   go_enter Try.func54, Try.ntmps54
   go_wp2_with (first | ((with_reducible refine gate_dst (N := 1) rfl ?_); refine box_event ?hg (N := 1) ?hd (cs := #[.int .i64 t.f0, .int .i64 t.f1, .slice A t.f2.length c]) (t := 52) ?hr ?_; (case hd => rfl); (case hg => rfl); (case hr => first | (go_simp; done) | (go_simp; rfl)); intro g0 hg w0 hbox hb; have BK0 := Aside0.mk hbox; have HB := Aside0.mk hb; have GE0 := Aside0.mk (show w.heap.size ≤ g0 from Nat.le_of_eq hg.symm); clear hbox hb hg; have q0 : w0.cell? ⟨g0, 0, none⟩ = some (.int .i64 t.f0) := (blk_cell BK0.out 0).trans rfl; have q1 : w0.cell? ⟨g0, 1, none⟩ = some (.int .i64 t.f1) := (blk_cell BK0.out 1).trans rfl; have q2 : w0.cell? ⟨g0, 2, none⟩ = some (.slice A t.f2.length c) := (blk_cell BK0.out 2).trans rfl) | ((with_reducible refine gate_dst (N := 25) rfl ?_); refine Kd.R_lit (Kd.int .i64) _ 3 ?hg (N := 25) ?hd (xs := ([127, 127] : List Int)) (inner := [.int .i64 127, .int .i64 127]) (ok := fun _ => True) (okp := fun _ => True) ?hr ?hp (fun _ hk => hk) trivial (Below.refl _ _) (Nat.le_refl _) (by simp) ?_; (case hd => rfl); (case hg => rfl); (case hr => first | (go_simp; done) | (go_simp; rfl)); (case hp => exact (Reps.one (show Kd.M (Kd.int .i64) _ _ _ 127 [.int .i64 127] from rfl) (Reps.one (show Kd.M (Kd.int .i64) _ _ _ 127 [.int .i64 127] from rfl) (Reps.none _ _)))); intro v1 w1 ho hb hg_ hnew_; clear hg_ hnew_; have HO := Aside0.mk (Kd.R_lower ho HB.out.size); have n0_ := Aside0.mk (HB.out.trans (hb.mono HB.out.size)); try have Q2 := Aside0.mk ((hb.cell (World.block_lt_of_cell? _ _ q2)).trans q2); try have Q1 := Aside0.mk ((hb.cell (World.block_lt_of_cell? _ _ q1)).trans q1); try have Q0 := Aside0.mk ((hb.cell (World.block_lt_of_cell? _ _ q0)).trans q0); clear HB ho hb q0 q1 q2; have HB := n0_; clear n0_; have q0 := Q0.out; have q1 := Q1.out; have q2 := Q2.out; clear Q0 Q1 Q2))
   go_ret
   exact ⟨_, rfl, HO.out, HB.out⟩
  have c13b : (t.f0 == 13) = false := beq_eq_false_iff_ne.2 c13
  by_cases c14 : t.f0 = 14
  ·
   have E : coreT (n + 1) t = t.f2.foldl (fun s p => s ++ coreT n p) [] := by rw [coreT, if_neg c0, if_neg c8, if_neg c9, if_neg c10, if_neg c12, if_neg c13, if_pos c14]
   rw [E]; clear E
   have c14b : (t.f0 == 14) = true := beq_iff_eq.2 c14
   clear c0 c8 c9 c10 c12 c13 c14
   go_enter Try.func54, Try.ntmps54
   go_wp2_with (first | ((with_reducible refine gate_dst (N := 1) rfl ?_); refine box_event ?hg (N := 1) ?hd (cs := #[.int .i64 t.f0, .int .i64 t.f1, .slice A t.f2.length c]) (t := 52) ?hr ?_; (case hd => rfl); (case hg => rfl); (case hr => first | (go_simp; done) | (go_simp; rfl)); intro g0 hg w0 hbox hb; have BK0 := Aside0.mk hbox; have HB := Aside0.mk hb; have GE0 := Aside0.mk (show w.heap.size ≤ g0 from Nat.le_of_eq hg.symm); clear hbox hb hg; have q0 : w0.cell? ⟨g0, 0, none⟩ = some (.int .i64 t.f0) := (blk_cell BK0.out 0).trans rfl; have q1 : w0.cell? ⟨g0, 1, none⟩ = some (.int .i64 t.f1) := (blk_cell BK0.out 1).trans rfl; have q2 : w0.cell? ⟨g0, 2, none⟩ = some (.slice A t.f2.length c) := (blk_cell BK0.out 2).trans rfl))
   go_loopg [3, 31] t.f2.length (fun kq v3 v31 w' => ∃ j : Nat, j + kq = t.f2.length ∧ v31 = .int .i64 j ∧ Aside0 (Kd.R (Kd.int .i64) 3 w' w.heap.size (fun _ => True) v3 ((t.f2.take j).foldl (fun s p => s ++ coreT n p) [])) ∧ Aside0 (Below w.heap.size w w'))
   case atStart => exact ⟨0, by omega, rfl, ⟨Kd.R_nil _ _ _ _ _⟩, ⟨HB.out⟩⟩
   case round =>
    clear q0 q1 q2 BK0 GE0 HB
    obtain ⟨j, hj, rfl, HO, HB⟩ := hrel
    have hl8 := HF8.out.1
    by_cases hlt : j < t.f2.length
    ·
     obtain ⟨ad, A2, c2, hA, hx0, hx1, hx2, hl2, hi2⟩ := at_T52 (Kd.C_below HC.out HB.out) (j : Int) (by omega) (by omega)
     subst hA
     have hrd : rd_T52 t.f2 (j : Int) = t.f2[j] := by unfold rd_T52; rw [Int.toNat_natCast, List.getD_eq_getElem?_getD, List.getElem?_eq_getElem hlt]; rfl
     rw [hrd] at hx0 hx1 hx2 hl2 hi2
     clear hrd
     rw [Int.toNat_natCast] at hx0 hx1 hx2
     have HFX := Aside0.mk (HF8.out.2 _ (List.getElem_mem hlt))
     have HX := Aside0.mk hi2
     have HCX := Aside0.mk hl2
     have HFD := Aside0.mk (fold_take (fun s p => s ++ coreT n p) [] t.f2 j hlt)
     have HL := Aside0.mk (cfoldl_cat_len (coreT n) (2 * 8 ^ n) (t.f2.take j) [] (fun y hy => core_len n y (HF8.out.2 y (List.mem_of_mem_take hy))))
     have HX2 := Aside0.mk (core_len n t.f2[j] HFX.out)
     clear hi2 hl2
     generalize t.f2[j] = x at hx0 hx1 hx2 HFX HX HCX HFD HX2
     generalize (t.f2.take j).foldl (fun s p => s ++ coreT n p) [] = acc at HFD HO HL
     have HN : (acc.length + (coreT n x).length) * 8 ≤ 140737488355328 := by
      have a1 := HL.out
      have a2 := HX2.out
      have a3 : (t.f2.take j).length * (2 * 8 ^ n) ≤ 8 * (2 * 8 ^ n) := Nat.mul_le_mul_right _ (by rw [List.length_take]; have := HF8.out.1; omega)
      have a4 : 8 ^ n ≤ 8 ^ 11 := Nat.pow_le_pow_right (by decide) (by omega)
      rw [List.length_nil] at a1
      omega
     clear HL HX2
     go_wp2_with (first
      | ((with_reducible refine gate_dst (N := 5) rfl ?_); refine box_event ?hg (N := 5) ?hd (cs := #[.int .i64 0, .int .i64 0, .slice none 0 0]) (t := 52) ?hr ?_; (case hd => rfl); (case hg => rfl); (case hr => first | (go_simp; done) | (go_simp; rfl)); intro gb hg wb hbox hb; have BK := Aside0.mk hbox; have HBb := Aside0.mk hb; have GE := Aside0.mk (show wr.heap.size ≤ gb from Nat.le_of_eq hg.symm); clear hbox hb hg; have z0 : wb.cell? ⟨gb, 0, none⟩ = some (.int .i64 0) := (blk_cell BK.out 0).trans rfl; have z1 : wb.cell? ⟨gb, 1, none⟩ = some (.int .i64 0) := (blk_cell BK.out 1).trans rfl; have z2 : wb.cell? ⟨gb, 2, none⟩ = some (.slice none 0 0) := (blk_cell BK.out 2).trans rfl; have y0 := blk_frozen BK.out 0; have y1 := blk_frozen BK.out 1; have y2 := blk_frozen BK.out 2)
      | ((with_reducible refine gate_store (t := 52) (p := 5) rfl ?_); refine store_event (t := 52) (p := 5) (v := ?vo_a) (w1 := (((wb.setCell ⟨gb, 0, none⟩ (.int .i64 x.f0)).setCell ⟨gb, 1, none⟩ (.int .i64 x.f1)).setCell ⟨gb, 2, none⟩ (.slice A2 x.f2.length c2))) ?hg ?ho ?hn ?hr ?_; (case ho => rfl); (case hg => rfl); (case hn => rfl); (case hr => first | (go_simp; done) | (go_simp; rfl)); intro wc hw; have HW := Aside0.mk (show Below wr.heap.size wr wc from by rw [hw]; exact below_set (below_set (below_set HBb.out GE.out) GE.out) GE.out); have BK2 : Aside0 (wc.heap[gb]? = some (.cells #[.int .i64 x.f0, .int .i64 x.f1, .slice A2 x.f2.length c2] 52 (0, 0))) := ⟨by rw [hw]; refine blk_put (cs := #[.int .i64 x.f0, .int .i64 x.f1, .slice none 0 0]) ?_ 2 _ rfl; refine blk_put (cs := #[.int .i64 x.f0, .int .i64 0, .slice none 0 0]) ?_ 1 _ rfl; refine blk_put (cs := #[.int .i64 0, .int .i64 0, .slice none 0 0]) ?_ 0 _ rfl; exact BK.out⟩; clear hw z0 z1 z2 y0 y1 y2 BK HBb; have z0 : wc.cell? ⟨gb, 0, none⟩ = some (.int .i64 x.f0) := (blk_cell BK2.out 0).trans rfl; have z1 : wc.cell? ⟨gb, 1, none⟩ = some (.int .i64 x.f1) := (blk_cell BK2.out 1).trans rfl; have z2 : wc.cell? ⟨gb, 2, none⟩ = some (.slice A2 x.f2.length c2) := (blk_cell BK2.out 2).trans rfl)
      | (go_at_call 54; refine (ih (by omega) x A2 c2 _ HFX.out (Kd.C_below HX.out HW.out) HCX.out).mono ?_; rintro e w' ⟨v0, rfl, ho, hb⟩; have n0_ := Aside0.mk (Kd.R_below (Kd.R_below HO.out HW.out) hb); have n1_ := Aside0.mk ((HB.out.trans (HW.out.mono HB.out.size)).trans (hb.mono (Nat.le_trans HB.out.size HW.out.size))); clear HO HB HW BK2 z0 z1 z2; have HO := n0_; have HB := n1_; clear n0_ n1_ hb; obtain ⟨A0, c0, e0⟩ := Kd.R_slice ho; subst e0; have HV := Aside0.mk ho; clear ho)
      | ((with_reducible refine gate_builtin (b := .append) (xs := #[.tmp 35, .tmp 37]) rfl ?_); at_builtin; refine Kd.R_append_rows (Kd.int .i64) (w0 := w) w.heap.size rfl (.tmp 35) (.tmp 37) 38 3 (.int .i64 0) 8 rfl Try.underlying38 info3 rfl (by decide) (by omega) u3 acc (coreT n x) _ _ _ (fun _ => True) (fun _ => False) rfl rfl ?aO ?aR (fun _ _ h => h) (fun _ h => h.elim) ?aF ?aB ?aS ?aL ?_; (case aR => exact (Kd.R_reads' HV.out).2.2); (case aB => exact HB.out); (case aF => exact (fun k_ hk => trivial)); (case aO => exact HO.out); (case aS => exact HB.out.size); (case aL => exact HN); intro v2 w2 ho hb hg hat; clear hg hat; rw [← HFD.out] at ho; have n0_ := Aside0.mk hb; have n1_ := Aside0.mk ho; clear HO HB HV hb ho; have HO := n1_; have HB := n0_; clear n0_ n1_))
     go_roundg (t.f2.length - (j + 1))
     case measure => omega
     case rel => exact ⟨j + 1, by omega, by go_num, ⟨HO.out⟩, ⟨HB.out⟩⟩
    ·
     obtain rfl : j = t.f2.length := by omega
     rw [List.take_length] at HO
     go_wp2
     go_ret
     exact ⟨_, rfl, HO.out, HB.out⟩
  have c14b : (t.f0 == 14) = false := beq_eq_false_iff_ne.2 c14
  by_cases hch : (t.f0 == 15 || t.f0 == 17 || t.f0 == 18) = true
  ·
   have E : coreT (n + 1) t = (coreC t).foldl (fun s p => cmergeA s (coreT n p)) [127] := by rw [coreT, if_neg c0, if_neg c8, if_neg c9, if_neg c10, if_neg c12, if_neg c13, if_neg c14, if_pos hch]
   rw [E]; clear E
   have HCS := Aside0.mk (show spec_l11Cases.f t.f0 t.f1 t.f2 = some (coreC t) from by
    unfold spec_l11Cases.f coreC
    by_cases e : t.f0 = 17
    ·
     rw [if_pos e, if_pos e, Option.bind_some, if_pos (by have := HF8.out.1; simp; omega)]; rfl
    ·
     rw [if_neg e, if_neg e])
   have HCF := Aside0.mk (show ∀ x ∈ coreC t, (coreT n x).length + 1 ≤ 2 * 8 ^ (n + 1) ∧ (fewB n x = true ∨ x = coreE) from by
    have hp : 1 ≤ 8 ^ n := Nat.one_le_pow _ _ (by decide)
    have hk : ∀ y ∈ t.f2, (coreT n y).length + 1 ≤ 2 * 8 ^ (n + 1) ∧ (fewB n y = true ∨ y = coreE) := fun y hy => ⟨by have := core_len n y (HF8.out.2 y hy); rw [Nat.pow_succ]; omega, .inl (HF8.out.2 y hy)⟩
    intro x hx
    unfold coreC at hx
    split at hx
    ·
     rcases List.mem_cons.1 hx with rfl | hx
     ·
      exact ⟨by rw [coreE_nil, Nat.pow_succ]; simp; omega, .inr rfl⟩
     ·
      exact hk x hx
    ·
     exact hk x hx)
   have HCL := Aside0.mk (show (coreC t).length ≤ 9 from by unfold coreC; have := HF8.out.1; split <;> simp <;> omega)
   have HEQ : (t.f0 == 15 || t.f0 == 17 || t.f0 == 18) = true := hch
   clear c0 c8 c9 c10 c12 c13 c14 hch
   rcases (show (t.f0 == 15) = true ∨ ((t.f0 == 15) = false ∧ (t.f0 == 17) = true) ∨ ((t.f0 == 15) = false ∧ (t.f0 == 17) = false ∧ (t.f0 == 18) = true) from by
    cases e1 : (t.f0 == 15) <;> cases e2 : (t.f0 == 17) <;> cases e3 : (t.f0 == 18) <;> simp_all) with k1 | ⟨k1, k2⟩ | ⟨k1, k2, k3⟩
   all_goals
    clear HEQ
    go_enter Try.func54, Try.ntmps54
    go_wp2_with (first
     | ((with_reducible refine gate_dst (N := 1) rfl ?_); refine box_event ?hg (N := 1) ?hd (cs := #[.int .i64 t.f0, .int .i64 t.f1, .slice A t.f2.length c]) (t := 52) ?hr ?_; (case hd => rfl); (case hg => rfl); (case hr => first | (go_simp; done) | (go_simp; rfl)); intro g0 hg w0 hbox hb; have BK0 := Aside0.mk hbox; have HB := Aside0.mk hb; have GE0 := Aside0.mk (show w.heap.size ≤ g0 from Nat.le_of_eq hg.symm); clear hbox hb hg; have q0 : w0.cell? ⟨g0, 0, none⟩ = some (.int .i64 t.f0) := (blk_cell BK0.out 0).trans rfl; have q1 : w0.cell? ⟨g0, 1, none⟩ = some (.int .i64 t.f1) := (blk_cell BK0.out 1).trans rfl; have q2 : w0.cell? ⟨g0, 2, none⟩ = some (.slice A t.f2.length c) := (blk_cell BK0.out 2).trans rfl)
     | ((with_reducible refine gate_dst (N := 45) rfl ?_); refine Kd.R_lit (Kd.int .i64) _ 3 ?hg (N := 45) ?hd (xs := ([127] : List Int)) (inner := [.int .i64 127]) (ok := fun _ => True) (okp := fun _ => True) ?hr ?hp (fun _ hk => hk) trivial (Below.refl _ _) (Nat.le_refl _) (by simp) ?_; (case hd => rfl); (case hg => rfl); (case hr => first | (go_simp; done) | (go_simp; rfl)); (case hp => exact (Reps.one (show Kd.M (Kd.int .i64) _ _ _ 127 [.int .i64 127] from rfl) (Reps.none _ _))); intro v1 w1 ho hb hg_ hnew_; clear hg_ hnew_; have HO := Aside0.mk (Kd.R_lower ho HB.out.size); have n0_ := Aside0.mk (HB.out.trans (hb.mono HB.out.size)); try have Q2 := Aside0.mk ((hb.cell (World.block_lt_of_cell? _ _ q2)).trans q2); try have Q1 := Aside0.mk ((hb.cell (World.block_lt_of_cell? _ _ q1)).trans q1); try have Q0 := Aside0.mk ((hb.cell (World.block_lt_of_cell? _ _ q0)).trans q0); clear HB ho hb q0 q1 q2; have HB := n0_; clear n0_; have q0 := Q0.out; have q1 := Q1.out; have q2 := Q2.out; clear Q0 Q1 Q2)
     | (go_at_call 68; refine (spec_l11Cases.calls t.f0 t.f1 (fun k_ => k_ < w.heap.size) A c t.f2 (coreC t) _ (Kd.V_mk hc (Kd.F_below (Kd.C_F k52_heap HC.out) HB.out)) HCS.out).mono ?_; rintro e w' ⟨v0, rfl, ho, hb⟩; have n0_ := Aside0.mk (Kd.R_below HO.out hb); have n1_ := Aside0.mk (Kd.V_mono (ok' := fun k_ => some k_ ≠ v1.ownBlock) ho (fun k_ hk_ => Or.elim hk_ (fun hs_ => fun e_ => Nat.not_le.2 hs_ (Kd.R_base HO.out k_ e_.symm)) (fun hn_ => Kd.fresh' (Kd.R_lt HO.out) k_ hn_))); have n2_ := Aside0.mk (HB.out.trans (hb.mono HB.out.size)); clear HO HB q0 q1 q2 BK0 GE0; have HO := n0_; have HV := n1_; have HB := n2_; clear n0_ n1_ n2_ ho hb; obtain ⟨A1, c1, e1⟩ := Kd.V_slice HV.out; subst e1))
    go_loopg [6, 49] (coreC t).length (fun kq v6 v49 w' => ∃ j : Nat, j + kq = (coreC t).length ∧ v49 = .int .i64 j ∧ Aside0 (Kd.R (Kd.int .i64) 3 w' w.heap.size (fun _ => True) v6 (((coreC t).take j).foldl (fun s p => cmergeA s (coreT n p)) [127])) ∧ Aside0 (Kd.V k52 52 w' w.heap.size (fun k_ => some k_ ≠ v6.ownBlock) (.slice A1 (coreC t).length c1) (coreC t)) ∧ Aside0 (Below w.heap.size w w'))
    case atStart => exact ⟨0, by omega, rfl, ⟨HO.out⟩, ⟨HV.out⟩, ⟨HB.out⟩⟩
    case round =>
     clear HO HV HB
     obtain ⟨j, hj, rfl, HO, HV, HB⟩ := hrel
     have hl9 := HCL.out
     by_cases hlt : j < (coreC t).length
     ·
      obtain ⟨ad, A2, c2, hA, hx0, hx1, hx2, hl2, hi2⟩ := at_T52 (Kd.V_reads' HV.out).2.2 (j : Int) (by omega) (by omega)
      subst hA
      have hrd : rd_T52 (coreC t) (j : Int) = (coreC t)[j] := by unfold rd_T52; rw [Int.toNat_natCast, List.getD_eq_getElem?_getD, List.getElem?_eq_getElem hlt]; rfl
      rw [hrd] at hx0 hx1 hx2 hl2 hi2
      clear hrd
      rw [Int.toNat_natCast] at hx0 hx1 hx2
      have hmem := List.getElem_mem hlt
      have HX := Aside0.mk hi2
      have HCX := Aside0.mk hl2
      have HFD := Aside0.mk (fold_take (fun s p => cmergeA s (coreT n p)) [127] (coreC t) j hlt)
      have HN := cfoldl_merge_len (coreT n) (2 * 8 ^ (n + 1)) ((coreC t).take j) [127] (fun y hy => (HCF.out y (List.mem_of_mem_take hy)).1) (by have : 1 ≤ 8 ^ (n + 1) := Nat.one_le_pow _ _ (by decide); simp; omega)
      have HM := (HCF.out _ hmem).1
      have HFX := Aside0.mk (HCF.out _ hmem).2
      have a4 : 8 ^ (n + 1) ≤ 8 ^ 12 := Nat.pow_le_pow_right (by decide) (by omega)
      clear hi2 hl2 hmem
      generalize (coreC t)[j] = x at hx0 hx1 hx2 HFX HX HCX HFD HM
      generalize ((coreC t).take j).foldl (fun s p => cmergeA s (coreT n p)) [127] = acc at HFD HO HN
      generalize hrow : coreT n x = row at HFD HM
      have HRO := Aside0.mk hrow
      clear hrow
      replace HN : acc.length ≤ 2000000000000 := by omega
      replace HM : row.length ≤ 2000000000000 := by omega
      clear a4
      have HCALL : Aside0 (∀ W : World, Kd.C k52 W A2 x.f2.length x.f2 → Calls Try.prog 54 #[.agg #[.int .i64 x.f0, .int .i64 x.f1, .slice A2 x.f2.length c2]] W fun e w' => ∃ v0 : Value, e = .returned v0 ∧ Kd.R (Kd.int .i64) 3 w' W.heap.size (fun _ => True) v0 row ∧ Below W.heap.size W w') := ⟨fun W hW => by
       rcases HFX.out with h | h
       ·
        have := ih (by omega) x A2 c2 W h hW HCX.out
        rw [HRO.out] at this
        exact this
       ·
        have := core_nil A2 c2 W x h
        rw [← HRO.out, h, coreE_nil]
        rw [h] at this
        exact this⟩
      go_wp2_with (first
       | ((with_reducible refine gate_dst (N := 8) rfl ?_); refine box_event ?hg (N := 8) ?hd (cs := #[.int .i64 0, .int .i64 0, .slice none 0 0]) (t := 52) ?hr ?_; (case hd => rfl); (case hg => rfl); (case hr => first | (go_simp; done) | (go_simp; rfl)); intro gb hg wb hbox hb; have BK := Aside0.mk hbox; have HBb := Aside0.mk hb; have GE := Aside0.mk (show wr.heap.size ≤ gb from Nat.le_of_eq hg.symm); clear hbox hb hg; have z0 : wb.cell? ⟨gb, 0, none⟩ = some (.int .i64 0) := (blk_cell BK.out 0).trans rfl; have z1 : wb.cell? ⟨gb, 1, none⟩ = some (.int .i64 0) := (blk_cell BK.out 1).trans rfl; have z2 : wb.cell? ⟨gb, 2, none⟩ = some (.slice none 0 0) := (blk_cell BK.out 2).trans rfl; have y0 := blk_frozen BK.out 0; have y1 := blk_frozen BK.out 1; have y2 := blk_frozen BK.out 2)
       | ((with_reducible refine gate_store (t := 52) (p := 8) rfl ?_); refine store_event (t := 52) (p := 8) (v := ?vo_b) (w1 := (((wb.setCell ⟨gb, 0, none⟩ (.int .i64 x.f0)).setCell ⟨gb, 1, none⟩ (.int .i64 x.f1)).setCell ⟨gb, 2, none⟩ (.slice A2 x.f2.length c2))) ?hg ?ho ?hn ?hr ?_; (case ho => rfl); (case hg => rfl); (case hn => rfl); (case hr => first | (go_simp; done) | (go_simp; rfl)); intro wc hw; have HW := Aside0.mk (show Below wr.heap.size wr wc from by rw [hw]; exact below_set (below_set (below_set HBb.out GE.out) GE.out) GE.out); have BK2 : Aside0 (wc.heap[gb]? = some (.cells #[.int .i64 x.f0, .int .i64 x.f1, .slice A2 x.f2.length c2] 52 (0, 0))) := ⟨by rw [hw]; refine blk_put (cs := #[.int .i64 x.f0, .int .i64 x.f1, .slice none 0 0]) ?_ 2 _ rfl; refine blk_put (cs := #[.int .i64 x.f0, .int .i64 0, .slice none 0 0]) ?_ 1 _ rfl; refine blk_put (cs := #[.int .i64 0, .int .i64 0, .slice none 0 0]) ?_ 0 _ rfl; exact BK.out⟩; clear hw z0 z1 z2 y0 y1 y2 BK HBb; have z0 : wc.cell? ⟨gb, 0, none⟩ = some (.int .i64 x.f0) := (blk_cell BK2.out 0).trans rfl; have z1 : wc.cell? ⟨gb, 1, none⟩ = some (.int .i64 x.f1) := (blk_cell BK2.out 1).trans rfl; have z2 : wc.cell? ⟨gb, 2, none⟩ = some (.slice A2 x.f2.length c2) := (blk_cell BK2.out 2).trans rfl)
       | (go_at_call 54; refine (HCALL.out _ (Kd.C_below HX.out HW.out)).mono ?_; rintro e w' ⟨v0, rfl, ho, hb⟩; have m0_ := HW.out.trans (hb.mono HW.out.size); have n0_ := Aside0.mk (Kd.R_elder' (Kd.R_below HO.out HW.out) (Kd.R_base ho) hb); have n1_ := Aside0.mk (HB.out.trans (m0_.mono HB.out.size)); have n2_ := Aside0.mk (Kd.R_lower (Kd.R_new' ho (Kd.R_lt (Kd.R_below HO.out HW.out))) (Nat.le_trans HB.out.size HW.out.size)); have n3_ := Aside0.mk (Kd.V_elder' (Kd.V_below HV.out HW.out) (Kd.R_base ho) hb); clear HO HB HV HW BK2 GE z0 z1 z2 m0_; have HO := n0_; have HB := n1_; have HR := n2_; have HV := n3_; clear n0_ n1_ n2_ n3_ hb ho; obtain ⟨A0, c0, e0⟩ := Kd.R_slice HR.out; subst e0))
      go_loopg [6, 56] row.length (fun kq v6 v56 w' => ∃ i : Nat, i + kq = row.length ∧ v56 = .int .i64 i ∧ Aside0 (Kd.R (Kd.int .i64) 3 w' w.heap.size (fun k => some k ≠ (Value.slice A0 row.length c0).ownBlock) v6 (cmergeN acc row i)) ∧ Aside0 (Kd.R (Kd.int .i64) 3 w' w.heap.size (fun k => some k ≠ v6.ownBlock) (.slice A0 row.length c0) row) ∧ Aside0 (Kd.V k52 52 w' w.heap.size (fun k => some k ≠ v6.ownBlock) (.slice (some ad) (coreC t).length c1) (coreC t)) ∧ Aside0 (Below w.heap.size w w'))
      case atStart => exact ⟨0, by omega, rfl, ⟨Kd.R_mono HO.out (fun _ hk => hk.2)⟩, ⟨Kd.R_mono HR.out (fun _ hk => hk.2)⟩, ⟨Kd.V_mono HV.out (fun _ hk => hk.1)⟩, ⟨HB.out⟩⟩
      case round =>
       clear HO HR HV HB
       rename_i gkO _ _ _ _
       obtain ⟨i, hi, rfl, HO, HR, HV, HB⟩ := hrel
       by_cases hil : i < row.length
       ·
        obtain ⟨adr, er, hx⟩ := Kd.at_int (Kd.R_reads' HR.out).2.2 (i : Int) (by omega) (by omega)
        subst er
        rw [Int.toNat_natCast] at hx
        have HNI := Aside0.mk (cmergeN_len acc row 4000000000000 (by omega) i (by omega))
        have HE := Aside0.mk (show cmergeN acc row (i + 1) = cmergeI (cmergeN acc row i) i (rd row (i : Int)) from rfl)
        generalize cmergeN acc row i = cur at HO HNI HE
        obtain ⟨Ao, co, eo⟩ := Kd.R_slice HO.out
        subst eo
        have hib : i ≤ 2000000000000 := by omega
        by_cases hs : i + 1 < cur.length
        ·
         have hsb : decide ((i : Int) + 1 < (cur.length : Int)) = true := decide_eq_true (by omega)
         have HE2 := Aside0.mk (show cmergeN acc row (i + 1) = cur.set (i + 1) (cjoin (rd cur ((i + 1 : Nat) : Int)) (rd row (i : Int))) by rw [HE.out, cmergeI, if_pos hs])
         obtain ⟨g, cap, e1, gb, gl, cl, HG⟩ := Kd.R_form HO.out (by omega)
         injection e1 with ea en ec
         subst ea; subst ec
         have GB := Aside0.mk gb
         clear gb gl HG en cl
         obtain ⟨hy, hf⟩ := Kd.R_celln 0 HO.out ((i + 1 : Nat) : Int) (by omega) (by omega)
         have HP := Aside0.mk (Kd.R_putg HO.out ((i + 1 : Nat) : Int) (cjoin (rd cur ((i + 1 : Nat) : Int)) (rd row (i : Int))))
         rw [Int.toNat_natCast] at hy hf HP
         replace HP := Aside0.mk (show _ ∧ _ from by have := HP.out; rw [← HE2.out] at this; exact this)
         have hrd : rdOf 0 cur ((i + 1 : Nat) : Int) = rd cur ((i + 1 : Nat) : Int) := rfl
         rw [hrd] at hy
         clear hrd
         generalize rd cur ((i + 1 : Nat) : Int) = xx at hx hy HP
         generalize rd row (i : Int) = yy at hx hy HP
         have hsn : i + 1 < cur.length := hs
         clear hs HE HNI
         go_wp2_with (first
          | (go_at_call 72; refine (cjoin_any xx yy _).mono ?_; rintro e w' ⟨rfl, rfl⟩)
          | ((with_reducible refine gate_store (t := 3) (p := 76) rfl ?_); refine store_event (t := 3) (p := 76) (v := ?vo_c) (w1 := (wr.setCell ⟨g, i + 1, none⟩ (.int .i64 (cjoin xx yy)))) ?hg ?ho ?hn ?hr ?_; (case ho => rfl); (case hg => rfl); (case hn => rfl); (case hr => first | (go_simp; done) | (go_simp; rfl)); intro w2 hw; have n0_ := Aside0.mk (show Kd.R (Kd.int .i64) 3 w2 w.heap.size _ _ _ from by rw [hw]; exact HP.out.1); have n1_ := Aside0.mk (show wr.grownBy w2 (some g) from by rw [hw]; exact HP.out.2); have n2_ := Aside0.mk (Kd.R_after (ok := fun _ => True) (v := .slice (some ⟨g, 0, none⟩) cur.length co) (v1 := .slice (some ⟨g, 0, none⟩) cur.length co) (Kd.R_mono HR.out (fun _ hk => ⟨trivial, hk⟩)) n1_.out (.inl rfl)); have n4_ := Aside0.mk (Kd.V_afterv (ok := fun _ => True) (v := .slice (some ⟨g, 0, none⟩) cur.length co) (v1 := .slice (some ⟨g, 0, none⟩) cur.length co) (Kd.V_mono HV.out (fun _ hk => ⟨trivial, hk⟩)) n1_.out (.inl rfl)); have n3_ := Aside0.mk (show Below w.heap.size w w2 from by rw [hw]; exact below_set HB.out GB.out); clear HO HR HV HB HP hw; have HO := n0_; have HR := n2_; have HV := n4_; have HB := n3_; clear n0_ n1_ n2_ n3_ n4_))
         go_roundg (row.length - (i + 1))
         case measure => omega
         case rel => exact ⟨i + 1, by omega, by go_num, ⟨HO.out⟩, ⟨Kd.R_mono HR.out (fun _ hk => hk.2)⟩, ⟨Kd.V_mono HV.out (fun _ hk => hk.2)⟩, ⟨HB.out⟩⟩
        ·
         have hsb : decide ((i : Int) + 1 < (cur.length : Int)) = false := decide_eq_false (by omega)
         have HE2 := Aside0.mk (show cmergeN acc row (i + 1) = cur ++ [rd row (i : Int)] by rw [HE.out, cmergeI, if_neg hs])
         generalize rd row (i : Int) = xx at hx HE2
         have HNL : (cur.length + 1) * 8 ≤ 140737488355328 := by have := HNI.out; omega
         clear hs HE HNI
         go_wp2_with (first | ((with_reducible refine gate_builtin (b := .append) (xs := #[.tmp 77, .tmp 79]) rfl ?_); at_builtin; refine Kd.R_append (Kd.int .i64) (w0 := w) w.heap.size rfl (.tmp 77) (.tmp 79) 38 3 (.int .i64 0) 8 rfl Try.underlying38 info3 rfl (by decide) (by omega) (.slice Ao cur.length co) cur xx [.int .i64 xx] (fun k => some k ≠ (Value.slice (some adr) row.length c0).ownBlock) (fun _ => False) rfl rfl ?aP (fun _ hk => hk.elim) ?aF ?aO ?aB ?aS ?aL ?_; (case aP => exact rfl); (case aB => exact HB.out); (case aF => exact (fun k_ hk => Kd.fresh' (Kd.R_lt HR.out) k_ hk)); (case aO => exact HO.out); (case aS => exact HB.out.size); (case aL => exact HNL); intro v2 w2 ho hb hg hat; rw [← HE2.out] at ho; have n0_ := Aside0.mk (Kd.R_after (ok := fun _ => True) (Kd.R_mono HR.out (fun _ hk => ⟨trivial, hk⟩)) hg hat); have n4_ := Aside0.mk (Kd.V_afterv (ok := fun _ => True) (Kd.V_mono HV.out (fun _ hk => ⟨trivial, hk⟩)) hg hat); have n1_ := Aside0.mk hb; have n2_ := Aside0.mk ho; clear HR HB HO HV; have HR := n0_; have HB := n1_; have HO := n2_; have HV := n4_; clear n0_ n1_ n2_ n4_ hb ho hg hat))
         go_roundg (row.length - (i + 1))
         case measure => omega
         case rel => exact ⟨i + 1, by omega, by go_num, ⟨HO.out⟩, ⟨Kd.R_mono HR.out (fun _ hk => hk.2)⟩, ⟨Kd.V_mono HV.out (fun _ hk => hk.2)⟩, ⟨HB.out⟩⟩
       ·
        obtain rfl : i = row.length := by omega
        have HO2 := Aside0.mk (show Kd.R (Kd.int .i64) 3 _ w.heap.size (fun _ => True) _ (cmergeA acc row) from Kd.R_mono HO.out (fun _ _ => trivial))
        rw [← HFD.out] at HO2
        clear HO HR
        go_wp2
        go_roundg ((coreC t).length - (j + 1))
        case measure => omega
        case rel => exact ⟨j + 1, by omega, by go_num, ⟨HO2.out⟩, ⟨HV.out⟩, ⟨HB.out⟩⟩
     ·
      obtain rfl : j = (coreC t).length := by omega
      rw [List.take_length] at HO
      go_wp2
      go_ret
      exact ⟨_, rfl, HO.out, HB.out⟩
  have E : coreT (n + 1) t = [127] := by rw [coreT, if_neg c0, if_neg c8, if_neg c9, if_neg c10, if_neg c12, if_neg c13, if_neg c14, if_neg hch]
  rw [E]; clear E
  have k1 : (t.f0 == 15) = false := by cases e1 : (t.f0 == 15) <;> simp_all
  have k2 : (t.f0 == 17) = false := by cases e1 : (t.f0 == 17) <;> simp_all
  have k3 : (t.f0 == 18) = false := by cases e1 : (t.f0 == 18) <;> simp_all
  clear c0 c8 c9 c10 c12 c13 c14 hch
  go_enter Try.func54, Try.ntmps54
  go_wp2_with (first | ((with_reducible refine gate_dst (N := 1) rfl ?_); refine box_event ?hg (N := 1) ?hd (cs := #[.int .i64 t.f0, .int .i64 t.f1, .slice A t.f2.length c]) (t := 52) ?hr ?_; (case hd => rfl); (case hg => rfl); (case hr => first | (go_simp; done) | (go_simp; rfl)); intro g0 hg w0 hbox hb; have BK0 := Aside0.mk hbox; have HB := Aside0.mk hb; have GE0 := Aside0.mk (show w.heap.size ≤ g0 from Nat.le_of_eq hg.symm); clear hbox hb hg; have q0 : w0.cell? ⟨g0, 0, none⟩ = some (.int .i64 t.f0) := (blk_cell BK0.out 0).trans rfl; have q1 : w0.cell? ⟨g0, 1, none⟩ = some (.int .i64 t.f1) := (blk_cell BK0.out 1).trans rfl; have q2 : w0.cell? ⟨g0, 2, none⟩ = some (.slice A t.f2.length c) := (blk_cell BK0.out 2).trans rfl) | ((with_reducible refine gate_dst (N := 84) rfl ?_); refine Kd.R_lit (Kd.int .i64) _ 3 ?hg (N := 84) ?hd (xs := ([127] : List Int)) (inner := [.int .i64 127]) (ok := fun _ => True) (okp := fun _ => True) ?hr ?hp (fun _ hk => hk) trivial (Below.refl _ _) (Nat.le_refl _) (by simp) ?_; (case hd => rfl); (case hg => rfl); (case hr => first | (go_simp; done) | (go_simp; rfl)); (case hp => exact (Reps.one (show Kd.M (Kd.int .i64) _ _ _ 127 [.int .i64 127] from rfl) (Reps.none _ _))); intro v1 w1 ho hb hg_ hnew_; clear hg_ hnew_; have HO := Aside0.mk (Kd.R_lower ho HB.out.size); have n0_ := Aside0.mk (HB.out.trans (hb.mono HB.out.size)); try have Q2 := Aside0.mk ((hb.cell (World.block_lt_of_cell? _ _ q2)).trans q2); try have Q1 := Aside0.mk ((hb.cell (World.block_lt_of_cell? _ _ q1)).trans q1); try have Q0 := Aside0.mk ((hb.cell (World.block_lt_of_cell? _ _ q0)).trans q0); clear HB ho hb q0 q1 q2; have HB := n0_; clear n0_; have q0 := Q0.out; have q1 := Q1.out; have q2 := Q2.out; clear Q0 Q1 Q2))
  go_ret
  exact ⟨_, rfl, HO.out, HB.out⟩

def spec_l11Core.f (a0_0 : Int) (a0_1 : Int) (l0_2 : List S52) : Option (List Int) := if fewB 9 ⟨a0_0, a0_1, l0_2⟩ = true then some (coreT 9 ⟨a0_0, a0_1, l0_2⟩) else none
theorem spec_l11Core.calls (a0_0 : Int) (a0_1 : Int) (A0_2 : Option Addr) (c0_2 : Nat) (l0_2 : List (S52)) (r : List Int) (w : World) (hr0_2 : Kd.C k52 w A0_2 l0_2.length l0_2) (hc0_2 : l0_2.length ≤ c0_2) (h : spec_l11Core.f a0_0 a0_1 l0_2 = some r) :
  Calls Try.prog 54 #[.agg #[.int .i64 a0_0, .int .i64 a0_1, .slice A0_2 l0_2.length c0_2]] w fun e w' => ∃ v0_ : Value, e = .returned (v0_) ∧ Kd.R (Kd.int .i64) 3 w' w.heap.size (fun _ => True) v0_ r ∧ Below w.heap.size w w' := by
 unfold spec_l11Core.f at h
 by_cases c : fewB 9 ⟨a0_0, a0_1, l0_2⟩ = true
 ·
  rw [if_pos c] at h
  obtain rfl := Option.some.inj h
  exact core_any 9 (by decide) ⟨a0_0, a0_1, l0_2⟩ A0_2 c0_2 w c hr0_2 hc0_2
 ·
  rw [if_neg c] at h; cases h


end Go.Proofs.Ytlgegdgilkaldaa.Q

namespace Go.Proofs.Ytlgegdgilkaldaa.Q
open Go.RowKit Go.Proofs.YtlgegdgilkaldaaW.PrintWords Go.Proofs.YtlgegdgilkaldaaW.PrintLast Go.Proofs.YtlgegdgilkaldaaW.PrintMore
attribute [local go_sem] max2_int min2_int max_two min_two max_three min_three max_four min_four   -- for this text's walks alone
set_option linter.unusedVariables false
set_option linter.unusedSimpArgs false


/-! ### impl_shape_flat: function 45 (walked by hand) -/

/-! Core types. -/
def joinT (a b : Int) : Int := if a = b then a else if a = 126 then 126 else if b = 126 then 126 else 127
def mergeI (s : List Int) (i : Nat) (k : Int) : List Int := if i + 1 < s.length then s.set (i + 1) (joinT (rd s ((i + 1 : Nat) : Int)) k) else s ++ [k]
def mergeN (s l : List Int) : Nat → List Int
 | 0 => s
 | j + 1 => mergeI (mergeN s l j) j (rd l (j : Int))
def mergeA (s l : List Int) : List Int := mergeN s l l.length
def flatT : Nat → S52 → List Int
 | 0, _ => []
 | n + 1, t =>
  if t.f0 = 14 then t.f2.foldl (fun s p => s ++ flatT n p) []
  else if chosenB t.f0 = true then t.f2.foldl (fun s p => mergeA s (flatT n p)) [127]
  else if t.f0 = 8 then [126] else if t.f0 = 9 then [126] else if t.f0 = 10 then [125] else if t.f0 = 12 then [127, 127] else if t.f0 = 13 then [127, 127] else [127]

theorem joined_any (a b : Int) (w : World) : Calls Try.prog 66 #[.int .i64 a, .int .i64 b] w fun e w' => e = .returned (.int .i64 (joinT a b)) ∧ w = w' := by
 unfold joinT
 by_cases c1 : a = b
 ·
  subst c1
  rw [if_pos rfl]
  go_enter Try.func66, Try.ntmps66
  go_wp2
  go_ret
  exact ⟨rfl, rfl⟩
 ·
  have c1b : (a == b) = false := beq_eq_false_iff_ne.2 c1
  rw [if_neg c1]
  by_cases c2 : a = 126
  ·
   have c2b : (a != 126) = false := bne_eq_false_iff_eq.2 c2
   rw [if_pos c2]
   clear c1 c2
   go_enter Try.func66, Try.ntmps66
   go_wp2
   go_ret
   exact ⟨rfl, rfl⟩
  ·
   have c2b : (a != 126) = true := bne_iff_ne.2 c2
   rw [if_neg c2]
   by_cases c3 : b = 126
   ·
    have c3b : (b != 126) = false := bne_eq_false_iff_eq.2 c3
    rw [if_pos c3]
    clear c1 c2 c3
    go_enter Try.func66, Try.ntmps66
    go_wp2
    go_ret
    exact ⟨rfl, rfl⟩
   ·
    have c3b : (b != 126) = true := bne_iff_ne.2 c3
    rw [if_neg c3]
    clear c1 c2 c3
    go_enter Try.func66, Try.ntmps66
    go_wp2
    go_ret
    exact ⟨rfl, rfl⟩

/-! Lengths. -/
theorem mergeI_len (s : List Int) (i : Nat) (k : Int) (m : Nat) (h1 : s.length ≤ m) (h2 : i + 2 ≤ m) : (mergeI s i k).length ≤ m := by
 unfold mergeI
 split
 ·
  rw [List.length_set]; exact h1
 ·
  rw [List.length_append, List.length_singleton]; omega
theorem mergeN_len (s l : List Int) (m : Nat) (h1 : s.length ≤ m) : ∀ j, j + 1 ≤ m → (mergeN s l j).length ≤ m
 | 0, _ => h1
 | j + 1, h => mergeI_len _ _ _ _ (mergeN_len s l m h1 j (by omega)) (by omega)
def Few : Nat → S52 → Prop
 | 0, _ => True
 | n + 1, t => t.f2.length ≤ 8 ∧ ∀ x ∈ t.f2, Few n x
theorem few_of_tree {w : World} : ∀ {n b o : Nat} {t : S52}, TreeAt w n b o t → Few n t
 | 0, _, _, _, h => h.elim
 | n + 1, b, o, t, ⟨h0, h1, hl, A, c, h2, hc, hk⟩ => ⟨hl, fun x hx => by
   obtain ⟨i, hi⟩ := List.mem_iff_getElem?.1 hx
   obtain ⟨ad, pb, po, hA, hp, hT⟩ := hk i x hi
   exact few_of_tree hT⟩
theorem foldl_cat_len (f : S52 → List Int) (m : Nat) : ∀ (l : List S52) (s : List Int), (∀ x ∈ l, (f x).length ≤ m) → (l.foldl (fun s p => s ++ f p) s).length ≤ s.length + l.length * m
 | [], s, _ => by simp
 | x :: l, s, h => by
  have h1 := foldl_cat_len f m l (s ++ f x) (fun y hy => h y (List.mem_cons_of_mem _ hy))
  have h2 := h x List.mem_cons_self
  rw [List.foldl_cons]
  rw [List.length_append] at h1
  rw [List.length_cons, Nat.succ_mul]
  omega
theorem foldl_merge_len (f : S52 → List Int) (m : Nat) : ∀ (l : List S52) (s : List Int), (∀ x ∈ l, (f x).length + 1 ≤ m) → s.length ≤ m → (l.foldl (fun s p => mergeA s (f p)) s).length ≤ m
 | [], s, _, hs => hs
 | x :: l, s, h, hs => foldl_merge_len f m l _ (fun y hy => h y (List.mem_cons_of_mem _ hy)) (mergeN_len s (f x) m hs _ (h x List.mem_cons_self))
theorem flat_len : ∀ (n : Nat) (t : S52), Few n t → (flatT n t).length ≤ 2 * 8 ^ n
 | 0, _, _ => by simp [flatT]
 | n + 1, t, ⟨hl, hx⟩ => by
  have hm : ∀ x ∈ t.f2, (flatT n x).length ≤ 2 * 8 ^ n := fun x h => flat_len n x (hx x h)
  have hp : 1 ≤ 8 ^ n := Nat.one_le_pow _ _ (by decide)
  have hq : 8 ^ (n + 1) = 8 * 8 ^ n := by rw [Nat.pow_succ, Nat.mul_comm]
  unfold flatT
  split
  ·
   have := foldl_cat_len (flatT n) _ t.f2 [] hm
   have h8 : t.f2.length * (2 * 8 ^ n) ≤ 8 * (2 * 8 ^ n) := Nat.mul_le_mul_right _ hl
   rw [List.length_nil] at this
   omega
  ·
   split
   ·
    exact foldl_merge_len (flatT n) (2 * 8 ^ (n + 1)) t.f2 [127] (fun x h => by have := hm x h; omega) (by simp; omega)
   ·
    repeat' split
    all_goals (simp; omega)

set_option maxHeartbeats 8000000 in
set_option maxRecDepth 100000 in
theorem flat_any (n : Nat) : n ≤ 12 → ∀ (t : S52) (b o : Nat) (w : World), TreeAt w n b o t →
  Calls Try.prog 45 #[.pointer (some ⟨b, o, none⟩)] w fun e w' => ∃ v0 : Value, e = .returned v0 ∧ Kd.R (Kd.int .i64) 3 w' w.heap.size (fun _ => True) v0 (flatT n t) ∧ Below w.heap.size w w' := by
 induction n with
 | zero => intro hn t b o w h; exact h.elim
 | succ n ih =>
  intro hn t b o w h
  have HFEW := Aside0.mk (few_of_tree h)
  obtain ⟨h0, h1, hl, A, c, h2, hc, hk⟩ := h
  by_cases hr : t.f0 = 14
  ·
   have k1 : (t.f0 == 14) = true := beq_iff_eq.2 hr
   have E : flatT (n + 1) t = t.f2.foldl (fun s p => s ++ flatT n p) [] := by rw [flatT, if_pos hr]
   rw [E]; clear E hr
   go_enter Try.func45, Try.ntmps45
   go_wp2_with (first | ((with_reducible refine gate_dst (N := 17) rfl ?_); refine Kd.R_lit (Kd.int .i64) w.heap.size 3 ?hg (N := 17) ?hd (xs := ([] : List Int)) (inner := []) (ok := fun _ => True) (okp := fun _ => True) ?hr ?hp (fun _ hk => hk) trivial (Below.refl _ _) (Nat.le_refl _) (by simp) ?_; (case hd => rfl); (case hg => rfl); (case hr => first | (go_simp; done) | (go_simp; rfl)); (case hp => exact (Reps.none _ _)); intro v1 w1 ho hb hg_ hnew_; clear hg_ hnew_; have HO := Aside0.mk ho; have HB := Aside0.mk hb; clear ho hb; have g2 := (HB.out.cell (World.block_lt_of_cell? w _ h2)).trans h2))
   go_loopg [3, 23] t.f2.length (fun kq v3 v23 w' => ∃ j : Nat, j + kq = t.f2.length ∧ v23 = .int .i64 j ∧ Aside0 (Kd.R (Kd.int .i64) 3 w' w.heap.size (fun _ => True) v3 ((t.f2.take j).foldl (fun s p => s ++ flatT n p) [])) ∧ Aside0 (Below w.heap.size w w'))
   case atStart => exact ⟨0, by omega, rfl, ⟨HO.out⟩, ⟨HB.out⟩⟩
   case round =>
    clear g2 HO HB
    obtain ⟨j, hj, rfl, HO, HB⟩ := hrel
    by_cases hlt : j < t.f2.length
    ·
     obtain ⟨ad, pb, po, hA, hp, hT⟩ := hk j t.f2[j] (List.getElem?_eq_getElem hlt)
     subst hA
     have gp := (HB.out.cell (World.block_lt_of_cell? w _ hp)).trans hp
     have HT := Aside0.mk (treeAt_below HB.out hT)
     clear hp hT hk h0 h1 h2
     have HF := Aside0.mk (fold_take (fun s p => s ++ flatT n p) [] t.f2 j hlt)
     have HL := Aside0.mk (foldl_cat_len (flatT n) (2 * 8 ^ n) (t.f2.take j) [] (fun x hx => flat_len n x (HFEW.out.2 x (List.mem_of_mem_take hx))))
     have HX := Aside0.mk (flat_len n t.f2[j] (HFEW.out.2 _ (List.getElem_mem hlt)))
     generalize (t.f2.take j).foldl (fun s p => s ++ flatT n p) [] = acc at HF HO HL
     have HN : (acc.length + (flatT n t.f2[j]).length) * 8 ≤ 140737488355328 := by
      have a1 := HL.out
      have a2 := HX.out
      have a3 : (t.f2.take j).length * (2 * 8 ^ n) ≤ 8 * (2 * 8 ^ n) := Nat.mul_le_mul_right _ (by rw [List.length_take]; omega)
      have a4 : 8 ^ n ≤ 8 ^ 11 := Nat.pow_le_pow_right (by decide) (by omega)
      rw [List.length_nil] at a1
      omega
     clear HL HX
     go_wp2_with (first
      | (go_at_call 45; refine (ih (by omega) t.f2[j] pb po _ HT.out).mono ?_; rintro e w' ⟨v0, rfl, ho, hb⟩; have n0_ := Aside0.mk (Kd.R_below HO.out hb); have n1_ := Aside0.mk (HB.out.trans (hb.mono HB.out.size)); clear HO HB HT gp; have HO := n0_; have HB := n1_; clear n0_ n1_ hb; obtain ⟨A0, c0, e0⟩ := Kd.R_slice ho; subst e0; have HV := Aside0.mk ho; clear ho)
      | ((with_reducible refine gate_builtin (b := .append) (xs := #[.tmp 27, .tmp 29]) rfl ?_); at_builtin; refine Kd.R_append_rows (Kd.int .i64) (w0 := w) w.heap.size rfl (.tmp 27) (.tmp 29) 38 3 (.int .i64 0) 8 rfl Try.underlying38 info3 rfl (by decide) (by omega) u3 acc (flatT n t.f2[j]) _ _ _ (fun _ => True) (fun _ => False) rfl rfl ?aO ?aR (fun _ _ h => h) (fun _ h => h.elim) ?aF ?aB ?aS ?aL ?_; (case aR => exact (Kd.R_reads' HV.out).2.2); (case aB => exact HB.out); (case aF => exact (fun k_ hk => trivial)); (case aO => exact HO.out); (case aS => exact HB.out.size); (case aL => exact HN); intro v2 w2 ho hb hg hat; clear hg hat; rw [← HF.out] at ho; have n0_ := Aside0.mk hb; have n1_ := Aside0.mk ho; clear HO HB HV hb ho; have HO := n1_; have HB := n0_; clear n0_ n1_))
     go_roundg (t.f2.length - (j + 1))
     case measure => omega
     case rel => exact ⟨j + 1, by omega, by go_num, ⟨HO.out⟩, ⟨HB.out⟩⟩
    ·
     obtain rfl : j = t.f2.length := by omega
     rw [List.take_length] at HO
     clear hk h0 h1 h2
     go_wp2
     go_ret
     exact ⟨_, rfl, HO.out, HB.out⟩
  ·
   have k1 : (t.f0 == 14) = false := beq_eq_false_iff_ne.2 hr
   by_cases hch : chosenB t.f0 = true
   ·
    have E : flatT (n + 1) t = t.f2.foldl (fun s p => mergeA s (flatT n p)) [127] := by rw [flatT, if_neg hr, if_pos hch]
    rw [E]; clear E hr
    have HC := Aside0.mk hch
    clear hch
    go_enter Try.func45, Try.ntmps45
    go_wp2_with (first
     | (go_at_call 57; refine (chosen_any t.f0 b o _ true HC.out h0).mono ?_; rintro e w' ⟨rfl, rfl⟩)
     | ((with_reducible refine gate_dst (N := 36) rfl ?_); refine Kd.R_lit (Kd.int .i64) w.heap.size 3 ?hg (N := 36) ?hd (xs := ([127] : List Int)) (inner := [.int .i64 127]) (ok := fun _ => True) (okp := fun _ => True) ?hr ?hp (fun _ hk => hk) trivial (Below.refl _ _) (Nat.le_refl _) (by simp) ?_; (case hd => rfl); (case hg => rfl); (case hr => first | (go_simp; done) | (go_simp; rfl)); (case hp => exact (Reps.one (show Kd.M (Kd.int .i64) _ _ _ 127 [.int .i64 127] from rfl) (Reps.none _ _))); intro v1 w1 ho hb hg_ hnew_; clear hg_ hnew_; have HO := Aside0.mk ho; have HB := Aside0.mk hb; clear ho hb; have g2 := (HB.out.cell (World.block_lt_of_cell? w _ h2)).trans h2))
    go_loopg [6, 42] t.f2.length (fun kq v6 v42 w' => ∃ j : Nat, j + kq = t.f2.length ∧ v42 = .int .i64 j ∧ Aside0 (Kd.R (Kd.int .i64) 3 w' w.heap.size (fun _ => True) v6 ((t.f2.take j).foldl (fun s p => mergeA s (flatT n p)) [127])) ∧ Aside0 (Below w.heap.size w w'))
    case atStart => exact ⟨0, by omega, rfl, ⟨HO.out⟩, ⟨HB.out⟩⟩
    case round =>
     clear g2 HO HB
     obtain ⟨j, hj, rfl, HO, HB⟩ := hrel
     by_cases hlt : j < t.f2.length
     ·
      obtain ⟨ad, pb, po, hA, hp, hT⟩ := hk j t.f2[j] (List.getElem?_eq_getElem hlt)
      subst hA
      have gp := (HB.out.cell (World.block_lt_of_cell? w _ hp)).trans hp
      have HT := Aside0.mk (treeAt_below HB.out hT)
      clear hp hT hk h0 h1 h2
      have HF := Aside0.mk (fold_take (fun s p => mergeA s (flatT n p)) [127] t.f2 j hlt)
      have a4 : 8 ^ n ≤ 8 ^ 11 := Nat.pow_le_pow_right (by decide) (by omega)
      have HX := flat_len n t.f2[j] (HFEW.out.2 _ (List.getElem_mem hlt))
      have HL := foldl_merge_len (flatT n) (2 * 8 ^ (n + 1)) (t.f2.take j) [127] (fun x hx => by have := flat_len n x (HFEW.out.2 x (List.mem_of_mem_take hx)); have : 1 ≤ 8 ^ n := Nat.one_le_pow _ _ (by decide); rw [Nat.pow_succ]; omega) (by have : 1 ≤ 8 ^ (n + 1) := Nat.one_le_pow _ _ (by decide); simp; omega)
      generalize (t.f2.take j).foldl (fun s p => mergeA s (flatT n p)) [127] = acc at HF HO HL
      generalize hxx : flatT n t.f2[j] = row at HF HX
      have HRO := Aside0.mk hxx
      clear hxx
      have HN : acc.length ≤ 2000000000000 := by rw [Nat.pow_succ] at HL; omega
      have HM : row.length ≤ 2000000000000 := by omega
      clear HL HX a4
      go_wp2_with (first
       | (go_at_call 45; refine (ih (by omega) t.f2[j] pb po _ HT.out).mono ?_; rw [HRO.out]; rintro e w' ⟨v0, rfl, ho, hb⟩; have n0_ := Aside0.mk (Kd.R_elder' HO.out (Kd.R_base ho) hb); have n1_ := Aside0.mk (HB.out.trans (hb.mono HB.out.size)); have n2_ := Aside0.mk (Kd.R_lower (Kd.R_new' ho (Kd.R_lt HO.out)) HB.out.size); clear HO HB HT gp; have HO := n0_; have HB := n1_; have HV := n2_; clear n0_ n1_ n2_ hb ho; obtain ⟨A0, c0, e0⟩ := Kd.R_slice HV.out; subst e0))
      go_loopg [6, 49] row.length (fun kq v6 v49 w' => ∃ i : Nat, i + kq = row.length ∧ v49 = .int .i64 i ∧ Aside0 (Kd.R (Kd.int .i64) 3 w' w.heap.size (fun k => some k ≠ (Value.slice A0 row.length c0).ownBlock) v6 (mergeN acc row i)) ∧ Aside0 (Kd.R (Kd.int .i64) 3 w' w.heap.size (fun k => some k ≠ v6.ownBlock) (.slice A0 row.length c0) row) ∧ Aside0 (Below w.heap.size w w'))
      case atStart => exact ⟨0, by omega, rfl, ⟨Kd.R_mono HO.out (fun _ hk => hk.2)⟩, ⟨Kd.R_mono HV.out (fun _ hk => hk.2)⟩, ⟨HB.out⟩⟩
      case round =>
       clear HO HV HB
       rename_i gkO _ _ _ _
       obtain ⟨i, hi, rfl, HO, HV, HB⟩ := hrel
       by_cases hil : i < row.length
       ·
        obtain ⟨adr, er, hx⟩ := Kd.at_int (Kd.R_reads' HV.out).2.2 (i : Int) (by omega) (by omega)
        subst er
        rw [Int.toNat_natCast] at hx
        have HNI := Aside0.mk (mergeN_len acc row 4000000000000 (by omega) i (by omega))
        have HE := Aside0.mk (show mergeN acc row (i + 1) = mergeI (mergeN acc row i) i (rd row (i : Int)) from rfl)
        generalize mergeN acc row i = cur at HO HNI HE
        obtain ⟨Ao, co, eo⟩ := Kd.R_slice HO.out
        subst eo
        have hib : i ≤ 2000000000000 := by omega
        by_cases hs : i + 1 < cur.length
        ·
         have hsb : decide ((i : Int) + 1 < (cur.length : Int)) = true := decide_eq_true (by omega)
         have HE2 := Aside0.mk (show mergeN acc row (i + 1) = cur.set (i + 1) (joinT (rd cur ((i + 1 : Nat) : Int)) (rd row (i : Int))) by rw [HE.out, mergeI, if_pos hs])
         obtain ⟨g, cap, e1, gb, gl, cl, HG⟩ := Kd.R_form HO.out (by omega)
         injection e1 with ea en ec
         subst ea; subst ec
         have GB := Aside0.mk gb
         clear gb gl HG en cl
         obtain ⟨hy, hf⟩ := Kd.R_celln 0 HO.out ((i + 1 : Nat) : Int) (by omega) (by omega)
         have HP := Aside0.mk (Kd.R_putg HO.out ((i + 1 : Nat) : Int) (joinT (rd cur ((i + 1 : Nat) : Int)) (rd row (i : Int))))
         rw [Int.toNat_natCast] at hy hf HP
         replace HP := Aside0.mk (show _ ∧ _ from by have := HP.out; rw [← HE2.out] at this; exact this)
         have hrd : rdOf 0 cur ((i + 1 : Nat) : Int) = rd cur ((i + 1 : Nat) : Int) := rfl
         rw [hrd] at hy
         clear hrd
         generalize rd cur ((i + 1 : Nat) : Int) = x at hx hy HP
         generalize rd row (i : Int) = y at hx hy HP
         have hsn : i + 1 < cur.length := hs
         clear hs HE HNI
         go_wp2_with (first
          | (go_at_call 66; refine (joined_any x y _).mono ?_; rintro e w' ⟨rfl, rfl⟩)
          | ((with_reducible refine gate_store (t := 3) (p := 69) rfl ?_); refine store_event (t := 3) (p := 69) (v := ?vo) (w1 := (wr.setCell ⟨g, i + 1, none⟩ (.int .i64 (joinT x y)))) ?hg ?ho ?hn ?hr ?_; (case ho => rfl); (case hg => rfl); (case hn => rfl); (case hr => first | (go_simp; done) | (go_simp; rfl)); intro w2 hw; have n0_ := Aside0.mk (show Kd.R (Kd.int .i64) 3 w2 w.heap.size _ _ _ from by rw [hw]; exact HP.out.1); have n1_ := Aside0.mk (show wr.grownBy w2 (some g) from by rw [hw]; exact HP.out.2); have n2_ := Aside0.mk (Kd.R_after (ok := fun _ => True) (v := .slice (some ⟨g, 0, none⟩) cur.length co) (v1 := .slice (some ⟨g, 0, none⟩) cur.length co) (Kd.R_mono HV.out (fun _ hk => ⟨trivial, hk⟩)) n1_.out (.inl rfl)); have n3_ := Aside0.mk (show Below w.heap.size w w2 from by rw [hw]; exact below_set HB.out GB.out); clear HO HV HB HP hw; have HO := n0_; have HV := n2_; have HB := n3_; clear n0_ n1_ n2_ n3_))
         go_roundg (row.length - (i + 1))
         case measure => omega
         case rel => exact ⟨i + 1, by omega, by go_num, ⟨HO.out⟩, ⟨Kd.R_mono HV.out (fun _ hk => hk.2)⟩, ⟨HB.out⟩⟩
        ·
         have hsb : decide ((i : Int) + 1 < (cur.length : Int)) = false := decide_eq_false (by omega)
         have HE2 := Aside0.mk (show mergeN acc row (i + 1) = cur ++ [rd row (i : Int)] by rw [HE.out, mergeI, if_neg hs])
         generalize rd row (i : Int) = x at hx HE2
         have HNL : (cur.length + 1) * 8 ≤ 140737488355328 := by have := HNI.out; omega
         clear hs HE HNI
         go_wp2_with (first | ((with_reducible refine gate_builtin (b := .append) (xs := #[.tmp 70, .tmp 72]) rfl ?_); at_builtin; refine Kd.R_append (Kd.int .i64) (w0 := w) w.heap.size rfl (.tmp 70) (.tmp 72) 38 3 (.int .i64 0) 8 rfl Try.underlying38 info3 rfl (by decide) (by omega) (.slice Ao cur.length co) cur x [.int .i64 x] (fun k => some k ≠ (Value.slice (some adr) row.length c0).ownBlock) (fun _ => False) rfl rfl ?aP (fun _ hk => hk.elim) ?aF ?aO ?aB ?aS ?aL ?_; (case aP => exact rfl); (case aB => exact HB.out); (case aF => exact (fun k_ hk => Kd.fresh' (Kd.R_lt HV.out) k_ hk)); (case aO => exact HO.out); (case aS => exact HB.out.size); (case aL => exact HNL); intro v2 w2 ho hb hg hat; rw [← HE2.out] at ho; have n0_ := Aside0.mk (Kd.R_after (ok := fun _ => True) (Kd.R_mono HV.out (fun _ hk => ⟨trivial, hk⟩)) hg hat); have n1_ := Aside0.mk hb; have n2_ := Aside0.mk ho; clear HV HB HO; have HV := n0_; have HB := n1_; have HO := n2_; clear n0_ n1_ n2_ hb ho hg hat))
         go_roundg (row.length - (i + 1))
         case measure => omega
         case rel => exact ⟨i + 1, by omega, by go_num, ⟨HO.out⟩, ⟨Kd.R_mono HV.out (fun _ hk => hk.2)⟩, ⟨HB.out⟩⟩
       ·
        obtain rfl : i = row.length := by omega
        have HO2 := Aside0.mk (show Kd.R (Kd.int .i64) 3 _ w.heap.size (fun _ => True) _ (mergeA acc row) from Kd.R_mono HO.out (fun _ _ => trivial))
        rw [← HF.out] at HO2
        clear HO HV
        go_wp2
        go_roundg (t.f2.length - (j + 1))
        case measure => omega
        case rel => exact ⟨j + 1, by omega, by go_num, ⟨HO2.out⟩, ⟨HB.out⟩⟩
     ·
      obtain rfl : j = t.f2.length := by omega
      rw [List.take_length] at HO
      clear hk h0 h1 h2
      go_wp2
      go_ret
      exact ⟨_, rfl, HO.out, HB.out⟩
   ·
    have hch0 : chosenB t.f0 = false := by simpa using hch
    have E : flatT (n + 1) t = if t.f0 = 8 then [126] else if t.f0 = 9 then [126] else if t.f0 = 10 then [125] else if t.f0 = 12 then [127, 127] else if t.f0 = 13 then [127, 127] else [127] := by rw [flatT, if_neg hr, if_neg hch]
    rw [E]; clear E hr hch
    have HC := Aside0.mk hch0
    clear hch0 hk
    by_cases c8 : t.f0 = 8
    ·
     rw [if_pos c8]
     have c8b : (t.f0 == 8) = true := beq_iff_eq.2 c8
     clear c8
     go_enter Try.func45, Try.ntmps45
     go_wp2_with (first | (go_at_call 57; refine (chosen_any t.f0 b o _ false HC.out h0).mono ?_; rintro e w' ⟨rfl, rfl⟩) | ((with_reducible refine gate_dst (N := 90) rfl ?_); refine Kd.R_lit (Kd.int .i64) w.heap.size 3 ?hg (N := 90) ?hd (xs := ([126] : List Int)) (inner := [.int .i64 126]) (ok := fun _ => True) (okp := fun _ => True) ?hr ?hp (fun _ hk => hk) trivial (Below.refl _ _) (Nat.le_refl _) (by simp) ?_; (case hd => rfl); (case hg => rfl); (case hr => first | (go_simp; done) | (go_simp; rfl)); (case hp => exact (Reps.one (show Kd.M (Kd.int .i64) _ _ _ 126 [.int .i64 126] from rfl) (Reps.none _ _))); intro v1 w1 ho hb hg_ hnew_; clear hg_ hnew_; have HO := Aside0.mk ho; have HB := Aside0.mk hb; clear ho hb))
     go_ret
     exact ⟨_, rfl, HO.out, HB.out⟩
    rw [if_neg c8]
    have c8b : (t.f0 == 8) = false := beq_eq_false_iff_ne.2 c8
    clear c8
    by_cases c9 : t.f0 = 9
    ·
     rw [if_pos c9]
     have c9b : (t.f0 == 9) = true := beq_iff_eq.2 c9
     clear c9
     go_enter Try.func45, Try.ntmps45
     go_wp2_with (first | (go_at_call 57; refine (chosen_any t.f0 b o _ false HC.out h0).mono ?_; rintro e w' ⟨rfl, rfl⟩) | ((with_reducible refine gate_dst (N := 90) rfl ?_); refine Kd.R_lit (Kd.int .i64) w.heap.size 3 ?hg (N := 90) ?hd (xs := ([126] : List Int)) (inner := [.int .i64 126]) (ok := fun _ => True) (okp := fun _ => True) ?hr ?hp (fun _ hk => hk) trivial (Below.refl _ _) (Nat.le_refl _) (by simp) ?_; (case hd => rfl); (case hg => rfl); (case hr => first | (go_simp; done) | (go_simp; rfl)); (case hp => exact (Reps.one (show Kd.M (Kd.int .i64) _ _ _ 126 [.int .i64 126] from rfl) (Reps.none _ _))); intro v1 w1 ho hb hg_ hnew_; clear hg_ hnew_; have HO := Aside0.mk ho; have HB := Aside0.mk hb; clear ho hb))
     go_ret
     exact ⟨_, rfl, HO.out, HB.out⟩
    rw [if_neg c9]
    have c9b : (t.f0 == 9) = false := beq_eq_false_iff_ne.2 c9
    clear c9
    by_cases c10 : t.f0 = 10
    ·
     rw [if_pos c10]
     have c10b : (t.f0 == 10) = true := beq_iff_eq.2 c10
     clear c10
     go_enter Try.func45, Try.ntmps45
     go_wp2_with (first | (go_at_call 57; refine (chosen_any t.f0 b o _ false HC.out h0).mono ?_; rintro e w' ⟨rfl, rfl⟩) | ((with_reducible refine gate_dst (N := 97) rfl ?_); refine Kd.R_lit (Kd.int .i64) w.heap.size 3 ?hg (N := 97) ?hd (xs := ([125] : List Int)) (inner := [.int .i64 125]) (ok := fun _ => True) (okp := fun _ => True) ?hr ?hp (fun _ hk => hk) trivial (Below.refl _ _) (Nat.le_refl _) (by simp) ?_; (case hd => rfl); (case hg => rfl); (case hr => first | (go_simp; done) | (go_simp; rfl)); (case hp => exact (Reps.one (show Kd.M (Kd.int .i64) _ _ _ 125 [.int .i64 125] from rfl) (Reps.none _ _))); intro v1 w1 ho hb hg_ hnew_; clear hg_ hnew_; have HO := Aside0.mk ho; have HB := Aside0.mk hb; clear ho hb))
     go_ret
     exact ⟨_, rfl, HO.out, HB.out⟩
    rw [if_neg c10]
    have c10b : (t.f0 == 10) = false := beq_eq_false_iff_ne.2 c10
    clear c10
    by_cases c12 : t.f0 = 12
    ·
     rw [if_pos c12]
     have c12b : (t.f0 == 12) = true := beq_iff_eq.2 c12
     clear c12
     go_enter Try.func45, Try.ntmps45
     go_wp2_with (first | (go_at_call 57; refine (chosen_any t.f0 b o _ false HC.out h0).mono ?_; rintro e w' ⟨rfl, rfl⟩) | ((with_reducible refine gate_dst (N := 111) rfl ?_); refine Kd.R_lit (Kd.int .i64) w.heap.size 3 ?hg (N := 111) ?hd (xs := ([127, 127] : List Int)) (inner := [.int .i64 127, .int .i64 127]) (ok := fun _ => True) (okp := fun _ => True) ?hr ?hp (fun _ hk => hk) trivial (Below.refl _ _) (Nat.le_refl _) (by simp) ?_; (case hd => rfl); (case hg => rfl); (case hr => first | (go_simp; done) | (go_simp; rfl)); (case hp => exact (Reps.one (show Kd.M (Kd.int .i64) _ _ _ 127 [.int .i64 127] from rfl) (Reps.one (show Kd.M (Kd.int .i64) _ _ _ 127 [.int .i64 127] from rfl) (Reps.none _ _)))); intro v1 w1 ho hb hg_ hnew_; clear hg_ hnew_; have HO := Aside0.mk ho; have HB := Aside0.mk hb; clear ho hb))
     go_ret
     exact ⟨_, rfl, HO.out, HB.out⟩
    rw [if_neg c12]
    have c12b : (t.f0 == 12) = false := beq_eq_false_iff_ne.2 c12
    clear c12
    by_cases c13 : t.f0 = 13
    ·
     rw [if_pos c13]
     have c13b : (t.f0 == 13) = true := beq_iff_eq.2 c13
     clear c13
     go_enter Try.func45, Try.ntmps45
     go_wp2_with (first | (go_at_call 57; refine (chosen_any t.f0 b o _ false HC.out h0).mono ?_; rintro e w' ⟨rfl, rfl⟩) | ((with_reducible refine gate_dst (N := 111) rfl ?_); refine Kd.R_lit (Kd.int .i64) w.heap.size 3 ?hg (N := 111) ?hd (xs := ([127, 127] : List Int)) (inner := [.int .i64 127, .int .i64 127]) (ok := fun _ => True) (okp := fun _ => True) ?hr ?hp (fun _ hk => hk) trivial (Below.refl _ _) (Nat.le_refl _) (by simp) ?_; (case hd => rfl); (case hg => rfl); (case hr => first | (go_simp; done) | (go_simp; rfl)); (case hp => exact (Reps.one (show Kd.M (Kd.int .i64) _ _ _ 127 [.int .i64 127] from rfl) (Reps.one (show Kd.M (Kd.int .i64) _ _ _ 127 [.int .i64 127] from rfl) (Reps.none _ _)))); intro v1 w1 ho hb hg_ hnew_; clear hg_ hnew_; have HO := Aside0.mk ho; have HB := Aside0.mk hb; clear ho hb))
     go_ret
     exact ⟨_, rfl, HO.out, HB.out⟩
    rw [if_neg c13]
    have c13b : (t.f0 == 13) = false := beq_eq_false_iff_ne.2 c13
    clear c13
    go_enter Try.func45, Try.ntmps45
    go_wp2_with (first | (go_at_call 57; refine (chosen_any t.f0 b o _ false HC.out h0).mono ?_; rintro e w' ⟨rfl, rfl⟩) | ((with_reducible refine gate_dst (N := 112) rfl ?_); refine Kd.R_lit (Kd.int .i64) w.heap.size 3 ?hg (N := 112) ?hd (xs := ([127] : List Int)) (inner := [.int .i64 127]) (ok := fun _ => True) (okp := fun _ => True) ?hr ?hp (fun _ hk => hk) trivial (Below.refl _ _) (Nat.le_refl _) (by simp) ?_; (case hd => rfl); (case hg => rfl); (case hr => first | (go_simp; done) | (go_simp; rfl)); (case hp => exact (Reps.one (show Kd.M (Kd.int .i64) _ _ _ 127 [.int .i64 127] from rfl) (Reps.none _ _))); intro v1 w1 ho hb hg_ hnew_; clear hg_ hnew_; have HO := Aside0.mk ho; have HB := Aside0.mk hb; clear ho hb))
    go_ret
    exact ⟨_, rfl, HO.out, HB.out⟩


end Go.Proofs.Ytlgegdgilkaldaa.Q

