-- Written by a program of this session; it walks the functions that the law reaches.
import Derived.Test.YtmmlgkepnjelnaaQx0
namespace Go.Proofs.Ytmmlgkepnjelnaa.Q
open Go.RowKit Go.Proofs.YtmmlgkepnjelnaaW.PrintWords Go.Proofs.YtmmlgkepnjelnaaW.PrintLast Go.Proofs.YtmmlgkepnjelnaaW.PrintMore
attribute [local go_sem] max2_int min2_int max_two min_two max_three min_three max_four min_four   -- for this text's walks alone
set_option linter.unusedVariables false
set_option linter.unusedSimpArgs false

/-- A state of type 48 at block g of W; what its slices lead to came in by w0. -/
def IsS48 (w0 W : World) (g : Nat) (f0 : ByteArray) (f1 : Int) (f2 : Bool) : Prop := W.heap[g]? = some (.cells #[.string f0, .int .i64 f1, .bool f2] 48 (0, 0)) ∧ w0.heap.size ≤ g
theorem IsS48.grown {w0 W : World} {g : Nat} {f0 : ByteArray} {f1 : Int} {f2 : Bool} {W1 : World} {row : Option Nat} (h : IsS48 w0 W g f0 f1 f2) (hw : W.grownBy W1 row) (hne : some g ≠ row) : IsS48 w0 W1 g f0 f1 f2 := by
 obtain ⟨hb, hg⟩ := h
 exact ⟨blk_grown hb hw hne, hg⟩
theorem IsS48.own_neN {w0 W : World} {g : Nat} {f0 : ByteArray} {f1 : Int} {f2 : Bool} {α : Type} {d : Kd α} {e : Nat} {base : Nat} {ok : Nat → Prop} {v : Value} {xs : List α} (h : IsS48 w0 W g f0 f1 f2) (ho : Kd.N d e W base ok v xs) (ht : e ≠ 48) : some g ≠ v.ownBlock := by
 obtain ⟨hb, hg⟩ := h
 exact Kd.N_ne ho hb ht
theorem IsS48.fresh {w0 W : World} {g : Nat} {f0 : ByteArray} {f1 : Int} {f2 : Bool} (h : IsS48 w0 W g f0 f1 f2) : ∀ k, W.heap.size ≤ k → k ≠ g := by
 obtain ⟨hb, hg⟩ := h
 exact Kd.freshB hb
theorem IsS48.kept {w0 W : World} {g : Nat} {f0 : ByteArray} {f1 : Int} {f2 : Bool} {W1 : World} {S : Nat → Prop} (h : IsS48 w0 W g f0 f1 f2) (hk : Kept W W1 S) (hne : ¬ S g) : IsS48 w0 W1 g f0 f1 f2 := by
 obtain ⟨hb, hg⟩ := h
 exact ⟨blk_kept hb hk hne, hg⟩
theorem IsS48.below {w0 W : World} {g : Nat} {f0 : ByteArray} {f1 : Int} {f2 : Bool} {W1 : World} (h : IsS48 w0 W g f0 f1 f2) (hw : Below W.heap.size W W1) : IsS48 w0 W1 g f0 f1 f2 := h.grown (grown_of_below hw none) (by simp)
theorem IsS48.alloc {w0 W : World} {g : Nat} {f0 : ByteArray} {f1 : Int} {f2 : Bool} (h : IsS48 w0 W g f0 f1 f2) (o : Obj) : IsS48 w0 (W.alloc o) g f0 f1 f2 := h.below (below_alloc (Below.refl _ _) o)
theorem IsS48.drewN {w0 W : World} {g : Nat} {f0 : ByteArray} {f1 : Int} {f2 : Bool} (h : IsS48 w0 W g f0 f1 f2) (m : Nat) : IsS48 w0 (W.drewN m) g f0 f1 f2 := h
theorem IsS48.drew {w0 W : World} {g : Nat} {f0 : ByteArray} {f1 : Int} {f2 : Bool} (h : IsS48 w0 W g f0 f1 f2) : IsS48 w0 W.drew g f0 f1 f2 := h
theorem IsS48.at_ {w0 W : World} {g : Nat} {f0 : ByteArray} {f1 : Int} {f2 : Bool} {w' : World} {m : Nat} (hq : W.drewN m = w') (h : IsS48 w0 W g f0 f1 f2) : IsS48 w0 w' g f0 f1 f2 := by subst hq; exact IsS48.drewN h m
theorem IsS48.apart {w0 W : World} {g : Nat} {f0 : ByteArray} {f1 : Int} {f2 : Bool} {α : Type} {d : Kd α} {e : Nat} {base : Nat} {ok : Nat → Prop} {v : Value} {xs : List α} (h : IsS48 w0 W g f0 f1 f2) (ho : d.R e W base ok v xs) (ht : ∀ q, q ∈ e :: d.E → q ≠ 48) : d.R e W base (fun k => ok k ∧ k ≠ g) v xs := by
 obtain ⟨hb, hg⟩ := h
 exact Kd.R_types ho hb ht
theorem IsS48.own_ne {w0 W : World} {g : Nat} {f0 : ByteArray} {f1 : Int} {f2 : Bool} {α : Type} {d : Kd α} {e : Nat} {base : Nat} {ok : Nat → Prop} {v : Value} {xs : List α} (h : IsS48 w0 W g f0 f1 f2) (ho : d.R e W base ok v xs) (ht : e ≠ 48) : some g ≠ v.ownBlock := by
 obtain ⟨hb, hg⟩ := h
 exact Kd.R_ne ho hb ht
theorem IsS48.apartQ {w0 W : World} {g : Nat} {f0 : ByteArray} {f1 : Int} {f2 : Bool} {α : Type} {d : Kd α} {e : Nat} {base : Nat} {ok : Nat → Prop} {v : Value} {xs : List α} (h : IsS48 w0 W g f0 f1 f2) (ho : d.Q e W base ok v xs) (ht : ∀ q, q ∈ e :: d.E → q ≠ 48) : d.Q e W base (fun k => ok k ∧ k ≠ g) v xs := by
 obtain ⟨hb, hg⟩ := h
 exact Kd.Q_types ho hb ht
theorem IsS48.own_neQ {w0 W : World} {g : Nat} {f0 : ByteArray} {f1 : Int} {f2 : Bool} {α : Type} {d : Kd α} {e : Nat} {base : Nat} {ok : Nat → Prop} {v : Value} {xs : List α} (h : IsS48 w0 W g f0 f1 f2) (ho : d.Q e W base ok v xs) (ht : e ≠ 48) : some g ≠ v.ownBlock := by
 obtain ⟨hb, hg⟩ := h
 exact Kd.Q_ne ho hb ht
theorem IsS48.apartS {w0 W : World} {g : Nat} {f0 : ByteArray} {f1 : Int} {f2 : Bool} {α : Type} {d : Kd α} {e : Nat} {base : Nat} {ok : Nat → Prop} {v : Value} {xs : List α} (h : IsS48 w0 W g f0 f1 f2) (ho : d.S e W base ok v xs) (ht : ∀ q, q ∈ e :: d.E → q ≠ 48) : d.S e W base (fun k => ok k ∧ k ≠ g) v xs := by
 obtain ⟨hb, hg⟩ := h
 exact Kd.S_types ho hb ht
theorem IsS48.own_neS {w0 W : World} {g : Nat} {f0 : ByteArray} {f1 : Int} {f2 : Bool} {α : Type} {d : Kd α} {e : Nat} {base : Nat} {ok : Nat → Prop} {v : Value} {xs : List α} (h : IsS48 w0 W g f0 f1 f2) (ho : d.S e W base ok v xs) (ht : e ≠ 48) : some g ≠ v.ownBlock := by
 obtain ⟨hb, hg⟩ := h
 exact Kd.S_ne ho hb ht
theorem IsS48.lt {w0 W : World} {g : Nat} {f0 : ByteArray} {f1 : Int} {f2 : Bool} (h : IsS48 w0 W g f0 f1 f2) : g < W.heap.size := by
 obtain ⟨hb, hg⟩ := h
 exact blk_lt hb
theorem IsS48.ge {w0 W : World} {g : Nat} {f0 : ByteArray} {f1 : Int} {f2 : Bool} (h : IsS48 w0 W g f0 f1 f2) : w0.heap.size ≤ g := by
 obtain ⟨hb, hg⟩ := h
 exact hg
theorem IsS48.ne_blk {w0 W : World} {g : Nat} {f0 : ByteArray} {f1 : Int} {f2 : Bool} {a : Nat} {cs : Array Value} {t : TypeId} {fr : Nat × Nat} (h : IsS48 w0 W g f0 f1 f2) (hb2 : W.heap[a]? = some (.cells cs t fr)) (ht : t ≠ 48) : g ≠ a := by
 obtain ⟨hb, hg⟩ := h
 rintro rfl
 rw [hb] at hb2
 injection hb2 with hb2
 injection hb2 with _ ht2
 exact ht ht2.symm
theorem IsS48.far {w0 W : World} {g : Nat} {f0 : ByteArray} {f1 : Int} {f2 : Bool} {p : Addr} (h : IsS48 w0 W g f0 f1 f2) (hne : g ≠ p.block) (u : Value) : IsS48 w0 (W.setCell p u) g f0 f1 f2 := by
 obtain ⟨hb, hg⟩ := h
 exact ⟨blk_far hb hne u, hg⟩
theorem cellS48_0 {W : World} {g : Nat} {f0 : ByteArray} {f1 : Int} {f2 : Bool} (h : W.heap[g]? = some (.cells #[.string f0, .int .i64 f1, .bool f2] 48 (0, 0))) : W.cell? ⟨g, 0, none⟩ = some (.string f0) := (blk_cell h 0).trans rfl
theorem IsS48.set_0 {w0 W : World} {g : Nat} {f0 : ByteArray} {f1 : Int} {f2 : Bool} (h : IsS48 w0 W g f0 f1 f2) (x : ByteArray) : IsS48 w0 (W.setCell ⟨g, 0, none⟩ (.string x)) g x f1 f2 := by
 obtain ⟨hb, hg⟩ := h
 exact ⟨by simpa using blk_set hb 0 (.string x), hg⟩
theorem cellS48_1 {W : World} {g : Nat} {f0 : ByteArray} {f1 : Int} {f2 : Bool} (h : W.heap[g]? = some (.cells #[.string f0, .int .i64 f1, .bool f2] 48 (0, 0))) : W.cell? ⟨g, 1, none⟩ = some (.int .i64 f1) := (blk_cell h 1).trans rfl
theorem IsS48.set_1 {w0 W : World} {g : Nat} {f0 : ByteArray} {f1 : Int} {f2 : Bool} (h : IsS48 w0 W g f0 f1 f2) (x : Int) : IsS48 w0 (W.setCell ⟨g, 1, none⟩ (.int .i64 x)) g f0 x f2 := by
 obtain ⟨hb, hg⟩ := h
 exact ⟨by simpa using blk_set hb 1 (.int .i64 x), hg⟩
theorem cellS48_2 {W : World} {g : Nat} {f0 : ByteArray} {f1 : Int} {f2 : Bool} (h : W.heap[g]? = some (.cells #[.string f0, .int .i64 f1, .bool f2] 48 (0, 0))) : W.cell? ⟨g, 2, none⟩ = some (.bool f2) := (blk_cell h 2).trans rfl
theorem IsS48.set_2 {w0 W : World} {g : Nat} {f0 : ByteArray} {f1 : Int} {f2 : Bool} (h : IsS48 w0 W g f0 f1 f2) (x : Bool) : IsS48 w0 (W.setCell ⟨g, 2, none⟩ (.bool x)) g f0 f1 x := by
 obtain ⟨hb, hg⟩ := h
 exact ⟨by simpa using blk_set hb 2 (.bool x), hg⟩
theorem IsS48.new (w0 W : World) (f0 : ByteArray) (f1 : Int) (f2 : Bool) (hB : Below w0.heap.size w0 W) : IsS48 w0 (W.alloc (.cells #[.string f0, .int .i64 f1, .bool f2] 48)) W.heap.size f0 f1 f2 := ⟨by simpa using heap_alloc_new W _, hB.size⟩

theorem y0 {p q : Prop} (x : q) (h : q → p := by intro h; repeat (first | (with_reducible first | exact h | apply IsS48.alloc | apply IsS48.drewN | apply IsS48.drew | apply IsS48.set_0 | apply IsS48.set_1 | apply IsS48.set_2) | exact h)) : p := h x
theorem y1 {p q : Prop} (x : q) (h : q → p := by intro h; repeat (first | (with_reducible first | exact h | apply below_alloc | apply pw_below_drewN | apply below_drew1 | refine below_set ?_ (IsS48.ge (Aside0.out (by assumption)))) | exact h)) : p := h x
theorem y4 {p q : Prop} (x : q) (h : q → p := by intro h; repeat (first | (with_reducible first | exact h | apply IsS48.alloc | apply IsS48.drewN | apply IsS48.drew | apply IsS48.set_0 | apply IsS48.set_1 | apply IsS48.set_2 | apply IsS48.far (hne := (Aside0.out (by assumption)))) | exact h)) : p := h x
theorem y5 {p q : Prop} (x : q) (h : q → p := by intro h; repeat (first | (with_reducible first | exact h | apply below_alloc | apply pw_below_drewN | apply below_drew1 | refine below_set ?_ (IsS48.ge (Aside0.out (by assumption))) | refine below_set ?_ (Aside0.out (by assumption))) | exact h)) : p := h x
/-! ### spec_l9R_byte: function 43 -/
def spec_l9R_byte.f (s0_0 : ByteArray) (s0_1 : Int) (s0_2 : Bool) : Option (Int × ByteArray × Int × Bool) := if s0_1 ≥ (s0_0.size : Int) then (some (0, s0_0, s0_1, true)) else (if 0 ≤ (wrap64 ((wrap64 (s0_1 + 1)) - 1)) then (if (wrap64 ((wrap64 (s0_1 + 1)) - 1)) < (s0_0.size : Int) then (some (wrap64 (bt s0_0 (wrap64 ((wrap64 (s0_1 + 1)) - 1))), s0_0, wrap64 (s0_1 + 1), s0_2)) else (none)) else (none))
set_option maxHeartbeats 8000000 in
set_option maxRecDepth 100000 in
theorem spec_l9R_byte.calls (g : Nat) (s0_0 : ByteArray) (s0_1 : Int) (s0_2 : Bool) (r1 : Int) (r2 : ByteArray) (r3 : Int) (r4 : Bool) (w0 w : World) (hI : IsS48 w0 w g s0_0 s0_1 s0_2) (hB : Below w0.heap.size w0 w) (h : spec_l9R_byte.f s0_0 s0_1 s0_2 = some (r1, r2, r3, r4)) :
  Calls Try.prog 43 #[.pointer (some ⟨g, 0, none⟩)] w fun e w' => e = .returned (.int .i64 r1) ∧ IsS48 w0 w' g r2 r3 r4 ∧ Below w0.heap.size w0 w' ∧ KeepBut w w' g none := by
 have HI0 := Aside0.mk hI
 have HK := Aside0.mk (KeepBut.refl w g none)
 have HL := Aside0.mk hB.size
 clear hI
 have HW0 := Aside0.mk hB.size
 have HB := Aside0.mk hB
 clear hB
 have H : (if s0_1 ≥ (s0_0.size : Int) then (some (0, s0_0, s0_1, true)) else (if 0 ≤ (wrap64 ((wrap64 (s0_1 + 1)) - 1)) then (if (wrap64 ((wrap64 (s0_1 + 1)) - 1)) < (s0_0.size : Int) then (some (wrap64 (bt s0_0 (wrap64 ((wrap64 (s0_1 + 1)) - 1))), s0_0, wrap64 (s0_1 + 1), s0_2)) else (none)) else (none))) = some (r1, r2, r3, r4) := h
 clear h
 by_cases c2 : s0_1 ≥ (s0_0.size : Int)
 ·
  rw [if_pos c2] at H
  have c2b0 : decide ((s0_0.size : Int) ≤ s0_1) = true := decide_eq_true c2
  clear c2
  simp only [Option.some.injEq, Prod.mk.injEq] at H
  obtain ⟨rfl, rfl, rfl, rfl⟩ := H
  obtain ⟨HGz3, hgz3⟩ := HI0.out
  have hcz3_0 := cellS48_0 HGz3
  have hcz3_1 := cellS48_1 HGz3
  have hcz3_2 := cellS48_2 HGz3
  have hfz3_0 := blk_frozen HGz3 0
  have hfz3_1 := blk_frozen HGz3 1
  have hfz3_2 := blk_frozen HGz3 2
  clear HGz3 hgz3
  go_enter Try.func43, Try.ntmps43
  go_wp2
  repeat (go_quiet (fail); try go_wp2)
  go_ret
  exact ⟨rr_, y0 HI0.out, y1 HB.out, y2 HK.out⟩
 ·
  rw [if_neg c2] at H
  have c2b0 : decide ((s0_0.size : Int) ≤ s0_1) = false := decide_eq_false c2
  clear c2
  obtain ⟨ji4, hji4⟩ : ∃ j_ : Int, (wrap64 ((wrap64 (s0_1 + 1)) - 1)) = j_ := ⟨_, rfl⟩
  replace H : (if 0 ≤ (ji4) then (if (ji4) < (s0_0.size : Int) then (some (wrap64 (bt s0_0 (ji4)), s0_0, wrap64 (s0_1 + 1), s0_2)) else (none)) else (none)) = some (r1, r2, r3, r4) := by first | (rw [hji4] at H; exact H) | (simp only [hji4] at H ⊢; exact H)
  have hji4w : (IntKind.i64.wrap ((wrap64 (s0_1 + 1)) - 1)) = ji4 := (i64_w _).trans hji4
  by_cases c5 : 0 ≤ (ji4)
  ·
   rw [if_pos c5] at H
   have c5b0 : decide (0 ≤ (ji4)) = true := decide_eq_true c5
   clear c5
   by_cases c6 : (ji4) < (s0_0.size : Int)
   ·
    rw [if_pos c6] at H
    have c6b0 : decide ((ji4) < (s0_0.size : Int)) = true := decide_eq_true c6
    clear c6
    simp only [Option.some.injEq, Prod.mk.injEq] at H
    obtain ⟨rfl, rfl, rfl, rfl⟩ := H
    obtain ⟨HGz8, hgz8⟩ := HI0.out
    have hcz8_0 := cellS48_0 HGz8
    have hcz8_1 := cellS48_1 HGz8
    have hcz8_2 := cellS48_2 HGz8
    have hfz8_0 := blk_frozen HGz8 0
    have hfz8_1 := blk_frozen HGz8 1
    have hfz8_2 := blk_frozen HGz8 2
    clear HGz8 hgz8
    have p7 : 0 ≤ ((ji4) : Int) := od_
    have q7 : (ji4) < (s0_0.size : Int) := od_
    have hx7 := bt_at s0_0 (ji4)
    replace p7 := eq_true p7
    replace q7 := eq_true q7
    go_enter Try.func43, Try.ntmps43
    go_wp2
    repeat (go_quiet (fail); try go_wp2)
    go_ret
    exact ⟨by first | rfl | (simp [errW_none, errW_some] <;> rfl) | (simp only [← hji4]; first | rfl | (simp [errW_none, errW_some] <;> rfl)) | (simp [*, errW_none, errW_some] <;> rfl), y0 HI0.out, y1 HB.out, y2 HK.out⟩
   ·
    rw [if_neg c6] at H
    exact absurd H (by simp)
  ·
   rw [if_neg c5] at H
   exact absurd H (by simp)


/-! ### spec_l1TakeU: function 67 -/
mutual
def spec_l1TakeU.l0 : Nat → ByteArray → Int → Int → Int → Int → Option (Int × Int)
 | 0, _, _, _, _, _ => none
 | k + 1, x0, x1, x6, x7, x8 => if x8 < x6 then (spec_l1TakeU.j1 k x0 x1 x6 x7 x8 (decide (x8 < (x0.size : Int)))) else (spec_l1TakeU.j1 k x0 x1 x6 x7 x8 false)
def spec_l1TakeU.j1 : Nat → ByteArray → Int → Int → Int → Int → Bool → Option (Int × Int)
 | 0, _, _, _, _, _, _ => none
 | k + 1, x0, x1, x6, x7, x8, x22 => if x22 = true then (if 0 ≤ x8 then (if x8 < (x0.size : Int) then (if (wrap64 (x1 - (wrap64 (7 * x8)))) < 7 then (if 0 ≤ (IntKind.u64.wrap (wrap64 (x1 - (wrap64 (7 * x8))))) then (spec_l1TakeU.j2 k x0 x1 x6 x7 x8 (IntKind.u64.wrap (Go.bits .and .u8 (bt x0 x8) 127)) ((shr .u64 (IntKind.u64.wrap (Go.bits .and .u8 (bt x0 x8) 127)) (IntKind.u64.wrap (wrap64 (x1 - (wrap64 (7 * x8)))))) != 0)) else (none)) else (spec_l1TakeU.j2 k x0 x1 x6 x7 x8 (IntKind.u64.wrap (Go.bits .and .u8 (bt x0 x8) 127)) false)) else (none)) else (none)) else (some (0, 0))
def spec_l1TakeU.j2 : Nat → ByteArray → Int → Int → Int → Int → Int → Bool → Option (Int × Int)
 | 0, _, _, _, _, _, _, _ => none
 | k + 1, x0, x1, x6, x7, x8, x9, x42 => if x42 = true then (some (0, 0)) else (if 0 ≤ (IntKind.u64.wrap (wrap64 (7 * x8))) then (if 0 ≤ x8 then (if x8 < (x0.size : Int) then (if (bt x0 x8) < 128 then (some (Go.bits .or .u64 x7 (shl .u64 x9 (IntKind.u64.wrap (wrap64 (7 * x8)))), wrap64 (x8 + 1))) else (spec_l1TakeU.l0 k x0 x1 x6 (Go.bits .or .u64 x7 (shl .u64 x9 (IntKind.u64.wrap (wrap64 (7 * x8))))) (wrap64 (x8 + 1)))) else (none)) else (none)) else (none))
end
def spec_l1TakeU.f (k : Nat) (a0 : ByteArray) (a1 : Int) : Option (Int × Int) := spec_l1TakeU.l0 k a0 a1 (wrap64 (Int.tdiv (wrap64 (a1 + 6)) 7)) 0 0
theorem spec_l1TakeU.mono_l : ∀ k, (∀ y0 y1 y2 y3 y4, LeO (spec_l1TakeU.l0 k y0 y1 y2 y3 y4) (spec_l1TakeU.l0 (k + 1) y0 y1 y2 y3 y4)) ∧ (∀ y0 y1 y2 y3 y4 y5, LeO (spec_l1TakeU.j1 k y0 y1 y2 y3 y4 y5) (spec_l1TakeU.j1 (k + 1) y0 y1 y2 y3 y4 y5)) ∧ (∀ y0 y1 y2 y3 y4 y5 y6, LeO (spec_l1TakeU.j2 k y0 y1 y2 y3 y4 y5 y6) (spec_l1TakeU.j2 (k + 1) y0 y1 y2 y3 y4 y5 y6))
 | 0 => ⟨fun _ _ _ _ _ r h => by simp [spec_l1TakeU.l0] at h, fun _ _ _ _ _ _ r h => by simp [spec_l1TakeU.j1] at h, fun _ _ _ _ _ _ _ r h => by simp [spec_l1TakeU.j2] at h⟩
 | k + 1 => by
  obtain ⟨ih0, ih1, ih2⟩ := spec_l1TakeU.mono_l k
  refine ⟨?_, ?_, ?_⟩
  ·
   intro y0 y1 y2 y3 y4
   unfold spec_l1TakeU.l0
   repeat' first
   | (with_reducible exact ih0 _ _ _ _ _)
   | (with_reducible exact ih1 _ _ _ _ _ _)
   | (with_reducible exact ih2 _ _ _ _ _ _ _)
   | (with_reducible exact LeO.refl _)
   | (with_reducible exact LeO.none _)
   | (with_reducible refine LeO.ite ?_ ?_)
   | (with_reducible refine LeO.bind ?_ (fun _ => ?_))
   | exact ih0 _ _ _ _ _
   | exact ih1 _ _ _ _ _ _
   | exact ih2 _ _ _ _ _ _ _
   | exact LeO.none _
   | refine LeO.ite ?_ ?_
   | refine LeO.bind ?_ (fun _ => ?_)
  ·
   intro y0 y1 y2 y3 y4 y5
   unfold spec_l1TakeU.j1
   repeat' first
   | (with_reducible exact ih0 _ _ _ _ _)
   | (with_reducible exact ih1 _ _ _ _ _ _)
   | (with_reducible exact ih2 _ _ _ _ _ _ _)
   | (with_reducible exact LeO.refl _)
   | (with_reducible exact LeO.none _)
   | (with_reducible refine LeO.ite ?_ ?_)
   | (with_reducible refine LeO.bind ?_ (fun _ => ?_))
   | exact ih0 _ _ _ _ _
   | exact ih1 _ _ _ _ _ _
   | exact ih2 _ _ _ _ _ _ _
   | exact LeO.none _
   | refine LeO.ite ?_ ?_
   | refine LeO.bind ?_ (fun _ => ?_)
  ·
   intro y0 y1 y2 y3 y4 y5 y6
   unfold spec_l1TakeU.j2
   repeat' first
   | (with_reducible exact ih0 _ _ _ _ _)
   | (with_reducible exact ih1 _ _ _ _ _ _)
   | (with_reducible exact ih2 _ _ _ _ _ _ _)
   | (with_reducible exact LeO.refl _)
   | (with_reducible exact LeO.none _)
   | (with_reducible refine LeO.ite ?_ ?_)
   | (with_reducible refine LeO.bind ?_ (fun _ => ?_))
   | exact ih0 _ _ _ _ _
   | exact ih1 _ _ _ _ _ _
   | exact ih2 _ _ _ _ _ _ _
   | exact LeO.none _
   | refine LeO.ite ?_ ?_
   | refine LeO.bind ?_ (fun _ => ?_)
set_option maxHeartbeats 8000000 in
set_option maxRecDepth 100000 in
theorem spec_l1TakeU.calls (k : Nat) (a0 : ByteArray) (a1 : Int) (r1 : Int) (r2 : Int) (w : World) (h : spec_l1TakeU.f k a0 a1 = some (r1, r2)) :
  Calls Try.prog 67 #[.string a0, .int .i64 a1] w fun e w' => e = .returned (.tuple #[.int .u64 r1, .int .i64 r2]) ∧ Drawn0 w w' := by
 have H : (spec_l1TakeU.l0 k a0 a1 (wrap64 (Int.tdiv (wrap64 (a1 + 6)) 7)) 0 0) = some (r1, r2) := h
 clear h
 have H' := Aside0.mk H
 clear H
 go_enter Try.func67, Try.ntmps67
 go_wp2
 (try simp only [Act.put, List.setIfInBounds_toArray, List.set_cons_zero, List.set_cons_succ])
 go_loopg [7, 8] k (fun kq v7 v8 w' => ∃ (x7_1 : Int) (x8_1 : Int), v7 = .int .u64 x7_1 ∧ v8 = .int .i64 x8_1 ∧ Aside0 (spec_l1TakeU.l0 kq a0 a1 (wrap64 (Int.tdiv (wrap64 (a1 + 6)) 7)) x7_1 x8_1 = some (r1, r2)) ∧ Aside0 (kq ≤ k) ∧ Drawn0 w w')
 case atStart => exact ⟨(0), (0), (by first | rfl | (simp; done) | (simp [*]; done)), (by first | rfl | (simp; done) | (simp [*]; done)), H', ⟨Nat.le_refl _⟩, dr_⟩
 case round =>
  clear H'
  obtain ⟨x7_1, x8_1, rfl, rfl, HA, HK1, ⟨m1, rfl⟩⟩ := hrel
  cases gk with
  | zero => exact absurd HA.out (by simp [spec_l1TakeU.l0])
  | succ k1 =>
   have H := HA.out
   clear HA
   simp only [spec_l1TakeU.l0] at H
   have HC3 := Aside0.mk H
   clear H
   go_upto_region 4 with (fail)
   go_cut [22] (fun v22 wc => ∃ (kq : Nat) (x22_2 : Bool), v22 = .bool x22_2 ∧ Aside0 (spec_l1TakeU.j1 kq a0 a1 (wrap64 (Int.tdiv (wrap64 (a1 + 6)) 7)) x7_1 x8_1 x22_2 = some (r1, r2)) ∧ Aside0 (kq ≤ k1) ∧ Drawn0 w wc)
   case first =>
    have H := HC3.out
    clear HC3
    by_cases c4 : x8_1 < (wrap64 (Int.tdiv (wrap64 (a1 + 6)) 7))
    ·
     rw [if_pos c4] at H
     have c4b0 : decide (x8_1 < (wrap64 (Int.tdiv (wrap64 (a1 + 6)) 7))) = true := decide_eq_true c4
     clear c4
     (first | rw [c4b0] | (simp only [i64_w, i32_w]; rw [c4b0]) | skip)
     have H' := Aside0.mk H
     clear H
     go_wp2
     go_meet
     case rel => exact ⟨_, (decide (x8_1 < (a0.size : Int))), (by first | rfl | (simp; done) | (simp [*]; done)), H', ⟨by have := HK1.out; first | omega | exact Nat.le_refl _⟩, dr_⟩
    ·
     rw [if_neg c4] at H
     have c4b0 : decide (x8_1 < (wrap64 (Int.tdiv (wrap64 (a1 + 6)) 7))) = false := decide_eq_false c4
     clear c4
     (first | rw [c4b0] | (simp only [i64_w, i32_w]; rw [c4b0]) | skip)
     have H' := Aside0.mk H
     clear H
     go_wp2
     go_meet
     case rel => exact ⟨_, (false), (by first | rfl | (simp; done) | (simp [*]; done)), H', ⟨by have := HK1.out; first | omega | exact Nat.le_refl _⟩, dr_⟩
   case rest =>
    clear HC3
    obtain ⟨kq, x22_2, rfl, HA, HJ2, ⟨mc2, rfl⟩⟩ := hcut
    cases kq with
    | zero => exact absurd HA.out (by simp [spec_l1TakeU.j1])
    | succ kj2 =>
     have H := HA.out
     clear HA
     simp only [spec_l1TakeU.j1] at H
     by_cases c5 : x22_2 = true
     ·
      subst c5
      have H1 : (if 0 ≤ x8_1 then (if x8_1 < (a0.size : Int) then (if (wrap64 (a1 - (wrap64 (7 * x8_1)))) < 7 then (if 0 ≤ (IntKind.u64.wrap (wrap64 (a1 - (wrap64 (7 * x8_1))))) then (spec_l1TakeU.j2 kj2 a0 a1 (wrap64 (Int.tdiv (wrap64 (a1 + 6)) 7)) x7_1 x8_1 (IntKind.u64.wrap (Go.bits .and .u8 (bt a0 x8_1) 127)) ((shr .u64 (IntKind.u64.wrap (Go.bits .and .u8 (bt a0 x8_1) 127)) (IntKind.u64.wrap (wrap64 (a1 - (wrap64 (7 * x8_1)))))) != 0)) else (none)) else (spec_l1TakeU.j2 kj2 a0 a1 (wrap64 (Int.tdiv (wrap64 (a1 + 6)) 7)) x7_1 x8_1 (IntKind.u64.wrap (Go.bits .and .u8 (bt a0 x8_1) 127)) false)) else (none)) else (none)) = some (r1, r2) := by rw [if_pos rfl] at H; exact H
      clear H
      have H := H1
      clear H1
      by_cases c6 : 0 ≤ x8_1
      ·
       rw [if_pos c6] at H
       have c6b0 : decide (0 ≤ x8_1) = true := decide_eq_true c6
       clear c6
       by_cases c7 : x8_1 < (a0.size : Int)
       ·
        rw [if_pos c7] at H
        have c7b0 : decide (x8_1 < (a0.size : Int)) = true := decide_eq_true c7
        clear c7
        have HC9 := Aside0.mk H
        clear H
        have p8 : 0 ≤ (x8_1 : Int) := od_
        have q8 : x8_1 < (a0.size : Int) := od_
        have hx8 := bt_at a0 x8_1
        replace p8 := eq_true p8
        replace q8 := eq_true q8
        go_upto_region 8 with (fail)
        go_cut [42] (fun v42 wc => ∃ (kq : Nat) (x42_8 : Bool), v42 = .bool x42_8 ∧ Aside0 (spec_l1TakeU.j2 kq a0 a1 (wrap64 (Int.tdiv (wrap64 (a1 + 6)) 7)) x7_1 x8_1 (IntKind.u64.wrap (Go.bits .and .u8 (bt a0 x8_1) 127)) x42_8 = some (r1, r2)) ∧ Aside0 (kq ≤ kj2) ∧ Drawn0 w wc)
        case first =>
         have H := HC9.out
         clear HC9
         by_cases c10 : (wrap64 (a1 - (wrap64 (7 * x8_1)))) < 7
         ·
          rw [if_pos c10] at H
          have c10b0 : decide ((wrap64 (a1 - (wrap64 (7 * x8_1)))) < 7) = true := decide_eq_true c10
          clear c10
          (first | rw [c10b0] | (simp only [i64_w, i32_w]; rw [c10b0]) | skip)
          obtain ⟨ji11, hji11⟩ : ∃ j_ : Int, (IntKind.u64.wrap (wrap64 (a1 - (wrap64 (7 * x8_1))))) = j_ := ⟨_, rfl⟩
          replace H : (if 0 ≤ (ji11) then (spec_l1TakeU.j2 kj2 a0 a1 (wrap64 (Int.tdiv (wrap64 (a1 + 6)) 7)) x7_1 x8_1 (IntKind.u64.wrap (Go.bits .and .u8 (bt a0 x8_1) 127)) ((shr .u64 (IntKind.u64.wrap (Go.bits .and .u8 (bt a0 x8_1) 127)) (ji11)) != 0)) else (none)) = some (r1, r2) := by first | (rw [hji11] at H; exact H) | (simp only [hji11] at H ⊢; exact H)
          by_cases c12 : 0 ≤ (ji11)
          ·
           rw [if_pos c12] at H
           have c12b0 := eq_true c12
           have c12b1 : decide (0 ≤ (ji11)) = true := decide_eq_true c12
           clear c12
           obtain ⟨ji13, hji13⟩ : ∃ j_ : Int, (shr .u64 (IntKind.u64.wrap (Go.bits .and .u8 (bt a0 x8_1) 127)) (ji11)) = j_ := ⟨_, rfl⟩
           replace H : (spec_l1TakeU.j2 kj2 a0 a1 (wrap64 (Int.tdiv (wrap64 (a1 + 6)) 7)) x7_1 x8_1 (IntKind.u64.wrap (Go.bits .and .u8 (bt a0 x8_1) 127)) ((ji13) != 0)) = some (r1, r2) := by first | (rw [hji13] at H; exact H) | (simp only [hji13] at H ⊢; exact H)
           have hji13_ : ((IntKind.u64.wrap (Go.bits .and .u8 (bt a0 x8_1) 127)) / 2 ^ min (ji11).toNat 64) = ji13 := hji13
           have hji13z : (ji11) ≤ 64 → ((IntKind.u64.wrap (Go.bits .and .u8 (bt a0 x8_1) 127)) / 2 ^ (ji11).toNat) = ji13 := shr_small hji13
           have H' := Aside0.mk H
           clear H
           go_wp2
           first | go_meet | ((simp only [← hji13]); go_meet) | ((simp only [← hji11]); go_meet) | ((simp only [← hji13, ← hji11]); go_meet)
           case rel => exact ⟨_, (((ji13) != 0)), (by first | rfl | (simp; done) | (simp only [← hji13] <;> (first | rfl | simp)) | (simp [*]; done)), H', ⟨by have := HK1.out; have := HJ2.out; first | omega | exact Nat.le_refl _⟩, dr_⟩
          ·
           rw [if_neg c12] at H
           exact absurd H (by simp)
         ·
          rw [if_neg c10] at H
          have c10b0 : decide ((wrap64 (a1 - (wrap64 (7 * x8_1)))) < 7) = false := decide_eq_false c10
          clear c10
          (first | rw [c10b0] | (simp only [i64_w, i32_w]; rw [c10b0]) | skip)
          have H' := Aside0.mk H
          clear H
          go_wp2
          go_meet
          case rel => exact ⟨_, (false), (by first | rfl | (simp; done) | (simp [*]; done)), H', ⟨by have := HK1.out; have := HJ2.out; first | omega | exact Nat.le_refl _⟩, dr_⟩
        case rest =>
         clear HC9
         try clear c5
         try clear c6
         try clear c6b0
         try clear c7
         try clear c7b0
         try clear p8
         try clear q8
         try clear hx8
         try clear p8
         try clear q8
         obtain ⟨kq, x42_8, rfl, HA, HJ8, ⟨mc8, rfl⟩⟩ := hcut
         cases kq with
         | zero => exact absurd HA.out (by simp [spec_l1TakeU.j2])
         | succ kj8 =>
          have H := HA.out
          clear HA
          simp only [spec_l1TakeU.j2] at H
          by_cases c14 : x42_8 = true
          ·
           subst c14
           have H1 : (some (0, 0)) = some (r1, r2) := by rw [if_pos rfl] at H; exact H
           clear H
           have H := H1
           clear H1
           simp only [Option.some.injEq, Prod.mk.injEq] at H
           obtain ⟨rfl, rfl⟩ := H
           go_wp2
           go_ret2
           exact ⟨by first | rfl | (simp; done) | (simp [*]; done), dr_⟩
          ·
           replace c14 := Bool.eq_false_iff.mpr c14
           subst c14
           have H1 : (if 0 ≤ (IntKind.u64.wrap (wrap64 (7 * x8_1))) then (if 0 ≤ x8_1 then (if x8_1 < (a0.size : Int) then (if (bt a0 x8_1) < 128 then (some (Go.bits .or .u64 x7_1 (shl .u64 (IntKind.u64.wrap (Go.bits .and .u8 (bt a0 x8_1) 127)) (IntKind.u64.wrap (wrap64 (7 * x8_1)))), wrap64 (x8_1 + 1))) else (spec_l1TakeU.l0 kj8 a0 a1 (wrap64 (Int.tdiv (wrap64 (a1 + 6)) 7)) (Go.bits .or .u64 x7_1 (shl .u64 (IntKind.u64.wrap (Go.bits .and .u8 (bt a0 x8_1) 127)) (IntKind.u64.wrap (wrap64 (7 * x8_1))))) (wrap64 (x8_1 + 1)))) else (none)) else (none)) else (none)) = some (r1, r2) := by rw [if_neg (show ¬ (false = true) by decide)] at H; exact H
           clear H
           have H := H1
           clear H1
           obtain ⟨ji15, hji15⟩ : ∃ j_ : Int, (IntKind.u64.wrap (wrap64 (7 * x8_1))) = j_ := ⟨_, rfl⟩
           replace H : (if 0 ≤ (ji15) then (if 0 ≤ x8_1 then (if x8_1 < (a0.size : Int) then (if (bt a0 x8_1) < 128 then (some (Go.bits .or .u64 x7_1 (shl .u64 (IntKind.u64.wrap (Go.bits .and .u8 (bt a0 x8_1) 127)) (ji15)), wrap64 (x8_1 + 1))) else (spec_l1TakeU.l0 kj8 a0 a1 (wrap64 (Int.tdiv (wrap64 (a1 + 6)) 7)) (Go.bits .or .u64 x7_1 (shl .u64 (IntKind.u64.wrap (Go.bits .and .u8 (bt a0 x8_1) 127)) (ji15))) (wrap64 (x8_1 + 1)))) else (none)) else (none)) else (none)) = some (r1, r2) := by first | (rw [hji15] at H; exact H) | (simp only [hji15] at H ⊢; exact H)
           by_cases c16 : 0 ≤ (ji15)
           ·
            rw [if_pos c16] at H
            have c16b0 := eq_true c16
            have c16b1 : decide (0 ≤ (ji15)) = true := decide_eq_true c16
            clear c16
            obtain ⟨ji17, hji17⟩ : ∃ j_ : Int, (shl .u64 (IntKind.u64.wrap (Go.bits .and .u8 (bt a0 x8_1) 127)) (ji15)) = j_ := ⟨_, rfl⟩
            replace H : (if 0 ≤ x8_1 then (if x8_1 < (a0.size : Int) then (if (bt a0 x8_1) < 128 then (some (Go.bits .or .u64 x7_1 (ji17), wrap64 (x8_1 + 1))) else (spec_l1TakeU.l0 kj8 a0 a1 (wrap64 (Int.tdiv (wrap64 (a1 + 6)) 7)) (Go.bits .or .u64 x7_1 (ji17)) (wrap64 (x8_1 + 1)))) else (none)) else (none)) = some (r1, r2) := by first | (rw [hji17] at H; exact H) | (simp only [hji17] at H ⊢; exact H)
            have hji17_ : (IntKind.u64.wrap ((IntKind.u64.wrap (Go.bits .and .u8 (bt a0 x8_1) 127)) * 2 ^ min (ji15).toNat 64)) = ji17 := hji17
            have hji17z : (ji15) ≤ 64 → (IntKind.u64.wrap ((IntKind.u64.wrap (Go.bits .and .u8 (bt a0 x8_1) 127)) * 2 ^ (ji15).toNat)) = ji17 := shl_small hji17
            by_cases c18 : 0 ≤ x8_1
            ·
             rw [if_pos c18] at H
             have c18b0 : decide (0 ≤ x8_1) = true := decide_eq_true c18
             clear c18
             by_cases c19 : x8_1 < (a0.size : Int)
             ·
              rw [if_pos c19] at H
              have c19b0 : decide (x8_1 < (a0.size : Int)) = true := decide_eq_true c19
              clear c19
              by_cases c21 : (bt a0 x8_1) < 128
              ·
               rw [if_pos c21] at H
               have c21b0 : decide ((bt a0 x8_1) < 128) = true := decide_eq_true c21
               clear c21
               simp only [Option.some.injEq, Prod.mk.injEq] at H
               obtain ⟨rfl, rfl⟩ := H
               have p20 : 0 ≤ (x8_1 : Int) := od_
               have q20 : x8_1 < (a0.size : Int) := od_
               have hx20 := bt_at a0 x8_1
               replace p20 := eq_true p20
               replace q20 := eq_true q20
               go_wp2
               go_ret2
               exact ⟨by first | rfl | (simp; done) | (simp only [← hji15, ← hji17] <;> (first | rfl | simp)) | (simp [*]; done), dr_⟩
              ·
               rw [if_neg c21] at H
               have c21b0 : decide ((bt a0 x8_1) < 128) = false := decide_eq_false c21
               clear c21
               have H' := Aside0.mk H
               clear H
               have p20 : 0 ≤ (x8_1 : Int) := od_
               have q20 : x8_1 < (a0.size : Int) := od_
               have hx20 := bt_at a0 x8_1
               replace p20 := eq_true p20
               replace q20 := eq_true q20
               go_wp2
               go_roundg kj8
               case measure => have := HK1.out; have := HJ2.out; have := HJ8.out; omega
               case rel => exact ⟨(Go.bits .or .u64 x7_1 (ji17)), (wrap64 (x8_1 + 1)), (by first | rfl | (simp; done) | (simp only [← hji17] <;> (first | rfl | simp)) | (simp [*]; done)), (by first | rfl | (simp; done) | (simp [*]; done)), H', ⟨by have := HK1.out; have := HJ2.out; have := HJ8.out; omega⟩, dr_⟩
             ·
              rw [if_neg c19] at H
              exact absurd H (by simp)
            ·
             rw [if_neg c18] at H
             exact absurd H (by simp)
           ·
            rw [if_neg c16] at H
            exact absurd H (by simp)
       ·
        rw [if_neg c7] at H
        exact absurd H (by simp)
      ·
       rw [if_neg c6] at H
       exact absurd H (by simp)
     ·
      replace c5 := Bool.eq_false_iff.mpr c5
      subst c5
      have H1 : (some (0, 0)) = some (r1, r2) := by rw [if_neg (show ¬ (false = true) by decide)] at H; exact H
      clear H
      have H := H1
      clear H1
      simp only [Option.some.injEq, Prod.mk.injEq] at H
      obtain ⟨rfl, rfl⟩ := H
      go_wp2
      go_ret2
      exact ⟨by first | rfl | (simp; done) | (simp [*]; done), dr_⟩


/-! ### spec_l9R_num: function 44 -/
def spec_l9R_num.f (k : Nat) (s0_0 : ByteArray) (s0_1 : Int) (s0_2 : Bool) (a1 : Int) : Option (Int × ByteArray × Int × Bool) := if 0 ≤ s0_1 then (if s0_1 ≤ (s0_0.size : Int) then ((spec_l1TakeU.f k (s0_0.extract (s0_1 : Int).toNat s0_0.size) a1).bind fun bt101 => (if bt101.2 = 0 then (some (bt101.1, s0_0, wrap64 (s0_1 + bt101.2), true)) else (some (bt101.1, s0_0, wrap64 (s0_1 + bt101.2), s0_2)))) else (none)) else (none)
set_option maxHeartbeats 8000000 in
set_option maxRecDepth 100000 in
theorem spec_l9R_num.calls (k : Nat) (g : Nat) (s0_0 : ByteArray) (s0_1 : Int) (s0_2 : Bool) (a1 : Int) (r1 : Int) (r2 : ByteArray) (r3 : Int) (r4 : Bool) (w0 w : World) (hI : IsS48 w0 w g s0_0 s0_1 s0_2) (hB : Below w0.heap.size w0 w) (h : spec_l9R_num.f k s0_0 s0_1 s0_2 a1 = some (r1, r2, r3, r4)) :
  Calls Try.prog 44 #[.pointer (some ⟨g, 0, none⟩), .int .i64 a1] w fun e w' => e = .returned (.int .u64 r1) ∧ IsS48 w0 w' g r2 r3 r4 ∧ Below w0.heap.size w0 w' ∧ KeepBut w w' g none := by
 have HI0 := Aside0.mk hI
 have HK := Aside0.mk (KeepBut.refl w g none)
 have HL := Aside0.mk hB.size
 clear hI
 have HW0 := Aside0.mk hB.size
 have HB := Aside0.mk hB
 clear hB
 have H : (if 0 ≤ s0_1 then (if s0_1 ≤ (s0_0.size : Int) then ((spec_l1TakeU.f k (s0_0.extract (s0_1 : Int).toNat s0_0.size) a1).bind fun bt101 => (if bt101.2 = 0 then (some (bt101.1, s0_0, wrap64 (s0_1 + bt101.2), true)) else (some (bt101.1, s0_0, wrap64 (s0_1 + bt101.2), s0_2)))) else (none)) else (none)) = some (r1, r2, r3, r4) := h
 clear h
 by_cases c3 : 0 ≤ s0_1
 ·
  rw [if_pos c3] at H
  have c3b0 := eq_true c3
  have c3b1 : decide (0 ≤ s0_1) = true := decide_eq_true c3
  clear c3
  by_cases c4 : s0_1 ≤ (s0_0.size : Int)
  ·
   rw [if_pos c4] at H
   have c4b0 := eq_true c4
   have c4b1 : decide (s0_1 ≤ (s0_0.size : Int)) = true := decide_eq_true c4
   clear c4
   replace H := Option.bind_eq_some_iff.mp H
   obtain ⟨⟨t101, t102⟩, A50, H⟩ := H
   replace H : (if t102 = 0 then (some (t101, s0_0, wrap64 (s0_1 + t102), true)) else (some (t101, s0_0, wrap64 (s0_1 + t102), s0_2))) = some (r1, r2, r3, r4) := H
   have A5 := Aside0.mk A50
   clear A50
   by_cases c6 : t102 = 0
   ·
    rw [if_pos c6] at H
    have c6b0 : (t102 == 0) = true := beq_iff_eq.mpr c6
    have c6b1 : (t102 != 0) = false := bne_eq_false_iff_eq.mpr c6
    clear c6
    simp only [Option.some.injEq, Prod.mk.injEq] at H
    obtain ⟨rfl, rfl, rfl, rfl⟩ := H
    obtain ⟨HGz7, hgz7⟩ := HI0.out
    have hcz7_0 := cellS48_0 HGz7
    have hcz7_1 := cellS48_1 HGz7
    have hcz7_2 := cellS48_2 HGz7
    have hfz7_0 := blk_frozen HGz7 0
    have hfz7_1 := blk_frozen HGz7 1
    have hfz7_2 := blk_frozen HGz7 2
    clear HGz7 hgz7
    go_enter Try.func44, Try.ntmps44
    go_wp2_with (first | (go_at_call 67; (with_reducible refine (spec_l1TakeU.calls k (s0_0.extract (s0_1 : Int).toNat s0_0.size) a1 t101 t102 _ A5.out).mono ?_); rintro e w' ⟨rfl, ⟨nd, rfl⟩⟩; (try first | exact ⟨rfl, _, World.drewN_drewN _ _ _⟩ | exact ⟨rfl, _, Eq.trans (World.drewN_drewN _ _ _) (congrArg (World.drewN _) (Nat.add_assoc _ _ _))⟩)))
    repeat (go_quiet (first | (go_at_call 67; (with_reducible refine (spec_l1TakeU.calls k (s0_0.extract (s0_1 : Int).toNat s0_0.size) a1 t101 t102 _ A5.out).mono ?_); rintro e w' ⟨rfl, ⟨nd, rfl⟩⟩; (try first | exact ⟨rfl, _, World.drewN_drewN _ _ _⟩ | exact ⟨rfl, _, Eq.trans (World.drewN_drewN _ _ _) (congrArg (World.drewN _) (Nat.add_assoc _ _ _))⟩))); try go_wp2_with (first | (go_at_call 67; (with_reducible refine (spec_l1TakeU.calls k (s0_0.extract (s0_1 : Int).toNat s0_0.size) a1 t101 t102 _ A5.out).mono ?_); rintro e w' ⟨rfl, ⟨nd, rfl⟩⟩; (try first | exact ⟨rfl, _, World.drewN_drewN _ _ _⟩ | exact ⟨rfl, _, Eq.trans (World.drewN_drewN _ _ _) (congrArg (World.drewN _) (Nat.add_assoc _ _ _))⟩))))
    go_ret
    exact ⟨rr_, y0 HI0.out, y1 HB.out, y2 HK.out⟩
   ·
    rw [if_neg c6] at H
    have c6b0 : (t102 == 0) = false := beq_eq_false_iff_ne.mpr c6
    have c6b1 : (t102 != 0) = true := bne_iff_ne.mpr c6
    simp only [Option.some.injEq, Prod.mk.injEq] at H
    obtain ⟨rfl, rfl, rfl, rfl⟩ := H
    obtain ⟨HGz8, hgz8⟩ := HI0.out
    have hcz8_0 := cellS48_0 HGz8
    have hcz8_1 := cellS48_1 HGz8
    have hcz8_2 := cellS48_2 HGz8
    have hfz8_0 := blk_frozen HGz8 0
    have hfz8_1 := blk_frozen HGz8 1
    have hfz8_2 := blk_frozen HGz8 2
    clear HGz8 hgz8
    go_enter Try.func44, Try.ntmps44
    go_wp2_with (first | (go_at_call 67; (with_reducible refine (spec_l1TakeU.calls k (s0_0.extract (s0_1 : Int).toNat s0_0.size) a1 t101 t102 _ A5.out).mono ?_); rintro e w' ⟨rfl, ⟨nd, rfl⟩⟩; (try first | exact ⟨rfl, _, World.drewN_drewN _ _ _⟩ | exact ⟨rfl, _, Eq.trans (World.drewN_drewN _ _ _) (congrArg (World.drewN _) (Nat.add_assoc _ _ _))⟩)))
    repeat (go_quiet (first | (go_at_call 67; (with_reducible refine (spec_l1TakeU.calls k (s0_0.extract (s0_1 : Int).toNat s0_0.size) a1 t101 t102 _ A5.out).mono ?_); rintro e w' ⟨rfl, ⟨nd, rfl⟩⟩; (try first | exact ⟨rfl, _, World.drewN_drewN _ _ _⟩ | exact ⟨rfl, _, Eq.trans (World.drewN_drewN _ _ _) (congrArg (World.drewN _) (Nat.add_assoc _ _ _))⟩))); try go_wp2_with (first | (go_at_call 67; (with_reducible refine (spec_l1TakeU.calls k (s0_0.extract (s0_1 : Int).toNat s0_0.size) a1 t101 t102 _ A5.out).mono ?_); rintro e w' ⟨rfl, ⟨nd, rfl⟩⟩; (try first | exact ⟨rfl, _, World.drewN_drewN _ _ _⟩ | exact ⟨rfl, _, Eq.trans (World.drewN_drewN _ _ _) (congrArg (World.drewN _) (Nat.add_assoc _ _ _))⟩))))
    go_ret
    exact ⟨rr_, y0 HI0.out, y1 HB.out, y2 HK.out⟩
  ·
   rw [if_neg c4] at H
   exact absurd H (by simp)
 ·
  rw [if_neg c3] at H
  exact absurd H (by simp)


/-! ### spec_l9R_types: function 42 -/
def spec_l9R_types.l0 : Nat → List Int → Int → ByteArray → Int → Bool → Option (List Int × ByteArray × Int × Bool)
 | 0, _, _, _, _, _ => none
 | k + 1, x3, x4, x1000, x1001, x1002 => if x4 > 0 then (if x1002 = true then (some (x3, x1000, x1001, x1002)) else ((spec_l9R_byte.f x1000 x1001 x1002).bind fun bt107 => (if x3.length < 17592186044416 then (spec_l9R_types.l0 k (x3 ++ [bt107.1]) (IntKind.u64.wrap (x4 - 1)) bt107.2.1 bt107.2.2.1 bt107.2.2.2) else (none)))) else (some (x3, x1000, x1001, x1002))
def spec_l9R_types.f (k : Nat) (s0_0 : ByteArray) (s0_1 : Int) (s0_2 : Bool) : Option (List Int × ByteArray × Int × Bool) := (spec_l9R_num.f k s0_0 s0_1 s0_2 32).bind fun bt103 => (spec_l9R_types.l0 k ([] : List Int) bt103.1 bt103.2.1 bt103.2.2.1 bt103.2.2.2)
set_option maxHeartbeats 8000000 in
set_option maxRecDepth 100000 in
theorem spec_l9R_types.calls (k : Nat) (g : Nat) (s0_0 : ByteArray) (s0_1 : Int) (s0_2 : Bool) (r1 : List Int) (r2 : ByteArray) (r3 : Int) (r4 : Bool) (w0 w : World) (hI : IsS48 w0 w g s0_0 s0_1 s0_2) (hB : Below w0.heap.size w0 w) (h : spec_l9R_types.f k s0_0 s0_1 s0_2 = some (r1, r2, r3, r4)) :
  Calls Try.prog 42 #[.pointer (some ⟨g, 0, none⟩)] w fun e w' => ∃ v0_ : Value, e = .returned (v0_) ∧ Kd.R (Kd.int .i64) 3 w' w.heap.size (fun _ => True) v0_ r1 ∧ IsS48 w0 w' g r2 r3 r4 ∧ Below w0.heap.size w0 w' ∧ KeepBut w w' g none := by
 have HI0 := Aside0.mk hI
 have HK := Aside0.mk (KeepBut.refl w g none)
 have HL := Aside0.mk hB.size
 clear hI
 have HW0 := Aside0.mk hB.size
 have HB := Aside0.mk hB
 clear hB
 have H : ((spec_l9R_num.f k s0_0 s0_1 s0_2 32).bind fun bt103 => (spec_l9R_types.l0 k ([] : List Int) bt103.1 bt103.2.1 bt103.2.2.1 bt103.2.2.2)) = some (r1, r2, r3, r4) := h
 clear h
 replace H := Option.bind_eq_some_iff.mp H
 obtain ⟨⟨t103, t104, t105, t106⟩, A20, H⟩ := H
 replace H : (spec_l9R_types.l0 k ([] : List Int) t103 t104 t105 t106) = some (r1, r2, r3, r4) := H
 have A2 := Aside0.mk A20
 clear A20
 have H' := Aside0.mk H
 clear H
 go_enter Try.func42, Try.ntmps42
 go_wp2_with (first | ((with_reducible refine gate_callee (f := 44) rfl ?_); refine goesL_ (some 6) rfl rfl Try.func44 (by kernel_rfl) rfl #[.pointer (some ⟨g, 0, none⟩), .int .i64 32] rfl ar ?_; (with_reducible refine (spec_l9R_num.calls k g s0_0 s0_1 s0_2 32 t103 t104 t105 t106 w0 _ ?side1 ?side2 A2.out).mono ?_); (case side1 => repeat (first | (with_reducible first | exact HI0.out | apply IsS48.alloc | apply IsS48.drewN | apply IsS48.drew | apply IsS48.set_0 | apply IsS48.set_1 | apply IsS48.set_2) | exact HI0.out)); (case side2 => repeat (first | (with_reducible first | exact HB.out | apply below_alloc | apply pw_below_drewN | apply below_drew1 | refine below_set ?_ (IsS48.ge HI0.out)) | exact HB.out)); rintro e w3 ⟨rfl, hi, hb, hk⟩; refine ⟨_, rfl, ?_⟩; have n0_ := Aside0.mk (KeepBut.trans (y2 HK.out) hk (.inl rfl)); have n1_ := Aside0.mk (hb); have n2_ := Aside0.mk (hi); clear HK; clear HB; clear HI0; have HK := n0_; have HB := n1_; have HI0 := n2_; clear n0_ n1_ n2_; (try clear hb); (try clear hb2); (try clear hk); (try clear hi)))
 (try simp only [Act.put, List.setIfInBounds_toArray, List.set_cons_zero, List.set_cons_succ])
 go_loopg [3, 4] k (fun kq v3 v4 w' => ∃ (x3_1 : List Int) (x4_1 : Int) (x1000_1 : ByteArray) (x1001_1 : Int) (x1002_1 : Bool), v4 = .int .u64 x4_1 ∧ Aside0 (spec_l9R_types.l0 kq x3_1 x4_1 x1000_1 x1001_1 x1002_1 = some (r1, r2, r3, r4)) ∧ Aside0 (kq ≤ k) ∧ Aside0 (Kd.R (Kd.int .i64) 3 w' w.heap.size (fun _ => True) v3 x3_1) ∧ Aside0 (IsS48 w0 w' g x1000_1 x1001_1 x1002_1) ∧ Aside0 (KeepBut w w' g none) ∧ Aside0 (Below w0.heap.size w0 w'))
 case atStart => exact ⟨(([] : List Int)), (t103), (t104), (t105), (t106), (by first | rfl | (simp; done) | (simp [*]; done)), H', ⟨Nat.le_refl _⟩, ⟨by first | exact Kd.R_nil _ _ _ _ _ | exact Kd.N_nil _ _ _ _ _ | exact Kd.V_nil _ _ _ _ _ | exact Kd.Q_nil _ _ _ _ _ | exact Kd.S_nil _ _ _ _ _⟩, ⟨y0 HI0.out⟩, ⟨y2 HK.out⟩, ⟨y1 HB.out⟩⟩
 case round =>
  clear H'
  obtain ⟨x3_1, x4_1, x1000_1, x1001_1, x1002_1, rfl, HA, HK1, HO_3, HI0, HK, HB⟩ := hrel
  cases gk with
  | zero => exact absurd HA.out (by simp [spec_l9R_types.l0])
  | succ k1 =>
   have H := HA.out
   clear HA
   simp only [spec_l9R_types.l0] at H
   by_cases c4 : x4_1 > 0
   ·
    rw [if_pos c4] at H
    have c4b0 : decide (0 < x4_1) = true := decide_eq_true c4
    clear c4
    by_cases c5 : x1002_1 = true
    ·
     subst c5
     have H1 : (some (x3_1, x1000_1, x1001_1, true)) = some (r1, r2, r3, r4) := by rw [if_pos rfl] at H; exact H
     clear H
     have H := H1
     clear H1
     simp only [Option.some.injEq, Prod.mk.injEq] at H
     obtain ⟨rfl, rfl, rfl, rfl⟩ := H
     obtain ⟨HGz6, hgz6⟩ := HI0.out
     have hcz6_0 := cellS48_0 HGz6
     have hcz6_1 := cellS48_1 HGz6
     have hcz6_2 := cellS48_2 HGz6
     have hfz6_0 := blk_frozen HGz6 0
     have hfz6_1 := blk_frozen HGz6 1
     have hfz6_2 := blk_frozen HGz6 2
     clear HGz6 hgz6
     go_wp2
     go_ret
     exact ⟨_, rr_, kr_ HO_3.out, y0 HI0.out, y1 HB.out, y2 HK.out⟩
    ·
     replace c5 := Bool.eq_false_iff.mpr c5
     subst c5
     have H1 : ((spec_l9R_byte.f x1000_1 x1001_1 false).bind fun bt107 => (if x3_1.length < 17592186044416 then (spec_l9R_types.l0 k1 (x3_1 ++ [bt107.1]) (IntKind.u64.wrap (x4_1 - 1)) bt107.2.1 bt107.2.2.1 bt107.2.2.2) else (none))) = some (r1, r2, r3, r4) := by rw [if_neg (show ¬ (false = true) by decide)] at H; exact H
     clear H
     have H := H1
     clear H1
     replace H := Option.bind_eq_some_iff.mp H
     obtain ⟨⟨t107, t108, t109, t110⟩, A70, H⟩ := H
     replace H : (if x3_1.length < 17592186044416 then (spec_l9R_types.l0 k1 (x3_1 ++ [t107]) (IntKind.u64.wrap (x4_1 - 1)) t108 t109 t110) else (none)) = some (r1, r2, r3, r4) := H
     have A7 := Aside0.mk A70
     clear A70
     by_cases c8 : x3_1.length < 17592186044416
     ·
      rw [if_pos c8] at H
      have LMc8 := Aside0.mk c8
      clear c8
      obtain ⟨y111, hy111⟩ : ∃ y_ : List Int, y_ = (x3_1 ++ [t107]) := ⟨_, rfl⟩
      replace H : (spec_l9R_types.l0 k1 y111 (IntKind.u64.wrap (x4_1 - 1)) t108 t109 t110) = some (r1, r2, r3, r4) := by first | (rw [hy111]; with_reducible exact H) | (have H2_ := (Option.bind_some _ _).symm.trans H; rw [hy111]; with_reducible exact H2_) | (have H2_ := (Option.bind_some _ _).symm.trans H; with_reducible exact H2_) | with_reducible exact H | (rw [hy111]; exact H) | exact H
      have Ny111 := Aside0.mk hy111
      clear hy111
      have H' := Aside0.mk H
      clear H
      obtain ⟨HGz9, hgz9⟩ := HI0.out
      have hcz9_0 := cellS48_0 HGz9
      have hcz9_1 := cellS48_1 HGz9
      have hcz9_2 := cellS48_2 HGz9
      have hfz9_0 := blk_frozen HGz9 0
      have hfz9_1 := blk_frozen HGz9 1
      have hfz9_2 := blk_frozen HGz9 2
      clear HGz9 hgz9
      go_wp2_with (first | ((with_reducible refine gate_callee (f := 43) rfl ?_); refine goesL_ (some 20) rfl rfl Try.func43 (by kernel_rfl) rfl #[.pointer (some ⟨g, 0, none⟩)] rfl ar ?_; (with_reducible refine (spec_l9R_byte.calls g x1000_1 x1001_1 false t107 t108 t109 t110 w0 _ ?side1 ?side2 A7.out).mono ?_); (case side1 => repeat (first | (with_reducible first | exact HI0.out | apply IsS48.alloc | apply IsS48.drewN | apply IsS48.drew | apply IsS48.set_0 | apply IsS48.set_1 | apply IsS48.set_2) | exact HI0.out)); (case side2 => repeat (first | (with_reducible first | exact HB.out | apply below_alloc | apply pw_below_drewN | apply below_drew1 | refine below_set ?_ (IsS48.ge HI0.out)) | exact HB.out)); rintro e w10 ⟨rfl, hi, hb, hk⟩; refine ⟨_, rfl, ?_⟩; have n0_ := Aside0.mk (Kd.R_mono (Kd.R_keep (IsS48.apart (show IsS48 w0 _ g x1000_1 x1001_1 false from y0 HI0.out) (kr_ HO_3.out) (by decide)) hk (fun _ h => h.2)) (fun _ h => h.1)); have n1_ := Aside0.mk (KeepBut.trans (y2 HK.out) hk (.inl rfl)); have n2_ := Aside0.mk (hb); have n3_ := Aside0.mk (hi); clear HO_3; clear HK; clear HB; clear HI0; have HO_3 := n0_; have HK := n1_; have HB := n2_; have HI0 := n3_; clear n0_ n1_ n2_ n3_; (try clear hb); (try clear hb2); (try clear hk); (try clear hi)) | ((with_reducible refine gate_builtin (b := .append) (xs := #[.tmp 18, .tmp 21]) rfl ?_); at_builtin; refine Kd.R_append (Kd.int .i64) w.heap.size rfl (.tmp 18) (.tmp 21) 22 3 (.int .i64 0) 8 rfl Try.underlying22 info3 rfl (by decide) (by omega) u3 x3_1 t107 [.int .i64 t107] (fun _ => True) (fun _ => False) rfl rfl ?aP (fun _ hk => hk.elim) ?aF ?aO (Below.refl _ _) ?aS ?aL ?_; (case aP => exact rfl); (case aF => exact (fun _ _ => trivial)); (case aO => exact (kr_ HO_3.out)); (case aS => exact (keep_size (w := w) (g := g) (row := none) (y2 HK.out))); (case aL => have := LMc8.out; omega); intro v112 w11 ho hb hg hat; rw [← Ny111.out] at ho; have n0_ := Aside0.mk (IsS48.grown (y0 HI0.out) hg (IsS48.own_ne HI0.out HO_3.out (by decide))); have n1_ := Aside0.mk (below_weaken (y1 HB.out) HL.out hb); have n2_ := Aside0.mk (KeepBut.trans (y2 HK.out) (KeepBut.of_grown hg g) (Kd.R_base2 HO_3.out)); have n3_ := Aside0.mk (ho); clear HI0; clear HB; clear HK; clear HO_3; have HI0 := n0_; have HB := n1_; have HK := n2_; have HO113 := n3_; clear n0_ n1_ n2_ n3_; clear ho hb hg hat))
      go_roundg k1
      case measure => have := HK1.out; omega
      case rel => exact ⟨(y111), (IntKind.u64.wrap (x4_1 - 1)), (t108), (t109), (t110), (by first | rfl | (simp; done) | (simp [*]; done)), H', ⟨by have := HK1.out; omega⟩, ⟨kr_ HO113.out⟩, ⟨y0 HI0.out⟩, ⟨y2 HK.out⟩, ⟨y1 HB.out⟩⟩
     ·
      rw [if_neg c8] at H
      exact absurd H (by simp)
   ·
    rw [if_neg c4] at H
    have c4b0 : decide (0 < x4_1) = false := decide_eq_false c4
    clear c4
    simp only [Option.some.injEq, Prod.mk.injEq] at H
    obtain ⟨rfl, rfl, rfl, rfl⟩ := H
    go_wp2
    go_ret
    exact ⟨_, rr_, kr_ HO_3.out, y0 HI0.out, y1 HB.out, y2 HK.out⟩


/-! ### spec_l1In: function 74 -/
def spec_l1In.f (a0 : Int) (a1 : Int) (a2 : Int) : Option (Bool) := if a0 ≥ a1 then (some (decide (a0 ≤ a2))) else (some false)
set_option maxHeartbeats 8000000 in
set_option maxRecDepth 100000 in
theorem spec_l1In.calls (a0 : Int) (a1 : Int) (a2 : Int) (r : Bool) (w : World) (h : spec_l1In.f a0 a1 a2 = some r) :
  Calls Try.prog 74 #[.int .i64 a0, .int .i64 a1, .int .i64 a2] w fun e w' => e = .returned (.bool r) ∧ Drawn0 w w' := by
 have H : (if a0 ≥ a1 then (some (decide (a0 ≤ a2))) else (some false)) = some r := h
 clear h
 by_cases c4 : a0 ≥ a1
 ·
  rw [if_pos c4] at H
  have c4b0 : decide (a1 ≤ a0) = true := decide_eq_true c4
  clear c4
  obtain rfl := Option.some.inj H
  simp only [Option.some.injEq, Prod.mk.injEq] at H
  obtain ⟨rfl⟩ := H
  go_enter Try.func74, Try.ntmps74
  go_wp2
  go_ret
  exact ⟨by first | rfl | (simp; done) | (simp [*]; done), dr_⟩
 ·
  rw [if_neg c4] at H
  have c4b0 : decide (a1 ≤ a0) = false := decide_eq_false c4
  clear c4
  obtain rfl := Option.some.inj H
  simp only [Option.some.injEq, Prod.mk.injEq] at H
  obtain ⟨rfl⟩ := H
  go_enter Try.func74, Try.ntmps74
  go_wp2
  go_ret
  exact ⟨by first | rfl | (simp; done) | (simp [*]; done), dr_⟩


/-! ### spec_l6Shape: function 58 -/
mutual
def spec_l6Shape.j0 : Nat → Int → Int → Bool → Option (Int)
 | 0, _, _, _ => none
 | k + 1, x0, x3, x4 => if x4 = true then (some 0) else (if x3 = 2 then (spec_l6Shape.j1 k x0 x3 (x3 == 2)) else (if x3 = 3 then (spec_l6Shape.j1 k x0 x3 (x3 == 3)) else (spec_l6Shape.j1 k x0 x3 (x3 == 4))))
def spec_l6Shape.j1 : Nat → Int → Int → Bool → Option (Int)
 | 0, _, _, _ => none
 | k + 1, x0, x3, x19 => if x19 = true then (some 1) else (if x3 = 12 then (spec_l6Shape.j2 k x0 x3 (x3 == 12)) else (if x3 = 13 then (spec_l6Shape.j2 k x0 x3 (x3 == 13)) else (if x3 = 16 then (spec_l6Shape.j2 k x0 x3 (x3 == 16)) else (if x3 = 32 then (spec_l6Shape.j2 k x0 x3 (x3 == 32)) else (if x3 = 33 then (spec_l6Shape.j2 k x0 x3 (x3 == 33)) else (if x3 = 34 then (spec_l6Shape.j2 k x0 x3 (x3 == 34)) else (if x3 = 35 then (spec_l6Shape.j2 k x0 x3 (x3 == 35)) else (spec_l6Shape.j2 k x0 x3 (x3 == 36)))))))))
def spec_l6Shape.j2 : Nat → Int → Int → Bool → Option (Int)
 | 0, _, _, _ => none
 | k + 1, x0, x3, x23 => if x23 = true then (some 2) else (if x3 = 40 then (spec_l6Shape.j3 k x0 x3 (x3 == 40)) else (if x3 = 41 then (spec_l6Shape.j3 k x0 x3 (x3 == 41)) else (if x3 = 54 then (spec_l6Shape.j3 k x0 x3 (x3 == 54)) else (spec_l6Shape.j3 k x0 x3 (x3 == 55)))))
def spec_l6Shape.j3 : Nat → Int → Int → Bool → Option (Int)
 | 0, _, _, _ => none
 | k + 1, x0, x3, x32 => if x32 = true then (some 3) else (if x3 = 65 then (some 4) else (if x3 = 66 then (some 5) else (if x3 = 67 then (some 6) else ((spec_l1In.f x0 97 123).bind fun t114 => (if t114 = true then (some 0) else ((spec_l1In.f x0 129 155).bind fun t115 => (if t115 = true then (some 0) else ((spec_l1In.f x0 161 169).bind fun t116 => (if t116 = true then (some 0) else (some (-1)))))))))))
end
def spec_l6Shape.f (k : Nat) (a0 : Int) : Option (Int) := if a0 = 0 then (spec_l6Shape.j0 k a0 a0 (a0 == 0)) else (if a0 = 1 then (spec_l6Shape.j0 k a0 a0 (a0 == 1)) else (if a0 = 5 then (spec_l6Shape.j0 k a0 a0 (a0 == 5)) else (if a0 = 11 then (spec_l6Shape.j0 k a0 a0 (a0 == 11)) else (if a0 = 15 then (spec_l6Shape.j0 k a0 a0 (a0 == 15)) else (if a0 = 26 then (spec_l6Shape.j0 k a0 a0 (a0 == 26)) else (if a0 = 27 then (spec_l6Shape.j0 k a0 a0 (a0 == 27)) else (if a0 = 63 then (spec_l6Shape.j0 k a0 a0 (a0 == 63)) else (if a0 = 64 then (spec_l6Shape.j0 k a0 a0 (a0 == 64)) else (if a0 = 176 then (spec_l6Shape.j0 k a0 a0 (a0 == 176)) else (if a0 = 177 then (spec_l6Shape.j0 k a0 a0 (a0 == 177)) else (if a0 = 178 then (spec_l6Shape.j0 k a0 a0 (a0 == 178)) else (if a0 = 179 then (spec_l6Shape.j0 k a0 a0 (a0 == 179)) else (spec_l6Shape.j0 k a0 a0 (a0 == 180))))))))))))))
theorem spec_l6Shape.mono_l : ∀ k, (∀ y0 y1 y2, LeO (spec_l6Shape.j0 k y0 y1 y2) (spec_l6Shape.j0 (k + 1) y0 y1 y2)) ∧ (∀ y0 y1 y2, LeO (spec_l6Shape.j1 k y0 y1 y2) (spec_l6Shape.j1 (k + 1) y0 y1 y2)) ∧ (∀ y0 y1 y2, LeO (spec_l6Shape.j2 k y0 y1 y2) (spec_l6Shape.j2 (k + 1) y0 y1 y2)) ∧ (∀ y0 y1 y2, LeO (spec_l6Shape.j3 k y0 y1 y2) (spec_l6Shape.j3 (k + 1) y0 y1 y2))
 | 0 => ⟨fun _ _ _ r h => by simp [spec_l6Shape.j0] at h, fun _ _ _ r h => by simp [spec_l6Shape.j1] at h, fun _ _ _ r h => by simp [spec_l6Shape.j2] at h, fun _ _ _ r h => by simp [spec_l6Shape.j3] at h⟩
 | k + 1 => by
  obtain ⟨ih0, ih1, ih2, ih3⟩ := spec_l6Shape.mono_l k
  refine ⟨?_, ?_, ?_, ?_⟩
  ·
   intro y0 y1 y2
   unfold spec_l6Shape.j0
   repeat' first
   | (with_reducible exact ih0 _ _ _)
   | (with_reducible exact ih1 _ _ _)
   | (with_reducible exact ih2 _ _ _)
   | (with_reducible exact ih3 _ _ _)
   | (with_reducible exact LeO.refl _)
   | (with_reducible exact LeO.none _)
   | (with_reducible refine LeO.ite ?_ ?_)
   | (with_reducible refine LeO.bind ?_ (fun _ => ?_))
   | exact ih0 _ _ _
   | exact ih1 _ _ _
   | exact ih2 _ _ _
   | exact ih3 _ _ _
   | exact LeO.none _
   | refine LeO.ite ?_ ?_
   | refine LeO.bind ?_ (fun _ => ?_)
  ·
   intro y0 y1 y2
   unfold spec_l6Shape.j1
   repeat' first
   | (with_reducible exact ih0 _ _ _)
   | (with_reducible exact ih1 _ _ _)
   | (with_reducible exact ih2 _ _ _)
   | (with_reducible exact ih3 _ _ _)
   | (with_reducible exact LeO.refl _)
   | (with_reducible exact LeO.none _)
   | (with_reducible refine LeO.ite ?_ ?_)
   | (with_reducible refine LeO.bind ?_ (fun _ => ?_))
   | exact ih0 _ _ _
   | exact ih1 _ _ _
   | exact ih2 _ _ _
   | exact ih3 _ _ _
   | exact LeO.none _
   | refine LeO.ite ?_ ?_
   | refine LeO.bind ?_ (fun _ => ?_)
  ·
   intro y0 y1 y2
   unfold spec_l6Shape.j2
   repeat' first
   | (with_reducible exact ih0 _ _ _)
   | (with_reducible exact ih1 _ _ _)
   | (with_reducible exact ih2 _ _ _)
   | (with_reducible exact ih3 _ _ _)
   | (with_reducible exact LeO.refl _)
   | (with_reducible exact LeO.none _)
   | (with_reducible refine LeO.ite ?_ ?_)
   | (with_reducible refine LeO.bind ?_ (fun _ => ?_))
   | exact ih0 _ _ _
   | exact ih1 _ _ _
   | exact ih2 _ _ _
   | exact ih3 _ _ _
   | exact LeO.none _
   | refine LeO.ite ?_ ?_
   | refine LeO.bind ?_ (fun _ => ?_)
  ·
   intro y0 y1 y2
   unfold spec_l6Shape.j3
   repeat' first
   | (with_reducible exact ih0 _ _ _)
   | (with_reducible exact ih1 _ _ _)
   | (with_reducible exact ih2 _ _ _)
   | (with_reducible exact ih3 _ _ _)
   | (with_reducible exact LeO.refl _)
   | (with_reducible exact LeO.none _)
   | (with_reducible refine LeO.ite ?_ ?_)
   | (with_reducible refine LeO.bind ?_ (fun _ => ?_))
   | exact ih0 _ _ _
   | exact ih1 _ _ _
   | exact ih2 _ _ _
   | exact ih3 _ _ _
   | exact LeO.none _
   | refine LeO.ite ?_ ?_
   | refine LeO.bind ?_ (fun _ => ?_)
theorem spec_l6Shape.mono : ∀ a0 k, LeO (spec_l6Shape.f k a0) (spec_l6Shape.f (k + 1) a0) := by
 intro a0 k
 obtain ⟨ih0, ih1, ih2, ih3⟩ := spec_l6Shape.mono_l k
 unfold spec_l6Shape.f
 repeat' first
   | (with_reducible exact ih0 _ _ _)
   | (with_reducible exact ih1 _ _ _)
   | (with_reducible exact ih2 _ _ _)
   | (with_reducible exact ih3 _ _ _)
   | (with_reducible exact LeO.refl _)
   | (with_reducible exact LeO.none _)
   | (with_reducible refine LeO.ite ?_ ?_)
   | (with_reducible refine LeO.bind ?_ (fun _ => ?_))
   | exact ih0 _ _ _
   | exact ih1 _ _ _
   | exact ih2 _ _ _
   | exact ih3 _ _ _
   | exact LeO.none _
   | refine LeO.ite ?_ ?_
   | refine LeO.bind ?_ (fun _ => ?_)
set_option maxHeartbeats 8000000 in
set_option maxRecDepth 100000 in
theorem spec_l6Shape.calls (k : Nat) (a0 : Int) (r : Int) (w : World) (h : spec_l6Shape.f k a0 = some r) :
  Calls Try.prog 58 #[.int .i64 a0] w fun e w' => e = .returned (.int .i64 r) ∧ Drawn0 w w' := by
 have H : (if a0 = 0 then (spec_l6Shape.j0 k a0 a0 (a0 == 0)) else (if a0 = 1 then (spec_l6Shape.j0 k a0 a0 (a0 == 1)) else (if a0 = 5 then (spec_l6Shape.j0 k a0 a0 (a0 == 5)) else (if a0 = 11 then (spec_l6Shape.j0 k a0 a0 (a0 == 11)) else (if a0 = 15 then (spec_l6Shape.j0 k a0 a0 (a0 == 15)) else (if a0 = 26 then (spec_l6Shape.j0 k a0 a0 (a0 == 26)) else (if a0 = 27 then (spec_l6Shape.j0 k a0 a0 (a0 == 27)) else (if a0 = 63 then (spec_l6Shape.j0 k a0 a0 (a0 == 63)) else (if a0 = 64 then (spec_l6Shape.j0 k a0 a0 (a0 == 64)) else (if a0 = 176 then (spec_l6Shape.j0 k a0 a0 (a0 == 176)) else (if a0 = 177 then (spec_l6Shape.j0 k a0 a0 (a0 == 177)) else (if a0 = 178 then (spec_l6Shape.j0 k a0 a0 (a0 == 178)) else (if a0 = 179 then (spec_l6Shape.j0 k a0 a0 (a0 == 179)) else (spec_l6Shape.j0 k a0 a0 (a0 == 180))))))))))))))) = some r := h
 clear h
 have HC2 := Aside0.mk H
 clear H
 go_enter Try.func58, Try.ntmps58
 go_upto_if 4 with (fail)
 go_cut [4] (fun v4 wc => ∃ (kq : Nat) (x4_1 : Bool), v4 = .bool x4_1 ∧ Aside0 (spec_l6Shape.j0 kq a0 a0 x4_1 = some r) ∧ Aside0 (kq ≤ k) ∧ Drawn0 w wc)
 case first =>
  have H := HC2.out
  clear HC2
  by_cases c3 : a0 = 0
  ·
   rw [if_pos c3] at H
   have c3b0 : (a0 == 0) = true := beq_iff_eq.mpr c3
   have c3b1 : (a0 != 0) = false := bne_eq_false_iff_eq.mpr c3
   clear c3
   (first | rw [c3b0] | (simp only [i64_w, i32_w]; rw [c3b0]) | skip)
   have H' := Aside0.mk H
   clear H
   go_wp2
   go_meet
   case rel => exact ⟨_, ((a0 == 0)), (by first | rfl | (simp; done) | (simp [*]; done)), H', ⟨by first | omega | exact Nat.le_refl _⟩, dr_⟩
  ·
   rw [if_neg c3] at H
   have c3b0 : (a0 == 0) = false := beq_eq_false_iff_ne.mpr c3
   have c3b1 : (a0 != 0) = true := bne_iff_ne.mpr c3
   (first | rw [c3b0] | (simp only [i64_w, i32_w]; rw [c3b0]) | skip)
   by_cases c4 : a0 = 1
   ·
    rw [if_pos c4] at H
    have c4b0 : (a0 == 1) = true := beq_iff_eq.mpr c4
    have c4b1 : (a0 != 1) = false := bne_eq_false_iff_eq.mpr c4
    clear c4
    have H' := Aside0.mk H
    clear H
    go_wp2
    go_meet
    case rel => exact ⟨_, ((a0 == 1)), (by first | rfl | (simp; done) | (simp [*]; done)), H', ⟨by first | omega | exact Nat.le_refl _⟩, dr_⟩
   ·
    rw [if_neg c4] at H
    have c4b0 : (a0 == 1) = false := beq_eq_false_iff_ne.mpr c4
    have c4b1 : (a0 != 1) = true := bne_iff_ne.mpr c4
    by_cases c5 : a0 = 5
    ·
     rw [if_pos c5] at H
     have c5b0 : (a0 == 5) = true := beq_iff_eq.mpr c5
     have c5b1 : (a0 != 5) = false := bne_eq_false_iff_eq.mpr c5
     clear c5
     have H' := Aside0.mk H
     clear H
     go_wp2
     go_meet
     case rel => exact ⟨_, ((a0 == 5)), (by first | rfl | (simp; done) | (simp [*]; done)), H', ⟨by first | omega | exact Nat.le_refl _⟩, dr_⟩
    ·
     rw [if_neg c5] at H
     have c5b0 : (a0 == 5) = false := beq_eq_false_iff_ne.mpr c5
     have c5b1 : (a0 != 5) = true := bne_iff_ne.mpr c5
     by_cases c6 : a0 = 11
     ·
      rw [if_pos c6] at H
      have c6b0 : (a0 == 11) = true := beq_iff_eq.mpr c6
      have c6b1 : (a0 != 11) = false := bne_eq_false_iff_eq.mpr c6
      clear c6
      have H' := Aside0.mk H
      clear H
      go_wp2
      go_meet
      case rel => exact ⟨_, ((a0 == 11)), (by first | rfl | (simp; done) | (simp [*]; done)), H', ⟨by first | omega | exact Nat.le_refl _⟩, dr_⟩
     ·
      rw [if_neg c6] at H
      have c6b0 : (a0 == 11) = false := beq_eq_false_iff_ne.mpr c6
      have c6b1 : (a0 != 11) = true := bne_iff_ne.mpr c6
      by_cases c7 : a0 = 15
      ·
       rw [if_pos c7] at H
       have c7b0 : (a0 == 15) = true := beq_iff_eq.mpr c7
       have c7b1 : (a0 != 15) = false := bne_eq_false_iff_eq.mpr c7
       clear c7
       have H' := Aside0.mk H
       clear H
       go_wp2
       go_meet
       case rel => exact ⟨_, ((a0 == 15)), (by first | rfl | (simp; done) | (simp [*]; done)), H', ⟨by first | omega | exact Nat.le_refl _⟩, dr_⟩
      ·
       rw [if_neg c7] at H
       have c7b0 : (a0 == 15) = false := beq_eq_false_iff_ne.mpr c7
       have c7b1 : (a0 != 15) = true := bne_iff_ne.mpr c7
       by_cases c8 : a0 = 26
       ·
        rw [if_pos c8] at H
        have c8b0 : (a0 == 26) = true := beq_iff_eq.mpr c8
        have c8b1 : (a0 != 26) = false := bne_eq_false_iff_eq.mpr c8
        clear c8
        have H' := Aside0.mk H
        clear H
        go_wp2
        go_meet
        case rel => exact ⟨_, ((a0 == 26)), (by first | rfl | (simp; done) | (simp [*]; done)), H', ⟨by first | omega | exact Nat.le_refl _⟩, dr_⟩
       ·
        rw [if_neg c8] at H
        have c8b0 : (a0 == 26) = false := beq_eq_false_iff_ne.mpr c8
        have c8b1 : (a0 != 26) = true := bne_iff_ne.mpr c8
        by_cases c9 : a0 = 27
        ·
         rw [if_pos c9] at H
         have c9b0 : (a0 == 27) = true := beq_iff_eq.mpr c9
         have c9b1 : (a0 != 27) = false := bne_eq_false_iff_eq.mpr c9
         clear c9
         have H' := Aside0.mk H
         clear H
         go_wp2
         go_meet
         case rel => exact ⟨_, ((a0 == 27)), (by first | rfl | (simp; done) | (simp [*]; done)), H', ⟨by first | omega | exact Nat.le_refl _⟩, dr_⟩
        ·
         rw [if_neg c9] at H
         have c9b0 : (a0 == 27) = false := beq_eq_false_iff_ne.mpr c9
         have c9b1 : (a0 != 27) = true := bne_iff_ne.mpr c9
         by_cases c10 : a0 = 63
         ·
          rw [if_pos c10] at H
          have c10b0 : (a0 == 63) = true := beq_iff_eq.mpr c10
          have c10b1 : (a0 != 63) = false := bne_eq_false_iff_eq.mpr c10
          clear c10
          have H' := Aside0.mk H
          clear H
          go_wp2
          go_meet
          case rel => exact ⟨_, ((a0 == 63)), (by first | rfl | (simp; done) | (simp [*]; done)), H', ⟨by first | omega | exact Nat.le_refl _⟩, dr_⟩
         ·
          rw [if_neg c10] at H
          have c10b0 : (a0 == 63) = false := beq_eq_false_iff_ne.mpr c10
          have c10b1 : (a0 != 63) = true := bne_iff_ne.mpr c10
          by_cases c11 : a0 = 64
          ·
           rw [if_pos c11] at H
           have c11b0 : (a0 == 64) = true := beq_iff_eq.mpr c11
           have c11b1 : (a0 != 64) = false := bne_eq_false_iff_eq.mpr c11
           clear c11
           have H' := Aside0.mk H
           clear H
           go_wp2
           go_meet
           case rel => exact ⟨_, ((a0 == 64)), (by first | rfl | (simp; done) | (simp [*]; done)), H', ⟨by first | omega | exact Nat.le_refl _⟩, dr_⟩
          ·
           rw [if_neg c11] at H
           have c11b0 : (a0 == 64) = false := beq_eq_false_iff_ne.mpr c11
           have c11b1 : (a0 != 64) = true := bne_iff_ne.mpr c11
           by_cases c12 : a0 = 176
           ·
            rw [if_pos c12] at H
            have c12b0 : (a0 == 176) = true := beq_iff_eq.mpr c12
            have c12b1 : (a0 != 176) = false := bne_eq_false_iff_eq.mpr c12
            clear c12
            have H' := Aside0.mk H
            clear H
            go_wp2
            go_meet
            case rel => exact ⟨_, ((a0 == 176)), (by first | rfl | (simp; done) | (simp [*]; done)), H', ⟨by first | omega | exact Nat.le_refl _⟩, dr_⟩
           ·
            rw [if_neg c12] at H
            have c12b0 : (a0 == 176) = false := beq_eq_false_iff_ne.mpr c12
            have c12b1 : (a0 != 176) = true := bne_iff_ne.mpr c12
            by_cases c13 : a0 = 177
            ·
             rw [if_pos c13] at H
             have c13b0 : (a0 == 177) = true := beq_iff_eq.mpr c13
             have c13b1 : (a0 != 177) = false := bne_eq_false_iff_eq.mpr c13
             clear c13
             have H' := Aside0.mk H
             clear H
             go_wp2
             go_meet
             case rel => exact ⟨_, ((a0 == 177)), (by first | rfl | (simp; done) | (simp [*]; done)), H', ⟨by first | omega | exact Nat.le_refl _⟩, dr_⟩
            ·
             rw [if_neg c13] at H
             have c13b0 : (a0 == 177) = false := beq_eq_false_iff_ne.mpr c13
             have c13b1 : (a0 != 177) = true := bne_iff_ne.mpr c13
             by_cases c14 : a0 = 178
             ·
              rw [if_pos c14] at H
              have c14b0 : (a0 == 178) = true := beq_iff_eq.mpr c14
              have c14b1 : (a0 != 178) = false := bne_eq_false_iff_eq.mpr c14
              clear c14
              have H' := Aside0.mk H
              clear H
              go_wp2
              go_meet
              case rel => exact ⟨_, ((a0 == 178)), (by first | rfl | (simp; done) | (simp [*]; done)), H', ⟨by first | omega | exact Nat.le_refl _⟩, dr_⟩
             ·
              rw [if_neg c14] at H
              have c14b0 : (a0 == 178) = false := beq_eq_false_iff_ne.mpr c14
              have c14b1 : (a0 != 178) = true := bne_iff_ne.mpr c14
              by_cases c15 : a0 = 179
              ·
               rw [if_pos c15] at H
               have c15b0 : (a0 == 179) = true := beq_iff_eq.mpr c15
               have c15b1 : (a0 != 179) = false := bne_eq_false_iff_eq.mpr c15
               clear c15
               have H' := Aside0.mk H
               clear H
               go_wp2
               go_meet
               case rel => exact ⟨_, ((a0 == 179)), (by first | rfl | (simp; done) | (simp [*]; done)), H', ⟨by first | omega | exact Nat.le_refl _⟩, dr_⟩
              ·
               rw [if_neg c15] at H
               have c15b0 : (a0 == 179) = false := beq_eq_false_iff_ne.mpr c15
               have c15b1 : (a0 != 179) = true := bne_iff_ne.mpr c15
               have H' := Aside0.mk H
               clear H
               go_wp2
               go_meet
               case rel => exact ⟨_, ((a0 == 180)), (by first | rfl | (simp; done) | (simp [*]; done)), H', ⟨by first | omega | exact Nat.le_refl _⟩, dr_⟩
 case rest =>
  clear HC2
  obtain ⟨kq, x4_1, rfl, HA, HJ1, ⟨mc1, rfl⟩⟩ := hcut
  cases kq with
  | zero => exact absurd HA.out (by simp [spec_l6Shape.j0])
  | succ kj1 =>
   have H := HA.out
   clear HA
   simp only [spec_l6Shape.j0] at H
   by_cases c16 : x4_1 = true
   ·
    subst c16
    have H1 : (some 0) = some r := by rw [if_pos rfl] at H; exact H
    clear H
    have H := H1
    clear H1
    obtain rfl := Option.some.inj H
    simp only [Option.some.injEq, Prod.mk.injEq] at H
    obtain ⟨rfl⟩ := H
    go_wp2
    go_ret
    exact ⟨by first | rfl | (simp; done) | (simp [*]; done), dr_⟩
   ·
    replace c16 := Bool.eq_false_iff.mpr c16
    subst c16
    have H1 : (if a0 = 2 then (spec_l6Shape.j1 kj1 a0 a0 (a0 == 2)) else (if a0 = 3 then (spec_l6Shape.j1 kj1 a0 a0 (a0 == 3)) else (spec_l6Shape.j1 kj1 a0 a0 (a0 == 4)))) = some r := by rw [if_neg (show ¬ (false = true) by decide)] at H; exact H
    clear H
    have H := H1
    clear H1
    have HC17 := Aside0.mk H
    clear H
    go_upto_if 19 with (fail)
    go_cut [19] (fun v19 wc => ∃ (kq : Nat) (x19_16 : Bool), v19 = .bool x19_16 ∧ Aside0 (spec_l6Shape.j1 kq a0 a0 x19_16 = some r) ∧ Aside0 (kq ≤ kj1) ∧ Drawn0 w wc)
    case first =>
     have H := HC17.out
     clear HC17
     by_cases c18 : a0 = 2
     ·
      rw [if_pos c18] at H
      have c18b0 : (a0 == 2) = true := beq_iff_eq.mpr c18
      have c18b1 : (a0 != 2) = false := bne_eq_false_iff_eq.mpr c18
      clear c18
      (first | rw [c18b0] | (simp only [i64_w, i32_w]; rw [c18b0]) | skip)
      have H' := Aside0.mk H
      clear H
      go_wp2
      go_meet
      case rel => exact ⟨_, ((a0 == 2)), (by first | rfl | (simp; done) | (simp [*]; done)), H', ⟨by have := HJ1.out; first | omega | exact Nat.le_refl _⟩, dr_⟩
     ·
      rw [if_neg c18] at H
      have c18b0 : (a0 == 2) = false := beq_eq_false_iff_ne.mpr c18
      have c18b1 : (a0 != 2) = true := bne_iff_ne.mpr c18
      (first | rw [c18b0] | (simp only [i64_w, i32_w]; rw [c18b0]) | skip)
      by_cases c19 : a0 = 3
      ·
       rw [if_pos c19] at H
       have c19b0 : (a0 == 3) = true := beq_iff_eq.mpr c19
       have c19b1 : (a0 != 3) = false := bne_eq_false_iff_eq.mpr c19
       clear c19
       have H' := Aside0.mk H
       clear H
       go_wp2
       go_meet
       case rel => exact ⟨_, ((a0 == 3)), (by first | rfl | (simp; done) | (simp [*]; done)), H', ⟨by have := HJ1.out; first | omega | exact Nat.le_refl _⟩, dr_⟩
      ·
       rw [if_neg c19] at H
       have c19b0 : (a0 == 3) = false := beq_eq_false_iff_ne.mpr c19
       have c19b1 : (a0 != 3) = true := bne_iff_ne.mpr c19
       have H' := Aside0.mk H
       clear H
       go_wp2
       go_meet
       case rel => exact ⟨_, ((a0 == 4)), (by first | rfl | (simp; done) | (simp [*]; done)), H', ⟨by have := HJ1.out; first | omega | exact Nat.le_refl _⟩, dr_⟩
    case rest =>
     clear HC17
     try clear c16
     obtain ⟨kq, x19_16, rfl, HA, HJ16, ⟨mc16, rfl⟩⟩ := hcut
     cases kq with
     | zero => exact absurd HA.out (by simp [spec_l6Shape.j1])
     | succ kj16 =>
      have H := HA.out
      clear HA
      simp only [spec_l6Shape.j1] at H
      by_cases c20 : x19_16 = true
      ·
       subst c20
       have H1 : (some 1) = some r := by rw [if_pos rfl] at H; exact H
       clear H
       have H := H1
       clear H1
       obtain rfl := Option.some.inj H
       simp only [Option.some.injEq, Prod.mk.injEq] at H
       obtain ⟨rfl⟩ := H
       go_wp2
       go_ret
       exact ⟨by first | rfl | (simp; done) | (simp [*]; done), dr_⟩
      ·
       replace c20 := Bool.eq_false_iff.mpr c20
       subst c20
       have H1 : (if a0 = 12 then (spec_l6Shape.j2 kj16 a0 a0 (a0 == 12)) else (if a0 = 13 then (spec_l6Shape.j2 kj16 a0 a0 (a0 == 13)) else (if a0 = 16 then (spec_l6Shape.j2 kj16 a0 a0 (a0 == 16)) else (if a0 = 32 then (spec_l6Shape.j2 kj16 a0 a0 (a0 == 32)) else (if a0 = 33 then (spec_l6Shape.j2 kj16 a0 a0 (a0 == 33)) else (if a0 = 34 then (spec_l6Shape.j2 kj16 a0 a0 (a0 == 34)) else (if a0 = 35 then (spec_l6Shape.j2 kj16 a0 a0 (a0 == 35)) else (spec_l6Shape.j2 kj16 a0 a0 (a0 == 36))))))))) = some r := by rw [if_neg (show ¬ (false = true) by decide)] at H; exact H
       clear H
       have H := H1
       clear H1
       have HC21 := Aside0.mk H
       clear H
       go_upto_if 23 with (fail)
       go_cut [23] (fun v23 wc => ∃ (kq : Nat) (x23_20 : Bool), v23 = .bool x23_20 ∧ Aside0 (spec_l6Shape.j2 kq a0 a0 x23_20 = some r) ∧ Aside0 (kq ≤ kj16) ∧ Drawn0 w wc)
       case first =>
        have H := HC21.out
        clear HC21
        by_cases c22 : a0 = 12
        ·
         rw [if_pos c22] at H
         have c22b0 : (a0 == 12) = true := beq_iff_eq.mpr c22
         have c22b1 : (a0 != 12) = false := bne_eq_false_iff_eq.mpr c22
         clear c22
         (first | rw [c22b0] | (simp only [i64_w, i32_w]; rw [c22b0]) | skip)
         have H' := Aside0.mk H
         clear H
         go_wp2
         go_meet
         case rel => exact ⟨_, ((a0 == 12)), (by first | rfl | (simp; done) | (simp [*]; done)), H', ⟨by have := HJ1.out; have := HJ16.out; first | omega | exact Nat.le_refl _⟩, dr_⟩
        ·
         rw [if_neg c22] at H
         have c22b0 : (a0 == 12) = false := beq_eq_false_iff_ne.mpr c22
         have c22b1 : (a0 != 12) = true := bne_iff_ne.mpr c22
         (first | rw [c22b0] | (simp only [i64_w, i32_w]; rw [c22b0]) | skip)
         by_cases c23 : a0 = 13
         ·
          rw [if_pos c23] at H
          have c23b0 : (a0 == 13) = true := beq_iff_eq.mpr c23
          have c23b1 : (a0 != 13) = false := bne_eq_false_iff_eq.mpr c23
          clear c23
          have H' := Aside0.mk H
          clear H
          go_wp2
          go_meet
          case rel => exact ⟨_, ((a0 == 13)), (by first | rfl | (simp; done) | (simp [*]; done)), H', ⟨by have := HJ1.out; have := HJ16.out; first | omega | exact Nat.le_refl _⟩, dr_⟩
         ·
          rw [if_neg c23] at H
          have c23b0 : (a0 == 13) = false := beq_eq_false_iff_ne.mpr c23
          have c23b1 : (a0 != 13) = true := bne_iff_ne.mpr c23
          by_cases c24 : a0 = 16
          ·
           rw [if_pos c24] at H
           have c24b0 : (a0 == 16) = true := beq_iff_eq.mpr c24
           have c24b1 : (a0 != 16) = false := bne_eq_false_iff_eq.mpr c24
           clear c24
           have H' := Aside0.mk H
           clear H
           go_wp2
           go_meet
           case rel => exact ⟨_, ((a0 == 16)), (by first | rfl | (simp; done) | (simp [*]; done)), H', ⟨by have := HJ1.out; have := HJ16.out; first | omega | exact Nat.le_refl _⟩, dr_⟩
          ·
           rw [if_neg c24] at H
           have c24b0 : (a0 == 16) = false := beq_eq_false_iff_ne.mpr c24
           have c24b1 : (a0 != 16) = true := bne_iff_ne.mpr c24
           by_cases c25 : a0 = 32
           ·
            rw [if_pos c25] at H
            have c25b0 : (a0 == 32) = true := beq_iff_eq.mpr c25
            have c25b1 : (a0 != 32) = false := bne_eq_false_iff_eq.mpr c25
            clear c25
            have H' := Aside0.mk H
            clear H
            go_wp2
            go_meet
            case rel => exact ⟨_, ((a0 == 32)), (by first | rfl | (simp; done) | (simp [*]; done)), H', ⟨by have := HJ1.out; have := HJ16.out; first | omega | exact Nat.le_refl _⟩, dr_⟩
           ·
            rw [if_neg c25] at H
            have c25b0 : (a0 == 32) = false := beq_eq_false_iff_ne.mpr c25
            have c25b1 : (a0 != 32) = true := bne_iff_ne.mpr c25
            by_cases c26 : a0 = 33
            ·
             rw [if_pos c26] at H
             have c26b0 : (a0 == 33) = true := beq_iff_eq.mpr c26
             have c26b1 : (a0 != 33) = false := bne_eq_false_iff_eq.mpr c26
             clear c26
             have H' := Aside0.mk H
             clear H
             go_wp2
             go_meet
             case rel => exact ⟨_, ((a0 == 33)), (by first | rfl | (simp; done) | (simp [*]; done)), H', ⟨by have := HJ1.out; have := HJ16.out; first | omega | exact Nat.le_refl _⟩, dr_⟩
            ·
             rw [if_neg c26] at H
             have c26b0 : (a0 == 33) = false := beq_eq_false_iff_ne.mpr c26
             have c26b1 : (a0 != 33) = true := bne_iff_ne.mpr c26
             by_cases c27 : a0 = 34
             ·
              rw [if_pos c27] at H
              have c27b0 : (a0 == 34) = true := beq_iff_eq.mpr c27
              have c27b1 : (a0 != 34) = false := bne_eq_false_iff_eq.mpr c27
              clear c27
              have H' := Aside0.mk H
              clear H
              go_wp2
              go_meet
              case rel => exact ⟨_, ((a0 == 34)), (by first | rfl | (simp; done) | (simp [*]; done)), H', ⟨by have := HJ1.out; have := HJ16.out; first | omega | exact Nat.le_refl _⟩, dr_⟩
             ·
              rw [if_neg c27] at H
              have c27b0 : (a0 == 34) = false := beq_eq_false_iff_ne.mpr c27
              have c27b1 : (a0 != 34) = true := bne_iff_ne.mpr c27
              by_cases c28 : a0 = 35
              ·
               rw [if_pos c28] at H
               have c28b0 : (a0 == 35) = true := beq_iff_eq.mpr c28
               have c28b1 : (a0 != 35) = false := bne_eq_false_iff_eq.mpr c28
               clear c28
               have H' := Aside0.mk H
               clear H
               go_wp2
               go_meet
               case rel => exact ⟨_, ((a0 == 35)), (by first | rfl | (simp; done) | (simp [*]; done)), H', ⟨by have := HJ1.out; have := HJ16.out; first | omega | exact Nat.le_refl _⟩, dr_⟩
              ·
               rw [if_neg c28] at H
               have c28b0 : (a0 == 35) = false := beq_eq_false_iff_ne.mpr c28
               have c28b1 : (a0 != 35) = true := bne_iff_ne.mpr c28
               have H' := Aside0.mk H
               clear H
               go_wp2
               go_meet
               case rel => exact ⟨_, ((a0 == 36)), (by first | rfl | (simp; done) | (simp [*]; done)), H', ⟨by have := HJ1.out; have := HJ16.out; first | omega | exact Nat.le_refl _⟩, dr_⟩
       case rest =>
        clear HC21
        try clear c16
        try clear c20
        obtain ⟨kq, x23_20, rfl, HA, HJ20, ⟨mc20, rfl⟩⟩ := hcut
        cases kq with
        | zero => exact absurd HA.out (by simp [spec_l6Shape.j2])
        | succ kj20 =>
         have H := HA.out
         clear HA
         simp only [spec_l6Shape.j2] at H
         by_cases c29 : x23_20 = true
         ·
          subst c29
          have H1 : (some 2) = some r := by rw [if_pos rfl] at H; exact H
          clear H
          have H := H1
          clear H1
          obtain rfl := Option.some.inj H
          simp only [Option.some.injEq, Prod.mk.injEq] at H
          obtain ⟨rfl⟩ := H
          go_wp2
          go_ret
          exact ⟨by first | rfl | (simp; done) | (simp [*]; done), dr_⟩
         ·
          replace c29 := Bool.eq_false_iff.mpr c29
          subst c29
          have H1 : (if a0 = 40 then (spec_l6Shape.j3 kj20 a0 a0 (a0 == 40)) else (if a0 = 41 then (spec_l6Shape.j3 kj20 a0 a0 (a0 == 41)) else (if a0 = 54 then (spec_l6Shape.j3 kj20 a0 a0 (a0 == 54)) else (spec_l6Shape.j3 kj20 a0 a0 (a0 == 55))))) = some r := by rw [if_neg (show ¬ (false = true) by decide)] at H; exact H
          clear H
          have H := H1
          clear H1
          have HC30 := Aside0.mk H
          clear H
          go_upto_if 32 with (fail)
          go_cut [32] (fun v32 wc => ∃ (kq : Nat) (x32_29 : Bool), v32 = .bool x32_29 ∧ Aside0 (spec_l6Shape.j3 kq a0 a0 x32_29 = some r) ∧ Aside0 (kq ≤ kj20) ∧ Drawn0 w wc)
          case first =>
           have H := HC30.out
           clear HC30
           by_cases c31 : a0 = 40
           ·
            rw [if_pos c31] at H
            have c31b0 : (a0 == 40) = true := beq_iff_eq.mpr c31
            have c31b1 : (a0 != 40) = false := bne_eq_false_iff_eq.mpr c31
            clear c31
            (first | rw [c31b0] | (simp only [i64_w, i32_w]; rw [c31b0]) | skip)
            have H' := Aside0.mk H
            clear H
            go_wp2
            go_meet
            case rel => exact ⟨_, ((a0 == 40)), (by first | rfl | (simp; done) | (simp [*]; done)), H', ⟨by have := HJ1.out; have := HJ16.out; have := HJ20.out; first | omega | exact Nat.le_refl _⟩, dr_⟩
           ·
            rw [if_neg c31] at H
            have c31b0 : (a0 == 40) = false := beq_eq_false_iff_ne.mpr c31
            have c31b1 : (a0 != 40) = true := bne_iff_ne.mpr c31
            (first | rw [c31b0] | (simp only [i64_w, i32_w]; rw [c31b0]) | skip)
            by_cases c32 : a0 = 41
            ·
             rw [if_pos c32] at H
             have c32b0 : (a0 == 41) = true := beq_iff_eq.mpr c32
             have c32b1 : (a0 != 41) = false := bne_eq_false_iff_eq.mpr c32
             clear c32
             have H' := Aside0.mk H
             clear H
             go_wp2
             go_meet
             case rel => exact ⟨_, ((a0 == 41)), (by first | rfl | (simp; done) | (simp [*]; done)), H', ⟨by have := HJ1.out; have := HJ16.out; have := HJ20.out; first | omega | exact Nat.le_refl _⟩, dr_⟩
            ·
             rw [if_neg c32] at H
             have c32b0 : (a0 == 41) = false := beq_eq_false_iff_ne.mpr c32
             have c32b1 : (a0 != 41) = true := bne_iff_ne.mpr c32
             by_cases c33 : a0 = 54
             ·
              rw [if_pos c33] at H
              have c33b0 : (a0 == 54) = true := beq_iff_eq.mpr c33
              have c33b1 : (a0 != 54) = false := bne_eq_false_iff_eq.mpr c33
              clear c33
              have H' := Aside0.mk H
              clear H
              go_wp2
              go_meet
              case rel => exact ⟨_, ((a0 == 54)), (by first | rfl | (simp; done) | (simp [*]; done)), H', ⟨by have := HJ1.out; have := HJ16.out; have := HJ20.out; first | omega | exact Nat.le_refl _⟩, dr_⟩
             ·
              rw [if_neg c33] at H
              have c33b0 : (a0 == 54) = false := beq_eq_false_iff_ne.mpr c33
              have c33b1 : (a0 != 54) = true := bne_iff_ne.mpr c33
              have H' := Aside0.mk H
              clear H
              go_wp2
              go_meet
              case rel => exact ⟨_, ((a0 == 55)), (by first | rfl | (simp; done) | (simp [*]; done)), H', ⟨by have := HJ1.out; have := HJ16.out; have := HJ20.out; first | omega | exact Nat.le_refl _⟩, dr_⟩
          case rest =>
           clear HC30
           try clear c16
           try clear c20
           try clear c29
           obtain ⟨kq, x32_29, rfl, HA, HJ29, ⟨mc29, rfl⟩⟩ := hcut
           cases kq with
           | zero => exact absurd HA.out (by simp [spec_l6Shape.j3])
           | succ kj29 =>
            have H := HA.out
            clear HA
            simp only [spec_l6Shape.j3] at H
            by_cases c34 : x32_29 = true
            ·
             subst c34
             have H1 : (some 3) = some r := by rw [if_pos rfl] at H; exact H
             clear H
             have H := H1
             clear H1
             obtain rfl := Option.some.inj H
             simp only [Option.some.injEq, Prod.mk.injEq] at H
             obtain ⟨rfl⟩ := H
             go_wp2
             go_ret
             exact ⟨by first | rfl | (simp; done) | (simp [*]; done), dr_⟩
            ·
             replace c34 := Bool.eq_false_iff.mpr c34
             subst c34
             have H1 : (if a0 = 65 then (some 4) else (if a0 = 66 then (some 5) else (if a0 = 67 then (some 6) else ((spec_l1In.f a0 97 123).bind fun t114 => (if t114 = true then (some 0) else ((spec_l1In.f a0 129 155).bind fun t115 => (if t115 = true then (some 0) else ((spec_l1In.f a0 161 169).bind fun t116 => (if t116 = true then (some 0) else (some (-1))))))))))) = some r := by rw [if_neg (show ¬ (false = true) by decide)] at H; exact H
             clear H
             have H := H1
             clear H1
             by_cases c35 : a0 = 65
             ·
              rw [if_pos c35] at H
              have c35b0 : (a0 == 65) = true := beq_iff_eq.mpr c35
              have c35b1 : (a0 != 65) = false := bne_eq_false_iff_eq.mpr c35
              clear c35
              obtain rfl := Option.some.inj H
              simp only [Option.some.injEq, Prod.mk.injEq] at H
              obtain ⟨rfl⟩ := H
              go_wp2
              go_ret
              exact ⟨by first | rfl | (simp; done) | (simp [*]; done), dr_⟩
             ·
              rw [if_neg c35] at H
              have c35b0 : (a0 == 65) = false := beq_eq_false_iff_ne.mpr c35
              have c35b1 : (a0 != 65) = true := bne_iff_ne.mpr c35
              by_cases c36 : a0 = 66
              ·
               rw [if_pos c36] at H
               have c36b0 : (a0 == 66) = true := beq_iff_eq.mpr c36
               have c36b1 : (a0 != 66) = false := bne_eq_false_iff_eq.mpr c36
               clear c36
               obtain rfl := Option.some.inj H
               simp only [Option.some.injEq, Prod.mk.injEq] at H
               obtain ⟨rfl⟩ := H
               go_wp2
               go_ret
               exact ⟨by first | rfl | (simp; done) | (simp [*]; done), dr_⟩
              ·
               rw [if_neg c36] at H
               have c36b0 : (a0 == 66) = false := beq_eq_false_iff_ne.mpr c36
               have c36b1 : (a0 != 66) = true := bne_iff_ne.mpr c36
               by_cases c37 : a0 = 67
               ·
                rw [if_pos c37] at H
                have c37b0 : (a0 == 67) = true := beq_iff_eq.mpr c37
                have c37b1 : (a0 != 67) = false := bne_eq_false_iff_eq.mpr c37
                clear c37
                obtain rfl := Option.some.inj H
                simp only [Option.some.injEq, Prod.mk.injEq] at H
                obtain ⟨rfl⟩ := H
                go_wp2
                go_ret
                exact ⟨by first | rfl | (simp; done) | (simp [*]; done), dr_⟩
               ·
                rw [if_neg c37] at H
                have c37b0 : (a0 == 67) = false := beq_eq_false_iff_ne.mpr c37
                have c37b1 : (a0 != 67) = true := bne_iff_ne.mpr c37
                replace H := Option.bind_eq_some_iff.mp H
                obtain ⟨t114, A380, H⟩ := H
                replace H : (if t114 = true then (some 0) else ((spec_l1In.f a0 129 155).bind fun t115 => (if t115 = true then (some 0) else ((spec_l1In.f a0 161 169).bind fun t116 => (if t116 = true then (some 0) else (some (-1))))))) = some r := H
                have A38 := Aside0.mk A380
                clear A380
                by_cases c39 : t114 = true
                ·
                 subst c39
                 have H1 : (some 0) = some r := by rw [if_pos rfl] at H; exact H
                 clear H
                 have H := H1
                 clear H1
                 obtain rfl := Option.some.inj H
                 simp only [Option.some.injEq, Prod.mk.injEq] at H
                 obtain ⟨rfl⟩ := H
                 go_wp2_with (first | ((with_reducible refine gate_callee (f := 74) rfl ?_); refine goesL_ (some 44) rfl rfl Try.func74 (by kernel_rfl) rfl #[.int .i64 a0, .int .i64 97, .int .i64 123] rfl ar ?_; (with_reducible refine (spec_l1In.calls a0 97 123 true _ A38.out).mono ?_); rintro e w' ⟨rfl, ⟨nd, rfl⟩⟩; refine ⟨_, rfl, ?_⟩))
                 go_ret
                 exact ⟨by first | rfl | (simp; done) | (simp [*]; done), dr_⟩
                ·
                 replace c39 := Bool.eq_false_iff.mpr c39
                 subst c39
                 have H1 : ((spec_l1In.f a0 129 155).bind fun t115 => (if t115 = true then (some 0) else ((spec_l1In.f a0 161 169).bind fun t116 => (if t116 = true then (some 0) else (some (-1)))))) = some r := by rw [if_neg (show ¬ (false = true) by decide)] at H; exact H
                 clear H
                 have H := H1
                 clear H1
                 replace H := Option.bind_eq_some_iff.mp H
                 obtain ⟨t115, A400, H⟩ := H
                 replace H : (if t115 = true then (some 0) else ((spec_l1In.f a0 161 169).bind fun t116 => (if t116 = true then (some 0) else (some (-1))))) = some r := H
                 have A40 := Aside0.mk A400
                 clear A400
                 by_cases c41 : t115 = true
                 ·
                  subst c41
                  have H1 : (some 0) = some r := by rw [if_pos rfl] at H; exact H
                  clear H
                  have H := H1
                  clear H1
                  obtain rfl := Option.some.inj H
                  simp only [Option.some.injEq, Prod.mk.injEq] at H
                  obtain ⟨rfl⟩ := H
                  go_wp2_with (first | ((with_reducible refine gate_callee (f := 74) rfl ?_); refine goesL_ (some 44) rfl rfl Try.func74 (by kernel_rfl) rfl #[.int .i64 a0, .int .i64 97, .int .i64 123] rfl ar ?_; (with_reducible refine (spec_l1In.calls a0 97 123 false _ A38.out).mono ?_); rintro e w' ⟨rfl, ⟨nd, rfl⟩⟩; refine ⟨_, rfl, ?_⟩) | (go_at_call 74; (with_reducible refine (spec_l1In.calls a0 129 155 true _ A40.out).mono ?_); rintro e w' ⟨rfl, ⟨nd, rfl⟩⟩))
                  go_ret
                  exact ⟨by first | rfl | (simp; done) | (simp [*]; done), dr_⟩
                 ·
                  replace c41 := Bool.eq_false_iff.mpr c41
                  subst c41
                  have H1 : ((spec_l1In.f a0 161 169).bind fun t116 => (if t116 = true then (some 0) else (some (-1)))) = some r := by rw [if_neg (show ¬ (false = true) by decide)] at H; exact H
                  clear H
                  have H := H1
                  clear H1
                  replace H := Option.bind_eq_some_iff.mp H
                  obtain ⟨t116, A420, H⟩ := H
                  replace H : (if t116 = true then (some 0) else (some (-1))) = some r := H
                  have A42 := Aside0.mk A420
                  clear A420
                  by_cases c43 : t116 = true
                  ·
                   subst c43
                   have H1 : (some 0) = some r := by rw [if_pos rfl] at H; exact H
                   clear H
                   have H := H1
                   clear H1
                   obtain rfl := Option.some.inj H
                   simp only [Option.some.injEq, Prod.mk.injEq] at H
                   obtain ⟨rfl⟩ := H
                   go_wp2_with (first | ((with_reducible refine gate_callee (f := 74) rfl ?_); refine goesL_ (some 44) rfl rfl Try.func74 (by kernel_rfl) rfl #[.int .i64 a0, .int .i64 97, .int .i64 123] rfl ar ?_; (with_reducible refine (spec_l1In.calls a0 97 123 false _ A38.out).mono ?_); rintro e w' ⟨rfl, ⟨nd, rfl⟩⟩; refine ⟨_, rfl, ?_⟩) | (go_at_call 74; (with_reducible refine (spec_l1In.calls a0 129 155 false _ A40.out).mono ?_); rintro e w' ⟨rfl, ⟨nd, rfl⟩⟩) | (go_at_call 74; (with_reducible refine (spec_l1In.calls a0 161 169 true _ A42.out).mono ?_); rintro e w' ⟨rfl, ⟨nd, rfl⟩⟩))
                   go_ret
                   exact ⟨by first | rfl | (simp; done) | (simp [*]; done), dr_⟩
                  ·
                   replace c43 := Bool.eq_false_iff.mpr c43
                   subst c43
                   have H1 : (some (-1)) = some r := by rw [if_neg (show ¬ (false = true) by decide)] at H; exact H
                   clear H
                   have H := H1
                   clear H1
                   obtain rfl := Option.some.inj H
                   simp only [Option.some.injEq, Prod.mk.injEq] at H
                   obtain ⟨rfl⟩ := H
                   go_wp2_with (first | ((with_reducible refine gate_callee (f := 74) rfl ?_); refine goesL_ (some 44) rfl rfl Try.func74 (by kernel_rfl) rfl #[.int .i64 a0, .int .i64 97, .int .i64 123] rfl ar ?_; (with_reducible refine (spec_l1In.calls a0 97 123 false _ A38.out).mono ?_); rintro e w' ⟨rfl, ⟨nd, rfl⟩⟩; refine ⟨_, rfl, ?_⟩) | (go_at_call 74; (with_reducible refine (spec_l1In.calls a0 129 155 false _ A40.out).mono ?_); rintro e w' ⟨rfl, ⟨nd, rfl⟩⟩) | (go_at_call 74; (with_reducible refine (spec_l1In.calls a0 161 169 false _ A42.out).mono ?_); rintro e w' ⟨rfl, ⟨nd, rfl⟩⟩))
                   go_ret
                   exact ⟨by first | rfl | (simp; done) | (simp [*]; done), dr_⟩


/-! ### spec_l6Type: function 71 -/
def spec_l6Type.f (a0 : Int) : Option (Bool) := (spec_l1In.f a0 125 127).bind fun t117 => (some t117)
set_option maxHeartbeats 8000000 in
set_option maxRecDepth 100000 in
theorem spec_l6Type.calls (a0 : Int) (r : Bool) (w : World) (h : spec_l6Type.f a0 = some r) :
  Calls Try.prog 71 #[.int .i64 a0] w fun e w' => e = .returned (.bool r) ∧ Drawn0 w w' := by
 have H : ((spec_l1In.f a0 125 127).bind fun t117 => (some t117)) = some r := h
 clear h
 replace H := Option.bind_eq_some_iff.mp H
 obtain ⟨t117, A20, H⟩ := H
 replace H : (some t117) = some r := H
 have A2 := Aside0.mk A20
 clear A20
 obtain rfl := Option.some.inj H
 simp only [Option.some.injEq, Prod.mk.injEq] at H
 obtain ⟨rfl⟩ := H
 go_enter Try.func71, Try.ntmps71
 go_wp2_with (first | ((with_reducible refine gate_callee (f := 74) rfl ?_); refine goesL_ (some 4) rfl rfl Try.func74 (by kernel_rfl) rfl #[.int .i64 a0, .int .i64 125, .int .i64 127] rfl ar ?_; (with_reducible refine (spec_l1In.calls a0 125 127 t117 _ A2.out).mono ?_); rintro e w' ⟨rfl, ⟨nd, rfl⟩⟩; refine ⟨_, rfl, ?_⟩))
 go_ret
 exact ⟨by first | rfl | (simp; done) | (simp [*]; done), dr_⟩


/-! ### spec_GoodIns: function 57 -/
def spec_GoodIns.f (k : Nat) (a0_0 : Int) (a0_1 : Int) : Option (Bool) := (spec_l6Shape.f k a0_0).bind fun t119 => (if t119 = 0 then (some (a0_1 == 0)) else (if t119 = 1 then ((spec_l6Type.f a0_1).bind fun t120 => (if t120 = true then (some true) else (some (a0_1 == 64)))) else (if t119 = 2 then ((spec_l1In.f a0_1 0 1000).bind fun t121 => (some t121)) else (if t119 = 3 then ((spec_l1In.f a0_1 0 10000).bind fun t122 => (some t122)) else (if t119 = 4 then ((spec_l1In.f a0_1 (-2147483648) 2147483647).bind fun t123 => (some t123)) else (if t119 = 5 then (some true) else (if t119 = 6 then ((spec_l1In.f a0_1 0 4294967295).bind fun t124 => (some t124)) else (some false))))))))
set_option maxHeartbeats 8000000 in
set_option maxRecDepth 100000 in
theorem spec_GoodIns.calls (k : Nat) (a0_0 : Int) (a0_1 : Int) (r : Bool) (w : World) (h : spec_GoodIns.f k a0_0 a0_1 = some r) :
  Calls Try.prog 57 #[.agg #[.int .i64 a0_0, .int .i64 a0_1]] w fun e w' => e = .returned (.bool r) ∧ Below w.heap.size w w' := by
 have hu44 := Try.underlying44
 have HB := Aside0.mk (Below.refl w.heap.size w)
 have H : ((spec_l6Shape.f k a0_0).bind fun t119 => (if t119 = 0 then (some (a0_1 == 0)) else (if t119 = 1 then ((spec_l6Type.f a0_1).bind fun t120 => (if t120 = true then (some true) else (some (a0_1 == 64)))) else (if t119 = 2 then ((spec_l1In.f a0_1 0 1000).bind fun t121 => (some t121)) else (if t119 = 3 then ((spec_l1In.f a0_1 0 10000).bind fun t122 => (some t122)) else (if t119 = 4 then ((spec_l1In.f a0_1 (-2147483648) 2147483647).bind fun t123 => (some t123)) else (if t119 = 5 then (some true) else (if t119 = 6 then ((spec_l1In.f a0_1 0 4294967295).bind fun t124 => (some t124)) else (some false))))))))) = some r := h
 clear h
 replace H := Option.bind_eq_some_iff.mp H
 obtain ⟨t119, A20, H⟩ := H
 replace H : (if t119 = 0 then (some (a0_1 == 0)) else (if t119 = 1 then ((spec_l6Type.f a0_1).bind fun t120 => (if t120 = true then (some true) else (some (a0_1 == 64)))) else (if t119 = 2 then ((spec_l1In.f a0_1 0 1000).bind fun t121 => (some t121)) else (if t119 = 3 then ((spec_l1In.f a0_1 0 10000).bind fun t122 => (some t122)) else (if t119 = 4 then ((spec_l1In.f a0_1 (-2147483648) 2147483647).bind fun t123 => (some t123)) else (if t119 = 5 then (some true) else (if t119 = 6 then ((spec_l1In.f a0_1 0 4294967295).bind fun t124 => (some t124)) else (some false)))))))) = some r := H
 have A2 := Aside0.mk A20
 clear A20
 by_cases c3 : t119 = 0
 ·
  rw [if_pos c3] at H
  have c3b0 : (t119 == 0) = true := beq_iff_eq.mpr c3
  have c3b1 : (t119 != 0) = false := bne_eq_false_iff_eq.mpr c3
  clear c3
  obtain rfl := Option.some.inj H
  simp only [Option.some.injEq, Prod.mk.injEq] at H
  obtain ⟨rfl⟩ := H
  go_enter Try.func57, Try.ntmps57
  go_wp2_with (first | ((with_reducible refine gate_dst (N := 1) rfl ?_); refine box_event ?hg (N := 1) ?hd (cs := #[.int .i64 a0_0, .int .i64 a0_1]) (t := 44) ?hr ?_; (case hd => rfl); (case hg => rfl); (case hr => first | (go_simp; done) | (go_simp; rfl)); intro gb118 hg w4 hbox hb; have n0_ := Aside0.mk (below_step (bw HB.out) hb); have n1_ := Aside0.mk (hbox); have n2_ := Aside0.mk ((sz_ hg (bw HB.out) : w.heap.size ≤ gb118)); have n3_ := Aside0.mk ((sz_ hg (bw HB.out) : w.heap.size ≤ gb118)); clear HB; have HB := n0_; have BK118 := n1_; have GW118 := n2_; have GE118 := n3_; clear n0_ n1_ n2_ n3_; clear hb hbox hg; obtain ⟨hcz5_0, hcz5_1⟩ := cs2_ BK118.out; obtain ⟨hfz5_0, hfz5_1⟩ := fz2_ BK118.out) | ((with_reducible refine gate_callee (f := 58) rfl ?_); refine goesL_ (some 5) rfl rfl Try.func58 (by kernel_rfl) rfl #[.int .i64 a0_0] rfl ar ?_; (with_reducible refine (spec_l6Shape.calls k a0_0 t119 _ A2.out).mono ?_); rintro e w' ⟨rfl, ⟨nd, rfl⟩⟩; refine ⟨_, rfl, ?_⟩))
  go_ret
  exact ⟨rr_, bw HB.out⟩
 ·
  rw [if_neg c3] at H
  have c3b0 : (t119 == 0) = false := beq_eq_false_iff_ne.mpr c3
  have c3b1 : (t119 != 0) = true := bne_iff_ne.mpr c3
  by_cases c6 : t119 = 1
  ·
   rw [if_pos c6] at H
   have c6b0 : (t119 == 1) = true := beq_iff_eq.mpr c6
   have c6b1 : (t119 != 1) = false := bne_eq_false_iff_eq.mpr c6
   clear c6
   replace H := Option.bind_eq_some_iff.mp H
   obtain ⟨t120, A70, H⟩ := H
   replace H : (if t120 = true then (some true) else (some (a0_1 == 64))) = some r := H
   have A7 := Aside0.mk A70
   clear A70
   by_cases c8 : t120 = true
   ·
    subst c8
    have H1 : (some true) = some r := by rw [if_pos rfl] at H; exact H
    clear H
    have H := H1
    clear H1
    obtain rfl := Option.some.inj H
    simp only [Option.some.injEq, Prod.mk.injEq] at H
    obtain ⟨rfl⟩ := H
    go_enter Try.func57, Try.ntmps57
    go_wp2_with (first | ((with_reducible refine gate_dst (N := 1) rfl ?_); refine box_event ?hg (N := 1) ?hd (cs := #[.int .i64 a0_0, .int .i64 a0_1]) (t := 44) ?hr ?_; (case hd => rfl); (case hg => rfl); (case hr => first | (go_simp; done) | (go_simp; rfl)); intro gb118 hg w9 hbox hb; have n0_ := Aside0.mk (below_step (bw HB.out) hb); have n1_ := Aside0.mk (hbox); have n2_ := Aside0.mk ((sz_ hg (bw HB.out) : w.heap.size ≤ gb118)); have n3_ := Aside0.mk ((sz_ hg (bw HB.out) : w.heap.size ≤ gb118)); clear HB; have HB := n0_; have BK118 := n1_; have GW118 := n2_; have GE118 := n3_; clear n0_ n1_ n2_ n3_; clear hb hbox hg; obtain ⟨hcz10_0, hcz10_1⟩ := cs2_ BK118.out; obtain ⟨hfz10_0, hfz10_1⟩ := fz2_ BK118.out) | ((with_reducible refine gate_callee (f := 58) rfl ?_); refine goesL_ (some 5) rfl rfl Try.func58 (by kernel_rfl) rfl #[.int .i64 a0_0] rfl ar ?_; (with_reducible refine (spec_l6Shape.calls k a0_0 t119 _ A2.out).mono ?_); rintro e w' ⟨rfl, ⟨nd, rfl⟩⟩; refine ⟨_, rfl, ?_⟩) | ((with_reducible refine gate_callee (f := 71) rfl ?_); refine goesL_ (some 15) rfl rfl Try.func71 (by kernel_rfl) rfl #[.int .i64 a0_1] rfl ar ?_; (with_reducible refine (spec_l6Type.calls a0_1 true _ A7.out).mono ?_); rintro e w' ⟨rfl, ⟨nd, rfl⟩⟩; refine ⟨_, rfl, ?_⟩))
    go_ret
    exact ⟨rr_, bw HB.out⟩
   ·
    replace c8 := Bool.eq_false_iff.mpr c8
    subst c8
    have H1 : (some (a0_1 == 64)) = some r := by rw [if_neg (show ¬ (false = true) by decide)] at H; exact H
    clear H
    have H := H1
    clear H1
    obtain rfl := Option.some.inj H
    simp only [Option.some.injEq, Prod.mk.injEq] at H
    obtain ⟨rfl⟩ := H
    go_enter Try.func57, Try.ntmps57
    go_wp2_with (first | ((with_reducible refine gate_dst (N := 1) rfl ?_); refine box_event ?hg (N := 1) ?hd (cs := #[.int .i64 a0_0, .int .i64 a0_1]) (t := 44) ?hr ?_; (case hd => rfl); (case hg => rfl); (case hr => first | (go_simp; done) | (go_simp; rfl)); intro gb118 hg w11 hbox hb; have n0_ := Aside0.mk (below_step (bw HB.out) hb); have n1_ := Aside0.mk (hbox); have n2_ := Aside0.mk ((sz_ hg (bw HB.out) : w.heap.size ≤ gb118)); have n3_ := Aside0.mk ((sz_ hg (bw HB.out) : w.heap.size ≤ gb118)); clear HB; have HB := n0_; have BK118 := n1_; have GW118 := n2_; have GE118 := n3_; clear n0_ n1_ n2_ n3_; clear hb hbox hg; obtain ⟨hcz12_0, hcz12_1⟩ := cs2_ BK118.out; obtain ⟨hfz12_0, hfz12_1⟩ := fz2_ BK118.out) | ((with_reducible refine gate_callee (f := 58) rfl ?_); refine goesL_ (some 5) rfl rfl Try.func58 (by kernel_rfl) rfl #[.int .i64 a0_0] rfl ar ?_; (with_reducible refine (spec_l6Shape.calls k a0_0 t119 _ A2.out).mono ?_); rintro e w' ⟨rfl, ⟨nd, rfl⟩⟩; refine ⟨_, rfl, ?_⟩) | ((with_reducible refine gate_callee (f := 71) rfl ?_); refine goesL_ (some 15) rfl rfl Try.func71 (by kernel_rfl) rfl #[.int .i64 a0_1] rfl ar ?_; (with_reducible refine (spec_l6Type.calls a0_1 false _ A7.out).mono ?_); rintro e w' ⟨rfl, ⟨nd, rfl⟩⟩; refine ⟨_, rfl, ?_⟩))
    go_ret
    exact ⟨rr_, bw HB.out⟩
  ·
   rw [if_neg c6] at H
   have c6b0 : (t119 == 1) = false := beq_eq_false_iff_ne.mpr c6
   have c6b1 : (t119 != 1) = true := bne_iff_ne.mpr c6
   by_cases c13 : t119 = 2
   ·
    rw [if_pos c13] at H
    have c13b0 : (t119 == 2) = true := beq_iff_eq.mpr c13
    have c13b1 : (t119 != 2) = false := bne_eq_false_iff_eq.mpr c13
    clear c13
    replace H := Option.bind_eq_some_iff.mp H
    obtain ⟨t121, A140, H⟩ := H
    replace H : (some t121) = some r := H
    have A14 := Aside0.mk A140
    clear A140
    obtain rfl := Option.some.inj H
    simp only [Option.some.injEq, Prod.mk.injEq] at H
    obtain ⟨rfl⟩ := H
    go_enter Try.func57, Try.ntmps57
    go_wp2_with (first | ((with_reducible refine gate_dst (N := 1) rfl ?_); refine box_event ?hg (N := 1) ?hd (cs := #[.int .i64 a0_0, .int .i64 a0_1]) (t := 44) ?hr ?_; (case hd => rfl); (case hg => rfl); (case hr => first | (go_simp; done) | (go_simp; rfl)); intro gb118 hg w15 hbox hb; have n0_ := Aside0.mk (below_step (bw HB.out) hb); have n1_ := Aside0.mk (hbox); have n2_ := Aside0.mk ((sz_ hg (bw HB.out) : w.heap.size ≤ gb118)); have n3_ := Aside0.mk ((sz_ hg (bw HB.out) : w.heap.size ≤ gb118)); clear HB; have HB := n0_; have BK118 := n1_; have GW118 := n2_; have GE118 := n3_; clear n0_ n1_ n2_ n3_; clear hb hbox hg; obtain ⟨hcz16_0, hcz16_1⟩ := cs2_ BK118.out; obtain ⟨hfz16_0, hfz16_1⟩ := fz2_ BK118.out) | ((with_reducible refine gate_callee (f := 58) rfl ?_); refine goesL_ (some 5) rfl rfl Try.func58 (by kernel_rfl) rfl #[.int .i64 a0_0] rfl ar ?_; (with_reducible refine (spec_l6Shape.calls k a0_0 t119 _ A2.out).mono ?_); rintro e w' ⟨rfl, ⟨nd, rfl⟩⟩; refine ⟨_, rfl, ?_⟩) | ((with_reducible refine gate_callee (f := 74) rfl ?_); refine goesL_ (some 25) rfl rfl Try.func74 (by kernel_rfl) rfl #[.int .i64 a0_1, .int .i64 0, .int .i64 1000] rfl ar ?_; (with_reducible refine (spec_l1In.calls a0_1 0 1000 t121 _ A14.out).mono ?_); rintro e w' ⟨rfl, ⟨nd, rfl⟩⟩; refine ⟨_, rfl, ?_⟩))
    go_ret
    exact ⟨rr_, bw HB.out⟩
   ·
    rw [if_neg c13] at H
    have c13b0 : (t119 == 2) = false := beq_eq_false_iff_ne.mpr c13
    have c13b1 : (t119 != 2) = true := bne_iff_ne.mpr c13
    by_cases c17 : t119 = 3
    ·
     rw [if_pos c17] at H
     have c17b0 : (t119 == 3) = true := beq_iff_eq.mpr c17
     have c17b1 : (t119 != 3) = false := bne_eq_false_iff_eq.mpr c17
     clear c17
     replace H := Option.bind_eq_some_iff.mp H
     obtain ⟨t122, A180, H⟩ := H
     replace H : (some t122) = some r := H
     have A18 := Aside0.mk A180
     clear A180
     obtain rfl := Option.some.inj H
     simp only [Option.some.injEq, Prod.mk.injEq] at H
     obtain ⟨rfl⟩ := H
     go_enter Try.func57, Try.ntmps57
     go_wp2_with (first | ((with_reducible refine gate_dst (N := 1) rfl ?_); refine box_event ?hg (N := 1) ?hd (cs := #[.int .i64 a0_0, .int .i64 a0_1]) (t := 44) ?hr ?_; (case hd => rfl); (case hg => rfl); (case hr => first | (go_simp; done) | (go_simp; rfl)); intro gb118 hg w19 hbox hb; have n0_ := Aside0.mk (below_step (bw HB.out) hb); have n1_ := Aside0.mk (hbox); have n2_ := Aside0.mk ((sz_ hg (bw HB.out) : w.heap.size ≤ gb118)); have n3_ := Aside0.mk ((sz_ hg (bw HB.out) : w.heap.size ≤ gb118)); clear HB; have HB := n0_; have BK118 := n1_; have GW118 := n2_; have GE118 := n3_; clear n0_ n1_ n2_ n3_; clear hb hbox hg; obtain ⟨hcz20_0, hcz20_1⟩ := cs2_ BK118.out; obtain ⟨hfz20_0, hfz20_1⟩ := fz2_ BK118.out) | ((with_reducible refine gate_callee (f := 58) rfl ?_); refine goesL_ (some 5) rfl rfl Try.func58 (by kernel_rfl) rfl #[.int .i64 a0_0] rfl ar ?_; (with_reducible refine (spec_l6Shape.calls k a0_0 t119 _ A2.out).mono ?_); rintro e w' ⟨rfl, ⟨nd, rfl⟩⟩; refine ⟨_, rfl, ?_⟩) | ((with_reducible refine gate_callee (f := 74) rfl ?_); refine goesL_ (some 30) rfl rfl Try.func74 (by kernel_rfl) rfl #[.int .i64 a0_1, .int .i64 0, .int .i64 10000] rfl ar ?_; (with_reducible refine (spec_l1In.calls a0_1 0 10000 t122 _ A18.out).mono ?_); rintro e w' ⟨rfl, ⟨nd, rfl⟩⟩; refine ⟨_, rfl, ?_⟩))
     go_ret
     exact ⟨rr_, bw HB.out⟩
    ·
     rw [if_neg c17] at H
     have c17b0 : (t119 == 3) = false := beq_eq_false_iff_ne.mpr c17
     have c17b1 : (t119 != 3) = true := bne_iff_ne.mpr c17
     by_cases c21 : t119 = 4
     ·
      rw [if_pos c21] at H
      have c21b0 : (t119 == 4) = true := beq_iff_eq.mpr c21
      have c21b1 : (t119 != 4) = false := bne_eq_false_iff_eq.mpr c21
      clear c21
      replace H := Option.bind_eq_some_iff.mp H
      obtain ⟨t123, A220, H⟩ := H
      replace H : (some t123) = some r := H
      have A22 := Aside0.mk A220
      clear A220
      obtain rfl := Option.some.inj H
      simp only [Option.some.injEq, Prod.mk.injEq] at H
      obtain ⟨rfl⟩ := H
      go_enter Try.func57, Try.ntmps57
      go_wp2_with (first | ((with_reducible refine gate_dst (N := 1) rfl ?_); refine box_event ?hg (N := 1) ?hd (cs := #[.int .i64 a0_0, .int .i64 a0_1]) (t := 44) ?hr ?_; (case hd => rfl); (case hg => rfl); (case hr => first | (go_simp; done) | (go_simp; rfl)); intro gb118 hg w23 hbox hb; have n0_ := Aside0.mk (below_step (bw HB.out) hb); have n1_ := Aside0.mk (hbox); have n2_ := Aside0.mk ((sz_ hg (bw HB.out) : w.heap.size ≤ gb118)); have n3_ := Aside0.mk ((sz_ hg (bw HB.out) : w.heap.size ≤ gb118)); clear HB; have HB := n0_; have BK118 := n1_; have GW118 := n2_; have GE118 := n3_; clear n0_ n1_ n2_ n3_; clear hb hbox hg; obtain ⟨hcz24_0, hcz24_1⟩ := cs2_ BK118.out; obtain ⟨hfz24_0, hfz24_1⟩ := fz2_ BK118.out) | ((with_reducible refine gate_callee (f := 58) rfl ?_); refine goesL_ (some 5) rfl rfl Try.func58 (by kernel_rfl) rfl #[.int .i64 a0_0] rfl ar ?_; (with_reducible refine (spec_l6Shape.calls k a0_0 t119 _ A2.out).mono ?_); rintro e w' ⟨rfl, ⟨nd, rfl⟩⟩; refine ⟨_, rfl, ?_⟩) | ((with_reducible refine gate_callee (f := 74) rfl ?_); refine goesL_ (some 35) rfl rfl Try.func74 (by kernel_rfl) rfl #[.int .i64 a0_1, .int .i64 (-2147483648), .int .i64 2147483647] rfl ar ?_; (with_reducible refine (spec_l1In.calls a0_1 (-2147483648) 2147483647 t123 _ A22.out).mono ?_); rintro e w' ⟨rfl, ⟨nd, rfl⟩⟩; refine ⟨_, rfl, ?_⟩))
      go_ret
      exact ⟨rr_, bw HB.out⟩
     ·
      rw [if_neg c21] at H
      have c21b0 : (t119 == 4) = false := beq_eq_false_iff_ne.mpr c21
      have c21b1 : (t119 != 4) = true := bne_iff_ne.mpr c21
      by_cases c25 : t119 = 5
      ·
       rw [if_pos c25] at H
       have c25b0 : (t119 == 5) = true := beq_iff_eq.mpr c25
       have c25b1 : (t119 != 5) = false := bne_eq_false_iff_eq.mpr c25
       clear c25
       obtain rfl := Option.some.inj H
       simp only [Option.some.injEq, Prod.mk.injEq] at H
       obtain ⟨rfl⟩ := H
       go_enter Try.func57, Try.ntmps57
       go_wp2_with (first | ((with_reducible refine gate_dst (N := 1) rfl ?_); refine box_event ?hg (N := 1) ?hd (cs := #[.int .i64 a0_0, .int .i64 a0_1]) (t := 44) ?hr ?_; (case hd => rfl); (case hg => rfl); (case hr => first | (go_simp; done) | (go_simp; rfl)); intro gb118 hg w26 hbox hb; have n0_ := Aside0.mk (below_step (bw HB.out) hb); have n1_ := Aside0.mk (hbox); have n2_ := Aside0.mk ((sz_ hg (bw HB.out) : w.heap.size ≤ gb118)); have n3_ := Aside0.mk ((sz_ hg (bw HB.out) : w.heap.size ≤ gb118)); clear HB; have HB := n0_; have BK118 := n1_; have GW118 := n2_; have GE118 := n3_; clear n0_ n1_ n2_ n3_; clear hb hbox hg; obtain ⟨hcz27_0, hcz27_1⟩ := cs2_ BK118.out; obtain ⟨hfz27_0, hfz27_1⟩ := fz2_ BK118.out) | ((with_reducible refine gate_callee (f := 58) rfl ?_); refine goesL_ (some 5) rfl rfl Try.func58 (by kernel_rfl) rfl #[.int .i64 a0_0] rfl ar ?_; (with_reducible refine (spec_l6Shape.calls k a0_0 t119 _ A2.out).mono ?_); rintro e w' ⟨rfl, ⟨nd, rfl⟩⟩; refine ⟨_, rfl, ?_⟩))
       go_ret
       exact ⟨rr_, bw HB.out⟩
      ·
       rw [if_neg c25] at H
       have c25b0 : (t119 == 5) = false := beq_eq_false_iff_ne.mpr c25
       have c25b1 : (t119 != 5) = true := bne_iff_ne.mpr c25
       by_cases c28 : t119 = 6
       ·
        rw [if_pos c28] at H
        have c28b0 : (t119 == 6) = true := beq_iff_eq.mpr c28
        have c28b1 : (t119 != 6) = false := bne_eq_false_iff_eq.mpr c28
        clear c28
        replace H := Option.bind_eq_some_iff.mp H
        obtain ⟨t124, A290, H⟩ := H
        replace H : (some t124) = some r := H
        have A29 := Aside0.mk A290
        clear A290
        obtain rfl := Option.some.inj H
        simp only [Option.some.injEq, Prod.mk.injEq] at H
        obtain ⟨rfl⟩ := H
        go_enter Try.func57, Try.ntmps57
        go_wp2_with (first | ((with_reducible refine gate_dst (N := 1) rfl ?_); refine box_event ?hg (N := 1) ?hd (cs := #[.int .i64 a0_0, .int .i64 a0_1]) (t := 44) ?hr ?_; (case hd => rfl); (case hg => rfl); (case hr => first | (go_simp; done) | (go_simp; rfl)); intro gb118 hg w30 hbox hb; have n0_ := Aside0.mk (below_step (bw HB.out) hb); have n1_ := Aside0.mk (hbox); have n2_ := Aside0.mk ((sz_ hg (bw HB.out) : w.heap.size ≤ gb118)); have n3_ := Aside0.mk ((sz_ hg (bw HB.out) : w.heap.size ≤ gb118)); clear HB; have HB := n0_; have BK118 := n1_; have GW118 := n2_; have GE118 := n3_; clear n0_ n1_ n2_ n3_; clear hb hbox hg; obtain ⟨hcz31_0, hcz31_1⟩ := cs2_ BK118.out; obtain ⟨hfz31_0, hfz31_1⟩ := fz2_ BK118.out) | ((with_reducible refine gate_callee (f := 58) rfl ?_); refine goesL_ (some 5) rfl rfl Try.func58 (by kernel_rfl) rfl #[.int .i64 a0_0] rfl ar ?_; (with_reducible refine (spec_l6Shape.calls k a0_0 t119 _ A2.out).mono ?_); rintro e w' ⟨rfl, ⟨nd, rfl⟩⟩; refine ⟨_, rfl, ?_⟩) | ((with_reducible refine gate_callee (f := 74) rfl ?_); refine goesL_ (some 42) rfl rfl Try.func74 (by kernel_rfl) rfl #[.int .i64 a0_1, .int .i64 0, .int .i64 4294967295] rfl ar ?_; (with_reducible refine (spec_l1In.calls a0_1 0 4294967295 t124 _ A29.out).mono ?_); rintro e w' ⟨rfl, ⟨nd, rfl⟩⟩; refine ⟨_, rfl, ?_⟩))
        go_ret
        exact ⟨rr_, bw HB.out⟩
       ·
        rw [if_neg c28] at H
        have c28b0 : (t119 == 6) = false := beq_eq_false_iff_ne.mpr c28
        have c28b1 : (t119 != 6) = true := bne_iff_ne.mpr c28
        obtain rfl := Option.some.inj H
        simp only [Option.some.injEq, Prod.mk.injEq] at H
        obtain ⟨rfl⟩ := H
        go_enter Try.func57, Try.ntmps57
        go_wp2_with (first | ((with_reducible refine gate_dst (N := 1) rfl ?_); refine box_event ?hg (N := 1) ?hd (cs := #[.int .i64 a0_0, .int .i64 a0_1]) (t := 44) ?hr ?_; (case hd => rfl); (case hg => rfl); (case hr => first | (go_simp; done) | (go_simp; rfl)); intro gb118 hg w32 hbox hb; have n0_ := Aside0.mk (below_step (bw HB.out) hb); have n1_ := Aside0.mk (hbox); have n2_ := Aside0.mk ((sz_ hg (bw HB.out) : w.heap.size ≤ gb118)); have n3_ := Aside0.mk ((sz_ hg (bw HB.out) : w.heap.size ≤ gb118)); clear HB; have HB := n0_; have BK118 := n1_; have GW118 := n2_; have GE118 := n3_; clear n0_ n1_ n2_ n3_; clear hb hbox hg; obtain ⟨hcz33_0, hcz33_1⟩ := cs2_ BK118.out; obtain ⟨hfz33_0, hfz33_1⟩ := fz2_ BK118.out) | ((with_reducible refine gate_callee (f := 58) rfl ?_); refine goesL_ (some 5) rfl rfl Try.func58 (by kernel_rfl) rfl #[.int .i64 a0_0] rfl ar ?_; (with_reducible refine (spec_l6Shape.calls k a0_0 t119 _ A2.out).mono ?_); rintro e w' ⟨rfl, ⟨nd, rfl⟩⟩; refine ⟨_, rfl, ?_⟩))
        go_ret
        exact ⟨rr_, bw HB.out⟩


/-! ### spec_l1TakeS: function 68 -/
mutual
def spec_l1TakeS.l0 : Nat → ByteArray → Int → Int → Int → Int → Option (Int × Int)
 | 0, _, _, _, _, _ => none
 | k + 1, x0, x1, x6, x7, x8 => if x8 < x6 then (spec_l1TakeS.j1 k x0 x1 x6 x7 x8 (decide (x8 < (x0.size : Int)))) else (spec_l1TakeS.j1 k x0 x1 x6 x7 x8 false)
def spec_l1TakeS.j1 : Nat → ByteArray → Int → Int → Int → Int → Bool → Option (Int × Int)
 | 0, _, _, _, _, _, _ => none
 | k + 1, x0, x1, x6, x7, x8, x24 => if x24 = true then (if 0 ≤ x8 then (if x8 < (x0.size : Int) then (if 0 ≤ (IntKind.u64.wrap (wrap64 (7 * x8))) then (if (bt x0 x8) ≥ 128 then (spec_l1TakeS.l0 k x0 x1 x6 (Go.bits .or .u64 x7 (shl .u64 (IntKind.u64.wrap (Go.bits .and .u8 (bt x0 x8) 127)) (IntKind.u64.wrap (wrap64 (7 * x8))))) (wrap64 (x8 + 1))) else (if (wrap64 (x1 - (wrap64 (7 * x8)))) < 7 then (if 0 ≤ (IntKind.u64.wrap (wrap64 ((wrap64 (x1 - (wrap64 (7 * x8)))) - 1))) then (if (shr .u64 (IntKind.u64.wrap (Go.bits .and .u8 (bt x0 x8) 127)) (IntKind.u64.wrap (wrap64 ((wrap64 (x1 - (wrap64 (7 * x8)))) - 1)))) = 0 then (spec_l1TakeS.j2 k (Go.bits .or .u64 x7 (shl .u64 (IntKind.u64.wrap (Go.bits .and .u8 (bt x0 x8) 127)) (IntKind.u64.wrap (wrap64 (7 * x8))))) x8 (IntKind.u64.wrap (Go.bits .and .u8 (bt x0 x8) 127)) false) else (spec_l1TakeS.j2 k (Go.bits .or .u64 x7 (shl .u64 (IntKind.u64.wrap (Go.bits .and .u8 (bt x0 x8) 127)) (IntKind.u64.wrap (wrap64 (7 * x8))))) x8 (IntKind.u64.wrap (Go.bits .and .u8 (bt x0 x8) 127)) ((shr .u64 (IntKind.u64.wrap (Go.bits .and .u8 (bt x0 x8) 127)) (IntKind.u64.wrap (wrap64 ((wrap64 (x1 - (wrap64 (7 * x8)))) - 1)))) != (shr .u64 127 (IntKind.u64.wrap (wrap64 ((wrap64 (x1 - (wrap64 (7 * x8)))) - 1))))))) else (none)) else (if (wrap64 (7 * (wrap64 (x8 + 1)))) < 64 then (if (Go.bits .and .u64 (IntKind.u64.wrap (Go.bits .and .u8 (bt x0 x8) 127)) 64) = 0 then (some (wrap64 (Go.bits .or .u64 x7 (shl .u64 (IntKind.u64.wrap (Go.bits .and .u8 (bt x0 x8) 127)) (IntKind.u64.wrap (wrap64 (7 * x8))))), wrap64 (x8 + 1))) else (if 0 ≤ (IntKind.u64.wrap (wrap64 (7 * (wrap64 (x8 + 1))))) then (some (wrap64 (Go.bits .or .u64 (Go.bits .or .u64 x7 (shl .u64 (IntKind.u64.wrap (Go.bits .and .u8 (bt x0 x8) 127)) (IntKind.u64.wrap (wrap64 (7 * x8))))) (shl .u64 18446744073709551615 (IntKind.u64.wrap (wrap64 (7 * (wrap64 (x8 + 1))))))), wrap64 (x8 + 1))) else (none))) else (some (wrap64 (Go.bits .or .u64 x7 (shl .u64 (IntKind.u64.wrap (Go.bits .and .u8 (bt x0 x8) 127)) (IntKind.u64.wrap (wrap64 (7 * x8))))), wrap64 (x8 + 1)))))) else (none)) else (none)) else (none)) else (some (0, 0))
def spec_l1TakeS.j2 : Nat → Int → Int → Int → Bool → Option (Int × Int)
 | 0, _, _, _, _ => none
 | k + 1, x7, x8, x9, x63 => if x63 = true then (some (0, 0)) else (if (wrap64 (7 * (wrap64 (x8 + 1)))) < 64 then (if (Go.bits .and .u64 x9 64) = 0 then (some (wrap64 (x7), wrap64 (x8 + 1))) else (if 0 ≤ (IntKind.u64.wrap (wrap64 (7 * (wrap64 (x8 + 1))))) then (some (wrap64 (Go.bits .or .u64 x7 (shl .u64 18446744073709551615 (IntKind.u64.wrap (wrap64 (7 * (wrap64 (x8 + 1))))))), wrap64 (x8 + 1))) else (none))) else (some (wrap64 (x7), wrap64 (x8 + 1))))
end
def spec_l1TakeS.f (k : Nat) (a0 : ByteArray) (a1 : Int) : Option (Int × Int) := spec_l1TakeS.l0 k a0 a1 (wrap64 (Int.tdiv (wrap64 (a1 + 6)) 7)) 0 0
theorem spec_l1TakeS.mono_l : ∀ k, (∀ y0 y1 y2 y3 y4, LeO (spec_l1TakeS.l0 k y0 y1 y2 y3 y4) (spec_l1TakeS.l0 (k + 1) y0 y1 y2 y3 y4)) ∧ (∀ y0 y1 y2 y3 y4 y5, LeO (spec_l1TakeS.j1 k y0 y1 y2 y3 y4 y5) (spec_l1TakeS.j1 (k + 1) y0 y1 y2 y3 y4 y5)) ∧ (∀ y0 y1 y2 y3, LeO (spec_l1TakeS.j2 k y0 y1 y2 y3) (spec_l1TakeS.j2 (k + 1) y0 y1 y2 y3))
 | 0 => ⟨fun _ _ _ _ _ r h => by simp [spec_l1TakeS.l0] at h, fun _ _ _ _ _ _ r h => by simp [spec_l1TakeS.j1] at h, fun _ _ _ _ r h => by simp [spec_l1TakeS.j2] at h⟩
 | k + 1 => by
  obtain ⟨ih0, ih1, ih2⟩ := spec_l1TakeS.mono_l k
  refine ⟨?_, ?_, ?_⟩
  ·
   intro y0 y1 y2 y3 y4
   unfold spec_l1TakeS.l0
   repeat' first
   | (with_reducible exact ih0 _ _ _ _ _)
   | (with_reducible exact ih1 _ _ _ _ _ _)
   | (with_reducible exact ih2 _ _ _ _)
   | (with_reducible exact LeO.refl _)
   | (with_reducible exact LeO.none _)
   | (with_reducible refine LeO.ite ?_ ?_)
   | (with_reducible refine LeO.bind ?_ (fun _ => ?_))
   | exact ih0 _ _ _ _ _
   | exact ih1 _ _ _ _ _ _
   | exact ih2 _ _ _ _
   | exact LeO.none _
   | refine LeO.ite ?_ ?_
   | refine LeO.bind ?_ (fun _ => ?_)
  ·
   intro y0 y1 y2 y3 y4 y5
   unfold spec_l1TakeS.j1
   repeat' first
   | (with_reducible exact ih0 _ _ _ _ _)
   | (with_reducible exact ih1 _ _ _ _ _ _)
   | (with_reducible exact ih2 _ _ _ _)
   | (with_reducible exact LeO.refl _)
   | (with_reducible exact LeO.none _)
   | (with_reducible refine LeO.ite ?_ ?_)
   | (with_reducible refine LeO.bind ?_ (fun _ => ?_))
   | exact ih0 _ _ _ _ _
   | exact ih1 _ _ _ _ _ _
   | exact ih2 _ _ _ _
   | exact LeO.none _
   | refine LeO.ite ?_ ?_
   | refine LeO.bind ?_ (fun _ => ?_)
  ·
   intro y0 y1 y2 y3
   unfold spec_l1TakeS.j2
   repeat' first
   | (with_reducible exact ih0 _ _ _ _ _)
   | (with_reducible exact ih1 _ _ _ _ _ _)
   | (with_reducible exact ih2 _ _ _ _)
   | (with_reducible exact LeO.refl _)
   | (with_reducible exact LeO.none _)
   | (with_reducible refine LeO.ite ?_ ?_)
   | (with_reducible refine LeO.bind ?_ (fun _ => ?_))
   | exact ih0 _ _ _ _ _
   | exact ih1 _ _ _ _ _ _
   | exact ih2 _ _ _ _
   | exact LeO.none _
   | refine LeO.ite ?_ ?_
   | refine LeO.bind ?_ (fun _ => ?_)
set_option maxHeartbeats 8000000 in
set_option maxRecDepth 100000 in
theorem spec_l1TakeS.calls (k : Nat) (a0 : ByteArray) (a1 : Int) (r1 : Int) (r2 : Int) (w : World) (h : spec_l1TakeS.f k a0 a1 = some (r1, r2)) :
  Calls Try.prog 68 #[.string a0, .int .i64 a1] w fun e w' => e = .returned (.tuple #[.int .i64 r1, .int .i64 r2]) ∧ Drawn0 w w' := by
 have H : (spec_l1TakeS.l0 k a0 a1 (wrap64 (Int.tdiv (wrap64 (a1 + 6)) 7)) 0 0) = some (r1, r2) := h
 clear h
 have H' := Aside0.mk H
 clear H
 go_enter Try.func68, Try.ntmps68
 go_wp2
 (try simp only [Act.put, List.setIfInBounds_toArray, List.set_cons_zero, List.set_cons_succ])
 go_loopg [7, 8] k (fun kq v7 v8 w' => ∃ (x7_1 : Int) (x8_1 : Int), v7 = .int .u64 x7_1 ∧ v8 = .int .i64 x8_1 ∧ Aside0 (spec_l1TakeS.l0 kq a0 a1 (wrap64 (Int.tdiv (wrap64 (a1 + 6)) 7)) x7_1 x8_1 = some (r1, r2)) ∧ Aside0 (kq ≤ k) ∧ Drawn0 w w')
 case atStart => exact ⟨(0), (0), (by first | rfl | (simp; done) | (simp [*]; done)), (by first | rfl | (simp; done) | (simp [*]; done)), H', ⟨Nat.le_refl _⟩, dr_⟩
 case round =>
  clear H'
  obtain ⟨x7_1, x8_1, rfl, rfl, HA, HK1, ⟨m1, rfl⟩⟩ := hrel
  cases gk with
  | zero => exact absurd HA.out (by simp [spec_l1TakeS.l0])
  | succ k1 =>
   have H := HA.out
   clear HA
   simp only [spec_l1TakeS.l0] at H
   have HC3 := Aside0.mk H
   clear H
   go_upto_region 4 with (fail)
   go_cut [24] (fun v24 wc => ∃ (kq : Nat) (x24_2 : Bool), v24 = .bool x24_2 ∧ Aside0 (spec_l1TakeS.j1 kq a0 a1 (wrap64 (Int.tdiv (wrap64 (a1 + 6)) 7)) x7_1 x8_1 x24_2 = some (r1, r2)) ∧ Aside0 (kq ≤ k1) ∧ Drawn0 w wc)
   case first =>
    have H := HC3.out
    clear HC3
    by_cases c4 : x8_1 < (wrap64 (Int.tdiv (wrap64 (a1 + 6)) 7))
    ·
     rw [if_pos c4] at H
     have c4b0 : decide (x8_1 < (wrap64 (Int.tdiv (wrap64 (a1 + 6)) 7))) = true := decide_eq_true c4
     clear c4
     (first | rw [c4b0] | (simp only [i64_w, i32_w]; rw [c4b0]) | skip)
     have H' := Aside0.mk H
     clear H
     go_wp2
     go_meet
     case rel => exact ⟨_, (decide (x8_1 < (a0.size : Int))), (by first | rfl | (simp; done) | (simp [*]; done)), H', ⟨by have := HK1.out; first | omega | exact Nat.le_refl _⟩, dr_⟩
    ·
     rw [if_neg c4] at H
     have c4b0 : decide (x8_1 < (wrap64 (Int.tdiv (wrap64 (a1 + 6)) 7))) = false := decide_eq_false c4
     clear c4
     (first | rw [c4b0] | (simp only [i64_w, i32_w]; rw [c4b0]) | skip)
     have H' := Aside0.mk H
     clear H
     go_wp2
     go_meet
     case rel => exact ⟨_, (false), (by first | rfl | (simp; done) | (simp [*]; done)), H', ⟨by have := HK1.out; first | omega | exact Nat.le_refl _⟩, dr_⟩
   case rest =>
    clear HC3
    obtain ⟨kq, x24_2, rfl, HA, HJ2, ⟨mc2, rfl⟩⟩ := hcut
    cases kq with
    | zero => exact absurd HA.out (by simp [spec_l1TakeS.j1])
    | succ kj2 =>
     have H := HA.out
     clear HA
     simp only [spec_l1TakeS.j1] at H
     by_cases c5 : x24_2 = true
     ·
      subst c5
      have H1 : (if 0 ≤ x8_1 then (if x8_1 < (a0.size : Int) then (if 0 ≤ (IntKind.u64.wrap (wrap64 (7 * x8_1))) then (if (bt a0 x8_1) ≥ 128 then (spec_l1TakeS.l0 kj2 a0 a1 (wrap64 (Int.tdiv (wrap64 (a1 + 6)) 7)) (Go.bits .or .u64 x7_1 (shl .u64 (IntKind.u64.wrap (Go.bits .and .u8 (bt a0 x8_1) 127)) (IntKind.u64.wrap (wrap64 (7 * x8_1))))) (wrap64 (x8_1 + 1))) else (if (wrap64 (a1 - (wrap64 (7 * x8_1)))) < 7 then (if 0 ≤ (IntKind.u64.wrap (wrap64 ((wrap64 (a1 - (wrap64 (7 * x8_1)))) - 1))) then (if (shr .u64 (IntKind.u64.wrap (Go.bits .and .u8 (bt a0 x8_1) 127)) (IntKind.u64.wrap (wrap64 ((wrap64 (a1 - (wrap64 (7 * x8_1)))) - 1)))) = 0 then (spec_l1TakeS.j2 kj2 (Go.bits .or .u64 x7_1 (shl .u64 (IntKind.u64.wrap (Go.bits .and .u8 (bt a0 x8_1) 127)) (IntKind.u64.wrap (wrap64 (7 * x8_1))))) x8_1 (IntKind.u64.wrap (Go.bits .and .u8 (bt a0 x8_1) 127)) false) else (spec_l1TakeS.j2 kj2 (Go.bits .or .u64 x7_1 (shl .u64 (IntKind.u64.wrap (Go.bits .and .u8 (bt a0 x8_1) 127)) (IntKind.u64.wrap (wrap64 (7 * x8_1))))) x8_1 (IntKind.u64.wrap (Go.bits .and .u8 (bt a0 x8_1) 127)) ((shr .u64 (IntKind.u64.wrap (Go.bits .and .u8 (bt a0 x8_1) 127)) (IntKind.u64.wrap (wrap64 ((wrap64 (a1 - (wrap64 (7 * x8_1)))) - 1)))) != (shr .u64 127 (IntKind.u64.wrap (wrap64 ((wrap64 (a1 - (wrap64 (7 * x8_1)))) - 1))))))) else (none)) else (if (wrap64 (7 * (wrap64 (x8_1 + 1)))) < 64 then (if (Go.bits .and .u64 (IntKind.u64.wrap (Go.bits .and .u8 (bt a0 x8_1) 127)) 64) = 0 then (some (wrap64 (Go.bits .or .u64 x7_1 (shl .u64 (IntKind.u64.wrap (Go.bits .and .u8 (bt a0 x8_1) 127)) (IntKind.u64.wrap (wrap64 (7 * x8_1))))), wrap64 (x8_1 + 1))) else (if 0 ≤ (IntKind.u64.wrap (wrap64 (7 * (wrap64 (x8_1 + 1))))) then (some (wrap64 (Go.bits .or .u64 (Go.bits .or .u64 x7_1 (shl .u64 (IntKind.u64.wrap (Go.bits .and .u8 (bt a0 x8_1) 127)) (IntKind.u64.wrap (wrap64 (7 * x8_1))))) (shl .u64 18446744073709551615 (IntKind.u64.wrap (wrap64 (7 * (wrap64 (x8_1 + 1))))))), wrap64 (x8_1 + 1))) else (none))) else (some (wrap64 (Go.bits .or .u64 x7_1 (shl .u64 (IntKind.u64.wrap (Go.bits .and .u8 (bt a0 x8_1) 127)) (IntKind.u64.wrap (wrap64 (7 * x8_1))))), wrap64 (x8_1 + 1)))))) else (none)) else (none)) else (none)) = some (r1, r2) := by rw [if_pos rfl] at H; exact H
      clear H
      have H := H1
      clear H1
      by_cases c6 : 0 ≤ x8_1
      ·
       rw [if_pos c6] at H
       have c6b0 : decide (0 ≤ x8_1) = true := decide_eq_true c6
       clear c6
       by_cases c7 : x8_1 < (a0.size : Int)
       ·
        rw [if_pos c7] at H
        have c7b0 : decide (x8_1 < (a0.size : Int)) = true := decide_eq_true c7
        clear c7
        obtain ⟨ji9, hji9⟩ : ∃ j_ : Int, (IntKind.u64.wrap (wrap64 (7 * x8_1))) = j_ := ⟨_, rfl⟩
        replace H : (if 0 ≤ (ji9) then (if (bt a0 x8_1) ≥ 128 then (spec_l1TakeS.l0 kj2 a0 a1 (wrap64 (Int.tdiv (wrap64 (a1 + 6)) 7)) (Go.bits .or .u64 x7_1 (shl .u64 (IntKind.u64.wrap (Go.bits .and .u8 (bt a0 x8_1) 127)) (ji9))) (wrap64 (x8_1 + 1))) else (if (wrap64 (a1 - (wrap64 (7 * x8_1)))) < 7 then (if 0 ≤ (IntKind.u64.wrap (wrap64 ((wrap64 (a1 - (wrap64 (7 * x8_1)))) - 1))) then (if (shr .u64 (IntKind.u64.wrap (Go.bits .and .u8 (bt a0 x8_1) 127)) (IntKind.u64.wrap (wrap64 ((wrap64 (a1 - (wrap64 (7 * x8_1)))) - 1)))) = 0 then (spec_l1TakeS.j2 kj2 (Go.bits .or .u64 x7_1 (shl .u64 (IntKind.u64.wrap (Go.bits .and .u8 (bt a0 x8_1) 127)) (ji9))) x8_1 (IntKind.u64.wrap (Go.bits .and .u8 (bt a0 x8_1) 127)) false) else (spec_l1TakeS.j2 kj2 (Go.bits .or .u64 x7_1 (shl .u64 (IntKind.u64.wrap (Go.bits .and .u8 (bt a0 x8_1) 127)) (ji9))) x8_1 (IntKind.u64.wrap (Go.bits .and .u8 (bt a0 x8_1) 127)) ((shr .u64 (IntKind.u64.wrap (Go.bits .and .u8 (bt a0 x8_1) 127)) (IntKind.u64.wrap (wrap64 ((wrap64 (a1 - (wrap64 (7 * x8_1)))) - 1)))) != (shr .u64 127 (IntKind.u64.wrap (wrap64 ((wrap64 (a1 - (wrap64 (7 * x8_1)))) - 1))))))) else (none)) else (if (wrap64 (7 * (wrap64 (x8_1 + 1)))) < 64 then (if (Go.bits .and .u64 (IntKind.u64.wrap (Go.bits .and .u8 (bt a0 x8_1) 127)) 64) = 0 then (some (wrap64 (Go.bits .or .u64 x7_1 (shl .u64 (IntKind.u64.wrap (Go.bits .and .u8 (bt a0 x8_1) 127)) (ji9))), wrap64 (x8_1 + 1))) else (if 0 ≤ (IntKind.u64.wrap (wrap64 (7 * (wrap64 (x8_1 + 1))))) then (some (wrap64 (Go.bits .or .u64 (Go.bits .or .u64 x7_1 (shl .u64 (IntKind.u64.wrap (Go.bits .and .u8 (bt a0 x8_1) 127)) (ji9))) (shl .u64 18446744073709551615 (IntKind.u64.wrap (wrap64 (7 * (wrap64 (x8_1 + 1))))))), wrap64 (x8_1 + 1))) else (none))) else (some (wrap64 (Go.bits .or .u64 x7_1 (shl .u64 (IntKind.u64.wrap (Go.bits .and .u8 (bt a0 x8_1) 127)) (ji9))), wrap64 (x8_1 + 1)))))) else (none)) = some (r1, r2) := by first | (rw [hji9] at H; exact H) | (simp only [hji9] at H ⊢; exact H)
        by_cases c10 : 0 ≤ (ji9)
        ·
         rw [if_pos c10] at H
         have c10b0 := eq_true c10
         have c10b1 : decide (0 ≤ (ji9)) = true := decide_eq_true c10
         clear c10
         obtain ⟨ji11, hji11⟩ : ∃ j_ : Int, (shl .u64 (IntKind.u64.wrap (Go.bits .and .u8 (bt a0 x8_1) 127)) (ji9)) = j_ := ⟨_, rfl⟩
         replace H : (if (bt a0 x8_1) ≥ 128 then (spec_l1TakeS.l0 kj2 a0 a1 (wrap64 (Int.tdiv (wrap64 (a1 + 6)) 7)) (Go.bits .or .u64 x7_1 (ji11)) (wrap64 (x8_1 + 1))) else (if (wrap64 (a1 - (wrap64 (7 * x8_1)))) < 7 then (if 0 ≤ (IntKind.u64.wrap (wrap64 ((wrap64 (a1 - (wrap64 (7 * x8_1)))) - 1))) then (if (shr .u64 (IntKind.u64.wrap (Go.bits .and .u8 (bt a0 x8_1) 127)) (IntKind.u64.wrap (wrap64 ((wrap64 (a1 - (wrap64 (7 * x8_1)))) - 1)))) = 0 then (spec_l1TakeS.j2 kj2 (Go.bits .or .u64 x7_1 (ji11)) x8_1 (IntKind.u64.wrap (Go.bits .and .u8 (bt a0 x8_1) 127)) false) else (spec_l1TakeS.j2 kj2 (Go.bits .or .u64 x7_1 (ji11)) x8_1 (IntKind.u64.wrap (Go.bits .and .u8 (bt a0 x8_1) 127)) ((shr .u64 (IntKind.u64.wrap (Go.bits .and .u8 (bt a0 x8_1) 127)) (IntKind.u64.wrap (wrap64 ((wrap64 (a1 - (wrap64 (7 * x8_1)))) - 1)))) != (shr .u64 127 (IntKind.u64.wrap (wrap64 ((wrap64 (a1 - (wrap64 (7 * x8_1)))) - 1))))))) else (none)) else (if (wrap64 (7 * (wrap64 (x8_1 + 1)))) < 64 then (if (Go.bits .and .u64 (IntKind.u64.wrap (Go.bits .and .u8 (bt a0 x8_1) 127)) 64) = 0 then (some (wrap64 (Go.bits .or .u64 x7_1 (ji11)), wrap64 (x8_1 + 1))) else (if 0 ≤ (IntKind.u64.wrap (wrap64 (7 * (wrap64 (x8_1 + 1))))) then (some (wrap64 (Go.bits .or .u64 (Go.bits .or .u64 x7_1 (ji11)) (shl .u64 18446744073709551615 (IntKind.u64.wrap (wrap64 (7 * (wrap64 (x8_1 + 1))))))), wrap64 (x8_1 + 1))) else (none))) else (some (wrap64 (Go.bits .or .u64 x7_1 (ji11)), wrap64 (x8_1 + 1)))))) = some (r1, r2) := by first | (rw [hji11] at H; exact H) | (simp only [hji11] at H ⊢; exact H)
         have hji11_ : (IntKind.u64.wrap ((IntKind.u64.wrap (Go.bits .and .u8 (bt a0 x8_1) 127)) * 2 ^ min (ji9).toNat 64)) = ji11 := hji11
         have hji11z : (ji9) ≤ 64 → (IntKind.u64.wrap ((IntKind.u64.wrap (Go.bits .and .u8 (bt a0 x8_1) 127)) * 2 ^ (ji9).toNat)) = ji11 := shl_small hji11
         by_cases c13 : (bt a0 x8_1) ≥ 128
         ·
          rw [if_pos c13] at H
          have c13b0 : decide (128 ≤ (bt a0 x8_1)) = true := decide_eq_true c13
          clear c13
          have H' := Aside0.mk H
          clear H
          have p8 : 0 ≤ (x8_1 : Int) := od_
          have q8 : x8_1 < (a0.size : Int) := od_
          have hx8 := bt_at a0 x8_1
          replace p8 := eq_true p8
          replace q8 := eq_true q8
          have p12 : 0 ≤ (x8_1 : Int) := od_
          have q12 : x8_1 < (a0.size : Int) := od_
          have hx12 := bt_at a0 x8_1
          replace p12 := eq_true p12
          replace q12 := eq_true q12
          go_wp2
          go_roundg kj2
          case measure => have := HK1.out; have := HJ2.out; omega
          case rel => exact ⟨(Go.bits .or .u64 x7_1 (ji11)), (wrap64 (x8_1 + 1)), (by first | rfl | (simp; done) | (simp only [← hji11] <;> (first | rfl | simp)) | (simp [*]; done)), (by first | rfl | (simp; done) | (simp [*]; done)), H', ⟨by have := HK1.out; have := HJ2.out; omega⟩, dr_⟩
         ·
          rw [if_neg c13] at H
          have c13b0 : decide (128 ≤ (bt a0 x8_1)) = false := decide_eq_false c13
          clear c13
          by_cases c14 : (wrap64 (a1 - (wrap64 (7 * x8_1)))) < 7
          ·
           rw [if_pos c14] at H
           have c14b0 : decide ((wrap64 (a1 - (wrap64 (7 * x8_1)))) < 7) = true := decide_eq_true c14
           clear c14
           obtain ⟨ji15, hji15⟩ : ∃ j_ : Int, (IntKind.u64.wrap (wrap64 ((wrap64 (a1 - (wrap64 (7 * x8_1)))) - 1))) = j_ := ⟨_, rfl⟩
           replace H : (if 0 ≤ (ji15) then (if (shr .u64 (IntKind.u64.wrap (Go.bits .and .u8 (bt a0 x8_1) 127)) (ji15)) = 0 then (spec_l1TakeS.j2 kj2 (Go.bits .or .u64 x7_1 (ji11)) x8_1 (IntKind.u64.wrap (Go.bits .and .u8 (bt a0 x8_1) 127)) false) else (spec_l1TakeS.j2 kj2 (Go.bits .or .u64 x7_1 (ji11)) x8_1 (IntKind.u64.wrap (Go.bits .and .u8 (bt a0 x8_1) 127)) ((shr .u64 (IntKind.u64.wrap (Go.bits .and .u8 (bt a0 x8_1) 127)) (ji15)) != (shr .u64 127 (ji15))))) else (none)) = some (r1, r2) := by first | (rw [hji15] at H; exact H) | (simp only [hji15] at H ⊢; exact H)
           by_cases c16 : 0 ≤ (ji15)
           ·
            rw [if_pos c16] at H
            have c16b0 := eq_true c16
            have c16b1 : decide (0 ≤ (ji15)) = true := decide_eq_true c16
            clear c16
            obtain ⟨ji17, hji17⟩ : ∃ j_ : Int, (shr .u64 (IntKind.u64.wrap (Go.bits .and .u8 (bt a0 x8_1) 127)) (ji15)) = j_ := ⟨_, rfl⟩
            replace H : (if (ji17) = 0 then (spec_l1TakeS.j2 kj2 (Go.bits .or .u64 x7_1 (ji11)) x8_1 (IntKind.u64.wrap (Go.bits .and .u8 (bt a0 x8_1) 127)) false) else (spec_l1TakeS.j2 kj2 (Go.bits .or .u64 x7_1 (ji11)) x8_1 (IntKind.u64.wrap (Go.bits .and .u8 (bt a0 x8_1) 127)) ((ji17) != (shr .u64 127 (ji15))))) = some (r1, r2) := by first | (rw [hji17] at H; exact H) | (simp only [hji17] at H ⊢; exact H)
            have hji17_ : ((IntKind.u64.wrap (Go.bits .and .u8 (bt a0 x8_1) 127)) / 2 ^ min (ji15).toNat 64) = ji17 := hji17
            have hji17z : (ji15) ≤ 64 → ((IntKind.u64.wrap (Go.bits .and .u8 (bt a0 x8_1) 127)) / 2 ^ (ji15).toNat) = ji17 := shr_small hji17
            have HC18 := Aside0.mk H
            clear H
            have p8 : 0 ≤ (x8_1 : Int) := od_
            have q8 : x8_1 < (a0.size : Int) := od_
            have hx8 := bt_at a0 x8_1
            replace p8 := eq_true p8
            replace q8 := eq_true q8
            have p12 : 0 ≤ (x8_1 : Int) := od_
            have q12 : x8_1 < (a0.size : Int) := od_
            have hx12 := bt_at a0 x8_1
            replace p12 := eq_true p12
            replace q12 := eq_true q12
            go_upto_region 12 with (fail)
            go_cut [63] (fun v63 wc => ∃ (kq : Nat) (x63_17 : Bool), v63 = .bool x63_17 ∧ Aside0 (spec_l1TakeS.j2 kq (Go.bits .or .u64 x7_1 (ji11)) x8_1 (IntKind.u64.wrap (Go.bits .and .u8 (bt a0 x8_1) 127)) x63_17 = some (r1, r2)) ∧ Aside0 (kq ≤ kj2) ∧ Drawn0 w wc)
            case first =>
             have H := HC18.out
             clear HC18
             by_cases c19 : (ji17) = 0
             ·
              rw [if_pos c19] at H
              have c19b0 : ((ji17) == 0) = true := beq_iff_eq.mpr c19
              have c19b1 : ((ji17) != 0) = false := bne_eq_false_iff_eq.mpr c19
              clear c19
              (first | rw [c19b0] | (simp only [i64_w, i32_w]; rw [c19b0]) | skip)
              have H' := Aside0.mk H
              clear H
              go_wp2
              first | go_meet | ((simp only [← hji17]); go_meet) | ((simp only [← hji15]); go_meet) | ((simp only [← hji11]); go_meet) | ((simp only [← hji9]); go_meet) | ((simp only [← hji17, ← hji15, ← hji11, ← hji9]); go_meet)
              case rel => exact ⟨_, (false), (by first | rfl | (simp; done) | (simp [*]; done)), H', ⟨by have := HK1.out; have := HJ2.out; first | omega | exact Nat.le_refl _⟩, dr_⟩
             ·
              rw [if_neg c19] at H
              have c19b0 : ((ji17) == 0) = false := beq_eq_false_iff_ne.mpr c19
              have c19b1 : ((ji17) != 0) = true := bne_iff_ne.mpr c19
              (first | rw [c19b0] | (simp only [i64_w, i32_w]; rw [c19b0]) | skip)
              have c20b0 := eq_true (od_ : 0 ≤ (ji15))
              obtain ⟨ji21, hji21⟩ : ∃ j_ : Int, (shr .u64 127 (ji15)) = j_ := ⟨_, rfl⟩
              replace H : (spec_l1TakeS.j2 kj2 (Go.bits .or .u64 x7_1 (ji11)) x8_1 (IntKind.u64.wrap (Go.bits .and .u8 (bt a0 x8_1) 127)) ((ji17) != (ji21))) = some (r1, r2) := by first | (rw [hji21] at H; exact H) | (simp only [hji21] at H ⊢; exact H)
              have hji21_ : (127 / 2 ^ min (ji15).toNat 64) = ji21 := hji21
              have hji21z : (ji15) ≤ 64 → (127 / 2 ^ (ji15).toNat) = ji21 := shr_small hji21
              have H' := Aside0.mk H
              clear H
              go_wp2
              first | go_meet | ((simp only [← hji21]); go_meet) | ((simp only [← hji17]); go_meet) | ((simp only [← hji15]); go_meet) | ((simp only [← hji11]); go_meet) | ((simp only [← hji9]); go_meet) | ((simp only [← hji21, ← hji17, ← hji15, ← hji11, ← hji9]); go_meet)
              case rel => exact ⟨_, (((ji17) != (ji21))), (by first | rfl | (simp; done) | (simp only [← hji17, ← hji21] <;> (first | rfl | simp)) | (simp [*]; done)), H', ⟨by have := HK1.out; have := HJ2.out; first | omega | exact Nat.le_refl _⟩, dr_⟩
            case rest =>
             clear HC18
             try clear c5
             try clear c6
             try clear c6b0
             try clear c7
             try clear c7b0
             try clear p8
             try clear q8
             try clear hx8
             try clear c10
             try clear c10b0
             try clear c10b1
             try clear p12
             try clear q12
             try clear hx12
             try clear c13
             try clear c13b0
             try clear c14
             try clear c14b0
             try clear c16
             try clear c16b0
             try clear c16b1
             try clear p12
             try clear p8
             try clear q12
             try clear q8
             obtain ⟨kq, x63_17, rfl, HA, HJ17, ⟨mc17, rfl⟩⟩ := hcut
             cases kq with
             | zero => exact absurd HA.out (by simp [spec_l1TakeS.j2])
             | succ kj17 =>
              have H := HA.out
              clear HA
              simp only [spec_l1TakeS.j2] at H
              by_cases c22 : x63_17 = true
              ·
               subst c22
               have H1 : (some (0, 0)) = some (r1, r2) := by rw [if_pos rfl] at H; exact H
               clear H
               have H := H1
               clear H1
               simp only [Option.some.injEq, Prod.mk.injEq] at H
               obtain ⟨rfl, rfl⟩ := H
               go_wp2
               go_ret2
               exact ⟨by first | rfl | (simp; done) | (simp only [← hji9, ← hji11, ← hji15, ← hji17] <;> (first | rfl | simp)) | (simp [*]; done), dr_⟩
              ·
               replace c22 := Bool.eq_false_iff.mpr c22
               subst c22
               have H1 : (if (wrap64 (7 * (wrap64 (x8_1 + 1)))) < 64 then (if (Go.bits .and .u64 (IntKind.u64.wrap (Go.bits .and .u8 (bt a0 x8_1) 127)) 64) = 0 then (some (wrap64 ((Go.bits .or .u64 x7_1 (ji11))), wrap64 (x8_1 + 1))) else (if 0 ≤ (IntKind.u64.wrap (wrap64 (7 * (wrap64 (x8_1 + 1))))) then (some (wrap64 (Go.bits .or .u64 (Go.bits .or .u64 x7_1 (ji11)) (shl .u64 18446744073709551615 (IntKind.u64.wrap (wrap64 (7 * (wrap64 (x8_1 + 1))))))), wrap64 (x8_1 + 1))) else (none))) else (some (wrap64 ((Go.bits .or .u64 x7_1 (ji11))), wrap64 (x8_1 + 1)))) = some (r1, r2) := by rw [if_neg (show ¬ (false = true) by decide)] at H; exact H
               clear H
               have H := H1
               clear H1
               by_cases c23 : (wrap64 (7 * (wrap64 (x8_1 + 1)))) < 64
               ·
                rw [if_pos c23] at H
                have c23b0 : decide ((wrap64 (7 * (wrap64 (x8_1 + 1)))) < 64) = true := decide_eq_true c23
                clear c23
                by_cases c24 : (Go.bits .and .u64 (IntKind.u64.wrap (Go.bits .and .u8 (bt a0 x8_1) 127)) 64) = 0
                ·
                 rw [if_pos c24] at H
                 have c24b0 : ((Go.bits .and .u64 (IntKind.u64.wrap (Go.bits .and .u8 (bt a0 x8_1) 127)) 64) == 0) = true := beq_iff_eq.mpr c24
                 have c24b1 : ((Go.bits .and .u64 (IntKind.u64.wrap (Go.bits .and .u8 (bt a0 x8_1) 127)) 64) != 0) = false := bne_eq_false_iff_eq.mpr c24
                 clear c24
                 simp only [Option.some.injEq, Prod.mk.injEq] at H
                 obtain ⟨rfl, rfl⟩ := H
                 go_wp2
                 go_ret2
                 exact ⟨by first | rfl | (simp; done) | (simp only [← hji9, ← hji11, ← hji15, ← hji17] <;> (first | rfl | simp)) | (simp [*]; done), dr_⟩
                ·
                 rw [if_neg c24] at H
                 have c24b0 : ((Go.bits .and .u64 (IntKind.u64.wrap (Go.bits .and .u8 (bt a0 x8_1) 127)) 64) == 0) = false := beq_eq_false_iff_ne.mpr c24
                 have c24b1 : ((Go.bits .and .u64 (IntKind.u64.wrap (Go.bits .and .u8 (bt a0 x8_1) 127)) 64) != 0) = true := bne_iff_ne.mpr c24
                 obtain ⟨ji25, hji25⟩ : ∃ j_ : Int, (IntKind.u64.wrap (wrap64 (7 * (wrap64 (x8_1 + 1))))) = j_ := ⟨_, rfl⟩
                 replace H : (if 0 ≤ (ji25) then (some (wrap64 (Go.bits .or .u64 (Go.bits .or .u64 x7_1 (ji11)) (shl .u64 18446744073709551615 (ji25))), wrap64 (x8_1 + 1))) else (none)) = some (r1, r2) := by first | (rw [hji25] at H; exact H) | (simp only [hji25] at H ⊢; exact H)
                 by_cases c26 : 0 ≤ (ji25)
                 ·
                  rw [if_pos c26] at H
                  have c26b0 := eq_true c26
                  have c26b1 : decide (0 ≤ (ji25)) = true := decide_eq_true c26
                  clear c26
                  obtain ⟨ji27, hji27⟩ : ∃ j_ : Int, (shl .u64 18446744073709551615 (ji25)) = j_ := ⟨_, rfl⟩
                  replace H : (some (wrap64 (Go.bits .or .u64 (Go.bits .or .u64 x7_1 (ji11)) (ji27)), wrap64 (x8_1 + 1))) = some (r1, r2) := by first | (rw [hji27] at H; exact H) | (simp only [hji27] at H ⊢; exact H)
                  have hji27_ : (IntKind.u64.wrap (18446744073709551615 * 2 ^ min (ji25).toNat 64)) = ji27 := hji27
                  have hji27z : (ji25) ≤ 64 → (IntKind.u64.wrap (18446744073709551615 * 2 ^ (ji25).toNat)) = ji27 := shl_small hji27
                  simp only [Option.some.injEq, Prod.mk.injEq] at H
                  obtain ⟨rfl, rfl⟩ := H
                  go_wp2
                  go_ret2
                  exact ⟨by first | rfl | (simp; done) | (simp only [← hji9, ← hji11, ← hji15, ← hji17, ← hji25, ← hji27] <;> (first | rfl | simp)) | (simp [*]; done), dr_⟩
                 ·
                  rw [if_neg c26] at H
                  exact absurd H (by simp)
               ·
                rw [if_neg c23] at H
                have c23b0 : decide ((wrap64 (7 * (wrap64 (x8_1 + 1)))) < 64) = false := decide_eq_false c23
                clear c23
                simp only [Option.some.injEq, Prod.mk.injEq] at H
                obtain ⟨rfl, rfl⟩ := H
                go_wp2
                go_ret2
                exact ⟨by first | rfl | (simp; done) | (simp only [← hji9, ← hji11, ← hji15, ← hji17] <;> (first | rfl | simp)) | (simp [*]; done), dr_⟩
           ·
            rw [if_neg c16] at H
            exact absurd H (by simp)
          ·
           rw [if_neg c14] at H
           have c14b0 : decide ((wrap64 (a1 - (wrap64 (7 * x8_1)))) < 7) = false := decide_eq_false c14
           clear c14
           by_cases c28 : (wrap64 (7 * (wrap64 (x8_1 + 1)))) < 64
           ·
            rw [if_pos c28] at H
            have c28b0 : decide ((wrap64 (7 * (wrap64 (x8_1 + 1)))) < 64) = true := decide_eq_true c28
            clear c28
            by_cases c29 : (Go.bits .and .u64 (IntKind.u64.wrap (Go.bits .and .u8 (bt a0 x8_1) 127)) 64) = 0
            ·
             rw [if_pos c29] at H
             have c29b0 : ((Go.bits .and .u64 (IntKind.u64.wrap (Go.bits .and .u8 (bt a0 x8_1) 127)) 64) == 0) = true := beq_iff_eq.mpr c29
             have c29b1 : ((Go.bits .and .u64 (IntKind.u64.wrap (Go.bits .and .u8 (bt a0 x8_1) 127)) 64) != 0) = false := bne_eq_false_iff_eq.mpr c29
             clear c29
             simp only [Option.some.injEq, Prod.mk.injEq] at H
             obtain ⟨rfl, rfl⟩ := H
             have p8 : 0 ≤ (x8_1 : Int) := od_
             have q8 : x8_1 < (a0.size : Int) := od_
             have hx8 := bt_at a0 x8_1
             replace p8 := eq_true p8
             replace q8 := eq_true q8
             have p12 : 0 ≤ (x8_1 : Int) := od_
             have q12 : x8_1 < (a0.size : Int) := od_
             have hx12 := bt_at a0 x8_1
             replace p12 := eq_true p12
             replace q12 := eq_true q12
             go_wp2
             go_ret2
             exact ⟨by first | rfl | (simp; done) | (simp only [← hji9, ← hji11] <;> (first | rfl | simp)) | (simp [*]; done), dr_⟩
            ·
             rw [if_neg c29] at H
             have c29b0 : ((Go.bits .and .u64 (IntKind.u64.wrap (Go.bits .and .u8 (bt a0 x8_1) 127)) 64) == 0) = false := beq_eq_false_iff_ne.mpr c29
             have c29b1 : ((Go.bits .and .u64 (IntKind.u64.wrap (Go.bits .and .u8 (bt a0 x8_1) 127)) 64) != 0) = true := bne_iff_ne.mpr c29
             obtain ⟨ji30, hji30⟩ : ∃ j_ : Int, (IntKind.u64.wrap (wrap64 (7 * (wrap64 (x8_1 + 1))))) = j_ := ⟨_, rfl⟩
             replace H : (if 0 ≤ (ji30) then (some (wrap64 (Go.bits .or .u64 (Go.bits .or .u64 x7_1 (ji11)) (shl .u64 18446744073709551615 (ji30))), wrap64 (x8_1 + 1))) else (none)) = some (r1, r2) := by first | (rw [hji30] at H; exact H) | (simp only [hji30] at H ⊢; exact H)
             by_cases c31 : 0 ≤ (ji30)
             ·
              rw [if_pos c31] at H
              have c31b0 := eq_true c31
              have c31b1 : decide (0 ≤ (ji30)) = true := decide_eq_true c31
              clear c31
              obtain ⟨ji32, hji32⟩ : ∃ j_ : Int, (shl .u64 18446744073709551615 (ji30)) = j_ := ⟨_, rfl⟩
              replace H : (some (wrap64 (Go.bits .or .u64 (Go.bits .or .u64 x7_1 (ji11)) (ji32)), wrap64 (x8_1 + 1))) = some (r1, r2) := by first | (rw [hji32] at H; exact H) | (simp only [hji32] at H ⊢; exact H)
              have hji32_ : (IntKind.u64.wrap (18446744073709551615 * 2 ^ min (ji30).toNat 64)) = ji32 := hji32
              have hji32z : (ji30) ≤ 64 → (IntKind.u64.wrap (18446744073709551615 * 2 ^ (ji30).toNat)) = ji32 := shl_small hji32
              simp only [Option.some.injEq, Prod.mk.injEq] at H
              obtain ⟨rfl, rfl⟩ := H
              have p8 : 0 ≤ (x8_1 : Int) := od_
              have q8 : x8_1 < (a0.size : Int) := od_
              have hx8 := bt_at a0 x8_1
              replace p8 := eq_true p8
              replace q8 := eq_true q8
              have p12 : 0 ≤ (x8_1 : Int) := od_
              have q12 : x8_1 < (a0.size : Int) := od_
              have hx12 := bt_at a0 x8_1
              replace p12 := eq_true p12
              replace q12 := eq_true q12
              go_wp2
              go_ret2
              exact ⟨by first | rfl | (simp; done) | (simp only [← hji9, ← hji11, ← hji30, ← hji32] <;> (first | rfl | simp)) | (simp [*]; done), dr_⟩
             ·
              rw [if_neg c31] at H
              exact absurd H (by simp)
           ·
            rw [if_neg c28] at H
            have c28b0 : decide ((wrap64 (7 * (wrap64 (x8_1 + 1)))) < 64) = false := decide_eq_false c28
            clear c28
            simp only [Option.some.injEq, Prod.mk.injEq] at H
            obtain ⟨rfl, rfl⟩ := H
            have p8 : 0 ≤ (x8_1 : Int) := od_
            have q8 : x8_1 < (a0.size : Int) := od_
            have hx8 := bt_at a0 x8_1
            replace p8 := eq_true p8
            replace q8 := eq_true q8
            have p12 : 0 ≤ (x8_1 : Int) := od_
            have q12 : x8_1 < (a0.size : Int) := od_
            have hx12 := bt_at a0 x8_1
            replace p12 := eq_true p12
            replace q12 := eq_true q12
            go_wp2
            go_ret2
            exact ⟨by first | rfl | (simp; done) | (simp only [← hji9, ← hji11] <;> (first | rfl | simp)) | (simp [*]; done), dr_⟩
        ·
         rw [if_neg c10] at H
         exact absurd H (by simp)
       ·
        rw [if_neg c7] at H
        exact absurd H (by simp)
      ·
       rw [if_neg c6] at H
       exact absurd H (by simp)
     ·
      replace c5 := Bool.eq_false_iff.mpr c5
      subst c5
      have H1 : (some (0, 0)) = some (r1, r2) := by rw [if_neg (show ¬ (false = true) by decide)] at H; exact H
      clear H
      have H := H1
      clear H1
      simp only [Option.some.injEq, Prod.mk.injEq] at H
      obtain ⟨rfl, rfl⟩ := H
      go_wp2
      go_ret2
      exact ⟨by first | rfl | (simp; done) | (simp [*]; done), dr_⟩


/-! ### spec_l5Number: function 69 -/
def spec_l5Number.l0 : Nat → ByteArray → Int → Int → Option (Int)
 | 0, _, _, _ => none
 | k + 1, x0, x3, x4 => if x4 ≥ 0 then (if 0 ≤ x4 then (if x4 < (x0.size : Int) then (spec_l5Number.l0 k x0 (Go.bits .or .u64 (IntKind.u64.wrap (x3 * 256)) (IntKind.u64.wrap (bt x0 x4))) (wrap64 (x4 - 1))) else (none)) else (none)) else (some x3)
def spec_l5Number.f (k : Nat) (a0 : ByteArray) : Option (Int) := spec_l5Number.l0 k a0 0 (wrap64 ((a0.size : Int) - 1))
set_option maxHeartbeats 8000000 in
set_option maxRecDepth 100000 in
theorem spec_l5Number.calls (k : Nat) (a0 : ByteArray) (r : Int) (w : World) (h : spec_l5Number.f k a0 = some r) :
  Calls Try.prog 69 #[.string a0] w fun e w' => e = .returned (.int .u64 r) ∧ Drawn0 w w' := by
 have H : (spec_l5Number.l0 k a0 0 (wrap64 ((a0.size : Int) - 1))) = some r := h
 clear h
 have H' := Aside0.mk H
 clear H
 go_enter Try.func69, Try.ntmps69
 go_wp2
 (try simp only [Act.put, List.setIfInBounds_toArray, List.set_cons_zero, List.set_cons_succ])
 go_loopg [3, 4] k (fun kq v3 v4 w' => ∃ (x3_1 : Int) (x4_1 : Int), v3 = .int .u64 x3_1 ∧ v4 = .int .i64 x4_1 ∧ Aside0 (spec_l5Number.l0 kq a0 x3_1 x4_1 = some r) ∧ Aside0 (kq ≤ k) ∧ Drawn0 w w')
 case atStart => exact ⟨(0), (wrap64 ((a0.size : Int) - 1)), (by first | rfl | (simp; done) | (simp [*]; done)), (by first | rfl | (simp; done) | (simp [*]; done)), H', ⟨Nat.le_refl _⟩, dr_⟩
 case round =>
  clear H'
  obtain ⟨x3_1, x4_1, rfl, rfl, HA, HK1, ⟨m1, rfl⟩⟩ := hrel
  cases gk with
  | zero => exact absurd HA.out (by simp [spec_l5Number.l0])
  | succ k1 =>
   have H := HA.out
   clear HA
   simp only [spec_l5Number.l0] at H
   by_cases c2 : x4_1 ≥ 0
   ·
    rw [if_pos c2] at H
    have c2b0 : decide (0 ≤ x4_1) = true := decide_eq_true c2
    clear c2
    by_cases c3 : 0 ≤ x4_1
    ·
     rw [if_pos c3] at H
     have c3b0 : decide (0 ≤ x4_1) = true := decide_eq_true c3
     clear c3
     by_cases c4 : x4_1 < (a0.size : Int)
     ·
      rw [if_pos c4] at H
      have c4b0 : decide (x4_1 < (a0.size : Int)) = true := decide_eq_true c4
      clear c4
      have H' := Aside0.mk H
      clear H
      have p5 : 0 ≤ (x4_1 : Int) := od_
      have q5 : x4_1 < (a0.size : Int) := od_
      have hx5 := bt_at a0 x4_1
      replace p5 := eq_true p5
      replace q5 := eq_true q5
      go_wp2
      go_roundg k1
      case measure => have := HK1.out; omega
      case rel => exact ⟨(Go.bits .or .u64 (IntKind.u64.wrap (x3_1 * 256)) (IntKind.u64.wrap (bt a0 x4_1))), (wrap64 (x4_1 - 1)), (by first | rfl | (simp; done) | (simp [*]; done)), (by first | rfl | (simp; done) | (simp [*]; done)), H', ⟨by have := HK1.out; omega⟩, dr_⟩
     ·
      rw [if_neg c4] at H
      exact absurd H (by simp)
    ·
     rw [if_neg c3] at H
     exact absurd H (by simp)
   ·
    rw [if_neg c2] at H
    have c2b0 : decide (0 ≤ x4_1) = false := decide_eq_false c2
    clear c2
    obtain rfl := Option.some.inj H
    simp only [Option.some.injEq, Prod.mk.injEq] at H
    obtain ⟨rfl⟩ := H
    go_wp2
    go_ret
    exact ⟨by first | rfl | (simp; done) | (simp [*]; done), dr_⟩


/-! ### spec_l6Read: function 45 -/
mutual
def spec_l6Read.l0 : Nat → ByteArray → List (S44) → Int → Option ((List (S44)) × Bool)
 | 0, _, _, _ => none
 | k + 1, x0, x4, x5 => if x5 < (x0.size : Int) then (if 0 ≤ x5 then (if 0 ≤ (wrap64 (x5 + 1)) then (if (wrap64 (x5 + 1)) ≤ (x0.size : Int) then ((spec_l6Shape.f k (wrap64 (bt x0 x5))).bind fun t126 => (if t126 = (-1) then (some (([] : List (S44)), false)) else (if t126 = 1 then (if (x0.extract ((wrap64 (x5 + 1)) : Int).toNat x0.size).toList = ([] : List UInt8) then (some (([] : List (S44)), false)) else (if 0 < ((x0.extract ((wrap64 (x5 + 1)) : Int).toNat x0.size).size : Int) then (spec_l6Read.j2 k x0 x4 (wrap64 (x5 + 1)) 1 (wrap64 (bt x0 x5)) (wrap64 (bt (x0.extract ((wrap64 (x5 + 1)) : Int).toNat x0.size) 0))) else (none))) else (if t126 = 2 then (spec_l6Read.j1 k x0 x4 (wrap64 (x5 + 1)) 0 (x0.extract ((wrap64 (x5 + 1)) : Int).toNat x0.size) t126 (t126 == 2) (wrap64 (bt x0 x5)) 0) else (spec_l6Read.j1 k x0 x4 (wrap64 (x5 + 1)) 0 (x0.extract ((wrap64 (x5 + 1)) : Int).toNat x0.size) t126 (t126 == 3) (wrap64 (bt x0 x5)) 0))))) else (none)) else (none)) else (none)) else (some (x4, true))
def spec_l6Read.j2 : Nat → ByteArray → List (S44) → Int → Int → Int → Int → Option ((List (S44)) × Bool)
 | 0, _, _, _, _, _, _ => none
 | k + 1, x0, x4, x5, x7, x126000, x126001 => if x7 = 0 then ((spec_l6Shape.f k x126000).bind fun t134 => (if t134 = 0 then ((spec_GoodIns.f k x126000 x126001).bind fun t135 => (if t135 = true then (if (x4.length : Int) = 200 then (some (([] : List (S44)), false)) else (if x4.length < 8796093022208 then (spec_l6Read.l0 k x0 (x4 ++ [(⟨x126000, x126001⟩ : S44)]) (wrap64 (x5 + x7))) else (none))) else (some (([] : List (S44)), false)))) else (some (([] : List (S44)), false)))) else ((spec_GoodIns.f k x126000 x126001).bind fun t139 => (if t139 = true then (if (x4.length : Int) = 200 then (some (([] : List (S44)), false)) else (if x4.length < 8796093022208 then (spec_l6Read.l0 k x0 (x4 ++ [(⟨x126000, x126001⟩ : S44)]) (wrap64 (x5 + x7))) else (none))) else (some (([] : List (S44)), false))))
def spec_l6Read.j1 : Nat → ByteArray → List (S44) → Int → Int → ByteArray → Int → Bool → Int → Int → Option ((List (S44)) × Bool)
 | 0, _, _, _, _, _, _, _, _, _ => none
 | k + 1, x0, x4, x5, x7, x8, x27, x38, x126000, x126001 => if x38 = true then ((spec_l1TakeU.f k x8 32).bind fun bt127 => (spec_l6Read.j2 k x0 x4 x5 bt127.2 x126000 (wrap64 (bt127.1)))) else (if x27 = 4 then ((spec_l1TakeS.f k x8 32).bind fun bt129 => (spec_l6Read.j2 k x0 x4 x5 bt129.2 x126000 bt129.1)) else (if x27 = 5 then ((spec_l1TakeS.f k x8 64).bind fun bt131 => (spec_l6Read.j2 k x0 x4 x5 bt131.2 x126000 bt131.1)) else (if x27 = 6 then (if (x8.size : Int) < 4 then (some (([] : List (S44)), false)) else (if 0 ≤ 4 then (if 4 ≤ (x8.size : Int) then ((spec_l5Number.f k (x8.extract 0 4)).bind fun t133 => (spec_l6Read.j2 k x0 x4 x5 4 x126000 (wrap64 (t133)))) else (none)) else (none))) else (spec_l6Read.j2 k x0 x4 x5 x7 x126000 x126001))))
end
def spec_l6Read.f (k : Nat) (a0 : ByteArray) : Option ((List (S44)) × Bool) := spec_l6Read.l0 k a0 ([] : List (S44)) 0
set_option maxHeartbeats 8000000 in
set_option maxRecDepth 100000 in
theorem spec_l6Read.calls (k : Nat) (a0 : ByteArray) (r1 : List (S44)) (r2 : Bool) (w : World) (h : spec_l6Read.f k a0 = some (r1, r2)) :
  Calls Try.prog 45 #[.string a0] w fun e w' => ∃ v0_ : Value, e = .returned (.tuple #[v0_, .bool r2]) ∧ Kd.R k44 44 w' w.heap.size (fun _ => True) v0_ r1 ∧ Below w.heap.size w w' := by
 have hu44 := Try.underlying44
 have HB := Aside0.mk (Below.refl w.heap.size w)
 have H : (spec_l6Read.l0 k a0 ([] : List (S44)) 0) = some (r1, r2) := h
 clear h
 have H' := Aside0.mk H
 clear H
 go_enter Try.func45, Try.ntmps45
 go_wp2
 (try simp only [Act.put, List.setIfInBounds_toArray, List.set_cons_zero, List.set_cons_succ])
 go_loopg [4, 5] k (fun kq v4 v5 w' => ∃ (x4_1 : List (S44)) (x5_1 : Int), v5 = .int .i64 x5_1 ∧ Aside0 (spec_l6Read.l0 kq a0 x4_1 x5_1 = some (r1, r2)) ∧ Aside0 (kq ≤ k) ∧ Aside0 (Kd.R k44 44 w' w.heap.size (fun _ => True) v4 x4_1) ∧ Aside0 (Below w.heap.size w w'))
 case atStart => exact ⟨(([] : List (S44))), (0), (by first | rfl | (simp; done) | (simp [*]; done)), H', ⟨Nat.le_refl _⟩, ⟨by first | exact Kd.R_nil _ _ _ _ _ | exact Kd.N_nil _ _ _ _ _ | exact Kd.V_nil _ _ _ _ _ | exact Kd.Q_nil _ _ _ _ _ | exact Kd.S_nil _ _ _ _ _⟩, ⟨bw HB.out⟩⟩
 case round =>
  clear H'
  obtain ⟨x4_1, x5_1, rfl, HA, HK1, HO_4, HB⟩ := hrel
  cases gk with
  | zero => exact absurd HA.out (by simp [spec_l6Read.l0])
  | succ k1 =>
   have H := HA.out
   clear HA
   simp only [spec_l6Read.l0] at H
   by_cases c2 : x5_1 < (a0.size : Int)
   ·
    rw [if_pos c2] at H
    have c2b0 : decide (x5_1 < (a0.size : Int)) = true := decide_eq_true c2
    clear c2
    by_cases c3 : 0 ≤ x5_1
    ·
     rw [if_pos c3] at H
     have c3b0 : decide (0 ≤ x5_1) = true := decide_eq_true c3
     clear c3
     obtain ⟨ji5, hji5⟩ : ∃ j_ : Int, (wrap64 (x5_1 + 1)) = j_ := ⟨_, rfl⟩
     replace H : (if 0 ≤ (ji5) then (if (ji5) ≤ (a0.size : Int) then ((spec_l6Shape.f k1 (wrap64 (bt a0 x5_1))).bind fun t126 => (if t126 = (-1) then (some (([] : List (S44)), false)) else (if t126 = 1 then (if (a0.extract ((ji5) : Int).toNat a0.size).toList = ([] : List UInt8) then (some (([] : List (S44)), false)) else (if 0 < ((a0.extract ((ji5) : Int).toNat a0.size).size : Int) then (spec_l6Read.j2 k1 a0 x4_1 ji5 1 (wrap64 (bt a0 x5_1)) (wrap64 (bt (a0.extract ((ji5) : Int).toNat a0.size) 0))) else (none))) else (if t126 = 2 then (spec_l6Read.j1 k1 a0 x4_1 ji5 0 (a0.extract ((ji5) : Int).toNat a0.size) t126 (t126 == 2) (wrap64 (bt a0 x5_1)) 0) else (spec_l6Read.j1 k1 a0 x4_1 ji5 0 (a0.extract ((ji5) : Int).toNat a0.size) t126 (t126 == 3) (wrap64 (bt a0 x5_1)) 0))))) else (none)) else (none)) = some (r1, r2) := by first | (rw [hji5] at H; exact H) | (simp only [hji5] at H ⊢; exact H)
     have hji5w : (IntKind.i64.wrap (x5_1 + 1)) = ji5 := (i64_w _).trans hji5
     by_cases c6 : 0 ≤ (ji5)
     ·
      rw [if_pos c6] at H
      have c6b0 := eq_true c6
      have c6b1 : decide (0 ≤ (ji5)) = true := decide_eq_true c6
      clear c6
      by_cases c7 : (ji5) ≤ (a0.size : Int)
      ·
       rw [if_pos c7] at H
       have c7b0 := eq_true c7
       have c7b1 : decide ((ji5) ≤ (a0.size : Int)) = true := decide_eq_true c7
       clear c7
       replace H := Option.bind_eq_some_iff.mp H
       obtain ⟨t126, A80, H⟩ := H
       replace H : (if t126 = (-1) then (some (([] : List (S44)), false)) else (if t126 = 1 then (if (a0.extract ((ji5) : Int).toNat a0.size).toList = ([] : List UInt8) then (some (([] : List (S44)), false)) else (if 0 < ((a0.extract ((ji5) : Int).toNat a0.size).size : Int) then (spec_l6Read.j2 k1 a0 x4_1 ji5 1 (wrap64 (bt a0 x5_1)) (wrap64 (bt (a0.extract ((ji5) : Int).toNat a0.size) 0))) else (none))) else (if t126 = 2 then (spec_l6Read.j1 k1 a0 x4_1 ji5 0 (a0.extract ((ji5) : Int).toNat a0.size) t126 (t126 == 2) (wrap64 (bt a0 x5_1)) 0) else (spec_l6Read.j1 k1 a0 x4_1 ji5 0 (a0.extract ((ji5) : Int).toNat a0.size) t126 (t126 == 3) (wrap64 (bt a0 x5_1)) 0)))) = some (r1, r2) := H
       have A8 := Aside0.mk A80
       clear A80
       have HC9 := Aside0.mk H
       clear H
       have p4 : 0 ≤ (x5_1 : Int) := od_
       have q4 : x5_1 < (a0.size : Int) := od_
       have hx4 := bt_at a0 x5_1
       replace p4 := eq_true p4
       replace q4 := eq_true q4
       go_upto_block 2 with (first | ((with_reducible refine gate_dst (N := 6) rfl ?_); (try (refine gate_guard (by rfl) ?_; dsimp only)); refine box_event ?hg (N := 6) ?hd (cs := #[.int .i64 0, .int .i64 0]) (t := 44) ?hr ?_; (case hd => rfl); (case hg => rfl); (case hr => first | (go_simp; done) | (go_simp; rfl)); intro gb125 hg w10 hbox hb; have n0_ := Aside0.mk (Kd.R_below (Kd.R_elderB (kr_ HO_4.out) gb125 (Nat.le_of_eq hg.symm)) hb); have n1_ := Aside0.mk (below_step (bw HB.out) hb); have n2_ := Aside0.mk (hbox); have n3_ := Aside0.mk ((sz_ hg (bw HB.out) : w.heap.size ≤ gb125)); have n4_ := Aside0.mk ((sz_ hg (bw HB.out) : w.heap.size ≤ gb125)); clear HO_4; clear HB; have HO_4 := n0_; have HB := n1_; have BK125 := n2_; have GW125 := n3_; have GE125 := n4_; clear n0_ n1_ n2_ n3_ n4_; clear hb hbox hg; obtain ⟨hcz11_0, hcz11_1⟩ := cs2_ BK125.out; obtain ⟨hfz11_0, hfz11_1⟩ := fz2_ BK125.out) | ((with_reducible refine gate_callee (f := 58) rfl ?_); refine goesL_ (some 27) rfl rfl Try.func58 (by kernel_rfl) rfl #[.int .i64 (wrap64 (bt a0 x5_1))] rfl ar ?_; (with_reducible refine (spec_l6Shape.calls k1 (wrap64 (bt a0 x5_1)) t126 _ A8.out).mono ?_); rintro e w' ⟨rfl, ⟨nd, rfl⟩⟩; refine ⟨_, rfl, ?_⟩))
       (try simp only [Act.put, List.setIfInBounds_toArray, List.set_cons_zero, List.set_cons_succ])
       go_cut [7] (fun v7 wc => ∃ (kq : Nat) (x7_8 : Int) (x126001_8 : Int), v7 = .int .i64 x7_8 ∧ Aside0 (spec_l6Read.j2 kq a0 x4_1 ji5 x7_8 (wrap64 (bt a0 x5_1)) x126001_8 = some (r1, r2)) ∧ Aside0 (kq ≤ k1) ∧ Aside0 (Kd.R k44 44 wc w.heap.size (fun k_ => k_ ≠ gb125) u4 x4_1) ∧ Aside0 (wc.heap[gb125]? = some (.cells #[.int .i64 (wrap64 (bt a0 x5_1)), .int .i64 x126001_8] 44 (0, 0))) ∧ Aside0 (Below w.heap.size w wc))
       case first =>
        have H := HC9.out
        clear HC9
        generalize hrs_ : a0.extract ((ji5) : Int).toNat a0.size = rs_ at H ⊢
        by_cases c12 : t126 = (-1)
        ·
         rw [if_pos c12] at H
         have c12b0 : (t126 == (-1)) = true := beq_iff_eq.mpr c12
         have c12b1 : (t126 != (-1)) = false := bne_eq_false_iff_eq.mpr c12
         clear c12
         (first | rw [c12b0] | (simp only [i64_w, i32_w]; rw [c12b0]) | skip)
         simp only [Option.some.injEq, Prod.mk.injEq] at H
         obtain ⟨rfl, rfl⟩ := H
         go_wp2
         go_ret2
         exact ⟨_, by first | rfl | (simp [errW_none, errW_some] <;> rfl) | (simp only [← hji5]; first | rfl | (simp [errW_none, errW_some] <;> rfl)) | (simp [*, errW_none, errW_some] <;> rfl), by first | exact Kd.R_nil _ _ _ _ _ | exact Kd.N_nil _ _ _ _ _ | exact Kd.V_nil _ _ _ _ _ | exact Kd.Q_nil _ _ _ _ _ | exact Kd.S_nil _ _ _ _ _, bw HB.out⟩
        ·
         rw [if_neg c12] at H
         have c12b0 : (t126 == (-1)) = false := beq_eq_false_iff_ne.mpr c12
         have c12b1 : (t126 != (-1)) = true := bne_iff_ne.mpr c12
         (first | rw [c12b0] | (simp only [i64_w, i32_w]; rw [c12b0]) | skip)
         by_cases c13 : t126 = 1
         ·
          rw [if_pos c13] at H
          have c13b0 : (t126 == 1) = true := beq_iff_eq.mpr c13
          have c13b1 : (t126 != 1) = false := bne_eq_false_iff_eq.mpr c13
          clear c13
          by_cases c14 : rs_.toList = ([] : List UInt8)
          ·
           rw [if_pos c14] at H
           have c14b0 : (rs_.toList == ([] : List UInt8)) = true := beq_iff_eq.mpr c14
           have c14b1 : (rs_.toList != ([] : List UInt8)) = false := bne_eq_false_iff_eq.mpr c14
           clear c14
           simp only [Option.some.injEq, Prod.mk.injEq] at H
           obtain ⟨rfl, rfl⟩ := H
           go_wp2
           go_ret2
           exact ⟨_, by first | rfl | (simp [errW_none, errW_some] <;> rfl) | (simp only [← hji5]; first | rfl | (simp [errW_none, errW_some] <;> rfl)) | (simp [*, errW_none, errW_some] <;> rfl), by first | exact Kd.R_nil _ _ _ _ _ | exact Kd.N_nil _ _ _ _ _ | exact Kd.V_nil _ _ _ _ _ | exact Kd.Q_nil _ _ _ _ _ | exact Kd.S_nil _ _ _ _ _, bw HB.out⟩
          ·
           rw [if_neg c14] at H
           have c14b0 : (rs_.toList == ([] : List UInt8)) = false := beq_eq_false_iff_ne.mpr c14
           have c14b1 : (rs_.toList != ([] : List UInt8)) = true := bne_iff_ne.mpr c14
           by_cases c15 : 0 < (rs_.size : Int)
           ·
            rw [if_pos c15] at H
            have c15b0 : decide (0 < (rs_.size : Int)) = true := decide_eq_true c15
            have c15b1 : decide (0 < rs_.size) = true := decide_eq_true (by omega)
            clear c15
            have H' := Aside0.mk H
            clear H
            have p16 : 0 ≤ (0 : Int) := (by omega)
            have q16 : 0 < rs_.size := (by have : (0 : Int) < (rs_.size : Int) := od_; omega)
            have hx16 : ∀ h : 0 < rs_.size, ((rs_[0]'h).toNat : Int) = bt rs_ 0 := bt_at rs_ 0
            clear p16
            have qi16 : (0 < (rs_.size : Int)) = True := eq_true (od_)
            replace q16 := eq_true q16
            obtain ⟨hcz17_0, hcz17_1⟩ := cs2_ BK125.out
            obtain ⟨hfz17_0, hfz17_1⟩ := fz2_ BK125.out
            go_wp2
            subst hrs_; first | go_meet | ((simp only [← hji5]); go_meet)
            case rel => exact ⟨_, (1), (wrap64 (bt (a0.extract ((ji5) : Int).toNat a0.size) 0)), (by first | rfl | (simp; done) | (simp [*]; done)), H', ⟨by have := HK1.out; first | omega | exact Nat.le_refl _⟩, ⟨by (with_reducible repeat (first | apply Kd.R_alloc | apply Kd.R_drewN | apply Kd.R_drew)); exact Kd.R_mono (Kd.R_far (p := ⟨gb125, 1, none⟩) (Kd.R_far (p := ⟨gb125, 1, none⟩) (Kd.R_far (p := ⟨gb125, 0, none⟩) (Kd.R_mono HO_4.out (fun k_ hk => (⟨hk, hk.2⟩ : _ ∧ k_ ≠ gb125))) (fun _ hk => hk.2) (.int .i64 (wrap64 (bt a0 x5_1)))) (fun _ hk => hk.2) (.int .i64 0)) (fun _ hk => hk.2) (.int .i64 (wrap64 (bt (a0.extract ((ji5) : Int).toNat a0.size) 0)))) (fun _ hk => hk.1.2)⟩, ⟨by refine blk_put (cs := #[.int .i64 (wrap64 (bt a0 x5_1)), .int .i64 0]) ?_ 1 _ rfl; refine blk_put (cs := #[.int .i64 (wrap64 (bt a0 x5_1)), .int .i64 0]) ?_ 1 _ rfl; refine blk_put (cs := #[.int .i64 0, .int .i64 0]) ?_ 0 _ rfl; (with_reducible repeat (first | refine blk_drewN ?_ _ | refine blk_drew ?_ | refine blk_alloc ?_ _)); exact BK125.out⟩, ⟨bw HB.out⟩⟩
           ·
            rw [if_neg c15] at H
            exact absurd H (by simp)
         ·
          rw [if_neg c13] at H
          have c13b0 : (t126 == 1) = false := beq_eq_false_iff_ne.mpr c13
          have c13b1 : (t126 != 1) = true := bne_iff_ne.mpr c13
          have HC18 := Aside0.mk H
          clear H
          go_upto_if 38 with (fail)
          go_cut [38] (fun v38 wc => ∃ (kq : Nat) (x38_17 : Bool), v38 = .bool x38_17 ∧ Aside0 (spec_l6Read.j1 kq a0 x4_1 ji5 0 rs_ t126 x38_17 (wrap64 (bt a0 x5_1)) 0 = some (r1, r2)) ∧ Aside0 (kq ≤ k1) ∧ Aside0 (Kd.R k44 44 wc w.heap.size (fun k_ => k_ ≠ gb125) u4 x4_1) ∧ Aside0 (wc.heap[gb125]? = some (.cells #[.int .i64 (wrap64 (bt a0 x5_1)), .int .i64 0] 44 (0, 0))) ∧ Aside0 (Below w.heap.size w wc))
          case first =>
           have H := HC18.out
           clear HC18
           by_cases c19 : t126 = 2
           ·
            rw [if_pos c19] at H
            have c19b0 : (t126 == 2) = true := beq_iff_eq.mpr c19
            have c19b1 : (t126 != 2) = false := bne_eq_false_iff_eq.mpr c19
            clear c19
            (first | rw [c19b0] | (simp only [i64_w, i32_w]; rw [c19b0]) | skip)
            have H' := Aside0.mk H
            clear H
            go_wp2
            first | go_meet | ((simp only [← hji5]); go_meet)
            case rel => exact ⟨_, ((t126 == 2)), (by first | rfl | (simp; done) | (simp [*]; done)), H', ⟨by have := HK1.out; first | omega | exact Nat.le_refl _⟩, ⟨by (with_reducible repeat (first | apply Kd.R_alloc | apply Kd.R_drewN | apply Kd.R_drew)); exact Kd.R_mono (Kd.R_far (p := ⟨gb125, 1, none⟩) (Kd.R_far (p := ⟨gb125, 0, none⟩) (Kd.R_mono HO_4.out (fun k_ hk => (⟨hk, hk.2⟩ : _ ∧ k_ ≠ gb125))) (fun _ hk => hk.2) (.int .i64 (wrap64 (bt a0 x5_1)))) (fun _ hk => hk.2) (.int .i64 0)) (fun _ hk => hk.1.2)⟩, ⟨by refine blk_put (cs := #[.int .i64 (wrap64 (bt a0 x5_1)), .int .i64 0]) ?_ 1 _ rfl; refine blk_put (cs := #[.int .i64 0, .int .i64 0]) ?_ 0 _ rfl; (with_reducible repeat (first | refine blk_drewN ?_ _ | refine blk_drew ?_ | refine blk_alloc ?_ _)); exact BK125.out⟩, ⟨bw HB.out⟩⟩
           ·
            rw [if_neg c19] at H
            have c19b0 : (t126 == 2) = false := beq_eq_false_iff_ne.mpr c19
            have c19b1 : (t126 != 2) = true := bne_iff_ne.mpr c19
            (first | rw [c19b0] | (simp only [i64_w, i32_w]; rw [c19b0]) | skip)
            have H' := Aside0.mk H
            clear H
            go_wp2
            first | go_meet | ((simp only [← hji5]); go_meet)
            case rel => exact ⟨_, ((t126 == 3)), (by first | rfl | (simp; done) | (simp [*]; done)), H', ⟨by have := HK1.out; first | omega | exact Nat.le_refl _⟩, ⟨by (with_reducible repeat (first | apply Kd.R_alloc | apply Kd.R_drewN | apply Kd.R_drew)); exact Kd.R_mono (Kd.R_far (p := ⟨gb125, 1, none⟩) (Kd.R_far (p := ⟨gb125, 0, none⟩) (Kd.R_mono HO_4.out (fun k_ hk => (⟨hk, hk.2⟩ : _ ∧ k_ ≠ gb125))) (fun _ hk => hk.2) (.int .i64 (wrap64 (bt a0 x5_1)))) (fun _ hk => hk.2) (.int .i64 0)) (fun _ hk => hk.1.2)⟩, ⟨by refine blk_put (cs := #[.int .i64 (wrap64 (bt a0 x5_1)), .int .i64 0]) ?_ 1 _ rfl; refine blk_put (cs := #[.int .i64 0, .int .i64 0]) ?_ 0 _ rfl; (with_reducible repeat (first | refine blk_drewN ?_ _ | refine blk_drew ?_ | refine blk_alloc ?_ _)); exact BK125.out⟩, ⟨bw HB.out⟩⟩
          case rest =>
           clear HC18
           try clear c2
           try clear c2b0
           try clear c3
           try clear c3b0
           try clear p4
           try clear q4
           try clear hx4
           try clear c6
           try clear c6b0
           try clear c6b1
           try clear c7
           try clear c7b0
           try clear c7b1
           try clear c12
           try clear c12b0
           try clear c12b1
           try clear c13
           try clear c13b0
           try clear c13b1
           try clear hcz11_0 hcz11_1
           try clear hfz11_0 hfz11_1
           try clear p4
           try clear q4
           obtain ⟨kq, x38_17, rfl, HA, HJ17, HO_4, BK125, HB⟩ := hcut
           cases kq with
           | zero => exact absurd HA.out (by simp [spec_l6Read.j1])
           | succ kj17 =>
            have H := HA.out
            clear HA
            simp only [spec_l6Read.j1] at H
            by_cases c20 : x38_17 = true
            ·
             subst c20
             have H1 : ((spec_l1TakeU.f kj17 rs_ 32).bind fun bt127 => (spec_l6Read.j2 kj17 a0 x4_1 ji5 bt127.2 (wrap64 (bt a0 x5_1)) (wrap64 (bt127.1)))) = some (r1, r2) := by rw [if_pos rfl] at H; exact H
             clear H
             have H := H1
             clear H1
             replace H := Option.bind_eq_some_iff.mp H
             obtain ⟨⟨t127, t128⟩, A210, H⟩ := H
             replace H : (spec_l6Read.j2 kj17 a0 x4_1 ji5 t128 (wrap64 (bt a0 x5_1)) (wrap64 (t127))) = some (r1, r2) := H
             have A21 := Aside0.mk A210
             clear A210
             have H' := Aside0.mk H
             clear H
             go_wp2_with (first | ((with_reducible refine gate_callee (f := 67) rfl ?_); refine goesL_ (some 43) rfl rfl Try.func67 (by kernel_rfl) rfl #[.string rs_, .int .i64 32] rfl (by (try simp only [List.map_toArray, List.map_cons, List.map_nil]); first | done | (simp only [hji5]; rfl) | rfl | (simp only [List.length_drop, List.length_take]; rfl)) ?_; (with_reducible refine (spec_l1TakeU.calls kj17 rs_ 32 t127 t128 _ A21.out).mono ?_); rintro e w' ⟨rfl, ⟨nd, rfl⟩⟩; refine ⟨_, rfl, ?_⟩; (try (rw [drewN_self wc]; generalize hq_ : World.drewN wc _ = wc; have n0_ : Aside0 (Kd.R k44 44 wc w.heap.size (fun k_ => k_ ≠ gb125) u4 x4_1) := ⟨by rw [← hq_]; exact (kr_ HO_4.out)⟩; have n1_ : Aside0 (wc.heap[gb125]? = some (.cells #[.int .i64 (wrap64 (bt a0 x5_1)), .int .i64 0] 44 (0, 0))) := ⟨by rw [← hq_]; exact (bk BK125.out)⟩; have n2_ : Aside0 (Below w.heap.size w wc) := ⟨by rw [← hq_]; exact (bw HB.out)⟩; clear HO_4 BK125 HB hq_; have HO_4 := n0_; have BK125 := n1_; have HB := n2_; clear n0_ n1_ n2_)); obtain ⟨hcz22_0, hcz22_1⟩ := cs2_ BK125.out; obtain ⟨hfz22_0, hfz22_1⟩ := fz2_ BK125.out))
             subst hrs_; first | go_meet | ((simp only [← hji5]); go_meet)
             case rel => exact ⟨_, (t128), (wrap64 (t127)), (by first | rfl | (simp; done) | (simp [*]; done)), H', ⟨by have := HK1.out; have := HJ17.out; first | omega | exact Nat.le_refl _⟩, ⟨by (with_reducible repeat (first | apply Kd.R_alloc | apply Kd.R_drewN | apply Kd.R_drew)); exact Kd.R_mono (Kd.R_far (p := ⟨gb125, 1, none⟩) (Kd.R_mono HO_4.out (fun k_ hk => (⟨hk, hk⟩ : _ ∧ k_ ≠ gb125))) (fun _ hk => hk.2) (.int .i64 (wrap64 (t127)))) (fun _ hk => hk.1)⟩, ⟨by refine blk_put (cs := #[.int .i64 (wrap64 (bt a0 x5_1)), .int .i64 0]) ?_ 1 _ rfl; (with_reducible repeat (first | refine blk_drewN ?_ _ | refine blk_drew ?_ | refine blk_alloc ?_ _)); exact BK125.out⟩, ⟨bw HB.out⟩⟩
            ·
             replace c20 := Bool.eq_false_iff.mpr c20
             subst c20
             have H1 : (if t126 = 4 then ((spec_l1TakeS.f kj17 rs_ 32).bind fun bt129 => (spec_l6Read.j2 kj17 a0 x4_1 ji5 bt129.2 (wrap64 (bt a0 x5_1)) bt129.1)) else (if t126 = 5 then ((spec_l1TakeS.f kj17 rs_ 64).bind fun bt131 => (spec_l6Read.j2 kj17 a0 x4_1 ji5 bt131.2 (wrap64 (bt a0 x5_1)) bt131.1)) else (if t126 = 6 then (if (rs_.size : Int) < 4 then (some (([] : List (S44)), false)) else (if 0 ≤ 4 then (if 4 ≤ (rs_.size : Int) then ((spec_l5Number.f kj17 (rs_.extract 0 4)).bind fun t133 => (spec_l6Read.j2 kj17 a0 x4_1 ji5 4 (wrap64 (bt a0 x5_1)) (wrap64 (t133)))) else (none)) else (none))) else (spec_l6Read.j2 kj17 a0 x4_1 ji5 0 (wrap64 (bt a0 x5_1)) 0)))) = some (r1, r2) := by rw [if_neg (show ¬ (false = true) by decide)] at H; exact H
             clear H
             have H := H1
             clear H1
             by_cases c23 : t126 = 4
             ·
              rw [if_pos c23] at H
              have c23b0 : (t126 == 4) = true := beq_iff_eq.mpr c23
              have c23b1 : (t126 != 4) = false := bne_eq_false_iff_eq.mpr c23
              clear c23
              replace H := Option.bind_eq_some_iff.mp H
              obtain ⟨⟨t129, t130⟩, A240, H⟩ := H
              replace H : (spec_l6Read.j2 kj17 a0 x4_1 ji5 t130 (wrap64 (bt a0 x5_1)) t129) = some (r1, r2) := H
              have A24 := Aside0.mk A240
              clear A240
              have H' := Aside0.mk H
              clear H
              go_wp2_with (first | ((with_reducible refine gate_callee (f := 68) rfl ?_); refine goesL_ (some 54) rfl rfl Try.func68 (by kernel_rfl) rfl #[.string rs_, .int .i64 32] rfl (by (try simp only [List.map_toArray, List.map_cons, List.map_nil]); first | done | (simp only [hji5]; rfl) | rfl | (simp only [List.length_drop, List.length_take]; rfl)) ?_; (with_reducible refine (spec_l1TakeS.calls kj17 rs_ 32 t129 t130 _ A24.out).mono ?_); rintro e w' ⟨rfl, ⟨nd, rfl⟩⟩; refine ⟨_, rfl, ?_⟩; (try (rw [drewN_self wc]; generalize hq_ : World.drewN wc _ = wc; have n0_ : Aside0 (Kd.R k44 44 wc w.heap.size (fun k_ => k_ ≠ gb125) u4 x4_1) := ⟨by rw [← hq_]; exact (kr_ HO_4.out)⟩; have n1_ : Aside0 (wc.heap[gb125]? = some (.cells #[.int .i64 (wrap64 (bt a0 x5_1)), .int .i64 0] 44 (0, 0))) := ⟨by rw [← hq_]; exact (bk BK125.out)⟩; have n2_ : Aside0 (Below w.heap.size w wc) := ⟨by rw [← hq_]; exact (bw HB.out)⟩; clear HO_4 BK125 HB hq_; have HO_4 := n0_; have BK125 := n1_; have HB := n2_; clear n0_ n1_ n2_)); obtain ⟨hcz25_0, hcz25_1⟩ := cs2_ BK125.out; obtain ⟨hfz25_0, hfz25_1⟩ := fz2_ BK125.out))
              subst hrs_; first | go_meet | ((simp only [← hji5]); go_meet)
              case rel => exact ⟨_, (t130), (t129), (by first | rfl | (simp; done) | (simp [*]; done)), H', ⟨by have := HK1.out; have := HJ17.out; first | omega | exact Nat.le_refl _⟩, ⟨by (with_reducible repeat (first | apply Kd.R_alloc | apply Kd.R_drewN | apply Kd.R_drew)); exact Kd.R_mono (Kd.R_far (p := ⟨gb125, 1, none⟩) (Kd.R_mono HO_4.out (fun k_ hk => (⟨hk, hk⟩ : _ ∧ k_ ≠ gb125))) (fun _ hk => hk.2) (.int .i64 t129)) (fun _ hk => hk.1)⟩, ⟨by refine blk_put (cs := #[.int .i64 (wrap64 (bt a0 x5_1)), .int .i64 0]) ?_ 1 _ rfl; (with_reducible repeat (first | refine blk_drewN ?_ _ | refine blk_drew ?_ | refine blk_alloc ?_ _)); exact BK125.out⟩, ⟨bw HB.out⟩⟩
             ·
              rw [if_neg c23] at H
              have c23b0 : (t126 == 4) = false := beq_eq_false_iff_ne.mpr c23
              have c23b1 : (t126 != 4) = true := bne_iff_ne.mpr c23
              by_cases c26 : t126 = 5
              ·
               rw [if_pos c26] at H
               have c26b0 : (t126 == 5) = true := beq_iff_eq.mpr c26
               have c26b1 : (t126 != 5) = false := bne_eq_false_iff_eq.mpr c26
               clear c26
               replace H := Option.bind_eq_some_iff.mp H
               obtain ⟨⟨t131, t132⟩, A270, H⟩ := H
               replace H : (spec_l6Read.j2 kj17 a0 x4_1 ji5 t132 (wrap64 (bt a0 x5_1)) t131) = some (r1, r2) := H
               have A27 := Aside0.mk A270
               clear A270
               have H' := Aside0.mk H
               clear H
               go_wp2_with (first | ((with_reducible refine gate_callee (f := 68) rfl ?_); refine goesL_ (some 62) rfl rfl Try.func68 (by kernel_rfl) rfl #[.string rs_, .int .i64 64] rfl (by (try simp only [List.map_toArray, List.map_cons, List.map_nil]); first | done | (simp only [hji5]; rfl) | rfl | (simp only [List.length_drop, List.length_take]; rfl)) ?_; (with_reducible refine (spec_l1TakeS.calls kj17 rs_ 64 t131 t132 _ A27.out).mono ?_); rintro e w' ⟨rfl, ⟨nd, rfl⟩⟩; refine ⟨_, rfl, ?_⟩; (try (rw [drewN_self wc]; generalize hq_ : World.drewN wc _ = wc; have n0_ : Aside0 (Kd.R k44 44 wc w.heap.size (fun k_ => k_ ≠ gb125) u4 x4_1) := ⟨by rw [← hq_]; exact (kr_ HO_4.out)⟩; have n1_ : Aside0 (wc.heap[gb125]? = some (.cells #[.int .i64 (wrap64 (bt a0 x5_1)), .int .i64 0] 44 (0, 0))) := ⟨by rw [← hq_]; exact (bk BK125.out)⟩; have n2_ : Aside0 (Below w.heap.size w wc) := ⟨by rw [← hq_]; exact (bw HB.out)⟩; clear HO_4 BK125 HB hq_; have HO_4 := n0_; have BK125 := n1_; have HB := n2_; clear n0_ n1_ n2_)); obtain ⟨hcz28_0, hcz28_1⟩ := cs2_ BK125.out; obtain ⟨hfz28_0, hfz28_1⟩ := fz2_ BK125.out))
               subst hrs_; first | go_meet | ((simp only [← hji5]); go_meet)
               case rel => exact ⟨_, (t132), (t131), (by first | rfl | (simp; done) | (simp [*]; done)), H', ⟨by have := HK1.out; have := HJ17.out; first | omega | exact Nat.le_refl _⟩, ⟨by (with_reducible repeat (first | apply Kd.R_alloc | apply Kd.R_drewN | apply Kd.R_drew)); exact Kd.R_mono (Kd.R_far (p := ⟨gb125, 1, none⟩) (Kd.R_mono HO_4.out (fun k_ hk => (⟨hk, hk⟩ : _ ∧ k_ ≠ gb125))) (fun _ hk => hk.2) (.int .i64 t131)) (fun _ hk => hk.1)⟩, ⟨by refine blk_put (cs := #[.int .i64 (wrap64 (bt a0 x5_1)), .int .i64 0]) ?_ 1 _ rfl; (with_reducible repeat (first | refine blk_drewN ?_ _ | refine blk_drew ?_ | refine blk_alloc ?_ _)); exact BK125.out⟩, ⟨bw HB.out⟩⟩
              ·
               rw [if_neg c26] at H
               have c26b0 : (t126 == 5) = false := beq_eq_false_iff_ne.mpr c26
               have c26b1 : (t126 != 5) = true := bne_iff_ne.mpr c26
               by_cases c29 : t126 = 6
               ·
                rw [if_pos c29] at H
                have c29b0 : (t126 == 6) = true := beq_iff_eq.mpr c29
                have c29b1 : (t126 != 6) = false := bne_eq_false_iff_eq.mpr c29
                clear c29
                by_cases c30 : (rs_.size : Int) < 4
                ·
                 rw [if_pos c30] at H
                 have c30b0 : decide ((rs_.size : Int) < 4) = true := decide_eq_true c30
                 have c30b1 : decide (rs_.size < 4) = true := decide_eq_true (by omega)
                 clear c30
                 simp only [Option.some.injEq, Prod.mk.injEq] at H
                 obtain ⟨rfl, rfl⟩ := H
                 go_wp2
                 go_ret2
                 exact ⟨_, by first | rfl | (simp [errW_none, errW_some] <;> rfl) | (simp only [← hji5]; first | rfl | (simp [errW_none, errW_some] <;> rfl)) | (simp [*, errW_none, errW_some] <;> rfl), by first | exact Kd.R_nil _ _ _ _ _ | exact Kd.N_nil _ _ _ _ _ | exact Kd.V_nil _ _ _ _ _ | exact Kd.Q_nil _ _ _ _ _ | exact Kd.S_nil _ _ _ _ _, bw HB.out⟩
                ·
                 rw [if_neg c30] at H
                 have c30b0 : decide ((rs_.size : Int) < 4) = false := decide_eq_false c30
                 have c30b1 : decide (rs_.size < 4) = false := decide_eq_false (by omega)
                 clear c30
                 by_cases c31 : 0 ≤ 4
                 ·
                  rw [if_pos c31] at H
                  have c31b0 := eq_true c31
                  have c31b1 : decide (0 ≤ 4) = true := decide_eq_true c31
                  clear c31
                  by_cases c32 : 4 ≤ (rs_.size : Int)
                  ·
                   rw [if_pos c32] at H
                   have c32b0 := eq_true c32
                   have c32b1 : decide (4 ≤ (rs_.size : Int)) = true := decide_eq_true c32
                   clear c32
                   replace H := Option.bind_eq_some_iff.mp H
                   obtain ⟨t133, A330, H⟩ := H
                   replace H : (spec_l6Read.j2 kj17 a0 x4_1 ji5 4 (wrap64 (bt a0 x5_1)) (wrap64 (t133))) = some (r1, r2) := H
                   have A33 := Aside0.mk A330
                   clear A330
                   have H' := Aside0.mk H
                   clear H
                   go_wp2_with (first | ((with_reducible refine gate_callee (f := 69) rfl ?_); refine goesL_ (some 73) rfl rfl Try.func69 (by kernel_rfl) rfl #[.string (rs_.extract 0 4)] rfl (by (try simp only [List.map_toArray, List.map_cons, List.map_nil]); first | done | (simp only [hji5]; rfl) | rfl | (simp only [List.length_drop, List.length_take]; rfl)) ?_; (with_reducible refine (spec_l5Number.calls kj17 (rs_.extract 0 4) t133 _ A33.out).mono ?_); rintro e w' ⟨rfl, ⟨nd, rfl⟩⟩; refine ⟨_, rfl, ?_⟩; (try (rw [drewN_self wc]; generalize hq_ : World.drewN wc _ = wc; have n0_ : Aside0 (Kd.R k44 44 wc w.heap.size (fun k_ => k_ ≠ gb125) u4 x4_1) := ⟨by rw [← hq_]; exact (kr_ HO_4.out)⟩; have n1_ : Aside0 (wc.heap[gb125]? = some (.cells #[.int .i64 (wrap64 (bt a0 x5_1)), .int .i64 0] 44 (0, 0))) := ⟨by rw [← hq_]; exact (bk BK125.out)⟩; have n2_ : Aside0 (Below w.heap.size w wc) := ⟨by rw [← hq_]; exact (bw HB.out)⟩; clear HO_4 BK125 HB hq_; have HO_4 := n0_; have BK125 := n1_; have HB := n2_; clear n0_ n1_ n2_)); obtain ⟨hcz34_0, hcz34_1⟩ := cs2_ BK125.out; obtain ⟨hfz34_0, hfz34_1⟩ := fz2_ BK125.out))
                   subst hrs_; first | go_meet | ((simp only [← hji5]); go_meet)
                   case rel => exact ⟨_, (4), (wrap64 (t133)), (by first | rfl | (simp; done) | (simp [*]; done)), H', ⟨by have := HK1.out; have := HJ17.out; first | omega | exact Nat.le_refl _⟩, ⟨by (with_reducible repeat (first | apply Kd.R_alloc | apply Kd.R_drewN | apply Kd.R_drew)); exact Kd.R_mono (Kd.R_far (p := ⟨gb125, 1, none⟩) (Kd.R_mono HO_4.out (fun k_ hk => (⟨hk, hk⟩ : _ ∧ k_ ≠ gb125))) (fun _ hk => hk.2) (.int .i64 (wrap64 (t133)))) (fun _ hk => hk.1)⟩, ⟨by refine blk_put (cs := #[.int .i64 (wrap64 (bt a0 x5_1)), .int .i64 0]) ?_ 1 _ rfl; (with_reducible repeat (first | refine blk_drewN ?_ _ | refine blk_drew ?_ | refine blk_alloc ?_ _)); exact BK125.out⟩, ⟨bw HB.out⟩⟩
                  ·
                   rw [if_neg c32] at H
                   exact absurd H (by simp)
                 ·
                  exact absurd c31 (by decide)
               ·
                rw [if_neg c29] at H
                have c29b0 : (t126 == 6) = false := beq_eq_false_iff_ne.mpr c29
                have c29b1 : (t126 != 6) = true := bne_iff_ne.mpr c29
                have H' := Aside0.mk H
                clear H
                go_wp2
                subst hrs_; first | go_meet | ((simp only [← hji5]); go_meet)
                case rel => exact ⟨_, (0), (0), (by first | rfl | (simp; done) | (simp [*]; done)), H', ⟨by have := HK1.out; have := HJ17.out; first | omega | exact Nat.le_refl _⟩, ⟨kr_ HO_4.out⟩, ⟨bk BK125.out⟩, ⟨bw HB.out⟩⟩
       case rest =>
        clear HC9
        try clear c2
        try clear c2b0
        try clear c3
        try clear c3b0
        try clear p4
        try clear q4
        try clear hx4
        try clear c6
        try clear c6b0
        try clear c6b1
        try clear c7
        try clear c7b0
        try clear c7b1
        try clear hcz11_0 hcz11_1
        try clear hfz11_0 hfz11_1
        try clear p4
        try clear q4
        obtain ⟨kq, x7_8, x126001_8, rfl, HA, HJ8, HO_4, BK125, HB⟩ := hcut
        cases kq with
        | zero => exact absurd HA.out (by simp [spec_l6Read.j2])
        | succ kj8 =>
         have H := HA.out
         clear HA
         simp only [spec_l6Read.j2] at H
         by_cases c35 : x7_8 = 0
         ·
          rw [if_pos c35] at H
          have c35b0 : (x7_8 == 0) = true := beq_iff_eq.mpr c35
          have c35b1 : (x7_8 != 0) = false := bne_eq_false_iff_eq.mpr c35
          clear c35
          replace H := Option.bind_eq_some_iff.mp H
          obtain ⟨t134, A360, H⟩ := H
          replace H : (if t134 = 0 then ((spec_GoodIns.f kj8 (wrap64 (bt a0 x5_1)) x126001_8).bind fun t135 => (if t135 = true then (if (x4_1.length : Int) = 200 then (some (([] : List (S44)), false)) else (if x4_1.length < 8796093022208 then (spec_l6Read.l0 kj8 a0 (x4_1 ++ [(⟨(wrap64 (bt a0 x5_1)), x126001_8⟩ : S44)]) (wrap64 (ji5 + x7_8))) else (none))) else (some (([] : List (S44)), false)))) else (some (([] : List (S44)), false))) = some (r1, r2) := H
          have A36 := Aside0.mk A360
          clear A360
          by_cases c37 : t134 = 0
          ·
           rw [if_pos c37] at H
           have c37b0 : (t134 == 0) = true := beq_iff_eq.mpr c37
           have c37b1 : (t134 != 0) = false := bne_eq_false_iff_eq.mpr c37
           clear c37
           replace H := Option.bind_eq_some_iff.mp H
           obtain ⟨t135, A380, H⟩ := H
           replace H : (if t135 = true then (if (x4_1.length : Int) = 200 then (some (([] : List (S44)), false)) else (if x4_1.length < 8796093022208 then (spec_l6Read.l0 kj8 a0 (x4_1 ++ [(⟨(wrap64 (bt a0 x5_1)), x126001_8⟩ : S44)]) (wrap64 (ji5 + x7_8))) else (none))) else (some (([] : List (S44)), false))) = some (r1, r2) := H
           have A38 := Aside0.mk A380
           clear A380
           by_cases c39 : t135 = true
           ·
            subst c39
            have H1 : (if (x4_1.length : Int) = 200 then (some (([] : List (S44)), false)) else (if x4_1.length < 8796093022208 then (spec_l6Read.l0 kj8 a0 (x4_1 ++ [(⟨(wrap64 (bt a0 x5_1)), x126001_8⟩ : S44)]) (wrap64 (ji5 + x7_8))) else (none))) = some (r1, r2) := by rw [if_pos rfl] at H; exact H
            clear H
            have H := H1
            clear H1
            by_cases c40 : (x4_1.length : Int) = 200
            ·
             rw [if_pos c40] at H
             have c40b0 : ((x4_1.length : Int) == 200) = true := beq_iff_eq.mpr c40
             have c40b1 : ((x4_1.length : Int) != 200) = false := bne_eq_false_iff_eq.mpr c40
             clear c40
             simp only [Option.some.injEq, Prod.mk.injEq] at H
             obtain ⟨rfl, rfl⟩ := H
             obtain ⟨hcz41_0, hcz41_1⟩ := cs2_ BK125.out
             obtain ⟨hfz41_0, hfz41_1⟩ := fz2_ BK125.out
             go_wp2_with (first | (go_at_call 58; (with_reducible refine (spec_l6Shape.calls kj8 (wrap64 (bt a0 x5_1)) t134 _ A36.out).mono ?_); rintro e w' ⟨rfl, ⟨nd, rfl⟩⟩) | (go_at_call 57; (with_reducible refine (spec_GoodIns.calls kj8 (wrap64 (bt a0 x5_1)) x126001_8 true _ A38.out).mono ?_); rintro e w42 ⟨rfl, hb⟩; have n0_ := Aside0.mk (Kd.R_below (kr_ HO_4.out) hb); have n1_ := Aside0.mk (blk_below (g := gb125) (o := .cells #[.int .i64 (wrap64 (bt a0 x5_1)), .int .i64 x126001_8] 44 (0, 0)) (bk BK125.out) hb); have n2_ := Aside0.mk (below_step (bw HB.out) hb); clear HO_4; clear BK125; clear HB; have HO_4 := n0_; have BK125 := n1_; have HB := n2_; clear n0_ n1_ n2_; (try clear hb); (try clear hb2); (try clear hk); (try clear hi); obtain ⟨Ao43, co43, eo43⟩ := Kd.R_slice HO_4.out; subst eo43))
             go_ret2
             exact ⟨_, by first | rfl | (simp [errW_none, errW_some] <;> rfl) | (simp only [← hji5]; first | rfl | (simp [errW_none, errW_some] <;> rfl)) | (simp [*, errW_none, errW_some] <;> rfl), by first | exact Kd.R_nil _ _ _ _ _ | exact Kd.N_nil _ _ _ _ _ | exact Kd.V_nil _ _ _ _ _ | exact Kd.Q_nil _ _ _ _ _ | exact Kd.S_nil _ _ _ _ _, bw HB.out⟩
            ·
             rw [if_neg c40] at H
             have c40b0 : ((x4_1.length : Int) == 200) = false := beq_eq_false_iff_ne.mpr c40
             have c40b1 : ((x4_1.length : Int) != 200) = true := bne_iff_ne.mpr c40
             by_cases c44 : x4_1.length < 8796093022208
             ·
              rw [if_pos c44] at H
              have LMc44 := Aside0.mk c44
              clear c44
              obtain ⟨y136, hy136⟩ : ∃ y_ : List (S44), y_ = (x4_1 ++ [(⟨(wrap64 (bt a0 x5_1)), x126001_8⟩ : S44)]) := ⟨_, rfl⟩
              replace H : (spec_l6Read.l0 kj8 a0 y136 (wrap64 (ji5 + x7_8))) = some (r1, r2) := by first | (rw [hy136]; with_reducible exact H) | (have H2_ := (Option.bind_some _ _).symm.trans H; rw [hy136]; with_reducible exact H2_) | (have H2_ := (Option.bind_some _ _).symm.trans H; with_reducible exact H2_) | with_reducible exact H | (rw [hy136]; exact H) | exact H
              have Ny136 := Aside0.mk hy136
              clear hy136
              have H' := Aside0.mk H
              clear H
              obtain ⟨hcz45_0, hcz45_1⟩ := cs2_ BK125.out
              obtain ⟨hfz45_0, hfz45_1⟩ := fz2_ BK125.out
              go_wp2_with (first | (go_at_call 58; (with_reducible refine (spec_l6Shape.calls kj8 (wrap64 (bt a0 x5_1)) t134 _ A36.out).mono ?_); rintro e w' ⟨rfl, ⟨nd, rfl⟩⟩) | (go_at_call 57; (with_reducible refine (spec_GoodIns.calls kj8 (wrap64 (bt a0 x5_1)) x126001_8 true _ A38.out).mono ?_); rintro e w46 ⟨rfl, hb⟩; have n0_ := Aside0.mk (Kd.R_below (kr_ HO_4.out) hb); have n1_ := Aside0.mk (blk_below (g := gb125) (o := .cells #[.int .i64 (wrap64 (bt a0 x5_1)), .int .i64 x126001_8] 44 (0, 0)) (bk BK125.out) hb); have n2_ := Aside0.mk (below_step (bw HB.out) hb); clear HO_4; clear BK125; clear HB; have HO_4 := n0_; have BK125 := n1_; have HB := n2_; clear n0_ n1_ n2_; (try clear hb); (try clear hb2); (try clear hk); (try clear hi); obtain ⟨Ao47, co47, eo47⟩ := Kd.R_slice HO_4.out; subst eo47; obtain ⟨hcz48_0, hcz48_1⟩ := cs2_ BK125.out; obtain ⟨hfz48_0, hfz48_1⟩ := fz2_ BK125.out) | ((with_reducible refine gate_builtin (b := .append) (xs := #[.tmp 97, .tmp 99]) rfl ?_); (try (refine gate_guard (by rfl) ?_; dsimp only)); at_builtin; refine Kd.R_append k44 (w0 := w) w.heap.size rfl (.tmp 97) (.tmp 99) 23 44 (.agg #[(.int .i64 0), (.int .i64 0)]) 16 rfl Try.underlying23 info44 rfl (by decide) (by omega) (.slice Ao47 x4_1.length co47) x4_1 (⟨(wrap64 (bt a0 x5_1)), x126001_8⟩ : S44) [.int .i64 (wrap64 (bt a0 x5_1)), .int .i64 x126001_8] (fun k_ => k_ ≠ gb125) (fun _ => False) rfl rfl ?aP (fun _ hk => hk.elim) ?aF ?aO ?aB ?aS ?aL ?_; (case aP => exact k44_mkM _ _ _ (⟨(wrap64 (bt a0 x5_1)), x126001_8⟩ : S44)); (case aB => exact (bw HB.out)); (case aF => exact (fun k_ hk => Kd.freshB (g := gb125) (o := .cells #[.int .i64 (wrap64 (bt a0 x5_1)), .int .i64 x126001_8] 44 (0, 0)) (bk BK125.out) k_ hk)); (case aO => exact (kr_ HO_4.out)); (case aS => exact (below_size (bw HB.out))); (case aL => have := LMc44.out; omega); intro v137 w49 ho hb hg hat; rw [← Ny136.out] at ho; have n0_ := Aside0.mk (blk_grown (g := gb125) (o := .cells #[.int .i64 (wrap64 (bt a0 x5_1)), .int .i64 x126001_8] 44 (0, 0)) (bk BK125.out) hg (Kd.R_away HO_4.out (fun _ hk => hk))); have n1_ := Aside0.mk (hb); have n2_ := Aside0.mk (ho); clear BK125; clear HB; clear HO_4; have BK125 := n0_; have HB := n1_; have HO138 := n2_; clear n0_ n1_ n2_; clear ho hb hg hat))
              go_roundg kj8
              case measure => have := HK1.out; have := HJ8.out; omega
              case rel => exact ⟨(y136), (wrap64 (ji5 + x7_8)), (by first | rfl | (simp; done) | (simp only [← hji5] <;> (first | rfl | simp)) | (simp [*]; done)), H', ⟨by have := HK1.out; have := HJ8.out; omega⟩, ⟨by (with_reducible repeat (first | apply Kd.R_alloc | apply Kd.R_drewN | apply Kd.R_drew)); exact Kd.R_mono HO138.out (fun _ hk => trivial)⟩, ⟨bw HB.out⟩⟩
             ·
              rw [if_neg c44] at H
              exact absurd H (by simp)
           ·
            replace c39 := Bool.eq_false_iff.mpr c39
            subst c39
            have H1 : (some (([] : List (S44)), false)) = some (r1, r2) := by rw [if_neg (show ¬ (false = true) by decide)] at H; exact H
            clear H
            have H := H1
            clear H1
            simp only [Option.some.injEq, Prod.mk.injEq] at H
            obtain ⟨rfl, rfl⟩ := H
            obtain ⟨hcz50_0, hcz50_1⟩ := cs2_ BK125.out
            obtain ⟨hfz50_0, hfz50_1⟩ := fz2_ BK125.out
            go_wp2_with (first | (go_at_call 58; (with_reducible refine (spec_l6Shape.calls kj8 (wrap64 (bt a0 x5_1)) t134 _ A36.out).mono ?_); rintro e w' ⟨rfl, ⟨nd, rfl⟩⟩) | (go_at_call 57; (with_reducible refine (spec_GoodIns.calls kj8 (wrap64 (bt a0 x5_1)) x126001_8 false _ A38.out).mono ?_); rintro e w51 ⟨rfl, hb⟩; have n0_ := Aside0.mk (Kd.R_below (kr_ HO_4.out) hb); have n1_ := Aside0.mk (blk_below (g := gb125) (o := .cells #[.int .i64 (wrap64 (bt a0 x5_1)), .int .i64 x126001_8] 44 (0, 0)) (bk BK125.out) hb); have n2_ := Aside0.mk (below_step (bw HB.out) hb); clear HO_4; clear BK125; clear HB; have HO_4 := n0_; have BK125 := n1_; have HB := n2_; clear n0_ n1_ n2_; (try clear hb); (try clear hb2); (try clear hk); (try clear hi)))
            go_ret2
            exact ⟨_, by first | rfl | (simp [errW_none, errW_some] <;> rfl) | (simp only [← hji5]; first | rfl | (simp [errW_none, errW_some] <;> rfl)) | (simp [*, errW_none, errW_some] <;> rfl), by first | exact Kd.R_nil _ _ _ _ _ | exact Kd.N_nil _ _ _ _ _ | exact Kd.V_nil _ _ _ _ _ | exact Kd.Q_nil _ _ _ _ _ | exact Kd.S_nil _ _ _ _ _, bw HB.out⟩
          ·
           rw [if_neg c37] at H
           have c37b0 : (t134 == 0) = false := beq_eq_false_iff_ne.mpr c37
           have c37b1 : (t134 != 0) = true := bne_iff_ne.mpr c37
           simp only [Option.some.injEq, Prod.mk.injEq] at H
           obtain ⟨rfl, rfl⟩ := H
           obtain ⟨hcz52_0, hcz52_1⟩ := cs2_ BK125.out
           obtain ⟨hfz52_0, hfz52_1⟩ := fz2_ BK125.out
           go_wp2_with (first | (go_at_call 58; (with_reducible refine (spec_l6Shape.calls kj8 (wrap64 (bt a0 x5_1)) t134 _ A36.out).mono ?_); rintro e w' ⟨rfl, ⟨nd, rfl⟩⟩))
           go_ret2
           exact ⟨_, by first | rfl | (simp [errW_none, errW_some] <;> rfl) | (simp only [← hji5]; first | rfl | (simp [errW_none, errW_some] <;> rfl)) | (simp [*, errW_none, errW_some] <;> rfl), by first | exact Kd.R_nil _ _ _ _ _ | exact Kd.N_nil _ _ _ _ _ | exact Kd.V_nil _ _ _ _ _ | exact Kd.Q_nil _ _ _ _ _ | exact Kd.S_nil _ _ _ _ _, bw HB.out⟩
         ·
          rw [if_neg c35] at H
          have c35b0 : (x7_8 == 0) = false := beq_eq_false_iff_ne.mpr c35
          have c35b1 : (x7_8 != 0) = true := bne_iff_ne.mpr c35
          replace H := Option.bind_eq_some_iff.mp H
          obtain ⟨t139, A530, H⟩ := H
          replace H : (if t139 = true then (if (x4_1.length : Int) = 200 then (some (([] : List (S44)), false)) else (if x4_1.length < 8796093022208 then (spec_l6Read.l0 kj8 a0 (x4_1 ++ [(⟨(wrap64 (bt a0 x5_1)), x126001_8⟩ : S44)]) (wrap64 (ji5 + x7_8))) else (none))) else (some (([] : List (S44)), false))) = some (r1, r2) := H
          have A53 := Aside0.mk A530
          clear A530
          by_cases c54 : t139 = true
          ·
           subst c54
           have H1 : (if (x4_1.length : Int) = 200 then (some (([] : List (S44)), false)) else (if x4_1.length < 8796093022208 then (spec_l6Read.l0 kj8 a0 (x4_1 ++ [(⟨(wrap64 (bt a0 x5_1)), x126001_8⟩ : S44)]) (wrap64 (ji5 + x7_8))) else (none))) = some (r1, r2) := by rw [if_pos rfl] at H; exact H
           clear H
           have H := H1
           clear H1
           by_cases c55 : (x4_1.length : Int) = 200
           ·
            rw [if_pos c55] at H
            have c55b0 : ((x4_1.length : Int) == 200) = true := beq_iff_eq.mpr c55
            have c55b1 : ((x4_1.length : Int) != 200) = false := bne_eq_false_iff_eq.mpr c55
            clear c55
            simp only [Option.some.injEq, Prod.mk.injEq] at H
            obtain ⟨rfl, rfl⟩ := H
            obtain ⟨hcz56_0, hcz56_1⟩ := cs2_ BK125.out
            obtain ⟨hfz56_0, hfz56_1⟩ := fz2_ BK125.out
            go_wp2_with (first | (go_at_call 57; (with_reducible refine (spec_GoodIns.calls kj8 (wrap64 (bt a0 x5_1)) x126001_8 true _ A53.out).mono ?_); rintro e w57 ⟨rfl, hb⟩; have n0_ := Aside0.mk (Kd.R_below (kr_ HO_4.out) hb); have n1_ := Aside0.mk (blk_below (g := gb125) (o := .cells #[.int .i64 (wrap64 (bt a0 x5_1)), .int .i64 x126001_8] 44 (0, 0)) (bk BK125.out) hb); have n2_ := Aside0.mk (below_step (bw HB.out) hb); clear HO_4; clear BK125; clear HB; have HO_4 := n0_; have BK125 := n1_; have HB := n2_; clear n0_ n1_ n2_; (try clear hb); (try clear hb2); (try clear hk); (try clear hi); obtain ⟨Ao58, co58, eo58⟩ := Kd.R_slice HO_4.out; subst eo58))
            go_ret2
            exact ⟨_, by first | rfl | (simp [errW_none, errW_some] <;> rfl) | (simp only [← hji5]; first | rfl | (simp [errW_none, errW_some] <;> rfl)) | (simp [*, errW_none, errW_some] <;> rfl), by first | exact Kd.R_nil _ _ _ _ _ | exact Kd.N_nil _ _ _ _ _ | exact Kd.V_nil _ _ _ _ _ | exact Kd.Q_nil _ _ _ _ _ | exact Kd.S_nil _ _ _ _ _, bw HB.out⟩
           ·
            rw [if_neg c55] at H
            have c55b0 : ((x4_1.length : Int) == 200) = false := beq_eq_false_iff_ne.mpr c55
            have c55b1 : ((x4_1.length : Int) != 200) = true := bne_iff_ne.mpr c55
            by_cases c59 : x4_1.length < 8796093022208
            ·
             rw [if_pos c59] at H
             have LMc59 := Aside0.mk c59
             clear c59
             obtain ⟨y140, hy140⟩ : ∃ y_ : List (S44), y_ = (x4_1 ++ [(⟨(wrap64 (bt a0 x5_1)), x126001_8⟩ : S44)]) := ⟨_, rfl⟩
             replace H : (spec_l6Read.l0 kj8 a0 y140 (wrap64 (ji5 + x7_8))) = some (r1, r2) := by first | (rw [hy140]; with_reducible exact H) | (have H2_ := (Option.bind_some _ _).symm.trans H; rw [hy140]; with_reducible exact H2_) | (have H2_ := (Option.bind_some _ _).symm.trans H; with_reducible exact H2_) | with_reducible exact H | (rw [hy140]; exact H) | exact H
             have Ny140 := Aside0.mk hy140
             clear hy140
             have H' := Aside0.mk H
             clear H
             obtain ⟨hcz60_0, hcz60_1⟩ := cs2_ BK125.out
             obtain ⟨hfz60_0, hfz60_1⟩ := fz2_ BK125.out
             go_wp2_with (first | (go_at_call 57; (with_reducible refine (spec_GoodIns.calls kj8 (wrap64 (bt a0 x5_1)) x126001_8 true _ A53.out).mono ?_); rintro e w61 ⟨rfl, hb⟩; have n0_ := Aside0.mk (Kd.R_below (kr_ HO_4.out) hb); have n1_ := Aside0.mk (blk_below (g := gb125) (o := .cells #[.int .i64 (wrap64 (bt a0 x5_1)), .int .i64 x126001_8] 44 (0, 0)) (bk BK125.out) hb); have n2_ := Aside0.mk (below_step (bw HB.out) hb); clear HO_4; clear BK125; clear HB; have HO_4 := n0_; have BK125 := n1_; have HB := n2_; clear n0_ n1_ n2_; (try clear hb); (try clear hb2); (try clear hk); (try clear hi); obtain ⟨Ao62, co62, eo62⟩ := Kd.R_slice HO_4.out; subst eo62; obtain ⟨hcz63_0, hcz63_1⟩ := cs2_ BK125.out; obtain ⟨hfz63_0, hfz63_1⟩ := fz2_ BK125.out) | ((with_reducible refine gate_builtin (b := .append) (xs := #[.tmp 97, .tmp 99]) rfl ?_); (try (refine gate_guard (by rfl) ?_; dsimp only)); at_builtin; refine Kd.R_append k44 (w0 := w) w.heap.size rfl (.tmp 97) (.tmp 99) 23 44 (.agg #[(.int .i64 0), (.int .i64 0)]) 16 rfl Try.underlying23 info44 rfl (by decide) (by omega) (.slice Ao62 x4_1.length co62) x4_1 (⟨(wrap64 (bt a0 x5_1)), x126001_8⟩ : S44) [.int .i64 (wrap64 (bt a0 x5_1)), .int .i64 x126001_8] (fun k_ => k_ ≠ gb125) (fun _ => False) rfl rfl ?aP (fun _ hk => hk.elim) ?aF ?aO ?aB ?aS ?aL ?_; (case aP => exact k44_mkM _ _ _ (⟨(wrap64 (bt a0 x5_1)), x126001_8⟩ : S44)); (case aB => exact (bw HB.out)); (case aF => exact (fun k_ hk => Kd.freshB (g := gb125) (o := .cells #[.int .i64 (wrap64 (bt a0 x5_1)), .int .i64 x126001_8] 44 (0, 0)) (bk BK125.out) k_ hk)); (case aO => exact (kr_ HO_4.out)); (case aS => exact (below_size (bw HB.out))); (case aL => have := LMc59.out; omega); intro v141 w64 ho hb hg hat; rw [← Ny140.out] at ho; have n0_ := Aside0.mk (blk_grown (g := gb125) (o := .cells #[.int .i64 (wrap64 (bt a0 x5_1)), .int .i64 x126001_8] 44 (0, 0)) (bk BK125.out) hg (Kd.R_away HO_4.out (fun _ hk => hk))); have n1_ := Aside0.mk (hb); have n2_ := Aside0.mk (ho); clear BK125; clear HB; clear HO_4; have BK125 := n0_; have HB := n1_; have HO142 := n2_; clear n0_ n1_ n2_; clear ho hb hg hat))
             go_roundg kj8
             case measure => have := HK1.out; have := HJ8.out; omega
             case rel => exact ⟨(y140), (wrap64 (ji5 + x7_8)), (by first | rfl | (simp; done) | (simp only [← hji5] <;> (first | rfl | simp)) | (simp [*]; done)), H', ⟨by have := HK1.out; have := HJ8.out; omega⟩, ⟨by (with_reducible repeat (first | apply Kd.R_alloc | apply Kd.R_drewN | apply Kd.R_drew)); exact Kd.R_mono HO142.out (fun _ hk => trivial)⟩, ⟨bw HB.out⟩⟩
            ·
             rw [if_neg c59] at H
             exact absurd H (by simp)
          ·
           replace c54 := Bool.eq_false_iff.mpr c54
           subst c54
           have H1 : (some (([] : List (S44)), false)) = some (r1, r2) := by rw [if_neg (show ¬ (false = true) by decide)] at H; exact H
           clear H
           have H := H1
           clear H1
           simp only [Option.some.injEq, Prod.mk.injEq] at H
           obtain ⟨rfl, rfl⟩ := H
           obtain ⟨hcz65_0, hcz65_1⟩ := cs2_ BK125.out
           obtain ⟨hfz65_0, hfz65_1⟩ := fz2_ BK125.out
           go_wp2_with (first | (go_at_call 57; (with_reducible refine (spec_GoodIns.calls kj8 (wrap64 (bt a0 x5_1)) x126001_8 false _ A53.out).mono ?_); rintro e w66 ⟨rfl, hb⟩; have n0_ := Aside0.mk (Kd.R_below (kr_ HO_4.out) hb); have n1_ := Aside0.mk (blk_below (g := gb125) (o := .cells #[.int .i64 (wrap64 (bt a0 x5_1)), .int .i64 x126001_8] 44 (0, 0)) (bk BK125.out) hb); have n2_ := Aside0.mk (below_step (bw HB.out) hb); clear HO_4; clear BK125; clear HB; have HO_4 := n0_; have BK125 := n1_; have HB := n2_; clear n0_ n1_ n2_; (try clear hb); (try clear hb2); (try clear hk); (try clear hi)))
           go_ret2
           exact ⟨_, by first | rfl | (simp [errW_none, errW_some] <;> rfl) | (simp only [← hji5]; first | rfl | (simp [errW_none, errW_some] <;> rfl)) | (simp [*, errW_none, errW_some] <;> rfl), by first | exact Kd.R_nil _ _ _ _ _ | exact Kd.N_nil _ _ _ _ _ | exact Kd.V_nil _ _ _ _ _ | exact Kd.Q_nil _ _ _ _ _ | exact Kd.S_nil _ _ _ _ _, bw HB.out⟩
      ·
       rw [if_neg c7] at H
       exact absurd H (by simp)
     ·
      rw [if_neg c6] at H
      exact absurd H (by simp)
    ·
     rw [if_neg c3] at H
     exact absurd H (by simp)
   ·
    rw [if_neg c2] at H
    have c2b0 : decide (x5_1 < (a0.size : Int)) = false := decide_eq_false c2
    clear c2
    simp only [Option.some.injEq, Prod.mk.injEq] at H
    obtain ⟨rfl, rfl⟩ := H
    go_wp2
    go_ret2
    exact ⟨_, rr_, kr_ HO_4.out, bw HB.out⟩


/-! ### spec_l6Good: function 35 -/
def spec_l6Good.l0 : Nat → List (S44) → List (S44) → Int → Int → Option (Bool)
 | 0, _, _, _, _ => none
 | k + 1, x0, x5, x6, x7 => if x7 < x6 then (if 0 ≤ x7 then (if x7 < (x5.length : Int) then ((spec_GoodIns.f k ((rd_T44 x5 x7).f0) ((rd_T44 x5 x7).f1)).bind fun t145 => (if t145 = true then (spec_l6Good.l0 k x0 x5 x6 (wrap64 (x7 + 1))) else (some false))) else (none)) else (none)) else (some (decide ((x0.length : Int) ≤ 200)))
def spec_l6Good.f (k : Nat) (l0 : List (S44)) : Option (Bool) := spec_l6Good.l0 k l0 l0 (l0.length : Int) 0
set_option maxHeartbeats 8000000 in
set_option maxRecDepth 100000 in
theorem spec_l6Good.calls (k : Nat) (A0 : Option Addr) (c0 : Nat) (l0 : List (S44)) (r : Bool) (w : World) (hr0 : Kd.C k44 w A0 l0.length l0) (hc0 : l0.length ≤ c0) (h : spec_l6Good.f k l0 = some r) :
  Calls Try.prog 35 #[.slice A0 l0.length c0] w fun e w' => e = .returned (.bool r) ∧ Below w.heap.size w w' := by
 have hu44 := Try.underlying44
 have HR0 := Aside0.mk hr0
 have HC0 := Aside0.mk hc0
 clear hr0 hc0
 have HB := Aside0.mk (Below.refl w.heap.size w)
 have H : (spec_l6Good.l0 k l0 l0 (l0.length : Int) 0) = some r := h
 clear h
 have H' := Aside0.mk H
 clear H
 go_enter Try.func35, Try.ntmps35
 go_wp2
 (try simp only [Act.put, List.setIfInBounds_toArray, List.set_cons_zero, List.set_cons_succ])
 go_loopg [7] k (fun kq v7 w' => ∃ (x7_1 : Int), v7 = .int .i64 x7_1 ∧ Aside0 (spec_l6Good.l0 kq l0 l0 (l0.length : Int) x7_1 = some r) ∧ Aside0 (kq ≤ k) ∧ Aside0 (Below w.heap.size w w'))
 case atStart => exact ⟨(0), (by first | rfl | (simp; done) | (simp [*]; done)), H', ⟨Nat.le_refl _⟩, ⟨bw HB.out⟩⟩
 case round =>
  clear H'
  obtain ⟨x7_1, rfl, HA, HK1, HB⟩ := hrel
  cases gk with
  | zero => exact absurd HA.out (by simp [spec_l6Good.l0])
  | succ k1 =>
   have H := HA.out
   clear HA
   simp only [spec_l6Good.l0] at H
   by_cases c2 : x7_1 < (l0.length : Int)
   ·
    rw [if_pos c2] at H
    have c2b0 : decide (x7_1 < (l0.length : Int)) = true := decide_eq_true c2
    clear c2
    by_cases c3 : 0 ≤ x7_1
    ·
     rw [if_pos c3] at H
     have c3b0 : decide (0 ≤ x7_1) = true := decide_eq_true c3
     clear c3
     by_cases c4 : x7_1 < (l0.length : Int)
     ·
      rw [if_pos c4] at H
      have c4b0 : decide (x7_1 < (l0.length : Int)) = true := decide_eq_true c4
      clear c4
      replace H := Option.bind_eq_some_iff.mp H
      obtain ⟨t145, A50, H⟩ := H
      replace H : (if t145 = true then (spec_l6Good.l0 k1 l0 l0 (l0.length : Int) (wrap64 (x7_1 + 1))) else (some false)) = some r := H
      have A5 := Aside0.mk A50
      clear A50
      by_cases c6 : t145 = true
      ·
       subst c6
       have H1 : (spec_l6Good.l0 k1 l0 l0 (l0.length : Int) (wrap64 (x7_1 + 1))) = some r := by rw [if_pos rfl] at H; exact H
       clear H
       have H := H1
       clear H1
       have H' := Aside0.mk H
       clear H
       have p143 : 0 ≤ (x7_1 : Int) := od_
       have q143 : x7_1 < (l0.length : Int) := od_
       obtain ⟨ad143, e143, hx143_0, hx143_1⟩ := at_T44 HR0.out x7_1 p143 q143
       cases e143
       replace hx143_0 := (HB.out.cell (World.block_lt_of_cell? w _ hx143_0)).trans hx143_0
       replace hx143_1 := (HB.out.cell (World.block_lt_of_cell? w _ hx143_1)).trans hx143_1
       replace p143 := eq_true p143
       replace q143 := eq_true q143
       go_wp2_with (first | ((with_reducible refine gate_dst (N := 4) rfl ?_); refine box_event ?hg (N := 4) ?hd (cs := #[.int .i64 0, .int .i64 0]) (t := 44) ?hr ?_; (case hd => rfl); (case hg => rfl); (case hr => first | (go_simp; done) | (go_simp; rfl)); intro gb144 hg w7 hbox hb; have n0_ := Aside0.mk (below_step (bw HB.out) hb); have n1_ := Aside0.mk (hbox); have n2_ := Aside0.mk ((sz_ hg (bw HB.out) : w.heap.size ≤ gb144)); have n3_ := Aside0.mk ((sz_ hg (bw HB.out) : w.heap.size ≤ gb144)); clear HB; have HB := n0_; have BK144 := n1_; have GW144 := n2_; have GE144 := n3_; clear n0_ n1_ n2_ n3_; clear hb hbox hg; obtain ⟨hcz8_0, hcz8_1⟩ := cs2_ BK144.out; obtain ⟨hfz8_0, hfz8_1⟩ := fz2_ BK144.out) | ((with_reducible refine gate_callee (f := 57) rfl ?_); refine goesL_ (some 12) rfl rfl Try.func57 (by kernel_rfl) rfl #[.agg #[.int .i64 ((rd_T44 l0 x7_1).f0), .int .i64 ((rd_T44 l0 x7_1).f1)]] rfl ar ?_; (with_reducible refine (spec_GoodIns.calls k1 ((rd_T44 l0 x7_1).f0) ((rd_T44 l0 x7_1).f1) true _ A5.out).mono ?_); rintro e w9 ⟨rfl, hb⟩; refine ⟨_, rfl, ?_⟩; have n0_ := Aside0.mk (blk_below (g := gb144) (o := .cells #[.int .i64 ((rd_T44 l0 x7_1).f0), .int .i64 ((rd_T44 l0 x7_1).f1)] 44 (0, 0)) (by refine blk_put (cs := #[.int .i64 ((rd_T44 l0 x7_1).f0), .int .i64 0]) ?_ 1 _ rfl; refine blk_put (cs := #[.int .i64 0, .int .i64 0]) ?_ 0 _ rfl; (with_reducible repeat (first | refine blk_drewN ?_ _ | refine blk_drew ?_ | refine blk_alloc ?_ _)); exact BK144.out) hb); have n1_ := Aside0.mk (below_step (bw HB.out) hb); clear BK144; clear HB; have BK144 := n0_; have HB := n1_; clear n0_ n1_; (try clear hb)))
       go_roundg k1
       case measure => have := HK1.out; omega
       case rel => exact ⟨(wrap64 (x7_1 + 1)), (by first | rfl | (simp; done) | (simp [*]; done)), H', ⟨by have := HK1.out; omega⟩, ⟨bw HB.out⟩⟩
      ·
       replace c6 := Bool.eq_false_iff.mpr c6
       subst c6
       have H1 : (some false) = some r := by rw [if_neg (show ¬ (false = true) by decide)] at H; exact H
       clear H
       have H := H1
       clear H1
       obtain rfl := Option.some.inj H
       simp only [Option.some.injEq, Prod.mk.injEq] at H
       obtain ⟨rfl⟩ := H
       have p143 : 0 ≤ (x7_1 : Int) := od_
       have q143 : x7_1 < (l0.length : Int) := od_
       obtain ⟨ad143, e143, hx143_0, hx143_1⟩ := at_T44 HR0.out x7_1 p143 q143
       cases e143
       replace hx143_0 := (HB.out.cell (World.block_lt_of_cell? w _ hx143_0)).trans hx143_0
       replace hx143_1 := (HB.out.cell (World.block_lt_of_cell? w _ hx143_1)).trans hx143_1
       replace p143 := eq_true p143
       replace q143 := eq_true q143
       go_wp2_with (first | ((with_reducible refine gate_dst (N := 4) rfl ?_); refine box_event ?hg (N := 4) ?hd (cs := #[.int .i64 0, .int .i64 0]) (t := 44) ?hr ?_; (case hd => rfl); (case hg => rfl); (case hr => first | (go_simp; done) | (go_simp; rfl)); intro gb144 hg w10 hbox hb; have n0_ := Aside0.mk (below_step (bw HB.out) hb); have n1_ := Aside0.mk (hbox); have n2_ := Aside0.mk ((sz_ hg (bw HB.out) : w.heap.size ≤ gb144)); have n3_ := Aside0.mk ((sz_ hg (bw HB.out) : w.heap.size ≤ gb144)); clear HB; have HB := n0_; have BK144 := n1_; have GW144 := n2_; have GE144 := n3_; clear n0_ n1_ n2_ n3_; clear hb hbox hg; obtain ⟨hcz11_0, hcz11_1⟩ := cs2_ BK144.out; obtain ⟨hfz11_0, hfz11_1⟩ := fz2_ BK144.out) | ((with_reducible refine gate_callee (f := 57) rfl ?_); refine goesL_ (some 12) rfl rfl Try.func57 (by kernel_rfl) rfl #[.agg #[.int .i64 ((rd_T44 l0 x7_1).f0), .int .i64 ((rd_T44 l0 x7_1).f1)]] rfl ar ?_; (with_reducible refine (spec_GoodIns.calls k1 ((rd_T44 l0 x7_1).f0) ((rd_T44 l0 x7_1).f1) false _ A5.out).mono ?_); rintro e w12 ⟨rfl, hb⟩; refine ⟨_, rfl, ?_⟩; have n0_ := Aside0.mk (blk_below (g := gb144) (o := .cells #[.int .i64 ((rd_T44 l0 x7_1).f0), .int .i64 ((rd_T44 l0 x7_1).f1)] 44 (0, 0)) (by refine blk_put (cs := #[.int .i64 ((rd_T44 l0 x7_1).f0), .int .i64 0]) ?_ 1 _ rfl; refine blk_put (cs := #[.int .i64 0, .int .i64 0]) ?_ 0 _ rfl; (with_reducible repeat (first | refine blk_drewN ?_ _ | refine blk_drew ?_ | refine blk_alloc ?_ _)); exact BK144.out) hb); have n1_ := Aside0.mk (below_step (bw HB.out) hb); clear BK144; clear HB; have BK144 := n0_; have HB := n1_; clear n0_ n1_; (try clear hb)))
       go_ret
       exact ⟨rr_, bw HB.out⟩
     ·
      rw [if_neg c4] at H
      exact absurd H (by simp)
    ·
     rw [if_neg c3] at H
     exact absurd H (by simp)
   ·
    rw [if_neg c2] at H
    have c2b0 : decide (x7_1 < (l0.length : Int)) = false := decide_eq_false c2
    clear c2
    obtain rfl := Option.some.inj H
    simp only [Option.some.injEq, Prod.mk.injEq] at H
    obtain ⟨rfl⟩ := H
    go_wp2
    go_ret
    exact ⟨rr_, bw HB.out⟩

end Go.Proofs.Ytmmlgkepnjelnaa.Q

