/- Trees of zeros: both texts make the same, and it has no more nodes than its type, so that the reference's bound is never met. -/
import Derived.Test.YtlgegdgilkaldaaTq
import Derived.Test.YtlgegdgilkaldaaQx14
namespace Go.Proofs.Ytlgegdgilkaldaa.Ty
open Go.RowKit Go.Proofs.Ytlgegdgilkaldaa.Q Go.Proofs.YtlgegdgilkaldaaW.PrintWords Go.Proofs.YtlgegdgilkaldaaW.PrintLast Go.Proofs.YtlgegdgilkaldaaW.PrintMore Go.Proofs.Ytlgegdgilkaldaa.Mb
set_option linter.unusedSimpArgs false
set_option linter.unusedVariables false
set_option linter.unusedSectionVars false

/-! ### How many nodes a tree has -/
def sm {α : Type} (f : α → Nat) : List α → Nat
  | [] => 0
  | x :: xs => f x + sm f xs
theorem sm_append {α : Type} (f : α → Nat) : ∀ (a b : List α), sm f (a ++ b) = sm f a + sm f b
  | [], b => by simp [sm]
  | x :: a, b => by rw [List.cons_append, sm, sm, sm_append f a b]; omega
theorem sm_map {α β : Type} (f : β → Nat) (g : α → β) : ∀ a : List α, sm f (a.map g) = sm (fun x => f (g x)) a
  | [] => rfl
  | x :: a => by rw [List.map_cons, sm, sm, sm_map f g a]
theorem sm_le {α : Type} (f g : α → Nat) : ∀ a : List α, (∀ x ∈ a, f x ≤ g x) → sm f a ≤ sm g a
  | [], _ => Nat.le_refl _
  | x :: a, h => by
    have h1 := h x List.mem_cons_self
    have h2 := sm_le f g a (fun y hy => h y (List.mem_cons_of_mem _ hy))
    rw [sm, sm]; omega
theorem sm_take {α : Type} (f : α → Nat) (k : Nat) (a : List α) : sm f (a.take k) ≤ sm f a := by
  have := sm_append f (a.take k) (a.drop k)
  rw [List.take_append_drop] at this
  omega
/-- The nodes of the tree at i, at most m deep, where only the nodes ahead of n are there. -/
def tP (l : List S46) (n : Nat) : Nat → Nat → Nat
  | 0, _ => 1
  | m + 1, i => 1 + sm (fun c => tP l n m c.toNat) (pre l n i)
section
variable {l : List S46}
theorem hit_up {c c' : Nat} (n : Nat) : hit l (c : Int) n = true → hit l (c' : Int) n = true → c' < c → (c' : Int) ≤ U l c := by
  induction n using Nat.strongRecOn with
  | _ n ih =>
    intro h1 h2 hlt
    have b1 := hit_bd n h1
    by_cases e : n = c
    · subst e
      unfold hit at h2
      rw [if_neg (by omega)] at h2
      by_cases g : 0 ≤ U l n ∧ U l n < n
      · rw [dif_pos g] at h2
        have := hit_bd _ h2
        omega
      · rw [dif_neg g] at h2; cases h2
    · unfold hit at h1 h2
      rw [if_neg (by omega)] at h1
      rw [if_neg (by omega)] at h2
      by_cases g : 0 ≤ U l n ∧ U l n < n
      · rw [dif_pos g] at h1 h2
        exact ih (U l n).toNat (by omega) h1 h2 hlt
      · rw [dif_neg g] at h1; cases h1
theorem hit_self (i : Nat) : hit l (i : Int) i = true := by unfold hit; rw [if_pos rfl]
theorem hit_parent {c i : Nat} (hu : U l c = (i : Int)) (hi : i < c) (n : Nat) : hit l (c : Int) n = true → hit l (i : Int) n = true := by
  induction n using Nat.strongRecOn with
  | _ n ih =>
    intro h
    by_cases e : n = c
    · subst e
      unfold hit
      rw [if_neg (by omega), dif_pos (by omega), hu, Int.toNat_natCast]
      exact hit_self i
    · unfold hit at h
      rw [if_neg (by omega)] at h
      by_cases g : 0 ≤ U l n ∧ U l n < n
      · rw [dif_pos g] at h
        have := ih (U l n).toNat (by omega) h
        unfold hit
        split
        · rfl
        · first | exact this | (rw [dif_pos g]; exact this)
      · rw [dif_neg g] at h; cases h
end
section
variable (l : List S46) (hu : ups l l.length)
include hu
theorem pre_self (n : Nat) (hn : n < l.length) : pre l (n + 1) n = [] := by
  cases e : pre l (n + 1) n with
  | nil => rfl
  | cons x xs =>
    obtain ⟨j, _, h1, h2⟩ := pre_mem (l := l) (n + 1) n x (by rw [e]; exact List.mem_cons_self)
    have := up_bd (hu j (by omega))
    omega
/-- One node more counts once at most. -/
theorem tP_step (n : Nat) (hn : n < l.length) (m : Nat) : ∀ i : Nat, tP l (n + 1) m i ≤ tP l n m i + (if hit l (i : Int) n = true then 1 else 0) := by
  induction m with
  | zero => intro i; exact Nat.le_add_right _ _
  | succ m ih =>
    intro i
    have self : tP l (n + 1) m n = 1 := by
      cases m with
      | zero => rfl
      | succ m => rw [tP, pre_self l hu n hn]; rfl
    have part : ∀ n', n' ≤ n → sm (fun c => tP l (n + 1) m c.toNat) (pre l n' i) ≤ sm (fun c => tP l n m c.toNat) (pre l n' i) + (if ∃ c : Nat, c < n' ∧ U l c = (i : Int) ∧ hit l (c : Int) n = true then 1 else 0) := by
      intro n'
      induction n' with
      | zero => intro _; exact Nat.le_add_right _ _
      | succ n' ih2 =>
        intro hn'
        have h2 := ih2 (by omega)
        rw [pre, sm_append, sm_append]
        by_cases e : U l n' = (i : Int)
        · rw [if_pos e]
          have h3 := ih n'
          have hb := up_bd (hu n' (by omega))
          show _ + (tP l (n + 1) m (n' : Int).toNat + 0) ≤ _ + (tP l n m (n' : Int).toNat + 0) + _
          rw [Int.toNat_natCast]
          by_cases hh : hit l (n' : Int) n = true
          · have no : ¬ ∃ c : Nat, c < n' ∧ U l c = (i : Int) ∧ hit l (c : Int) n = true := by
              rintro ⟨c, hc, hc2, hc3⟩
              have := hit_up n hh hc3 hc
              have hb2 := up_bd (hu c (by omega))
              omega
            rw [if_neg no] at h2
            rw [if_pos hh] at h3
            rw [if_pos ⟨n', by omega, e, hh⟩]
            omega
          · rw [if_neg hh] at h3
            by_cases y : ∃ c : Nat, c < n' ∧ U l c = (i : Int) ∧ hit l (c : Int) n = true
            · rw [if_pos y] at h2
              obtain ⟨c, hc, hc2, hc3⟩ := y
              rw [if_pos ⟨c, by omega, hc2, hc3⟩]
              omega
            · rw [if_neg y] at h2
              omega
        · rw [if_neg e]
          show _ + 0 ≤ _ + 0 + _
          by_cases y : ∃ c : Nat, c < n' ∧ U l c = (i : Int) ∧ hit l (c : Int) n = true
          · rw [if_pos y] at h2
            obtain ⟨c, hc, hc2, hc3⟩ := y
            rw [if_pos ⟨c, by omega, hc2, hc3⟩]
            omega
          · rw [if_neg y] at h2
            omega
    have hp := part n (Nat.le_refl _)
    rw [tP, tP, pre, sm_append]
    by_cases e : U l n = (i : Int)
    · have hb := up_bd (hu n hn)
      have no : ¬ ∃ c : Nat, c < n ∧ U l c = (i : Int) ∧ hit l (c : Int) n = true := by
        rintro ⟨c, hc, hc2, hc3⟩
        have := hit_up n (hit_self n) hc3 hc
        have hb2 := up_bd (hu c (by omega))
        omega
      rw [if_neg no] at hp
      rw [if_pos e, if_pos (hit_parent (c := n) e (by omega) n (hit_self n))]
      show 1 + (_ + (tP l (n + 1) m (n : Int).toNat + 0)) ≤ _
      rw [Int.toNat_natCast, self]
      omega
    · rw [if_neg e]
      show 1 + (_ + 0) ≤ _
      by_cases y : ∃ c : Nat, c < n ∧ U l c = (i : Int) ∧ hit l (c : Int) n = true
      · rw [if_pos y] at hp
        obtain ⟨c, hc, hc2, hc3⟩ := y
        have hb2 := up_bd (hu c (by omega))
        rw [if_pos (hit_parent hc2 (by omega) n hc3)]
        omega
      · rw [if_neg y] at hp
        omega
theorem tP_le (n : Nat) (hn : n ≤ l.length) (m i : Nat) : tP l n m i ≤ 1 + n := by
  induction n with
  | zero =>
    cases m with
    | zero => exact Nat.le_refl _
    | succ m => exact Nat.le_refl _
  | succ n ih =>
    have h1 := ih (by omega)
    have h2 := tP_step l hu n (by omega) m i
    split at h2 <;> omega
end
/-- The nodes of a tree of zeros. -/
def zc : Nat → S68 → Nat
  | 0, _ => 1
  | m + 1, z => 1 + sm (zc m) z.f2
theorem zc_le (l : List S46) (m : Nat) : ∀ i : Nat, zc m (zeroT (m + 1) (tr l m (i : Int))) ≤ tP l l.length m i := by
  induction m with
  | zero => intro i; exact Nat.le_refl _
  | succ m ih =>
    intro i
    have hk : (tr l (m + 1) (i : Int)).f2 = (pre l l.length i).map (tr l m) := by rw [tr, Int.toNat_natCast]
    have ha : sm (zc m) (((pre l l.length i).map (tr l m)).map (zeroT (m + 1))) ≤ sm (fun c => tP l l.length m c.toNat) (pre l l.length i) := by
      rw [sm_map, sm_map]
      refine sm_le _ _ _ (fun c hc => ?_)
      obtain ⟨j, rfl, _, _⟩ := pre_mem _ _ _ hc
      rw [Int.toNat_natCast]
      exact ih j
    have hz : (zeroT (m + 1 + 1) (tr l (m + 1) (i : Int))).f2 = if (tr l (m + 1) (i : Int)).f0 = 14 then (tr l (m + 1) (i : Int)).f2.map (zeroT (m + 1)) else if ((tr l (m + 1) (i : Int)).f0 == 15 || (tr l (m + 1) (i : Int)).f0 == 18) = true then ((tr l (m + 1) (i : Int)).f2.take 1).map (zeroT (m + 1)) else [] := rfl
    show 1 + sm (zc m) (zeroT (m + 1 + 1) (tr l (m + 1) (i : Int))).f2 ≤ 1 + sm (fun c => tP l l.length m c.toNat) (pre l l.length i)
    rw [hz, hk]
    split
    · omega
    · split
      · rw [List.map_take]
        have := sm_take (zc m) 1 (((pre l l.length i).map (tr l m)).map (zeroT (m + 1)))
        omega
      · show 1 + 0 ≤ _
        omega
theorem zc_tree (l : List S46) (hg : good l = true) : zc 8 (zeroT 9 (tree l)) ≤ 41 := by
  have h1 := zc_le l 8 0
  have h2 := tP_le l (good_ups l hg) l.length (Nat.le_refl _) 8 0
  have h3 := good_len l hg
  exact Nat.le_trans h1 (by omega)
/-! ### The two texts' nodes -/
/-- A tree of m + 1 levels at most. -/
def VD : Nat → S68 → Prop
  | 0, z => z.f2 = []
  | m + 1, z => ∀ x ∈ z.f2, VD m x
theorem zc_pos (m : Nat) (z : S68) : 1 ≤ zc m z := by
  cases m with
  | zero => exact Nat.le_refl _
  | succ m => exact Nat.le_add_right _ _
theorem vals_same (m : Nat) : ∀ (z : S68) (N N' : Nat) (l : List S75) (up : Int), VD m z → m + 1 ≤ N → m + 1 ≤ N' → l.length + zc m z ≤ 101 → valsN N l z up = dnodesN N' l z up ∧ (dnodesN N' l z up).length = l.length + zc m z := by
  induction m with
  | zero =>
    intro z N N' l up h h1 h2 hl
    obtain ⟨N, rfl⟩ : ∃ j, N = j + 1 := ⟨N - 1, by omega⟩
    obtain ⟨N', rfl⟩ : ∃ j, N' = j + 1 := ⟨N' - 1, by omega⟩
    have hz : z.f2 = [] := h
    rw [valsN, dnodesN, hz]
    exact ⟨rfl, by simp [zc]⟩
  | succ m ih =>
    intro z N N' l up h h1 h2 hl
    obtain ⟨N, rfl⟩ : ∃ j, N = j + 1 := ⟨N - 1, by omega⟩
    obtain ⟨N', rfl⟩ : ∃ j, N' = j + 1 := ⟨N' - 1, by omega⟩
    have go : ∀ (xs : List S68) (s : List S75), (∀ x ∈ xs, VD m x) → s.length + sm (zc m) xs ≤ 101 →
        xs.foldl (fun s x => if s.length ≤ 100 then valsN N s x (l.length : Int) else s) s = xs.foldl (fun s x => dnodesN N' s x (l.length : Int)) s ∧ (xs.foldl (fun s x => dnodesN N' s x (l.length : Int)) s).length = s.length + sm (zc m) xs := by
      intro xs
      induction xs with
      | nil => intro s _ _; exact ⟨rfl, rfl⟩
      | cons x xs ihx =>
        intro s hx hs
        have hp := zc_pos m x
        rw [sm] at hs
        obtain ⟨e1, e2⟩ := ih x N N' s (l.length : Int) (hx x List.mem_cons_self) (by omega) (by omega) (by omega)
        rw [List.foldl_cons, List.foldl_cons, if_pos (by omega), e1]
        obtain ⟨g1, g2⟩ := ihx (dnodesN N' s x (l.length : Int)) (fun y hy => hx y (List.mem_cons_of_mem _ hy)) (by rw [e2]; omega)
        refine ⟨g1, ?_⟩
        rw [g2, e2, sm]
        omega
    have hz : zc (m + 1) z = 1 + sm (zc m) z.f2 := rfl
    obtain ⟨g1, g2⟩ := go z.f2 (l ++ [⟨z.f0, z.f1, up⟩]) h (by rw [List.length_append, List.length_singleton]; omega)
    refine ⟨g1, ?_⟩
    show (z.f2.foldl (fun s x => dnodesN N' s x (l.length : Int)) (l ++ [⟨z.f0, z.f1, up⟩])).length = _
    rw [g2, List.length_append, List.length_singleton, hz]
    omega
theorem zero_kids {n : Nat} {t : S52} {y : S68} (hy : y ∈ (zeroT (n + 1) t).f2) : ∃ x ∈ t.f2, y = zeroT n x := by
  have hy : y ∈ (if t.f0 = 14 then t.f2.map (zeroT n) else if (t.f0 == 15 || t.f0 == 18) = true then (t.f2.take 1).map (zeroT n) else []) := hy
  split at hy
  · obtain ⟨x, hx, rfl⟩ := List.mem_map.1 hy
    exact ⟨x, hx, rfl⟩
  · split at hy
    · obtain ⟨x, hx, rfl⟩ := List.mem_map.1 hy
      exact ⟨x, List.mem_of_mem_take hx, rfl⟩
    · cases hy
theorem zero_VD (m : Nat) : ∀ t : S52, GT m t → VD m (zeroT (m + 1) t) := by
  induction m with
  | zero =>
    intro t h
    show (zeroT 1 t).f2 = []
    cases e : (zeroT 1 t).f2 with
    | nil => rfl
    | cons y ys =>
      obtain ⟨x, hx, _⟩ := zero_kids (n := 0) (t := t) (y := y) (by rw [e]; exact List.mem_cons_self)
      rw [h.2] at hx
      cases hx
  | succ m ih =>
    intro t h y hy
    obtain ⟨x, hx, rfl⟩ := zero_kids hy
    exact ih x (h.2 x hx)
theorem zero_few (m : Nat) : ∀ t : S52, GT m t → fewV (m + 1) (zeroT (m + 1) t) = true := by
  have len : ∀ (n : Nat) (t : S52), t.f2.length ≤ 8 → (zeroT (n + 1) t).f2.length ≤ 8 := by
    intro n t hl
    show (if t.f0 = 14 then t.f2.map (zeroT n) else if (t.f0 == 15 || t.f0 == 18) = true then (t.f2.take 1).map (zeroT n) else []).length ≤ 8
    split
    · rw [List.length_map]; exact hl
    · split
      · rw [List.length_map, List.length_take]; omega
      · simp
  induction m with
  | zero =>
    intro t h
    have := zero_VD 0 t h
    rw [fewV, Bool.and_eq_true]
    have hz : (zeroT (0 + 1) t).f2 = [] := this
    rw [hz]
    exact ⟨rfl, rfl⟩
  | succ m ih =>
    intro t h
    rw [fewV, Bool.and_eq_true]
    refine ⟨decide_eq_true (len _ _ (by have := (ok_few h.1).1; omega)), List.all_eq_true.2 (fun y hy => ?_)⟩
    obtain ⟨x, hx, rfl⟩ := zero_kids hy
    exact ih x (h.2 x hx)
theorem has_ok (m : Nat) : ∀ t : S52, GT m t → hasB (m + 1) t = true := by
  have main : ∀ (m : Nat) (t : S52), ok t.f0 t.f1 (t.f2.length : Int) = true → (∀ x ∈ t.f2, hasB m x = true) → hasB (m + 1) t = true := by
    intro m t h hx
    rw [hasB, Bool.and_eq_true]
    refine ⟨?_, List.all_eq_true.2 hx⟩
    have hp := ok_parts h
    by_cases c : (t.f0 == 15 || t.f0 == 18) = true
    · have : chosenB t.f0 = true := by
        unfold chosenB
        simp only [Bool.or_eq_true, beq_iff_eq] at c ⊢
        rcases c with c | c
        · exact .inl (.inl c)
        · exact .inr c
      have := hp (.inr this)
      rw [c, decide_eq_true (by omega)]
      rfl
    · have : (t.f0 == 15 || t.f0 == 18) = false := by simpa using c
      rw [this]
      rfl
  induction m with
  | zero => intro t h; exact main 0 t h.1 (fun x hx => by rw [h.2] at hx; cases hx)
  | succ m ih => intro t h; exact main (m + 1) t h.1 (fun x hx => ih x (h.2 x hx))
/-- Both texts' nodes of the zero of a good type. -/
theorem zero_same (l : List S46) (hg : good l = true) : valsN 9 [] (zeroT 9 (tree l)) (-1) = dnodesN 10 [] (zeroT 9 (tree l)) (-1) ∧ (dnodesN 10 [] (zeroT 9 (tree l)) (-1)).length ≤ 41 := by
  have h := vals_same 8 (zeroT 9 (tree l)) 9 10 [] (-1) (zero_VD 8 _ (tree_gt l hg)) (by decide) (by decide) (by have := zc_tree l hg; show 0 + _ ≤ 101; omega)
  exact ⟨h.1, by rw [h.2]; have := zc_tree l hg; show 0 + _ ≤ 41; omega⟩
/-! ### The reference's zero -/
/-- The parts that a zero has. -/
def zk (t : S52) : List S52 := if t.f0 = 14 then t.f2 else if (t.f0 == 15 || t.f0 == 18) = true then t.f2.take 1 else []
theorem zero_zk (n : Nat) (t : S52) : (zeroT (n + 1) t).f2 = (zk t).map (zeroT n) := by
  show (if t.f0 = 14 then t.f2.map (zeroT n) else if (t.f0 == 15 || t.f0 == 18) = true then (t.f2.take 1).map (zeroT n) else []) = _
  unfold zk
  split
  · rfl
  · split <;> rfl
theorem kids_ok (t : S52) (h : ok t.f0 t.f1 (t.f2.length : Int) = true) : Ev (fun k => spec_l12Kids.f k t.f0 t.f1 t.f2 0 (⟨#[]⟩ : ByteArray) ([] : List S68)) (zk t) := by
  have hp := ok_parts h
  unfold spec_l12Kids.f zk
  by_cases c13 : t.f0 = 13
  · rw [c13]
    refine Ev.congr (fun k => if_pos rfl) ?_
    exact Ev.step (f := fun _ => some []) (fun k => by simp only [spec_l12Kids.l0]; rw [if_neg (by decide)]) (Ev.now _)
  · refine Ev.congr (fun k => if_neg c13) ?_
    by_cases c14 : t.f0 = 14
    · rw [if_pos c14]
      exact Ev.congr (fun k => if_pos c14) (Ev.now _)
    · rw [if_neg c14]
      refine Ev.congr (fun k => if_neg c14) ?_
      have first : 1 ≤ (t.f2.length : Int) → ∀ x : Int, Ev (fun k => spec_l12Kids.j1 k x true t.f0 t.f1 t.f2 0 (⟨#[]⟩ : ByteArray) ([] : List S68)) (t.f2.take 1) := by
        intro hl x
        refine Ev.step (f := fun _ => some (t.f2.take 1)) (fun k => ?_) (Ev.now _)
        simp only [spec_l12Kids.j1, if_true]
        have hw : wrap64 (0 + 1) = 1 := by rw [w64 (by decide) (by decide)]; rfl
        rw [hw, if_pos (by decide), if_pos (by decide), if_pos (by omega)]
        rfl
      have other : ∀ x : Int, x = t.f0 → Ev (fun k => spec_l12Kids.j1 k x false t.f0 t.f1 t.f2 0 (⟨#[]⟩ : ByteArray) ([] : List S68)) ([] : List S52) := by
        intro x hx
        refine Ev.step (f := fun _ => some ([] : List S52)) (fun k => ?_) (Ev.now _)
        simp only [spec_l12Kids.j1, Bool.false_eq_true, if_false]
        by_cases c17 : x = 17
        · rw [if_pos c17, if_pos (by decide), if_pos (by omega)]
          rfl
        · rw [if_neg c17]
      by_cases c15 : t.f0 = 15
      · have hc : (t.f0 == 15) = true := beq_iff_eq.2 c15
        rw [hc, Bool.true_or, if_pos rfl]
        exact Ev.congr (fun k => if_pos c15) (first (hp (.inr (by unfold chosenB; rw [c15]; rfl))) _)
      · have hc : (t.f0 == 15) = false := beq_eq_false_iff_ne.2 c15
        rw [hc, Bool.false_or]
        refine Ev.congr (fun k => if_neg c15) ?_
        by_cases c18 : t.f0 = 18
        · have hd : (t.f0 == 18) = true := beq_iff_eq.2 c18
          rw [hd, if_pos rfl]
          exact first (hp (.inr (by unfold chosenB; rw [c18]; rfl))) _
        · have hd : (t.f0 == 18) = false := beq_eq_false_iff_ne.2 c18
          rw [hd, if_neg (by decide)]
          exact other _ rfl
theorem rd52_get (xs : List S52) (j : Nat) (h : j < xs.length) : rd_T52 xs (j : Int) = xs[j] := by
  unfold rd_T52
  rw [Int.toNat_natCast, List.getD_eq_getElem?_getD, List.getElem?_eq_getElem h]
  rfl
theorem zero_l0 (n : Nat) (xs : List S52) (hl : xs.length ≤ 8) (hx : ∀ x ∈ xs, Ev (fun k => spec_l12Zero.f k x.f0 x.f1 x.f2) ((zeroT n x).f0, (zeroT n x).f1, (zeroT n x).f2)) (d : Nat) : ∀ j : Nat, j + d = xs.length →
    Ev (fun k => spec_l12Zero.l0 k xs (xs.length : Int) (j : Int) 0 (⟨#[]⟩ : ByteArray) ((xs.take j).map (zeroT n))) (0, (⟨#[]⟩ : ByteArray), xs.map (zeroT n)) := by
  induction d with
  | zero =>
    intro j hj
    obtain rfl : j = xs.length := by omega
    rw [List.take_length]
    refine Ev.step (f := fun _ => some (0, (⟨#[]⟩ : ByteArray), xs.map (zeroT n))) (fun k => ?_) (Ev.now _)
    simp only [spec_l12Zero.l0]
    rw [if_neg (by omega)]
  | succ d ih =>
    intro j hj
    have hlt : j < xs.length := by omega
    have h := ih (j + 1) (by omega)
    rw [List.take_succ_eq_append_getElem hlt, List.map_append] at h
    have hlen : ((xs.take j).map (zeroT n)).length < 2932031007402 := by rw [List.length_map, List.length_take]; omega
    refine Ev.step (f := fun k => (spec_l12Zero.f k xs[j].f0 xs[j].f1 xs[j].f2).bind fun bt => spec_l12Zero.l0 k xs (xs.length : Int) ((j + 1 : Nat) : Int) 0 (⟨#[]⟩ : ByteArray) ((xs.take j).map (zeroT n) ++ [(⟨bt.1, bt.2.1, bt.2.2⟩ : S68)])) (fun k => ?_) (Ev.bind (hx _ (List.getElem_mem hlt)) ?_)
    · simp only [spec_l12Zero.l0]
      rw [if_pos (show (j : Int) < (xs.length : Int) by omega), if_pos (show (0 : Int) ≤ (j : Int) by omega), if_pos (show (j : Int) < (xs.length : Int) by omega), rd52_get xs j hlt, w64 (n := (j : Int) + 1) (by omega) (by omega)]
      simp only [hlen, if_true]
      rfl
    · have e : (zeroT n xs[j]) = (⟨(zeroT n xs[j]).f0, (zeroT n xs[j]).f1, (zeroT n xs[j]).f2⟩ : S68) := by cases zeroT n xs[j]; rfl
      show Ev (fun k => spec_l12Zero.l0 k xs (xs.length : Int) ((j + 1 : Nat) : Int) 0 (⟨#[]⟩ : ByteArray) ((xs.take j).map (zeroT n) ++ [(⟨(zeroT n xs[j]).f0, (zeroT n xs[j]).f1, (zeroT n xs[j]).f2⟩ : S68)])) _
      rw [← e]
      exact h
theorem spec_zero (m : Nat) : ∀ t : S52, GT m t → Ev (fun k => spec_l12Zero.f k t.f0 t.f1 t.f2) ((zeroT (m + 1) t).f0, (zeroT (m + 1) t).f1, (zeroT (m + 1) t).f2) := by
  have main : ∀ (m : Nat) (t : S52), ok t.f0 t.f1 (t.f2.length : Int) = true → (∀ x ∈ t.f2, Ev (fun k => spec_l12Zero.f k x.f0 x.f1 x.f2) ((zeroT m x).f0, (zeroT m x).f1, (zeroT m x).f2)) → Ev (fun k => spec_l12Zero.f k t.f0 t.f1 t.f2) ((zeroT (m + 1) t).f0, (zeroT (m + 1) t).f1, (zeroT (m + 1) t).f2) := by
    intro m t h hx
    have hs : ∀ x ∈ zk t, x ∈ t.f2 := by
      intro x hx
      unfold zk at hx
      split at hx
      · exact hx
      · split at hx
        · exact List.mem_of_mem_take hx
        · cases hx
    have hl : (zk t).length ≤ 8 := by
      have := (ok_few h).1
      unfold zk
      split
      · omega
      · split
        · rw [List.length_take]; omega
        · simp
    refine Ev.step (f := fun k => (spec_l12Kids.f k t.f0 t.f1 t.f2 0 (⟨#[]⟩ : ByteArray) ([] : List S68)).bind fun t309 => spec_l12Zero.l0 k t309 (t309.length : Int) 0 0 (⟨#[]⟩ : ByteArray) ([] : List S68)) (fun k => by simp only [spec_l12Zero.f]) (Ev.bind (kids_ok t h) ?_)
    have := zero_l0 m (zk t) hl (fun x hxx => hx x (hs x hxx)) (zk t).length 0 (by omega)
    rw [zero_zk]
    exact this
  induction m with
  | zero => intro t h; exact main 0 t h.1 (fun x hx => by rw [h.2] at hx; cases hx)
  | succ m ih => intro t h; exact main (m + 1) t h.1 (fun x hx => ih x (h.2 x hx))
end Go.Proofs.Ytlgegdgilkaldaa.Ty
