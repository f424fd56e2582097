/- Trees of types: the reference's room is the program's. -/
import Derived.Test.YtlgegdgilkaldaaTk
import Derived.Test.YtlgegdgilkaldaaQx9
import Derived.Test.YtlgegdgilkaldaaQx6
namespace Go.Proofs.Ytlgegdgilkaldaa.Ty
open Go.RowKit Go.Proofs.Ytlgegdgilkaldaa.Q Go.Proofs.YtlgegdgilkaldaaW.PrintWords Go.Proofs.YtlgegdgilkaldaaW.PrintLast Go.Proofs.YtlgegdgilkaldaaW.PrintMore Go.Proofs.Ytlgegdgilkaldaa.Mb
set_option linter.unusedSimpArgs false
set_option linter.unusedVariables false
set_option linter.unusedSectionVars false

theorem up_ok (a b : Int) (h : 1 ≤ b) : spec_l11Up.f a b = some (upT a b) := by
  unfold spec_l11Up.f upT
  rw [if_neg (by omega)]
theorem rd52_at (xs : List S52) (j : Nat) (h : j < xs.length) : rd_T52 xs (j : Int) = xs[j] := by
  unfold rd_T52
  rw [Int.toNat_natCast, List.getD_eq_getElem?_getD, List.getElem?_eq_getElem h]
  rfl
theorem room_case (x n : Int) (kids : List S52) (h : x ≠ 0) (k : Nat) : spec_l11Room.f (k + 6) x n kids = if x = 14 then spec_l11Room.l0 (k + 1) 0 1 kids (kids.length : Int) 0 else if chosenB x = true then spec_l11Room.j5 (k + 1) true x n kids else some (widthT x n) := by
  by_cases c1 : x = 1
  · subst c1; rfl
  by_cases c2 : x = 2
  · subst c2; rfl
  by_cases c3 : x = 3
  · subst c3; rfl
  by_cases c4 : x = 4
  · subst c4; rfl
  by_cases c5 : x = 5
  · subst c5; rfl
  by_cases c8 : x = 8
  · subst c8; rfl
  by_cases c9 : x = 9
  · subst c9; rfl
  by_cases c12 : x = 12
  · subst c12; rfl
  by_cases c13 : x = 13
  · subst c13; rfl
  by_cases c16 : x = 16
  · subst c16
    simp only [spec_l11Room.f, spec_l11Room.j0, spec_l11Room.j1, spec_l11Room.j2, spec_l11Room.j3, chosenB, widthT]
    simp
    repeat' split
    all_goals rfl
  by_cases c19 : x = 19
  · subst c19
    simp only [spec_l11Room.f, spec_l11Room.j0, spec_l11Room.j1, spec_l11Room.j2, spec_l11Room.j3, chosenB, widthT]
    simp
    repeat' split
    all_goals rfl
  by_cases c14 : x = 14
  · subst c14; rfl
  by_cases c15 : x = 15
  · subst c15; rfl
  by_cases c17 : x = 17
  · subst c17; rfl
  by_cases c18 : x = 18
  · subst c18; rfl
  simp only [spec_l11Room.f, spec_l11Room.j0, spec_l11Room.j1, spec_l11Room.j2, spec_l11Room.j3, spec_l11Room.j5, chosenB, widthT]
  simp [h, c1, c2, c3, c4, c5, c8, c9, c12, c13, c14, c15, c16, c17, c18, c19]
/-- Rounds over a row of parts. -/
theorem room_l0 (kids : List S52) (hk : kids.length ≤ 100) (r : S52 → Int × Int) (hr : ∀ x ∈ kids, 1 ≤ (r x).2 ∧ Ev (fun k => spec_l11Room.f k x.f0 x.f1 x.f2) (r x)) (d : Nat) : ∀ (j : Nat) (s : Int × Int), j + d = kids.length → s = (kids.take j).foldl (stepR r) (0, 1) →
    Ev (fun k => spec_l11Room.l0 k s.1 s.2 kids (kids.length : Int) (j : Int)) (upT (kids.foldl (stepR r) (0, 1)).1 (kids.foldl (stepR r) (0, 1)).2, (kids.foldl (stepR r) (0, 1)).2) := by
  induction d with
  | zero =>
    intro j s hj hs
    obtain rfl : j = kids.length := by omega
    rw [List.take_length] at hs
    have hp := foldR_pos r kids (0, 1) (by decide)
    rw [← hs] at hp ⊢
    refine Ev.step (f := fun _ => some (upT s.1 s.2, s.2)) (fun k => ?_) (Ev.now _)
    simp only [spec_l11Room.l0]
    rw [if_neg (by omega), up_ok _ _ hp]
    rfl
  | succ d ih =>
    intro j s hj hs
    have hlt : j < kids.length := by omega
    obtain ⟨hp, he⟩ := hr kids[j] (List.getElem_mem hlt)
    have hs2 : stepR r s kids[j] = (kids.take (j + 1)).foldl (stepR r) (0, 1) := by rw [fold_take (stepR r) (0, 1) kids j hlt, ← hs]
    have h := ih (j + 1) (stepR r s kids[j]) (by omega) hs2
    refine Ev.step (f := fun k => (spec_l11Room.f k kids[j].f0 kids[j].f1 kids[j].f2).bind fun bt259 => (spec_l11Up.f s.1 bt259.2).bind fun t261 => (if bt259.2 > s.2 then (spec_l11Room.l0 k (wrap64 (t261 + bt259.1)) bt259.2 kids (kids.length : Int) ((j + 1 : Nat) : Int)) else (spec_l11Room.l0 k (wrap64 (t261 + bt259.1)) s.2 kids (kids.length : Int) ((j + 1 : Nat) : Int)))) (fun k => ?_) (Ev.bind he ?_)
    · simp only [spec_l11Room.l0]
      rw [if_pos (show (j : Int) < (kids.length : Int) by omega), if_pos (show (0 : Int) ≤ (j : Int) by omega), if_pos (show (j : Int) < (kids.length : Int) by omega), rd52_at kids j hlt, w64 (n := (j : Int) + 1) (by omega) (by omega)]
      rfl
    · refine Ev.congr (fun k => ?_) h
      rw [up_ok _ _ hp, Option.bind_some]
      simp only [stepR, mx]
      by_cases c : s.2 < (r kids[j]).2
      · rw [if_pos c, if_pos c]
      · rw [if_neg c, if_neg c]
theorem room_l1 (kids : List S52) (hk : kids.length ≤ 100) (r : S52 → Int × Int) (hr : ∀ x ∈ kids, Ev (fun k => spec_l11Room.f k x.f0 x.f1 x.f2) (r x)) (d : Nat) : ∀ (j : Nat) (s : Int × Int), j + d = kids.length → s = (kids.take j).foldl (stepC r) (0, 1) →
    Ev (fun k => spec_l11Room.l1 k s.1 s.2 kids (kids.length : Int) (j : Int)) (upT (wrap64 (upT 1 (kids.foldl (stepC r) (0, 1)).2 + (kids.foldl (stepC r) (0, 1)).1)) (kids.foldl (stepC r) (0, 1)).2, (kids.foldl (stepC r) (0, 1)).2) := by
  induction d with
  | zero =>
    intro j s hj hs
    obtain rfl : j = kids.length := by omega
    rw [List.take_length] at hs
    have hp := foldC_pos r kids (0, 1) (by decide)
    rw [← hs] at hp ⊢
    refine Ev.step (f := fun _ => some (upT (wrap64 (upT 1 s.2 + s.1)) s.2, s.2)) (fun k => ?_) (Ev.now _)
    simp only [spec_l11Room.l1]
    rw [if_neg (by omega), up_ok _ _ hp, Option.bind_some, up_ok _ _ hp]
    rfl
  | succ d ih =>
    intro j s hj hs
    have hlt : j < kids.length := by omega
    have he := hr kids[j] (List.getElem_mem hlt)
    have hs2 : stepC r s kids[j] = (kids.take (j + 1)).foldl (stepC r) (0, 1) := by rw [fold_take (stepC r) (0, 1) kids j hlt, ← hs]
    have h := ih (j + 1) (stepC r s kids[j]) (by omega) hs2
    refine Ev.step (f := fun k => (spec_l11Room.f k kids[j].f0 kids[j].f1 kids[j].f2).bind fun bt269 => (if bt269.1 > s.1 then (if bt269.2 > s.2 then (spec_l11Room.l1 k bt269.1 bt269.2 kids (kids.length : Int) ((j + 1 : Nat) : Int)) else (spec_l11Room.l1 k bt269.1 s.2 kids (kids.length : Int) ((j + 1 : Nat) : Int))) else (if bt269.2 > s.2 then (spec_l11Room.l1 k s.1 bt269.2 kids (kids.length : Int) ((j + 1 : Nat) : Int)) else (spec_l11Room.l1 k s.1 s.2 kids (kids.length : Int) ((j + 1 : Nat) : Int))))) (fun k => ?_) (Ev.bind he ?_)
    · simp only [spec_l11Room.l1]
      rw [if_pos (show (j : Int) < (kids.length : Int) by omega), if_pos (show (0 : Int) ≤ (j : Int) by omega), if_pos (show (j : Int) < (kids.length : Int) by omega), rd52_at kids j hlt, w64 (n := (j : Int) + 1) (by omega) (by omega)]
      rfl
    · refine Ev.congr (fun k => ?_) h
      simp only [stepC, mx]
      by_cases c : s.1 < (r kids[j]).1
      · rw [if_pos c, if_pos c]
        by_cases c2 : s.2 < (r kids[j]).2
        · rw [if_pos c2, if_pos c2]
        · rw [if_neg c2, if_neg c2]
      · rw [if_neg c, if_neg c]
        by_cases c2 : s.2 < (r kids[j]).2
        · rw [if_pos c2, if_pos c2]
        · rw [if_neg c2, if_neg c2]
/-- The empty part counts for nothing. -/
def rE (r : S52 → Int × Int) (t : S52) : Int × Int := if t.f0 = 0 then (0, 1) else r t
def e52 : S52 := ⟨0, 0, []⟩
theorem room_e : Ev (fun k => spec_l11Room.f k 0 0 []) (0, 1) := Ev.step (f := fun _ => some (0, 1)) (fun k => by simp only [spec_l11Room.f, if_true]) (Ev.now _)
theorem foldl_same {α β : Type} (f g : β → α → β) : ∀ (xs : List α) (s : β), (∀ x ∈ xs, ∀ s, f s x = g s x) → xs.foldl f s = xs.foldl g s
  | [], _, _ => rfl
  | x :: xs, s, h => by
    rw [List.foldl_cons, List.foldl_cons, h x List.mem_cons_self]
    exact foldl_same f g xs _ (fun y hy => h y (List.mem_cons_of_mem _ hy))
theorem cases_ok (x n : Int) (kids : List S52) (hk : kids.length ≤ 100) : spec_l11Cases.f x n kids = some (if x = 17 then e52 :: kids else kids) := by
  unfold spec_l11Cases.f
  by_cases c : x = 17
  · rw [if_pos c, if_pos c, Option.bind_some, if_pos (by simp; omega)]
    rfl
  · rw [if_neg c, if_neg c]
theorem NZ.ne {m : Nat} {t : S52} (h : NZ m t) : t.f0 ≠ 0 := by cases m <;> exact h.1
theorem room_spec (m : Nat) : ∀ t : S52, NZ m t → Ev (fun k => spec_l11Room.f k t.f0 t.f1 t.f2) (roomT (m + 1) t) := by
  have main : ∀ (m : Nat) (t : S52), t.f0 ≠ 0 → t.f2.length ≤ 8 → (∀ x ∈ t.f2, x.f0 ≠ 0 ∧ Ev (fun k => spec_l11Room.f k x.f0 x.f1 x.f2) (roomT m x)) → Ev (fun k => spec_l11Room.f k t.f0 t.f1 t.f2) (roomT (m + 1) t) := by
    intro m t h0 hl hx
    have shift : ∀ {g : Nat → Option (Int × Int)} {r : Int × Int}, Ev (fun k => g (k + 6)) r → Ev g r := by
      rintro g r ⟨K, h⟩
      refine ⟨K + 6, fun k hk => ?_⟩
      have := h (k - 6) (by omega)
      simp only at this
      rwa [show k - 6 + 6 = k by omega] at this
    refine shift (Ev.congr (fun k => room_case t.f0 t.f1 t.f2 h0 k) ?_)
    have late : ∀ {g : Nat → Option (Int × Int)} {r : Int × Int}, Ev g r → Ev (fun k => g (k + 1)) r := by
      rintro g r ⟨K, h⟩
      exact ⟨K, fun k hk => h (k + 1) (by omega)⟩
    unfold roomT
    by_cases c : t.f0 = 14
    · rw [if_pos c]
      refine Ev.congr (fun k => if_pos c) ?_
      exact late (room_l0 t.f2 (by omega) (roomT m) (fun x hxx => ⟨room_pos m x, (hx x hxx).2⟩) t.f2.length 0 (0, 1) (by omega) rfl)
    · rw [if_neg c]
      refine Ev.congr (fun k => if_neg c) ?_
      by_cases c2 : chosenB t.f0 = true
      · rw [if_pos c2]
        refine Ev.congr (fun k => if_pos c2) ?_
        refine late (g := fun k => spec_l11Room.j5 k true t.f0 t.f1 t.f2) (Ev.step (f := fun k => spec_l11Room.l1 k 0 1 (if t.f0 = 17 then e52 :: t.f2 else t.f2) (((if t.f0 = 17 then e52 :: t.f2 else t.f2).length : Nat) : Int) 0) (fun k => by simp only [spec_l11Room.j5, if_true]; rw [cases_ok _ _ _ (by omega)]; rfl) ?_)
        by_cases c3 : t.f0 = 17
        · simp only [if_pos c3]
          have h := room_l1 (e52 :: t.f2) (by rw [List.length_cons]; omega) (rE (roomT m)) (fun x hxx => by
            rcases List.mem_cons.1 hxx with rfl | hxx
            · exact room_e
            · rw [rE, if_neg (hx x hxx).1]; exact (hx x hxx).2) (e52 :: t.f2).length 0 (0, 1) (by omega) rfl
          have e : (e52 :: t.f2).foldl (stepC (rE (roomT m))) (0, 1) = t.f2.foldl (stepC (roomT m)) (0, 1) := by
            rw [List.foldl_cons]
            have e0 : rE (roomT m) e52 = (0, 1) := by rw [rE, if_pos (show e52.f0 = 0 from rfl)]
            have e1 : stepC (rE (roomT m)) (0, 1) e52 = (0, 1) := by rw [stepC, e0]; decide
            rw [e1]
            exact foldl_same _ _ _ _ (fun x hxx s => by rw [stepC, stepC, rE, if_neg (hx x hxx).1])
          rw [e] at h
          exact h
        · simp only [if_neg c3]
          exact room_l1 t.f2 (by omega) (roomT m) (fun x hxx => (hx x hxx).2) t.f2.length 0 (0, 1) (by omega) rfl
      · rw [if_neg c2]
        exact Ev.congr (fun k => if_neg c2) (Ev.now _)
  induction m with
  | zero => intro t h; exact main 0 t h.1 (by rw [h.2]; simp) (fun x hx => by rw [h.2] at hx; cases hx)
  | succ m ih => intro t h; exact main (m + 1) t h.1 h.2.1 (fun x hx => ⟨(h.2.2 x hx).ne, ih x (h.2.2 x hx)⟩)
end Go.Proofs.Ytlgegdgilkaldaa.Ty
