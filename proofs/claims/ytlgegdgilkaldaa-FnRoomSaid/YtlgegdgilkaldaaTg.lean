/- Trees of good types: their room is a multiple of their side, and their parts lie in it in order. -/
import Derived.Test.YtlgegdgilkaldaaTk
import Derived.Test.YtlgegdgilkaldaaQx9
import Derived.Test.YtlgegdgilkaldaaQx17
import Derived.Test.YtlgegdgilkaldaaQx7
namespace Go.Proofs.Ytlgegdgilkaldaa.Ty
open Go.RowKit Go.Proofs.Ytlgegdgilkaldaa.Q Go.Proofs.YtlgegdgilkaldaaW.PrintWords Go.Proofs.YtlgegdgilkaldaaW.PrintLast Go.Proofs.YtlgegdgilkaldaaW.PrintMore Go.Proofs.Ytlgegdgilkaldaa.Mb
set_option linter.unusedSimpArgs false
set_option linter.unusedVariables false
set_option linter.unusedSectionVars false

/-- A tree of good nodes. -/
def GT : Nat → S52 → Prop
  | 0, t => ok t.f0 t.f1 (t.f2.length : Int) = true ∧ t.f2 = []
  | m + 1, t => ok t.f0 t.f1 (t.f2.length : Int) = true ∧ ∀ x ∈ t.f2, GT m x
theorem GT.ok {m : Nat} {t : S52} (h : GT m t) : ok t.f0 t.f1 (t.f2.length : Int) = true := by cases m <;> exact h.1
theorem tr_gt (l : List S46) (hg : good l = true) (m : Nat) : ∀ i : Nat, i < l.length → 8 ≤ deep l i + m → GT m (tr l m (i : Int)) := by
  induction m with
  | zero =>
    intro i hi hd
    have h := (good_node l hg i hi).2
    rw [no_parts l hg i hi (by omega)] at h
    rw [tr, Int.toNat_natCast]
    exact ⟨h, rfl⟩
  | succ m ih =>
    intro i hi hd
    have h := (good_node l hg i hi).2
    rw [tr, Int.toNat_natCast]
    refine ⟨by show Ty.ok (K l i) (Nn l i) (((pre l l.length i).map (tr l m)).length : Int) = true; rw [List.length_map]; exact h, fun x hx => ?_⟩
    obtain ⟨y, hy, rfl⟩ := List.mem_map.1 hx
    obtain ⟨j, rfl, h1, h2, h3⟩ := part_at l hg i y hy
    exact ih j h2 (by omega)
theorem tree_gt (l : List S46) (hg : good l = true) : GT 8 (tree l) := tr_gt l hg 8 0 (by have := good_len l hg; omega) (by omega)

/-- How many parts a kind may have. -/
theorem sh_parts : ∀ x : Fin 22, (x.val = 14 ∨ x.val = 15 ∨ x.val = 17 ∨ x.val = 18 → 1 ≤ (sh ((x.val : Nat) : Int)).1) := by decide +kernel
theorem ok_parts {x n c : Int} (h : ok x n c = true) (hx : x = 14 ∨ chosenB x = true) : 1 ≤ c := by
  have h2 := of_decide_eq_true h
  obtain ⟨y, rfl⟩ := Int.eq_ofNat_of_zero_le (show 0 ≤ x by omega)
  have := sh_parts ⟨y, by omega⟩
  simp only at this
  unfold chosenB at hx
  simp only [Bool.or_eq_true, beq_iff_eq] at hx
  have := this (by omega)
  omega

theorem up_ok2 (a b : Int) (h0 : 0 ≤ a) (h1 : a ≤ 1000000000000000000) (hb : b = 1 ∨ b = 2 ∨ b = 4 ∨ b = 8) : upT a b % b = 0 ∧ a ≤ upT a b ∧ upT a b < a + b := by
  unfold upT
  rw [w64 (n := a + b) (by omega) (by omega), w64 (n := a + b - 1) (by omega) (by omega), Int.tdiv_eq_ediv_of_nonneg (by omega)]
  rcases hb with rfl | rfl | rfl | rfl
  · rw [w64 (n := (a + 1 - 1) / 1) (by omega) (by omega), w64 (by omega) (by omega)]; omega
  · rw [w64 (n := (a + 2 - 1) / 2) (by omega) (by omega), w64 (by omega) (by omega)]; omega
  · rw [w64 (n := (a + 4 - 1) / 4) (by omega) (by omega), w64 (by omega) (by omega)]; omega
  · rw [w64 (n := (a + 8 - 1) / 8) (by omega) (by omega), w64 (by omega) (by omega)]; omega

/-- A side. -/
def Side (a : Int) : Prop := a = 1 ∨ a = 2 ∨ a = 4 ∨ a = 8
/-- A room and a side. -/
def Sane (B : Nat) (p : Int × Int) : Prop := Side p.2 ∧ p.1 % p.2 = 0 ∧ 1 ≤ p.1 ∧ p.1 ≤ (B : Int)
def bnd : Nat → Nat
  | 0 => 8
  | m + 1 => 8 * bnd m + 72
theorem sane_ite {c : Prop} [Decidable c] {B : Nat} {p q : Int × Int} (hp : Sane B p) (hq : Sane B q) : Sane B (if c then p else q) := by
  by_cases h : c
  · rw [if_pos h]; exact hp
  · rw [if_neg h]; exact hq
theorem width_sane (k n : Int) : Sane 8 (widthT k n) := by
  have w1 : Sane 8 (1, 1) := ⟨.inl rfl, rfl, by decide, by decide⟩
  have w2 : Sane 8 (2, 2) := ⟨.inr (.inl rfl), rfl, by decide, by decide⟩
  have w4 : Sane 8 (4, 4) := ⟨.inr (.inr (.inl rfl)), rfl, by decide, by decide⟩
  have w8 : Sane 8 (8, 8) := ⟨.inr (.inr (.inr rfl)), rfl, by decide, by decide⟩
  have w84 : Sane 8 (8, 4) := ⟨.inr (.inr (.inl rfl)), rfl, by decide, by decide⟩
  unfold widthT
  exact sane_ite w1 (sane_ite w1 (sane_ite w1 (sane_ite w2 (sane_ite w2 (sane_ite w8 (sane_ite w8 (sane_ite w84 (sane_ite w84 (sane_ite (sane_ite w1 (sane_ite w2 w4)) (sane_ite (sane_ite w1 w2) w4))))))))))
theorem mx_side {a b : Int} (ha : Side a) (hb : Side b) : Side (mx a b) := by
  unfold mx
  split
  · exact hb
  · exact ha
theorem mx_le (a b : Int) : b ≤ mx a b := by unfold mx; split <;> omega
theorem mx_bd {a b c : Int} (ha : a ≤ c) (hb : b ≤ c) : mx a b ≤ c := by unfold mx; split <;> omega
/-- A record's parts, one behind the other. -/
theorem stepR_ok (r : S52 → Int × Int) (B : Nat) (hB : (B : Int) ≤ 100000000000000) (kids : List S52) (hk : ∀ x ∈ kids, Sane B (r x)) (hl : kids.length ≤ 8) : ∀ j : Nat, j ≤ kids.length → Side ((kids.take j).foldl (stepR r) (0, 1)).2 ∧ 0 ≤ ((kids.take j).foldl (stepR r) (0, 1)).1 ∧ ((kids.take j).foldl (stepR r) (0, 1)).1 ≤ (j : Int) * (B + 8) ∧ (1 ≤ j → 1 ≤ ((kids.take j).foldl (stepR r) (0, 1)).1) ∧ ((kids.take j).foldl (stepR r) (0, 1)).1 = (kids.take j).foldl (stepA r) 0 := by
  intro j
  induction j with
  | zero => intro _; exact ⟨.inl rfl, Int.le_refl _, by simp, fun h => by omega, rfl⟩
  | succ j ih =>
    intro hj
    obtain ⟨h1, h2, h3, h4, h5⟩ := ih (by omega)
    have hlt : j < kids.length := by omega
    rw [fold_take (stepR r) (0, 1) kids j hlt, fold_take (stepA r) 0 kids j hlt, ← h5]
    obtain ⟨k1, k2, k3, k4⟩ := hk kids[j] (List.getElem_mem hlt)
    generalize (kids.take j).foldl (stepR r) (0, 1) = s at h1 h2 h3 h4
    have e1 : stepR r s kids[j] = (wrap64 (upT s.1 (r kids[j]).2 + (r kids[j]).1), mx s.2 (r kids[j]).2) := rfl
    have e2 : stepA r s.1 kids[j] = wrap64 (upT s.1 (r kids[j]).2 + (r kids[j]).1) := rfl
    rw [e1, e2]
    generalize r kids[j] = p at k1 k2 k3 k4
    have hm : (j : Int) * (B + 8) ≤ 8 * (B + 8) := Int.mul_le_mul_of_nonneg_right (by omega) (by omega)
    obtain ⟨u1, u2, u3⟩ := up_ok2 s.1 p.2 h2 (by omega) k1
    have hp8 : p.2 ≤ 8 := by rcases k1 with h | h | h | h <;> omega
    have e : ((j + 1 : Nat) : Int) * (B + 8) = (j : Int) * (B + 8) + (B + 8) := by rw [show ((j + 1 : Nat) : Int) = (j : Int) + 1 by omega, Int.add_mul, Int.one_mul]
    rw [e, w64 (n := upT s.1 p.2 + p.1) (by omega) (by omega)]
    exact ⟨mx_side h1 k1, by show 0 ≤ upT s.1 p.2 + p.1; omega, by show upT s.1 p.2 + p.1 ≤ _; omega, fun _ => by show 1 ≤ upT s.1 p.2 + p.1; omega, rfl⟩
/-- The widest of the parts. -/
theorem stepC_ok (r : S52 → Int × Int) (B : Nat) : ∀ (kids : List S52) (s : Int × Int), (∀ x ∈ kids, Sane B (r x)) → Side s.2 → 0 ≤ s.1 → s.1 ≤ (B : Int) → Side (kids.foldl (stepC r) s).2 ∧ s.1 ≤ (kids.foldl (stepC r) s).1 ∧ (kids.foldl (stepC r) s).1 ≤ (B : Int) ∧ (kids ≠ [] → 1 ≤ (kids.foldl (stepC r) s).1)
  | [], s, _, h1, h2, h3 => ⟨h1, Int.le_refl _, h3, fun h => absurd rfl h⟩
  | x :: kids, s, hk, h1, h2, h3 => by
    obtain ⟨k1, k2, k3, k4⟩ := hk x List.mem_cons_self
    have m1 := mx_left s.1 (r x).1
    have m2 := mx_le s.1 (r x).1
    have m3 : mx s.1 (r x).1 ≤ (B : Int) := mx_bd h3 k4
    have h := stepC_ok r B kids (stepC r s x) (fun y hy => hk y (List.mem_cons_of_mem _ hy)) (mx_side h1 k1) (by show 0 ≤ mx s.1 (r x).1; omega) m3
    rw [List.foldl_cons]
    have e : (stepC r s x).1 = mx s.1 (r x).1 := rfl
    rw [e] at h
    exact ⟨h.1, by omega, h.2.2.1, fun _ => by omega⟩
theorem bnd_le : ∀ m, m ≤ 9 → bnd m ≤ 100000000000 := by decide +kernel
theorem room_sane (m : Nat) : m ≤ 9 → ∀ t : S52, GT m t → Sane (bnd m) (roomT (m + 1) t) := by
  have wide : ∀ (m : Nat) (p : Int × Int), Sane 8 p → Sane (bnd m) p := by
    intro m p ⟨h1, h2, h3, h4⟩
    have : 8 ≤ bnd m := by cases m <;> simp [bnd]
    exact ⟨h1, h2, h3, by omega⟩
  induction m with
  | zero =>
    intro _ t h
    have hp := ok_parts h.1
    rw [h.2] at hp
    unfold roomT
    rw [if_neg (fun c => by have := hp (.inl c); simp at this), if_neg (fun c => by have := hp (.inr c); simp at this)]
    exact wide 0 _ (width_sane _ _)
  | succ m ih =>
    intro hm t h
    have hp := ok_parts h.1
    have hl : t.f2.length ≤ 8 := by have := (ok_few h.1).1; omega
    have hk : ∀ x ∈ t.f2, Sane (bnd m) (roomT (m + 1) x) := fun x hx => ih (by omega) x (h.2 x hx)
    have hb := bnd_le m (by omega)
    have eb : bnd (m + 1) = 8 * bnd m + 72 := rfl
    unfold roomT
    by_cases c : t.f0 = 14
    · rw [if_pos c]
      have hs := stepR_ok (roomT (m + 1)) (bnd m) (by omega) t.f2 hk hl t.f2.length (Nat.le_refl _)
      rw [List.take_length] at hs
      obtain ⟨h1, h2, h3, h4, _⟩ := hs
      have h5 := h4 (by have := hp (.inl c); omega)
      generalize t.f2.foldl (stepR (roomT (m + 1))) (0, 1) = s at h1 h2 h3 h5
      have hmm : (t.f2.length : Int) * (bnd m + 8) ≤ 8 * (bnd m + 8) := Int.mul_le_mul_of_nonneg_right (by omega) (by omega)
      obtain ⟨u1, u2, u3⟩ := up_ok2 s.1 s.2 h2 (by omega) h1
      have hp8 : s.2 ≤ 8 := by rcases h1 with h | h | h | h <;> omega
      exact ⟨h1, u1, by show 1 ≤ upT s.1 s.2; omega, by show upT s.1 s.2 ≤ _; omega⟩
    · rw [if_neg c]
      by_cases c2 : chosenB t.f0 = true
      · rw [if_pos c2]
        obtain ⟨h1, h2, h3, h4⟩ := stepC_ok (roomT (m + 1)) (bnd m) t.f2 (0, 1) hk (.inl rfl) (Int.le_refl _) (by omega)
        generalize t.f2.foldl (stepC (roomT (m + 1))) (0, 1) = s at h1 h2 h3 h4
        have h2 : 0 ≤ s.1 := h2
        have hp8 : s.2 ≤ 8 ∧ 1 ≤ s.2 := by rcases h1 with h | h | h | h <;> omega
        obtain ⟨u1, u2, u3⟩ := up_ok2 1 s.2 (by decide) (by decide) h1
        have e : wrap64 (upT 1 s.2 + s.1) = upT 1 s.2 + s.1 := w64 (by omega) (by omega)
        rw [e]
        obtain ⟨v1, v2, v3⟩ := up_ok2 (upT 1 s.2 + s.1) s.2 (by omega) (by omega) h1
        exact ⟨h1, v1, by show 1 ≤ upT (upT 1 s.2 + s.1) s.2; omega, by show upT (upT 1 s.2 + s.1) s.2 ≤ _; omega⟩
      · rw [if_neg c2]
        exact wide _ _ (width_sane _ _)
/-- What the law asks of the places: all within the room, a record's one behind the other. -/
def Line (n : Int) (rec : Bool) : Int → List Int → Prop
  | _, [] => True
  | a, p :: l => 0 ≤ p ∧ p < n ∧ (rec = true → a ≤ p) ∧ Line n rec (p + 1) l
theorem line_range (n : Int) (rec : Bool) (f : Nat → Int) (d : Nat) : ∀ (i : Nat) (a : Int), (∀ j, i ≤ j → j < i + d → 0 ≤ f j ∧ f j < n) → (rec = true → d ≠ 0 → a ≤ f i) → (rec = true → ∀ j, i ≤ j → j + 1 < i + d → f j + 1 ≤ f (j + 1)) → Line n rec a ((List.range' i d).map f) := by
  induction d with
  | zero => intro i a _ _ _; exact trivial
  | succ d ih =>
    intro i a h1 h2 h3
    rw [List.range'_succ, List.map_cons]
    have := h1 i (by omega) (by omega)
    refine ⟨this.1, this.2, fun hr => h2 hr (by omega), ih (i + 1) (f i + 1) (fun j hj1 hj2 => h1 j (by omega) (by omega)) (fun hr hd => h3 hr i (by omega) (by omega)) (fun hr j hj1 hj2 => h3 hr j (by omega) (by omega))⟩
theorem places_line (m : Nat) (hm : m ≤ 8) (t : S52) (h : GT (m + 1) t) (hc : t.f0 = 14 ∨ chosenB t.f0 = true) : Line (roomT (m + 2) t).1 (t.f0 == 14) 0 (placesT (m + 1) t) := by
  have hp := ok_parts h.1
  have hl : t.f2.length ≤ 8 := by have := (ok_few h.1).1; omega
  have hk : ∀ x ∈ t.f2, Sane (bnd m) (roomT (m + 1) x) := fun x hx => room_sane m (by omega) x (h.2 x hx)
  have hb := bnd_le m (by omega)
  unfold placesT
  by_cases c2 : chosenB t.f0 = true
  · have c : ¬ t.f0 = 14 := by intro c; rw [c] at c2; cases c2
    rw [if_pos c2, beq_eq_false_iff_ne.2 c, List.range_eq_range']
    have e : roomT (m + 2) t = (upT (wrap64 (upT 1 (t.f2.foldl (stepC (roomT (m + 1))) (0, 1)).2 + (t.f2.foldl (stepC (roomT (m + 1))) (0, 1)).1)) (t.f2.foldl (stepC (roomT (m + 1))) (0, 1)).2, (t.f2.foldl (stepC (roomT (m + 1))) (0, 1)).2) := by rw [roomT, if_neg c, if_pos c2]
    rw [e]
    obtain ⟨h1, h2, h3, h4⟩ := stepC_ok (roomT (m + 1)) (bnd m) t.f2 (0, 1) hk (.inl rfl) (Int.le_refl _) (by omega)
    have h4 := h4 (fun e => by have := hp hc; rw [e] at this; simp at this)
    generalize t.f2.foldl (stepC (roomT (m + 1))) (0, 1) = s at h1 h2 h3 h4
    have h2 : 0 ≤ s.1 := h2
    have hp8 : s.2 ≤ 8 ∧ 1 ≤ s.2 := by rcases h1 with h | h | h | h <;> omega
    obtain ⟨u1, u2, u3⟩ := up_ok2 1 s.2 (by decide) (by decide) h1
    have e2 : wrap64 (upT 1 s.2 + s.1) = upT 1 s.2 + s.1 := w64 (by omega) (by omega)
    rw [e2]
    obtain ⟨v1, v2, v3⟩ := up_ok2 (upT 1 s.2 + s.1) s.2 (by omega) (by omega) h1
    refine line_range _ _ _ _ _ _ (fun j _ _ => ?_) (fun hr => by cases hr) (fun hr => by cases hr)
    show 0 ≤ upT 1 s.2 ∧ upT 1 s.2 < upT (upT 1 s.2 + s.1) s.2
    omega
  · have c : t.f0 = 14 := hc.elim id (fun h => absurd h c2)
    rw [if_neg c2, c, List.range_eq_range']
    have e : roomT (m + 2) t = (upT (t.f2.foldl (stepR (roomT (m + 1))) (0, 1)).1 (t.f2.foldl (stepR (roomT (m + 1))) (0, 1)).2, (t.f2.foldl (stepR (roomT (m + 1))) (0, 1)).2) := by rw [roomT, if_pos c]
    rw [e]
    have hs := stepR_ok (roomT (m + 1)) (bnd m) (by omega) t.f2 hk hl
    have at_ : ∀ j (hj : j < t.f2.length), psAt (roomT (m + 1)) t.f2 j = upT ((t.f2.take j).foldl (stepR (roomT (m + 1))) (0, 1)).1 (roomT (m + 1) t.f2[j]).2 := by
      intro j hj
      unfold psAt
      rw [List.getD_eq_getElem?_getD, List.getElem?_eq_getElem hj, (hs j (by omega)).2.2.2.2]
      rfl
    have up1 : ∀ j (hj : j < t.f2.length), 0 ≤ psAt (roomT (m + 1)) t.f2 j ∧ psAt (roomT (m + 1)) t.f2 j + 1 ≤ ((t.f2.take (j + 1)).foldl (stepR (roomT (m + 1))) (0, 1)).1 := by
      intro j hj
      rw [at_ j hj, fold_take (stepR (roomT (m + 1))) (0, 1) t.f2 j hj]
      obtain ⟨h1, h2, h3, h4, _⟩ := hs j (by omega)
      obtain ⟨k1, k2, k3, k4⟩ := hk t.f2[j] (List.getElem_mem hj)
      generalize (t.f2.take j).foldl (stepR (roomT (m + 1))) (0, 1) = s at h1 h2 h3 h4
      have e1 : (stepR (roomT (m + 1)) s t.f2[j]).1 = wrap64 (upT s.1 (roomT (m + 1) t.f2[j]).2 + (roomT (m + 1) t.f2[j]).1) := rfl
      rw [e1]
      generalize roomT (m + 1) t.f2[j] = p at k1 k2 k3 k4
      have hmm : (j : Int) * (bnd m + 8) ≤ 8 * (bnd m + 8) := Int.mul_le_mul_of_nonneg_right (by omega) (by omega)
      obtain ⟨u1, u2, u3⟩ := up_ok2 s.1 p.2 h2 (by omega) k1
      have hp8 : p.2 ≤ 8 := by rcases k1 with h | h | h | h <;> omega
      rw [w64 (n := upT s.1 p.2 + p.1) (by omega) (by omega)]
      omega
    have mono : ∀ j d, j + d ≤ t.f2.length → ((t.f2.take j).foldl (stepR (roomT (m + 1))) (0, 1)).1 ≤ ((t.f2.take (j + d)).foldl (stepR (roomT (m + 1))) (0, 1)).1 := by
      intro j d
      induction d with
      | zero => intro _; exact Int.le_refl _
      | succ d ihd =>
        intro hd
        have h1 := ihd (by omega)
        have h2 := (up1 (j + d) (by omega)).2
        have h3 : ((t.f2.take (j + d)).foldl (stepR (roomT (m + 1))) (0, 1)).1 ≤ psAt (roomT (m + 1)) t.f2 (j + d) := by
          rw [at_ (j + d) (by omega)]
          obtain ⟨q1, q2, q3, _⟩ := hs (j + d) (by omega)
          have hmm : ((j + d : Nat) : Int) * (bnd m + 8) ≤ 8 * (bnd m + 8) := Int.mul_le_mul_of_nonneg_right (by omega) (by omega)
          exact (up_ok2 _ _ q2 (by omega) (hk _ (List.getElem_mem (by omega))).1).2.1
        show _ ≤ ((t.f2.take (j + d + 1)).foldl (stepR (roomT (m + 1))) (0, 1)).1
        omega
    have last : ∀ j, j < t.f2.length → psAt (roomT (m + 1)) t.f2 j + 1 ≤ (t.f2.foldl (stepR (roomT (m + 1))) (0, 1)).1 := by
      intro j hj
      have h1 := (up1 j hj).2
      have h2 := mono (j + 1) (t.f2.length - (j + 1)) (by omega)
      rw [show j + 1 + (t.f2.length - (j + 1)) = t.f2.length by omega, List.take_length] at h2
      omega
    have hsl := hs t.f2.length (Nat.le_refl _)
    rw [List.take_length] at hsl
    obtain ⟨h1, h2, h3, _⟩ := hsl
    have hmm : (t.f2.length : Int) * (bnd m + 8) ≤ 8 * (bnd m + 8) := Int.mul_le_mul_of_nonneg_right (by omega) (by omega)
    have hu := (up_ok2 _ _ h2 (by omega) h1).2.1
    refine line_range _ _ _ _ _ _ (fun j _ hj => ⟨(up1 j (by omega)).1, ?_⟩) (fun _ hd => (up1 0 (by omega)).1) (fun _ j _ hj => ?_)
    · have := last j (by omega)
      show _ < upT _ _
      omega
    · have h1 := (up1 j (by omega)).2
      have h3 : ((t.f2.take (j + 1)).foldl (stepR (roomT (m + 1))) (0, 1)).1 ≤ psAt (roomT (m + 1)) t.f2 (j + 1) := by
        rw [at_ (j + 1) (by omega)]
        obtain ⟨q1, q2, q3, _⟩ := hs (j + 1) (by omega)
        have hmm : ((j + 1 : Nat) : Int) * (bnd m + 8) ≤ 8 * (bnd m + 8) := Int.mul_le_mul_of_nonneg_right (by omega) (by omega)
        exact (up_ok2 _ _ q2 (by omega) (hk _ (List.getElem_mem (by omega))).1).2.1
      omega
/-- Core types there are. -/
theorem mergeI_grow (s : List Int) (i : Nat) (k : Int) : s.length ≤ (mergeI s i k).length := by
  unfold mergeI
  split
  · rw [List.length_set]; exact Nat.le_refl _
  · rw [List.length_append]; omega
theorem mergeN_grow (s l : List Int) : ∀ j, s.length ≤ (mergeN s l j).length
  | 0 => Nat.le_refl _
  | j + 1 => Nat.le_trans (mergeN_grow s l j) (mergeI_grow _ _ _)
theorem fold_grow (f : S52 → List Int) : ∀ (l : List S52) (s : List Int), s.length ≤ (l.foldl (fun s p => mergeA s (f p)) s).length
  | [], s => Nat.le_refl _
  | x :: l, s => Nat.le_trans (mergeN_grow s (f x) _) (fold_grow f l _)
theorem cat_grow (f : S52 → List Int) : ∀ (l : List S52) (s : List Int), s.length ≤ (l.foldl (fun s p => s ++ f p) s).length
  | [], s => Nat.le_refl _
  | x :: l, s => Nat.le_trans (by rw [List.length_append]; omega) (cat_grow f l (s ++ f x))
theorem flat_some (m : Nat) : ∀ t : S52, GT m t → 1 ≤ (flatT (m + 1) t).length := by
  have main : ∀ (m : Nat) (t : S52), ok t.f0 t.f1 (t.f2.length : Int) = true → (∀ x ∈ t.f2, 1 ≤ (flatT m x).length) → 1 ≤ (flatT (m + 1) t).length := by
    intro m t h hx
    unfold flatT
    by_cases c : t.f0 = 14
    · rw [if_pos c]
      have hp := ok_parts h (.inl c)
      cases e : t.f2 with
      | nil => rw [e] at hp; simp at hp
      | cons x xs =>
        rw [List.foldl_cons]
        have h1 := hx x (by rw [e]; exact List.mem_cons_self)
        exact Nat.le_trans (by simpa using h1) (cat_grow _ xs _)
    · rw [if_neg c]
      by_cases c2 : chosenB t.f0 = true
      · rw [if_pos c2]
        exact Nat.le_trans (by simp) (fold_grow _ t.f2 [127])
      · rw [if_neg c2]
        repeat' split
        all_goals simp
  induction m with
  | zero => intro t h; exact main 0 t h.1 (fun x hx => by rw [h.2] at hx; cases hx)
  | succ m ih => intro t h; exact main (m + 1) t h.1 (fun x hx => ih x (h.2 x hx))
end Go.Proofs.Ytlgegdgilkaldaa.Ty
