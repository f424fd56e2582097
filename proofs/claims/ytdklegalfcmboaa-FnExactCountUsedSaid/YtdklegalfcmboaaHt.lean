/- Rows of handles and of numbers that a statement copies and compares; which tables of handles are good. -/
import Derived.Test.YtdklegalfcmboaaMb
import Derived.Test.YtdklegalfcmboaaQx1
import Derived.Test.YtdklegalfcmboaaQx2
namespace Go.Proofs.Ytdklegalfcmboaa.Ht
open Go.RowKit Go.Proofs.Ytdklegalfcmboaa.Q Go.Proofs.YtdklegalfcmboaaW.PrintWords Go.Proofs.YtdklegalfcmboaaW.PrintLast Go.Proofs.YtdklegalfcmboaaW.PrintMore Go.Proofs.Ytdklegalfcmboaa.Mb
set_option linter.unusedSimpArgs false
set_option linter.unusedVariables false

def cv (x : S85) : S54 := ⟨x.f0, x.f1, x.f2, x.f3, x.f4, x.f5⟩
theorem sz_ok (l : List S85) (m : List Int) (h : l.length ≤ maxLen) (hm : m.length ≤ maxLen) : (∃ x, laws_szTable.f l m 1048576 = some x ∧ x < 0) ∨ (l.length ≤ 1048576 ∧ m.length ≤ 1048576 ∧ ∃ x, laws_szTable.f l m 1048576 = some x ∧ 0 ≤ x) := by
  have h1 : l.length ≤ 9223372036854775807 := h
  have h2 : m.length ≤ 9223372036854775807 := hm
  unfold laws_szTable.f laws_szHandleS.f
  rw [w64 (n := 1048576 - (l.length : Int)) (by omega) (by omega)]
  by_cases c : (1048576 : Int) - (l.length : Int) < 0
  · rw [if_pos c]; exact .inl ⟨-1, rfl, by decide⟩
  · rw [if_neg c, Option.bind_some, if_neg c]
    unfold laws_szIntS.f
    rw [w64 (n := 1048576 - (l.length : Int) - (m.length : Int)) (by omega) (by omega)]
    by_cases c2 : (1048576 : Int) - (l.length : Int) - (m.length : Int) < 0
    · rw [if_pos c2]; exact .inl ⟨-1, rfl, by decide⟩
    · rw [if_neg c2, Option.bind_some, if_neg c2]
      exact .inr ⟨by omega, by omega, _, rfl, by omega⟩
theorem rdT (l : List S85) (j : Nat) (hlt : j < l.length) : rd_T85 l (j : Int) = l[j] := by
  unfold rd_T85
  rw [Int.toNat_natCast, List.getD_eq_getElem?_getD, List.getElem?_eq_getElem hlt]
  rfl
theorem rdI (l : List Int) (j : Nat) (hlt : j < l.length) : rd l (j : Int) = l[j] := by
  unfold rd
  rw [Int.toNat_natCast, List.getD_eq_getElem?_getD, List.getElem?_eq_getElem hlt]
  rfl
theorem toH_l0 (l : List S85) (hl : l.length ≤ 1048576) (d : Nat) : ∀ j : Nat, j + d = l.length → Ev (fun k => laws_toHandleS.l0 k l ((l.map cv).take j ++ List.replicate (l.length - j) z54) (j : Int)) (l.map cv) := by
  induction d with
  | zero =>
    intro j hj
    obtain rfl : j = l.length := by omega
    have e : (l.map cv).take l.length ++ List.replicate (l.length - l.length) z54 = l.map cv := by
      rw [Nat.sub_self, List.replicate_zero, List.append_nil, List.take_of_length_le (by simp)]
    rw [e]
    refine Ev.step (f := fun _ => some (l.map cv)) (fun k => ?_) (Ev.now _)
    simp only [laws_toHandleS.l0]
    rw [if_neg (by omega)]
  | succ d ih =>
    intro j hj
    have hlt : j < l.length := by omega
    refine Ev.step (fun k => ?_) (ih (j + 1) (by omega))
    simp only [laws_toHandleS.l0, laws_toHandle.f, Option.bind_some]
    have e : ((l.map cv).take j ++ List.replicate (l.length - j) z54).set j (cv (rd_T85 l (j : Int))) = (l.map cv).take (j + 1) ++ List.replicate (l.length - (j + 1)) z54 := by
      have hj2 : j < (l.map cv).length := by simpa using hlt
      have ht : ((l.map cv).take j).length = j := by rw [List.length_take]; omega
      rw [rdT l j hlt, List.set_append, ht, if_neg (by omega), Nat.sub_self, show l.length - j = (l.length - (j + 1)) + 1 by omega, List.replicate_succ, List.set_cons_zero, List.take_succ_eq_append_getElem hj2]
      simp
    rw [cv] at e
    rw [if_pos (show (j : Int) < (l.length : Int) by omega), if_pos (show (0 : Int) ≤ (j : Int) by omega), if_pos (by simp; omega), Int.toNat_natCast, e, w64 (n := (j : Int) + 1) (by omega) (by omega)]
    rfl
theorem toI_l0 (l : List Int) (hl : l.length ≤ 1048576) (d : Nat) : ∀ j : Nat, j + d = l.length → Ev (fun k => laws_toIntS.l0 k l (l.take j ++ List.replicate (l.length - j) 0) (j : Int)) l := by
  induction d with
  | zero =>
    intro j hj
    obtain rfl : j = l.length := by omega
    have e : l.take l.length ++ List.replicate (l.length - l.length) 0 = l := by
      rw [Nat.sub_self, List.replicate_zero, List.append_nil, List.take_of_length_le (by simp)]
    rw [e]
    refine Ev.step (f := fun _ => some l) (fun k => ?_) (Ev.now _)
    simp only [laws_toIntS.l0]
    rw [if_neg (by omega)]
  | succ d ih =>
    intro j hj
    have hlt : j < l.length := by omega
    refine Ev.step (fun k => ?_) (ih (j + 1) (by omega))
    simp only [laws_toIntS.l0]
    have e : (l.take j ++ List.replicate (l.length - j) 0).set j (rd l (j : Int)) = l.take (j + 1) ++ List.replicate (l.length - (j + 1)) 0 := by
      have ht : (l.take j).length = j := by rw [List.length_take]; omega
      rw [rdI l j hlt, List.set_append, ht, if_neg (by omega), Nat.sub_self, show l.length - j = (l.length - (j + 1)) + 1 by omega, List.replicate_succ, List.set_cons_zero, List.take_succ_eq_append_getElem hlt, List.append_assoc]
      rfl
    rw [if_pos (show (j : Int) < (l.length : Int) by omega), if_pos (show (0 : Int) ≤ (j : Int) by omega), if_pos (by simp; omega), Int.toNat_natCast, e, w64 (n := (j : Int) + 1) (by omega) (by omega)]
    rfl
theorem to_ok (l : List S85) (m : List Int) (hl : l.length ≤ 1048576) (hm : m.length ≤ 1048576) : Ev (fun k => laws_toTable.f k l m) (l.map cv, m) := by
  unfold laws_toTable.f
  have h1 : Ev (fun k => laws_toHandleS.f k l) (l.map cv) := by
    refine Ev.congr (fun k => ?_) (toH_l0 l hl l.length 0 (by omega))
    unfold laws_toHandleS.f
    rw [if_pos (by omega), if_pos (by simp; omega), Int.toNat_natCast]
    simp
  have h2 : Ev (fun k => laws_toIntS.f k m) m := by
    refine Ev.congr (fun k => ?_) (toI_l0 m hm m.length 0 (by omega))
    unfold laws_toIntS.f
    rw [if_pos (by omega), if_pos (by simp; omega), Int.toNat_natCast]
    simp
  exact Ev.bind h1 (Ev.bind h2 (Ev.now _))
theorem eqH (x : S54) : laws_eqHandle.f x.f0 x.f1 x.f2 x.f3 x.f4 x.f5 x.f0 x.f1 x.f2 x.f3 x.f4 x.f5 = some true := by
  unfold laws_eqHandle.f
  simp
theorem eqH_l0 (l : List S54) (hl : l.length ≤ 1048576) (d : Nat) : ∀ j : Nat, j + d = l.length → Ev (fun k => laws_eqHandleS.l0 k l l (j : Int)) true := by
  induction d with
  | zero =>
    intro j hj
    refine Ev.step (f := fun _ => some true) (fun k => ?_) (Ev.now _)
    simp only [laws_eqHandleS.l0]
    rw [if_neg (by omega)]
  | succ d ih =>
    intro j hj
    refine Ev.step (fun k => ?_) (ih (j + 1) (by omega))
    simp only [laws_eqHandleS.l0, eqH, Option.bind_some, if_true]
    rw [if_pos (show (j : Int) < (l.length : Int) by omega), if_pos (show (0 : Int) ≤ (j : Int) by omega), if_pos (show (j : Int) < (l.length : Int) by omega), w64 (n := (j : Int) + 1) (by omega) (by omega)]
    rfl
theorem eqI_l0 (l : List Int) (hl : l.length ≤ 1048576) (d : Nat) : ∀ j : Nat, j + d = l.length → Ev (fun k => laws_eqIntS.l0 k l l (j : Int)) true := by
  induction d with
  | zero =>
    intro j hj
    refine Ev.step (f := fun _ => some true) (fun k => ?_) (Ev.now _)
    simp only [laws_eqIntS.l0]
    rw [if_neg (by omega)]
  | succ d ih =>
    intro j hj
    refine Ev.step (fun k => ?_) (ih (j + 1) (by omega))
    simp only [laws_eqIntS.l0, if_true]
    rw [if_pos (show (j : Int) < (l.length : Int) by omega), if_pos (show (0 : Int) ≤ (j : Int) by omega), if_pos (show (j : Int) < (l.length : Int) by omega), w64 (n := (j : Int) + 1) (by omega) (by omega)]
    rfl
theorem eq_ok (l : List S54) (m : List Int) (hl : l.length ≤ 1048576) (hm : m.length ≤ 1048576) : Ev (fun k => laws_eqTable.f k l m l m) true := by
  unfold laws_eqTable.f
  have h1 : Ev (fun k => laws_eqHandleS.f k l l) true := by
    refine Ev.congr (fun k => ?_) (eqH_l0 l hl l.length 0 (by omega))
    unfold laws_eqHandleS.f
    rw [if_pos rfl]; rfl
  have h2 : Ev (fun k => laws_eqIntS.f k m m) true := by
    refine Ev.congr (fun k => ?_) (eqI_l0 m hm m.length 0 (by omega))
    unfold laws_eqIntS.f
    rw [if_pos rfl]; rfl
  refine Ev.bind h1 ?_
  refine Ev.congr (fun k => if_pos rfl) (Ev.bind h2 ?_)
  exact Ev.congr (fun k => if_pos rfl) (Ev.now true)

/-! the reference's loops -/
def aF (P : Nat → Bool) : Nat → Nat → Bool
  | _, 0 => true
  | j, d + 1 => P j && aF P (j + 1) d
theorem aF_iff (P : Nat → Bool) (d : Nat) : ∀ j, aF P j d = true ↔ ∀ i, j ≤ i → i < j + d → P i = true := by
  induction d with
  | zero => intro j; simp only [aF, true_iff]; intro i h1 h2; omega
  | succ d ih =>
    intro j
    rw [aF, Bool.and_eq_true, ih]
    constructor
    · rintro ⟨h0, h⟩ i h1 h2
      rcases Nat.eq_or_lt_of_le h1 with e | e
      · rw [← e]; exact h0
      · exact h i e (by omega)
    · intro h
      exact ⟨h j (Nat.le_refl _) (by omega), fun i h1 h2 => h i (by omega) (by omega)⟩
theorem in_ok (a b c : Int) : spec_l1In.f a b c = some (decide (b ≤ a) && decide (a ≤ c)) := by
  unfold spec_l1In.f
  by_cases h : a ≥ b
  · rw [if_pos h, decide_eq_true h, Bool.true_and]
  · rw [if_neg h, decide_eq_false h, Bool.false_and]
theorem l15_ok (h : S54) : spec_l15Handle.f h.f0 h.f1 h.f2 h.f3 h.f4 h.f5 = some (sSnd h) := by
  obtain ⟨f0, f1, f2, f3, f4, f5⟩ := h
  unfold sSnd impl_Handle_sound.f spec_l15Handle.f
  simp only [in_ok, impl_Handle_sound.j0, Option.bind_some]
  cases f0 with
  | false => rfl
  | true =>
    simp only [if_true]
    by_cases c1 : f1 < 0
    · rw [decide_eq_false (show ¬ (0 : Int) ≤ f1 by omega), if_pos c1]; rfl
    rw [decide_eq_true (show (0 : Int) ≤ f1 by omega), if_neg c1]
    by_cases c2 : f1 > 9
    · rw [decide_eq_false (show ¬ f1 ≤ 9 by omega), if_pos c2]; rfl
    rw [decide_eq_true (show f1 ≤ 9 by omega), if_neg c2]
    by_cases c3 : f2 < 0
    · rw [decide_eq_false (show ¬ (0 : Int) ≤ f2 by omega), if_pos c3]; rfl
    rw [decide_eq_true (show (0 : Int) ≤ f2 by omega), if_neg c3]
    by_cases c4 : f2 > 1000000
    · rw [decide_eq_false (show ¬ f2 ≤ 1000000 by omega), if_pos c4]; rfl
    rw [decide_eq_true (show f2 ≤ 1000000 by omega), if_neg c4]
    by_cases c5 : f4 < 0
    · rw [decide_eq_false (show ¬ (0 : Int) ≤ f4 by omega), if_pos c5]; rfl
    rw [decide_eq_true (show (0 : Int) ≤ f4 by omega), if_neg c5]
    by_cases c6 : f4 > 1000
    · rw [decide_eq_false (show ¬ f4 ≤ 1000 by omega), decide_eq_true c6]; rfl
    rw [decide_eq_true (show f4 ≤ 1000 by omega), decide_eq_false c6]
    simp only [Bool.and_self, if_true, Bool.false_eq_true, if_false]
    cases f3 with
    | true =>
      by_cases c7 : f5 = 0
      · subst c7; rfl
      · simp [c7]
    | false =>
      by_cases c7 : f5 ≥ 1
      · rw [decide_eq_true (show (0 : Int) ≤ f5 by omega), show (f5 == 0) = false from beq_eq_false_iff_ne.2 (by omega)]
        by_cases c8 : f5 ≤ 1000
        · simp [c7, c8]
        · simp [c7, c8]
      · by_cases c9 : 0 ≤ f5
        · obtain rfl : f5 = 0 := by omega
          rfl
        · rw [decide_eq_false c9]; simp [c7]
def sOne (xs : List S54) (j : Nat) : Bool := if (rd_T54 xs (j : Int)).f0 = true then sSnd (rd_T54 xs (j : Int)) else sZero (rd_T54 xs (j : Int))
/-- The places that are not used, among the first j. -/
def un (xs : List S54) (j : Nat) : List Nat := (List.range j).filter fun i => !(rd_T54 xs (i : Int)).f0
theorem un_len (xs : List S54) (j : Nat) : (un xs j).length ≤ j := by
  have := List.length_filter_le (fun i : Nat => !(rd_T54 xs (i : Int)).f0) (List.range j)
  rwa [List.length_range] at this
theorem un_succ (xs : List S54) (j : Nat) : (un xs (j + 1)).length = (un xs j).length + (if (rd_T54 xs (j : Int)).f0 = true then 0 else 1) := by
  unfold un
  rw [List.range_succ, List.filter_append, List.length_append]
  congr 1
  cases e : (rd_T54 xs (j : Int)).f0 <;> simp [e]
theorem zero_eq (h : S54) (e : h.f0 = false) : (h.f0 || (!(h.f1 == 0) || (!(h.f2 == 0) || (h.f3 || (!(h.f4 == 0) || !(h.f5 == 0)))))) = !sZero h := by
  unfold sZero
  rw [e]
  cases h.f3 <;> simp
theorem sp_l0 (xs : List S54) (fr : List Int) (hl : xs.length ≤ 1048576) (r : Bool) (hr : Ev (fun k => spec_GoodTable.l1 k ((un xs xs.length).length : Int) fr (fr.length : Int) 0 xs fr) r) (d : Nat) :
    ∀ j : Nat, j + d = xs.length → Ev (fun k => spec_GoodTable.l0 k ((un xs j).length : Int) xs (xs.length : Int) (j : Int) xs fr) (if aF (sOne xs) j d = true then r else false) := by
  induction d with
  | zero =>
    intro j hj
    obtain rfl : j = xs.length := by omega
    refine Ev.step (fun k => ?_) hr
    rw [spec_GoodTable.l0, if_neg (by omega)]
  | succ d ih =>
    intro j hj
    have hlt : j < xs.length := by omega
    have hu := un_succ xs j
    have hul := un_len xs j
    have ih := ih (j + 1) (by omega)
    have e1 : wrap64 ((j : Int) + 1) = ((j + 1 : Nat) : Int) := w64 (by omega) (by omega)
    cases e0 : (rd_T54 xs (j : Int)).f0 with
    | true =>
      rw [e0, if_pos rfl, Nat.add_zero] at hu
      rw [hu] at ih
      refine Ev.step (f := fun k => if sSnd (rd_T54 xs (j : Int)) = true then spec_GoodTable.l0 k ((un xs j).length : Int) xs (xs.length : Int) ((j + 1 : Nat) : Int) xs fr else some false) (fun k => ?_) ?_
      · have h := l15_ok (rd_T54 xs (j : Int))
        rw [e0] at h
        rw [spec_GoodTable.l0, if_pos (show (j : Int) < (xs.length : Int) by omega), if_pos (show (0 : Int) ≤ (j : Int) by omega), if_pos (show (j : Int) < (xs.length : Int) by omega), e0, if_pos rfl, if_pos rfl, h, Option.bind_some, e1]
      · have e : sOne xs j = sSnd (rd_T54 xs (j : Int)) := by unfold sOne; rw [if_pos e0]
        rw [aF, e]
        cases hs : sSnd (rd_T54 xs (j : Int)) with
        | true => exact Ev.congr (fun k => if_pos rfl) ih
        | false => exact Ev.congr (fun k => if_neg (by decide)) (Ev.now false)
    | false =>
      rw [e0, if_neg (by decide)] at hu
      rw [hu] at ih
      have e2 : wrap64 (((un xs j).length : Int) + 1) = (((un xs j).length + 1 : Nat) : Int) := w64 (by omega) (by omega)
      refine Ev.step (f := fun k => if (!sZero (rd_T54 xs (j : Int))) = true then some false else spec_GoodTable.l0 k (((un xs j).length + 1 : Nat) : Int) xs (xs.length : Int) ((j + 1 : Nat) : Int) xs fr) (fun k => ?_) ?_
      · have h := zero_eq (rd_T54 xs (j : Int)) e0
        rw [e0] at h
        rw [spec_GoodTable.l0, if_pos (show (j : Int) < (xs.length : Int) by omega), if_pos (show (0 : Int) ≤ (j : Int) by omega), if_pos (show (j : Int) < (xs.length : Int) by omega), e0, if_neg (by decide), if_neg (by decide), h, e1, e2]
      · have e : sOne xs j = sZero (rd_T54 xs (j : Int)) := by unfold sOne; rw [if_neg (by rw [e0]; decide)]
        rw [aF, e]
        cases hs : sZero (rd_T54 xs (j : Int)) with
        | true => exact Ev.congr (fun k => if_neg (by decide)) ih
        | false => exact Ev.congr (fun k => if_pos rfl) (Ev.now false)
theorem sp_l2 (xs : List S54) (fr : List Int) (m x : Int) (i : Nat) (hl : fr.length ≤ 1048576) (hi : i < fr.length) (r : Bool) (hr : Ev (fun k => spec_GoodTable.l1 k m fr (fr.length : Int) ((i + 1 : Nat) : Int) xs fr) r) (d : Nat) :
    ∀ j : Nat, j + d = i → Ev (fun k => spec_GoodTable.l2 k m x fr (fr.length : Int) (i : Int) (fr.take i) (i : Int) (j : Int) xs fr) (if ((fr.take i).drop j).contains x = true then false else r) := by
  have hlen : (fr.take i).length = i := by rw [List.length_take]; omega
  induction d with
  | zero =>
    intro j hj
    obtain rfl : j = i := by omega
    refine Ev.step (f := fun k => spec_GoodTable.l1 k m fr (fr.length : Int) ((j + 1 : Nat) : Int) xs fr) (fun k => ?_) ?_
    · rw [spec_GoodTable.l2, if_neg (by omega), w64 (n := (j : Int) + 1) (by omega) (by omega)]; rfl
    · rw [List.drop_of_length_le (by omega)]; exact hr
  | succ d ih =>
    intro j hj
    have hlt : j < (fr.take i).length := by omega
    have ih := ih (j + 1) (by omega)
    have e1 : wrap64 ((j : Int) + 1) = ((j + 1 : Nat) : Int) := w64 (by omega) (by omega)
    refine Ev.step (f := fun k => if rd (fr.take i) (j : Int) = x then some false else spec_GoodTable.l2 k m x fr (fr.length : Int) (i : Int) (fr.take i) (i : Int) ((j + 1 : Nat) : Int) xs fr) (fun k => ?_) ?_
    · rw [spec_GoodTable.l2, if_pos (show (j : Int) < (i : Int) by omega), if_pos (show (0 : Int) ≤ (j : Int) by omega), if_pos (show (j : Int) < ((fr.take i).length : Int) by omega), e1]
    · rw [List.drop_eq_getElem_cons hlt, List.contains_cons, ← rdI _ _ hlt]
      by_cases c : rd (fr.take i) (j : Int) = x
      · rw [show (x == rd (fr.take i) (j : Int)) = true from beq_iff_eq.2 c.symm, Bool.true_or, if_pos rfl]
        exact Ev.congr (fun k => if_pos c) (Ev.now false)
      · rw [show (x == rd (fr.take i) (j : Int)) = false from beq_eq_false_iff_ne.2 (Ne.symm c), Bool.false_or]
        exact Ev.congr (fun k => if_neg c) ih
def fok2 (xs : List S54) (fr : List Int) (i : Nat) : Bool := fok xs.length fr i && !(rd_T54 xs (rd fr (i : Int))).f0
def fin (xs : List S54) (fr : List Int) (m : Int) : Bool := if (xs.length : Int) ≤ 40 then ((fr.length : Int) == m) else false
theorem sp_l1 (xs : List S54) (fr : List Int) (m : Int) (hx : xs.length ≤ 1048576) (hl : fr.length ≤ 1048576) (d : Nat) :
    ∀ i : Nat, i + d = fr.length → Ev (fun k => spec_GoodTable.l1 k m fr (fr.length : Int) (i : Int) xs fr) (if aF (fok2 xs fr) i d = true then fin xs fr m else false) := by
  induction d with
  | zero =>
    intro i hi
    refine Ev.step (f := fun _ => some (fin xs fr m)) (fun k => ?_) (Ev.now _)
    rw [spec_GoodTable.l1, if_neg (by omega)]
    unfold fin
    split <;> rfl
  | succ d ih =>
    intro i hi
    have hlt : i < fr.length := by omega
    have ih := ih (i + 1) (by omega)
    have ht : (fr.take i).length = i := by rw [List.length_take]; omega
    have no : Ev (fun k => spec_GoodTable.j2 k m (i : Int) (rd fr (i : Int)) fr (fr.length : Int) (i : Int) true xs fr) false := by
      refine Ev.step (f := fun _ => some false) (fun k => ?_) (Ev.now _)
      rw [spec_GoodTable.j2, if_pos rfl]
    rw [aF]
    refine Ev.step (f := fun k => (some (decide (0 ≤ rd fr (i : Int)) && decide (rd fr (i : Int) ≤ (xs.length : Int) - 1))).bind fun t115 => (if t115 = true then (if 0 ≤ (rd fr (i : Int)) then (if (rd fr (i : Int)) < (xs.length : Int) then (spec_GoodTable.j2 k m (i : Int) (rd fr (i : Int)) fr (fr.length : Int) (i : Int) ((rd_T54 xs (rd fr (i : Int))).f0) xs fr) else (none)) else (none)) else (spec_GoodTable.j2 k m (i : Int) (rd fr (i : Int)) fr (fr.length : Int) (i : Int) true xs fr))) (fun k => ?_) ?_
    · rw [spec_GoodTable.l1, if_pos (show (i : Int) < (fr.length : Int) by omega), if_pos (show (0 : Int) ≤ (i : Int) by omega), if_pos (show (i : Int) < (fr.length : Int) by omega), w64 (n := (xs.length : Int) - 1) (by omega) (by omega), in_ok]
    · simp only [Option.bind_some]
      by_cases c0 : 0 ≤ rd fr (i : Int)
      · by_cases c1 : rd fr (i : Int) < (xs.length : Int)
        · rw [decide_eq_true c0, decide_eq_true (show rd fr (i : Int) ≤ (xs.length : Int) - 1 by omega)]
          refine Ev.congr (f := fun k => spec_GoodTable.j2 k m (i : Int) (rd fr (i : Int)) fr (fr.length : Int) (i : Int) ((rd_T54 xs (rd fr (i : Int))).f0) xs fr) (fun k => by rw [Bool.and_self, if_pos rfl, if_pos c0, if_pos c1]) ?_
          have hf : fok2 xs fr i = (!(fr.take i).contains (rd fr (i : Int)) && !(rd_T54 xs (rd fr (i : Int))).f0) := by
            unfold fok2 fok
            rw [decide_eq_true c0, decide_eq_true c1, Bool.and_self, Bool.true_and]
          rw [hf]
          clear hf
          cases e0 : (rd_T54 xs (rd fr (i : Int))).f0 with
          | true =>
            simp only [Bool.not_true, Bool.and_false, Bool.false_and, Bool.false_eq_true, if_false]
            exact no
          | false =>
            have h := sp_l2 xs fr m (rd fr (i : Int)) i hl hlt _ ih i 0 (by omega)
            refine Ev.step (f := fun k => spec_GoodTable.l2 k m (rd fr (i : Int)) fr (fr.length : Int) (i : Int) (fr.take i) (i : Int) ((0 : Nat) : Int) xs fr) (fun k => ?_) ?_
            · rw [spec_GoodTable.j2, if_neg (by decide), if_pos (by omega), if_pos (by omega), Int.toNat_natCast, ht]; rfl
            · rw [List.drop_zero] at h
              cases hc : (fr.take i).contains (rd fr (i : Int)) with
              | true => rw [hc] at h; exact h
              | false => rw [hc] at h; exact h
        · rw [decide_eq_false (show ¬ rd fr (i : Int) ≤ (xs.length : Int) - 1 by omega), Bool.and_false]
          rw [show fok2 xs fr i = false from by unfold fok2 fok; rw [decide_eq_false c1, Bool.and_false, Bool.false_and, Bool.false_and], Bool.false_and]
          exact no
      · rw [decide_eq_false c0, Bool.false_and]
        rw [show fok2 xs fr i = false from by unfold fok2 fok; rw [decide_eq_false c0, Bool.false_and, Bool.false_and, Bool.false_and], Bool.false_and]
        exact no
/-! both say the same -/
theorem nodup_len {l m : List Nat} (hl : l.Nodup) (h : ∀ x ∈ l, x ∈ m) : l.length ≤ m.length := by
  induction l generalizing m with
  | nil => exact Nat.zero_le _
  | cons a l ih =>
    have ha := h a List.mem_cons_self
    have hn := List.nodup_cons.1 hl
    have := ih (m := m.erase a) hn.2 (fun x hx => (List.mem_erase_of_ne (fun e => hn.1 (by rw [← e]; exact hx))).2 (h x (List.mem_cons_of_mem _ hx)))
    rw [List.length_erase_of_mem ha] at this
    have hp := List.length_pos_of_mem ha
    rw [List.length_cons]
    omega
/-- The numbers told as free, as natural ones. -/
def fn (fr : List Int) : List Nat := fr.map Int.toNat
theorem mem_fn (fr : List Int) (h : ∀ i < fr.length, 0 ≤ rd fr (i : Int)) (j : Nat) : j ∈ fn fr ↔ fr.contains (j : Int) = true := by
  unfold fn
  rw [List.mem_map, List.contains_iff_mem]
  constructor
  · rintro ⟨a, ha, rfl⟩
    obtain ⟨i, hi, e⟩ := List.mem_iff_getElem.1 ha
    have := h i hi
    rw [rdI fr i hi, e] at this
    rwa [Int.toNat_of_nonneg this]
  · intro ha
    exact ⟨_, ha, Int.toNat_natCast j⟩
theorem fn_nodup (n : Nat) (fr : List Int) (h : ∀ i < fr.length, fok n fr i = true) : (fn fr).Nodup := by
  unfold fn
  rw [List.nodup_iff_pairwise_ne, List.pairwise_iff_getElem]
  intro i j hi hj hij
  rw [List.length_map] at hi hj
  rw [List.getElem_map, List.getElem_map]
  have h1 := h i hi
  have h2 := h j hj
  unfold fok at h1 h2
  simp only [Bool.and_eq_true, decide_eq_true_eq, Bool.not_eq_true'] at h1 h2
  have h3 : ¬ rd fr (j : Int) ∈ fr.take j := fun hm => by
    have := List.contains_iff_mem.2 hm
    rw [h2.2] at this
    cases this
  have h4 : rd fr (i : Int) ∈ fr.take j := by
    rw [rdI fr i hi, List.mem_iff_getElem]
    exact ⟨i, by rw [List.length_take]; omega, by rw [List.getElem_take]⟩
  have e1 := rdI fr i hi
  have e2 := rdI fr j hj
  rw [← e1, ← e2]
  intro e
  apply h3
  rwa [show rd fr (j : Int) = rd fr (i : Int) by omega]
theorem all_range (n : Nat) (P : Nat → Bool) : (List.range n).all P = true ↔ ∀ i < n, P i = true := by
  rw [List.all_eq_true]
  exact ⟨fun h i hi => h i (List.mem_range.2 hi), fun h i hi => h i (List.mem_range.1 hi)⟩
theorem zero_f0 (h : S54) (e : sZero h = true) : h.f0 = false := by
  unfold sZero at e
  simp at e
  exact e.1
theorem snd_f0 (h : S54) (e : sSnd h = true) : h.f0 = true := by
  cases c : h.f0 with
  | true => rfl
  | false =>
    have := l15_ok h
    rw [e, c] at this
    unfold spec_l15Handle.f at this
    simp at this
def spv (xs : List S54) (fr : List Int) : Bool := if aF (sOne xs) 0 xs.length = true then (if aF (fok2 xs fr) 0 fr.length = true then fin xs fr ((un xs xs.length).length : Int) else false) else false
theorem mem_un (xs : List S54) (j : Nat) : j ∈ un xs xs.length ↔ j < xs.length ∧ (rd_T54 xs (j : Int)).f0 = false := by
  unfold un
  rw [List.mem_filter, List.mem_range]
  simp
theorem spv_gt (xs : List S54) (fr : List Int) : spv xs fr = gtB xs fr := by
  rw [Bool.eq_iff_iff]
  have hfr : ∀ (h : ∀ i < fr.length, fok xs.length fr i = true), ∀ i < fr.length, 0 ≤ rd fr (i : Int) ∧ rd fr (i : Int) < (xs.length : Int) := by
    intro h i hi
    have := h i hi
    unfold fok at this
    simp only [Bool.and_eq_true, decide_eq_true_eq] at this
    exact this.1
  have hcon : ∀ j : Nat, fr.contains (j : Int) = true → ∃ i < fr.length, rd fr (i : Int) = (j : Int) := by
    intro j h
    obtain ⟨i, hi, e⟩ := List.mem_iff_getElem.1 (List.contains_iff_mem.1 h)
    exact ⟨i, hi, by rw [rdI fr i hi, e]⟩
  have hmem : ∀ i < fr.length, fr.contains (rd fr (i : Int)) = true := fun i hi => List.contains_iff_mem.2 (by rw [rdI fr i hi]; exact List.getElem_mem hi)
  constructor
  · intro h
    unfold spv at h
    split at h
    · rename_i h1
      split at h
      · rename_i h2
        rw [aF_iff] at h1 h2
        unfold fin at h
        split at h
        · rename_i h3
          have h4 : fr.length = (un xs xs.length).length := by have := beq_iff_eq.1 h; omega
          have hF : ∀ i < fr.length, fok xs.length fr i = true ∧ (rd_T54 xs (rd fr (i : Int))).f0 = false := by
            intro i hi
            have := h2 i (Nat.zero_le _) (by omega)
            unfold fok2 at this
            simpa using this
          have hF1 := fun i hi => (hF i hi).1
          have hu := un_len xs xs.length
          have hsub : ∀ j ∈ fn fr, j ∈ un xs xs.length := by
            intro j hj
            rw [mem_fn fr (fun i hi => (hfr hF1 i hi).1)] at hj
            obtain ⟨i, hi, e⟩ := hcon j hj
            rw [mem_un]
            have b := (hfr hF1 i hi).2
            have c := (hF i hi).2
            rw [e] at b c
            exact ⟨by omega, c⟩
          unfold gtB
          rw [Bool.and_eq_true, Bool.and_eq_true, Bool.and_eq_true, all_range, all_range]
          refine ⟨⟨⟨decide_eq_true (by omega), decide_eq_true (by omega)⟩, hF1⟩, ?_⟩
          intro j hj
          have hone := h1 j (Nat.zero_le _) (by omega)
          unfold sOne at hone
          unfold sok
          cases hc : fr.contains (j : Int) with
          | true =>
            have hj2 := hsub j ((mem_fn fr (fun i hi => (hfr hF1 i hi).1) j).2 hc)
            rw [mem_un] at hj2
            rw [if_neg (by rw [hj2.2]; decide)] at hone
            rw [hone]; rfl
          | false =>
            have hf : (rd_T54 xs (j : Int)).f0 = true := by
              cases c : (rd_T54 xs (j : Int)).f0 with
              | true => rfl
              | false =>
                exfalso
                have hnd := fn_nodup xs.length fr hF1
                have hnj : j ∉ fn fr := fun hm => by
                  rw [mem_fn fr (fun i hi => (hfr hF1 i hi).1), hc] at hm
                  cases hm
                have := nodup_len (l := j :: fn fr) (m := un xs xs.length) (List.nodup_cons.2 ⟨hnj, hnd⟩) (fun x hx => by
                  rcases List.mem_cons.1 hx with e | hx
                  · rw [e, mem_un]; exact ⟨hj, c⟩
                  · exact hsub x hx)
                rw [List.length_cons, fn, List.length_map] at this
                omega
            rw [if_pos hf] at hone
            rw [hone]
            have : sZero (rd_T54 xs (j : Int)) = false := by unfold sZero; rw [hf]; rfl
            rw [this]; rfl
        · cases h
      · cases h
    · cases h
  · intro h
    unfold gtB at h
    rw [Bool.and_eq_true, Bool.and_eq_true, Bool.and_eq_true, all_range, all_range] at h
    obtain ⟨⟨⟨h1, h2⟩, hF⟩, hS⟩ := h
    have h1 := of_decide_eq_true h1
    have hz : ∀ j < xs.length, (fr.contains (j : Int) = true → sZero (rd_T54 xs (j : Int)) = true) ∧ (fr.contains (j : Int) = false → sSnd (rd_T54 xs (j : Int)) = true) := by
      intro j hj
      have := hS j hj
      unfold sok at this
      constructor
      · intro c; rw [c] at this; simpa using this
      · intro c; rw [c] at this; simp only [Bool.false_or, Bool.and_eq_true] at this; exact this.2
    have a1 : aF (sOne xs) 0 xs.length = true := by
      rw [aF_iff]
      intro j _ hj
      have hj : j < xs.length := by omega
      unfold sOne
      cases c : fr.contains (j : Int) with
      | true => have := (hz j hj).1 c; rw [if_neg (by rw [zero_f0 _ this]; decide)]; exact this
      | false => have := (hz j hj).2 c; rw [if_pos (snd_f0 _ this)]; exact this
    have a2 : aF (fok2 xs fr) 0 fr.length = true := by
      rw [aF_iff]
      intro i _ hi
      have hi : i < fr.length := by omega
      unfold fok2
      have hb := hfr hF i hi
      have hc := hmem i hi
      have e : rd fr (i : Int) = ((rd fr (i : Int)).toNat : Int) := (Int.toNat_of_nonneg hb.1).symm
      have hj : (rd fr (i : Int)).toNat < xs.length := by omega
      rw [e] at hc
      have := zero_f0 _ ((hz _ hj).1 hc)
      rw [← e] at this
      rw [hF i hi, this]; rfl
    unfold spv
    rw [if_pos a1, if_pos a2]
    unfold fin
    rw [if_pos (by omega), beq_iff_eq]
    have l1 := nodup_len (l := fn fr) (m := un xs xs.length) (fn_nodup xs.length fr hF) (fun j hj => by
      rw [mem_fn fr (fun i hi => (hfr hF i hi).1)] at hj
      obtain ⟨i, hi, e⟩ := hcon j hj
      have b := (hfr hF i hi).2
      rw [mem_un]
      exact ⟨by omega, zero_f0 _ ((hz j (by omega)).1 hj)⟩)
    have l2 := nodup_len (l := un xs xs.length) (m := fn fr) (List.Pairwise.filter _ List.nodup_range) (fun j hj => by
      rw [mem_un] at hj
      rw [mem_fn fr (fun i hi => (hfr hF i hi).1)]
      cases c : fr.contains (j : Int) with
      | true => rfl
      | false => have := snd_f0 _ ((hz j hj.1).2 c); rw [hj.2] at this; cases this)
    rw [fn, List.length_map] at l1 l2
    omega
theorem spec_good (xs : List S54) (fr : List Int) (hx : xs.length ≤ 1048576) (hl : fr.length ≤ 1048576) : Ev (fun k => spec_GoodTable.f k xs fr) (gtB xs fr) := by
  rw [← spv_gt]
  have h1 := sp_l1 xs fr ((un xs xs.length).length : Int) hx hl fr.length 0 (by omega)
  exact sp_l0 xs fr hx _ h1 xs.length 0 (by omega)
theorem impl_good (xs : List S54) (fr : List Int) : Ev (fun k => impl_GoodTable.f k xs fr) (gtB xs fr) := Ev.now _
end Go.Proofs.Ytdklegalfcmboaa.Ht
