/- ZeroOf of the program and of the reference tell the same, whatever the nodes. -/
import Derived.Test.YtlgegdgilkaldaaTz
import Derived.Test.YtlgegdgilkaldaaTl
import Derived.Test.YtlgegdgilkaldaaTt
import Derived.Test.YtlgegdgilkaldaaQx14
import Derived.Test.YtlgegdgilkaldaaQx16
namespace Go.Proofs.Ytlgegdgilkaldaa.Pure
open Go.RowKit Go.Proofs.Ytlgegdgilkaldaa.Q Go.Proofs.YtlgegdgilkaldaaW.PrintWords Go.Proofs.YtlgegdgilkaldaaW.PrintLast Go.Proofs.YtlgegdgilkaldaaW.PrintMore Go.Proofs.Ytlgegdgilkaldaa.Mb Go.Proofs.Ytlgegdgilkaldaa.Ty
set_option linter.unusedSimpArgs false
set_option linter.unusedVariables false
theorem text_l0 (d : Nat) : ∀ (x : Int) (s : ByteArray), 0 ≤ x → x < 10 ^ d → x ≤ 1000000000000 → s.size + d ≤ 1000 → ∃ r, Ev (fun k => laws_markText.l0 k x s) r := by
  induction d with
  | zero =>
    intro x s h0 h1 _ hs
    refine ⟨(⟨#[109]⟩ : ByteArray) ++ s, Ev.step (f := fun _ => some ((⟨#[109]⟩ : ByteArray) ++ s)) (fun k => ?_) (Ev.now _)⟩
    simp only [laws_markText.l0]
    rw [if_neg (by have : (10 : Int) ^ 0 = 1 := rfl; omega), if_pos (by omega)]
  | succ d ih =>
    intro x s h0 h1 h2 hs
    by_cases c : x > 0
    · have hp : (10 : Int) ^ (d + 1) = 10 ^ d * 10 := Int.pow_succ 10 d
      have e : Int.tdiv x 10 = x / 10 := Int.tdiv_eq_ediv_of_nonneg h0
      have hz : (strOfNums [(wrap64 (48 + (Int.tmod x 10))) % 256]).size = 1 := by rw [strOfNums_size]; rfl
      obtain ⟨r, hr⟩ := ih (x / 10) (strOfNums [(wrap64 (48 + (Int.tmod x 10))) % 256] ++ s) (by omega) (by omega) (by omega) (by rw [ByteArray.size_append, hz]; omega)
      refine ⟨r, Ev.step (fun k => ?_) hr⟩
      simp only [laws_markText.l0, Option.bind_some]
      rw [if_pos c, hz, if_pos (by omega), e, w64 (n := x / 10) (by omega) (by omega)]
    · refine ⟨(⟨#[109]⟩ : ByteArray) ++ s, Ev.step (f := fun _ => some ((⟨#[109]⟩ : ByteArray) ++ s)) (fun k => ?_) (Ev.now _)⟩
      simp only [laws_markText.l0]
      rw [if_neg c, if_pos (by omega)]
theorem text_some (x : Int) (h0 : 0 ≤ x) (h1 : x ≤ 1000000000000) : ∃ r, Ev (fun k => laws_markText.f k x) r := by
  unfold laws_markText.f
  by_cases c : x ≤ 0
  · exact ⟨_, Ev.congr (fun k => if_pos c) (Ev.now _)⟩
  · obtain ⟨r, hr⟩ := text_l0 13 x (⟨#[]⟩ : ByteArray) h0 (by have : (10 : Int) ^ 13 = 10000000000000 := rfl; omega) h1 (by decide)
    exact ⟨r, Ev.congr (fun k => if_neg c) hr⟩
/-- The text that marks a number. -/
noncomputable def mt (x : Int) : ByteArray := by
  classical
  exact if h : ∃ r, Ev (fun k => laws_markText.f k x) r then h.choose else ⟨#[]⟩
theorem mt_ok (x : Int) (h0 : 0 ≤ x) (h1 : x ≤ 1000000000000) : Ev (fun k => laws_markText.f k x) (mt x) := by
  have h := text_some x h0 h1
  unfold mt
  rw [dif_pos h]
  exact h.choose_spec
/-- The j-th marked element. -/
noncomputable def mv (j : Nat) : S75 := ⟨((3 * j + 1 : Nat) : Int), mt ((3 * j + 2 : Nat) : Int), ((3 * j + 3 : Nat) : Int)⟩
noncomputable def mk (n : Nat) : List S75 := (List.range n).map mv
theorem mk_len (n : Nat) : (mk n).length = n := by simp [mk]
theorem mk_at (n i : Nat) (h : i < n) : rd_T75 (mk n) (i : Int) = mv i := by
  unfold rd_T75 mk
  rw [Int.toNat_natCast, List.getD_eq_getElem?_getD, List.getElem?_map, List.getElem?_range h]
  rfl
theorem mark_l0 (l : List S75) (hl : l.length ≤ 1048576) (d : Nat) : ∀ j : Nat, j + d = l.length → Ev (fun k => laws_markValueS.l0 k (mk j ++ l.drop j) ((3 * j + 1 : Nat) : Int) (j : Int)) (((3 * l.length + 1 : Nat) : Int), mk l.length) := by
  induction d with
  | zero =>
    intro j hj
    obtain rfl : j = l.length := by omega
    rw [List.drop_length, List.append_nil]
    refine Ev.step (f := fun _ => some (((3 * l.length + 1 : Nat) : Int), mk l.length)) (fun k => ?_) (Ev.now _)
    simp only [laws_markValueS.l0]
    rw [mk_len, if_neg (by omega)]
  | succ d ih =>
    intro j hj
    have hlt : j < l.length := by omega
    have hlen : (mk j ++ l.drop j).length = l.length := by rw [List.length_append, mk_len, List.length_drop]; omega
    have hset : ∀ v : S75, (mk j ++ l.drop j).set j v = mk j ++ (v :: l.drop (j + 1)) := by
      intro v
      rw [List.set_append, mk_len, if_neg (by omega), Nat.sub_self, List.drop_eq_getElem_cons hlt, List.set_cons_zero]
    have hset2 : ∀ u v : S75, (mk j ++ (u :: l.drop (j + 1))).set j v = mk j ++ (v :: l.drop (j + 1)) := by
      intro u v
      rw [List.set_append, mk_len, if_neg (by omega), Nat.sub_self, List.set_cons_zero]
    have hrd : ∀ u : S75, rd_T75 (mk j ++ (u :: l.drop (j + 1))) (j : Int) = u := by
      intro u
      unfold rd_T75
      rw [Int.toNat_natCast, List.getD_eq_getElem?_getD, List.getElem?_append_right (by rw [mk_len]; omega), mk_len, Nat.sub_self]
      rfl
    have hmk : mk (j + 1) = mk j ++ [mv j] := by
      unfold mk
      rw [List.range_succ, List.map_append]
      rfl
    have w1 : wrap64 (((3 * j + 1 : Nat) : Int) + 1) = ((3 * j + 2 : Nat) : Int) := by rw [w64 (by omega) (by omega)]; omega
    have w2 : wrap64 (((3 * j + 2 : Nat) : Int) + 1) = ((3 * j + 3 : Nat) : Int) := by rw [w64 (by omega) (by omega)]; omega
    have w3 : wrap64 (((3 * j + 3 : Nat) : Int) + 1) = ((3 * (j + 1) + 1 : Nat) : Int) := by rw [w64 (by omega) (by omega)]; omega
    have w4 : wrap64 ((j : Int) + 1) = ((j + 1 : Nat) : Int) := by rw [w64 (by omega) (by omega)]; omega
    have h := ih (j + 1) (by omega)
    have hmv : mv j = (⟨((3 * j + 1 : Nat) : Int), mt ((3 * j + 2 : Nat) : Int), ((3 * j + 3 : Nat) : Int)⟩ : S75) := rfl
    rw [hmk, List.append_assoc, List.singleton_append, hmv] at h
    have htx := mt_ok ((3 * j + 2 : Nat) : Int) (by omega) (by omega)
    generalize mt ((3 * j + 2 : Nat) : Int) = tx at h htx
    refine Ev.step (f := fun k => (laws_markText.f k ((3 * j + 2 : Nat) : Int)).bind fun t348 => laws_markValueS.l0 k (mk j ++ ((⟨((3 * j + 1 : Nat) : Int), t348, ((3 * j + 3 : Nat) : Int)⟩ : S75) :: l.drop (j + 1))) ((3 * (j + 1) + 1 : Nat) : Int) ((j + 1 : Nat) : Int)) (fun k => ?_) (Ev.bind htx h)
    rw [laws_markValueS.l0, hlen, if_pos (show (j : Int) < (l.length : Int) by omega), if_pos (show (0 : Int) ≤ (j : Int) by omega), Int.toNat_natCast, hset, Option.bind_some, w1]
    congr 1
    funext t
    rw [hrd, hset2, Option.bind_some, hrd, hset2, w2, w3, w4]
theorem mark_ok (l : List S75) (hl : l.length ≤ 1048576) : Ev (fun k => laws_markValueS.f k l 1) (((3 * l.length + 1 : Nat) : Int), mk l.length) := by
  have := mark_l0 l hl l.length 0 (by omega)
  exact Ev.congr (fun k => by unfold laws_markValueS.f; rfl) this
theorem held_l0 (n : Nat) (hn : n ≤ 1048576) (d : Nat) : ∀ j : Nat, j + d = n → Ev (fun k => laws_heldValueS.l0 k (mk n) ((3 * j + 1 : Nat) : Int) (j : Int)) ((3 * n + 1 : Nat) : Int) := by
  induction d with
  | zero =>
    intro j hj
    obtain rfl : j = n := by omega
    refine Ev.step (f := fun _ => some ((3 * j + 1 : Nat) : Int)) (fun k => ?_) (Ev.now _)
    simp only [laws_heldValueS.l0]
    rw [mk_len, if_neg (by omega)]
  | succ d ih =>
    intro j hj
    have w1 : wrap64 (((3 * j + 1 : Nat) : Int) + 1) = ((3 * j + 2 : Nat) : Int) := by rw [w64 (by omega) (by omega)]; omega
    have w2 : wrap64 (((3 * j + 2 : Nat) : Int) + 1) = ((3 * j + 3 : Nat) : Int) := by rw [w64 (by omega) (by omega)]; omega
    have w3 : wrap64 (((3 * j + 3 : Nat) : Int) + 1) = ((3 * (j + 1) + 1 : Nat) : Int) := by rw [w64 (by omega) (by omega)]; omega
    have w4 : wrap64 ((j : Int) + 1) = ((j + 1 : Nat) : Int) := by rw [w64 (by omega) (by omega)]; omega
    refine Ev.step (f := fun k => (laws_markText.f k ((3 * j + 2 : Nat) : Int)).bind fun t353 => (if (mt ((3 * j + 2 : Nat) : Int)).toList = t353.toList then (laws_heldValueS.l0 k (mk n) ((3 * (j + 1) + 1 : Nat) : Int) ((j + 1 : Nat) : Int)) else (some (-1)))) (fun k => ?_) (Ev.bind (mt_ok _ (by omega) (by omega)) (Ev.congr (fun k => if_pos rfl) (ih (j + 1) (by omega))))
    simp only [laws_heldValueS.l0]
    rw [mk_len, if_pos (show (j : Int) < (n : Int) by omega), if_pos (show (0 : Int) ≤ (j : Int) by omega), mk_at n j (by omega)]
    simp only [mv, w1, w2, w3, w4, if_true]
theorem held_ok (n : Nat) (hn : n ≤ 1048576) : Ev (fun k => laws_heldValueS.f k (mk n) 1) ((3 * n + 1 : Nat) : Int) := by
  have := held_l0 n hn n 0 (by omega)
  exact Ev.congr (fun k => by unfold laws_heldValueS.f; rfl) this
theorem eqV_l0 (l : List S75) (hl : l.length ≤ 1048576) (d : Nat) : ∀ j : Nat, j + d = l.length → Ev (fun k => laws_eqValueS.l0 k l l (j : Int)) true := by
  induction d with
  | zero =>
    intro j hj
    refine Ev.step (f := fun _ => some true) (fun k => ?_) (Ev.now _)
    simp only [laws_eqValueS.l0]
    rw [if_neg (by omega)]
  | succ d ih =>
    intro j hj
    have e : ∀ (a : Int) (b : ByteArray) (c : Int), laws_eqValue.f a b c a b c = some true := by intro a b c; unfold laws_eqValue.f; rw [if_pos rfl, if_pos rfl, if_pos rfl]
    refine Ev.step (fun k => ?_) (ih (j + 1) (by omega))
    simp only [laws_eqValueS.l0]
    rw [if_pos (show (j : Int) < (l.length : Int) by omega), if_pos (show (0 : Int) ≤ (j : Int) by omega), if_pos (show (j : Int) < (l.length : Int) by omega), e, Option.bind_some, if_pos rfl, w64 (n := (j : Int) + 1) (by omega) (by omega)]
    rfl
theorem eqV_ok (l : List S75) (hl : l.length ≤ 1048576) : Ev (fun k => laws_eqValueS.f k l l) true := by
  refine Ev.congr (fun k => ?_) (eqV_l0 l hl l.length 0 (by omega))
  unfold laws_eqValueS.f
  rw [if_pos rfl]
  rfl
/-- What ZeroOf tells. -/
def zz (l : List S46) : List S75 × Bool := if good l = true then (dnodesN 10 [] (zeroT 9 (tree l)) (-1), true) else ([], false)
theorem spec_ZeroOf (l : List S46) : Ev (fun k => spec_ZeroOf.f k l) (zz l) := by
  refine Ev.bind (good_spec l) ?_
  unfold zz
  cases hg : good l with
  | false =>
    rw [if_neg (by decide)]
    exact Ev.now _
  | true =>
    simp only [if_true]
    refine Ev.bind (spec_tree l hg) (Ev.bind (spec_zero 8 (tree l) (tree_gt l hg)) ?_)
    refine Ev.congr (fun k => ?_) (Ev.now _)
    have hf := zero_few 8 (tree l) (tree_gt l hg)
    have hs := (zero_same l hg).1
    have hz : zeroT (8 + 1) (tree l) = zeroT 9 (tree l) := rfl
    rw [hz] at hf
    simp only [hz]
    generalize zeroT 9 (tree l) = z at hf hs
    cases z with
    | mk u0 u1 u2 =>
      unfold spec_l12Flat.f
      rw [if_pos ⟨hf, rfl⟩, Option.bind_some, hs]
theorem impl_ZeroOf (l : List S46) : Ev (fun k => impl_ZeroOf.f k l) (zz l) := by
  unfold impl_ZeroOf.f zz
  refine Ev.bind (shape_tree l) ?_
  cases hg : good l with
  | false =>
    rw [if_neg (by decide)]
    exact Ev.now _
  | true =>
    simp only [if_true]
    exact Ev.congr (fun k => if_pos (has_ok 8 (tree l) (tree_gt l hg))) (Ev.now _)
theorem zz_len (l : List S46) : (zz l).1.length ≤ 1048576 := by
  unfold zz
  split
  · rename_i h
    have := (zero_same l h).2
    show (dnodesN 10 [] (zeroT 9 (tree l)) (-1)).length ≤ 1048576
    omega
  · simp
theorem FnExactZeroOf : laws_FnExactZeroOf.Pure := by
  intro l0 h0
  refine Ev.rounds ?_
  rcases sz_ok l0 h0.1 with h | ⟨hl, x, h, hx⟩
  · refine Ev.congr (fun k => ?_) (Ev.now true)
    unfold laws_FnExactZeroOf.f
    rw [h, Option.bind_some, if_pos (by decide)]
  · have hlm : (l0.map cv).length ≤ 1048576 := by simpa using hl
    refine Ev.congr (fun k => by unfold laws_FnExactZeroOf.f; rw [h, Option.bind_some, if_neg (by omega)]) ?_
    refine Ev.bind (to_ok l0 hl) (Ev.bind (spec_ZeroOf (l0.map cv)) (Ev.bind (to_ok l0 hl) (Ev.bind (impl_ZeroOf (l0.map cv)) ?_)))
    have hlen := zz_len (l0.map cv)
    have him := impl_ZeroOf (l0.map cv)
    generalize zz (l0.map cv) = r at hlen him ⊢
    obtain ⟨p, b⟩ := r
    simp only at hlen him ⊢
    have j2 : Ev (fun k => laws_FnExactZeroOf.j2 k (mk p.length) ((3 * p.length + 1 : Nat) : Int) false) true := by
      refine Ev.step (f := fun k => (laws_heldValueS.f k (mk p.length) 1).bind fun t513 => (if t513 < 0 then (some false) else (if t513 = ((3 * p.length + 1 : Nat) : Int) then (some true) else (some false)))) (fun k => by simp only [laws_FnExactZeroOf.j2]; rw [if_neg (by decide)]) ?_
      refine Ev.bind (held_ok p.length hlen) ?_
      exact Ev.congr (fun k => by rw [if_neg (by omega), if_pos rfl]) (Ev.now true)
    have j1 : Ev (fun k => laws_FnExactZeroOf.j1 k l0 p b p false) true := by
      refine Ev.step (fun k => by simp only [laws_FnExactZeroOf.j1]; rw [if_neg (by decide)]) ?_
      refine Ev.bind (mark_ok p hlen) (Ev.bind (held_ok p.length hlen) ?_)
      refine Ev.congr (fun k => by rw [if_neg (by omega), if_pos rfl]) ?_
      refine Ev.bind (to_ok l0 hl) (Ev.bind him (Ev.bind (eqV_ok p hlen) ?_))
      refine Ev.congr (fun k => ?_) j2
      simp
    have j0 : Ev (fun k => laws_FnExactZeroOf.j0 k l0 p b (l0.map cv) p b false) true := by
      refine Ev.step (fun k => by simp only [laws_FnExactZeroOf.j0]; rw [if_neg (by decide)]) ?_
      obtain ⟨q, hq, hq0⟩ := markT_ok (l0.map cv) hlm
      refine Ev.bind (to_ok l0 hl) (Ev.bind (eqT_ok _ hlm) ?_)
      refine Ev.congr (fun k => if_pos rfl) (Ev.bind hq ?_)
      refine Ev.congr (fun k => if_neg (by omega)) (Ev.bind (eqV_ok p hlen) ?_)
      refine Ev.congr (fun k => ?_) j1
      simp
    refine Ev.bind (eqV_ok p hlen) ?_
    refine Ev.congr (fun k => ?_) j0
    simp
end Go.Proofs.Ytlgegdgilkaldaa.Pure
