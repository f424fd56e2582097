/- Funcs that a statement compares, marks and holds: rows of numbers and of instructions, one behind the other. -/
import Derived.Test.YtmmlgkepnjelnaaRi
import Derived.Test.YtmmlgkepnjelnaaQx6
namespace Go.Proofs.Ytmmlgkepnjelnaa.Mi
open Go.RowKit Go.Proofs.Ytmmlgkepnjelnaa.Q Go.Proofs.YtmmlgkepnjelnaaW.PrintWords Go.Proofs.YtmmlgkepnjelnaaW.PrintLast Go.Proofs.YtmmlgkepnjelnaaW.PrintMore Go.Proofs.Ytmmlgkepnjelnaa.Mb Go.Proofs.Ytmmlgkepnjelnaa.Ins
set_option linter.unusedSimpArgs false
set_option linter.unusedVariables false
theorem eqI_l0 (l : List Int) (hl : l.length ≤ 2000000) (d : Nat) : ∀ j : Nat, j + d = l.length → Ev (fun k => laws_eqIntS.l0 k l l (j : Int)) true := by
  induction d with
  | zero =>
    intro j hj
    refine Ev.step (f := fun _ => some true) (fun k => ?_) (Ev.now _)
    simp only [laws_eqIntS.l0]
    rw [if_neg (by omega)]
  | succ d ih =>
    intro j hj
    refine Ev.step (fun k => ?_) (ih (j + 1) (by omega))
    simp only [laws_eqIntS.l0, if_true]
    rw [if_pos (show (j : Int) < (l.length : Int) by omega), if_pos (show (0 : Int) ≤ (j : Int) by omega), if_pos (show (j : Int) < (l.length : Int) by omega), w64 (n := (j : Int) + 1) (by omega) (by omega)]
    rfl
theorem eqI_ok (l : List Int) (hl : l.length ≤ 2000000) : Ev (fun k => laws_eqIntS.f k l l) true := by
  refine Ev.congr (fun k => ?_) (eqI_l0 l hl l.length 0 (by omega))
  unfold laws_eqIntS.f
  rw [if_pos rfl]
  rfl
theorem eqF_ok (P : List Int) (res : Int) (L : List Int) (B : List S44) (hP : P.length ≤ 2000000) (hL : L.length ≤ 2000000) (hB : B.length ≤ 1000000) : Ev (fun k => laws_eqFunc.f k P res L B P res L B) true := by
  unfold laws_eqFunc.f
  refine Ev.bind (eqI_ok P hP) (Ev.congr (fun k => by rw [if_pos rfl, if_pos rfl]) (Ev.bind (eqI_ok L hL) (Ev.congr (fun k => if_pos rfl) (Ev.bind (a := true) ⟨B.length + 1, fun k hk => eq_self B hB (by omega)⟩ (Ev.congr (fun k => if_pos rfl) (Ev.now _))))))
/-- m, m + 1, .. -/
def cnt (m : Nat) (n : Nat) : List Int := (List.range n).map (fun i => ((i + m : Nat) : Int))
theorem cnt_len (m n : Nat) : (cnt m n).length = n := by unfold cnt; simp
theorem cnt_at (m n j : Nat) (h : j < n) : rd (cnt m n) (j : Int) = ((j + m : Nat) : Int) := by
  unfold rd cnt
  rw [Int.toNat_natCast, List.getD_eq_getElem?_getD, List.getElem?_map, List.getElem?_range h]
  rfl
theorem markI_l0 (m : Nat) (hm : m ≤ 10000000) (l : List Int) (hl : l.length ≤ 2000000) (d : Nat) : ∀ j : Nat, j + d = l.length → Ev (fun k => laws_markIntS.l0 k (cnt m j ++ l.drop j) ((j + m : Nat) : Int) (j : Int)) (((l.length + m : Nat) : Int), cnt m l.length) := by
  induction d with
  | zero =>
    intro j hj
    obtain rfl : j = l.length := by omega
    rw [List.drop_length, List.append_nil]
    refine Ev.step (f := fun _ => some (((l.length + m : Nat) : Int), cnt m l.length)) (fun k => ?_) (Ev.now _)
    simp only [laws_markIntS.l0]
    rw [cnt_len, if_neg (by omega)]
  | succ d ih =>
    intro j hj
    have hlt : j < l.length := by omega
    refine Ev.step (fun k => ?_) (ih (j + 1) (by omega))
    simp only [laws_markIntS.l0]
    have e : (cnt m j ++ l.drop j).set j ((j + m : Nat) : Int) = cnt m (j + 1) ++ l.drop (j + 1) := by
      rw [List.set_append, cnt_len, if_neg (by omega), Nat.sub_self, List.drop_eq_getElem_cons hlt, List.set_cons_zero]
      unfold cnt
      rw [List.range_succ, List.map_append]
      simp
    have hlen : (cnt m j ++ l.drop j).length = l.length := by rw [List.length_append, cnt_len, List.length_drop]; omega
    rw [hlen, if_pos (show (j : Int) < (l.length : Int) by omega), if_pos (show (0 : Int) ≤ (j : Int) by omega), Int.toNat_natCast, e, w64 (n := (j : Int) + 1) (by omega) (by omega), w64 (n := ((j + m : Nat) : Int) + 1) (by omega) (by omega), show ((j + m : Nat) : Int) + 1 = ((j + 1 + m : Nat) : Int) by omega]
    rfl
theorem markI_ok (m : Nat) (hm : m ≤ 10000000) (l : List Int) (hl : l.length ≤ 2000000) : Ev (fun k => laws_markIntS.f k l (m : Int)) (((l.length + m : Nat) : Int), cnt m l.length) := by
  have := markI_l0 m hm l hl l.length 0 (by omega)
  rw [Nat.zero_add] at this
  exact Ev.congr (fun k => by unfold laws_markIntS.f; rfl) this
theorem heldI_l0 (m : Nat) (hm : m ≤ 10000000) (n : Nat) (hn : n ≤ 2000000) (d : Nat) : ∀ j : Nat, j + d = n → Ev (fun k => laws_heldIntS.l0 k (cnt m n) ((j + m : Nat) : Int) (j : Int)) ((n + m : Nat) : Int) := by
  induction d with
  | zero =>
    intro j hj
    obtain rfl : j = n := by omega
    refine Ev.step (f := fun _ => some ((j + m : Nat) : Int)) (fun k => ?_) (Ev.now _)
    simp only [laws_heldIntS.l0]
    rw [cnt_len, if_neg (by omega)]
  | succ d ih =>
    intro j hj
    refine Ev.step (fun k => ?_) (ih (j + 1) (by omega))
    simp only [laws_heldIntS.l0]
    rw [cnt_len, if_pos (show (j : Int) < (n : Int) by omega), if_pos (show (0 : Int) ≤ (j : Int) by omega), cnt_at m n j (by omega), if_pos rfl, w64 (n := (j : Int) + 1) (by omega) (by omega), w64 (n := ((j + m : Nat) : Int) + 1) (by omega) (by omega), show ((j + m : Nat) : Int) + 1 = ((j + 1 + m : Nat) : Int) by omega]
    rfl
theorem heldI_ok (m : Nat) (hm : m ≤ 10000000) (n : Nat) (hn : n ≤ 2000000) : Ev (fun k => laws_heldIntS.f k (cnt m n) (m : Int)) ((n + m : Nat) : Int) := by
  have := heldI_l0 m hm n hn n 0 (by omega)
  rw [Nat.zero_add] at this
  exact Ev.congr (fun k => by unfold laws_heldIntS.f; rfl) this
def mk (m n : Nat) : List S44 := (List.range n).map (fun (i : Nat) => (⟨(2 * i + m : Nat), (2 * i + m + 1 : Nat)⟩ : S44))
theorem mk_len (m n : Nat) : (mk m n).length = n := by simp [mk]
theorem mk_at (m n i : Nat) (h : i < n) : rd_T44 (mk m n) (i : Int) = ⟨((2 * i + m : Nat) : Int), ((2 * i + m + 1 : Nat) : Int)⟩ := by
  unfold rd_T44 mk
  rw [Int.toNat_natCast, List.getD_eq_getElem?_getD, List.getElem?_map, List.getElem?_range h]
  rfl
theorem mark_l0 (m : Nat) (hm : m ≤ 10000000) (l : List S44) (hl : l.length ≤ 1000000) (d : Nat) : ∀ j : Nat, j + d = l.length → Ev (fun k => laws_markInsS.l0 k (mk m j ++ l.drop j) ((2 * j + m : Nat) : Int) (j : Int)) (((2 * l.length + m : Nat) : Int), mk m l.length) := by
  induction d with
  | zero =>
    intro j hj
    obtain rfl : j = l.length := by omega
    rw [List.drop_length, List.append_nil]
    refine Ev.step (f := fun _ => some (((2 * l.length + m : Nat) : Int), mk m l.length)) (fun k => ?_) (Ev.now _)
    simp only [laws_markInsS.l0]
    rw [mk_len, if_neg (by omega)]
  | succ d ih =>
    intro j hj
    have hlt : j < l.length := by omega
    refine Ev.step (fun k => ?_) (ih (j + 1) (by omega))
    simp only [laws_markInsS.l0, Option.bind_some]
    have hlen : (mk m j ++ l.drop j).length = l.length := by rw [List.length_append, mk_len, List.length_drop]; omega
    have hset : ∀ v : S44, (mk m j ++ l.drop j).set j v = mk m j ++ (v :: l.drop (j + 1)) := by
      intro v
      rw [List.set_append, mk_len, if_neg (by omega), Nat.sub_self, List.drop_eq_getElem_cons hlt, List.set_cons_zero]
    have hset2 : ∀ u v : S44, (mk m j ++ (u :: l.drop (j + 1))).set j v = mk m j ++ (v :: l.drop (j + 1)) := by
      intro u v
      rw [List.set_append, mk_len, if_neg (by omega), Nat.sub_self, List.set_cons_zero]
    have hrd : ∀ u : S44, rd_T44 (mk m j ++ (u :: l.drop (j + 1))) (j : Int) = u := by
      intro u
      unfold rd_T44
      rw [Int.toNat_natCast, List.getD_eq_getElem?_getD, List.getElem?_append_right (by rw [mk_len]; omega), mk_len, Nat.sub_self]
      rfl
    have hmk : mk m (j + 1) = mk m j ++ [⟨((2 * j + m : Nat) : Int), ((2 * j + m + 1 : Nat) : Int)⟩] := by
      unfold mk
      rw [List.range_succ, List.map_append]
      rfl
    rw [hlen, if_pos (show (j : Int) < (l.length : Int) by omega), if_pos (show (0 : Int) ≤ (j : Int) by omega), Int.toNat_natCast, hset, hset2, hrd, hmk, List.append_assoc, w64 (n := (j : Int) + 1) (by omega) (by omega), w64 (n := ((2 * j + m : Nat) : Int) + 1) (by omega) (by omega), w64 (n := ((2 * j + m : Nat) : Int) + 1 + 1) (by omega) (by omega), show ((2 * j + m : Nat) : Int) + 1 + 1 = ((2 * (j + 1) + m : Nat) : Int) by omega]
    rfl
theorem mark_ok (m : Nat) (hm : m ≤ 10000000) (l : List S44) (hl : l.length ≤ 1000000) : Ev (fun k => laws_markInsS.f k l (m : Int)) (((2 * l.length + m : Nat) : Int), mk m l.length) := by
  have := mark_l0 m hm l hl l.length 0 (by omega)
  rw [Nat.mul_zero, Nat.zero_add] at this
  exact Ev.congr (fun k => by unfold laws_markInsS.f; rfl) this
theorem held_l0 (m : Nat) (hm : m ≤ 10000000) (n : Nat) (hn : n ≤ 1000000) (d : Nat) : ∀ j : Nat, j + d = n → Ev (fun k => laws_heldInsS.l0 k (mk m n) ((2 * j + m : Nat) : Int) (j : Int)) ((2 * n + m : Nat) : Int) := by
  induction d with
  | zero =>
    intro j hj
    obtain rfl : j = n := by omega
    refine Ev.step (f := fun _ => some ((2 * j + m : Nat) : Int)) (fun k => ?_) (Ev.now _)
    simp only [laws_heldInsS.l0]
    rw [mk_len, if_neg (by omega)]
  | succ d ih =>
    intro j hj
    refine Ev.step (fun k => ?_) (ih (j + 1) (by omega))
    simp only [laws_heldInsS.l0]
    rw [mk_len, if_pos (show (j : Int) < (n : Int) by omega), if_pos (show (0 : Int) ≤ (j : Int) by omega), mk_at m n j (by omega), w64 (n := (j : Int) + 1) (by omega) (by omega), w64 (n := ((2 * j + m : Nat) : Int) + 1) (by omega) (by omega), w64 (n := ((2 * j + m : Nat) : Int) + 1 + 1) (by omega) (by omega), show ((2 * j + m : Nat) : Int) + 1 + 1 = ((2 * (j + 1) + m : Nat) : Int) by omega, if_pos rfl, if_pos (show ((2 * j + m + 1 : Nat) : Int) = ((2 * j + m : Nat) : Int) + 1 by omega)]
    rfl
theorem held_ok (m : Nat) (hm : m ≤ 10000000) (n : Nat) (hn : n ≤ 1000000) : Ev (fun k => laws_heldInsS.f k (mk m n) (m : Int)) ((2 * n + m : Nat) : Int) := by
  have := held_l0 m hm n hn n 0 (by omega)
  rw [Nat.mul_zero, Nat.zero_add] at this
  exact Ev.congr (fun k => by unfold laws_heldInsS.f; rfl) this
/-- A func's rows marked from 1 on. -/
theorem markF_ok (P : List Int) (res : Int) (L : List Int) (B : List S44) (hP : P.length ≤ 2000000) (hL : L.length ≤ 2000000) (hB : B.length ≤ 1000000) :
    Ev (fun k => laws_markFunc.f k P res L B 1) (((2 * B.length + (L.length + (P.length + 1)) : Nat) : Int), cnt 1 P.length, cnt (P.length + 1) L.length, mk (L.length + (P.length + 1)) B.length) := by
  unfold laws_markFunc.f
  exact Ev.bind (markI_ok 1 (by omega) P hP) (Ev.bind (markI_ok (P.length + 1) (by omega) L hL) (Ev.bind (mark_ok (L.length + (P.length + 1)) (by omega) B hB) (Ev.now _)))
theorem heldF_ok (p l b : Nat) (res : Int) (hp : p ≤ 2000000) (hl : l ≤ 2000000) (hb : b ≤ 1000000) :
    Ev (fun k => laws_heldFunc.f k (cnt 1 p) res (cnt (p + 1) l) (mk (l + (p + 1)) b) 1) ((2 * b + (l + (p + 1)) : Nat) : Int) := by
  unfold laws_heldFunc.f
  refine Ev.bind (heldI_ok 1 (by omega) p hp) (Ev.congr (fun k => if_neg (by omega)) (Ev.bind (heldI_ok (p + 1) (by omega) l hl) (Ev.congr (fun k => if_neg (by omega)) (Ev.bind (held_ok (l + (p + 1)) (by omega) b hb) ?_))))
  exact Ev.congr (fun k => if_neg (by omega)) (Ev.now _)
end Go.Proofs.Ytmmlgkepnjelnaa.Mi
