/- Trees of types: both texts lay the parts at the same places. -/
import Derived.Test.YtlgegdgilkaldaaTm
import Derived.Test.YtlgegdgilkaldaaQx17
namespace Go.Proofs.Ytlgegdgilkaldaa.Ty
open Go.RowKit Go.Proofs.Ytlgegdgilkaldaa.Q Go.Proofs.YtlgegdgilkaldaaW.PrintWords Go.Proofs.YtlgegdgilkaldaaW.PrintLast Go.Proofs.YtlgegdgilkaldaaW.PrintMore Go.Proofs.Ytlgegdgilkaldaa.Mb
set_option linter.unusedSimpArgs false
set_option linter.unusedVariables false
theorem place_l0 (kids : List S52) (hk : kids.length ≤ 100) (r : S52 → Int × Int) (hr : ∀ x ∈ kids, 1 ≤ (r x).2 ∧ Ev (fun k => spec_l11Room.f k x.f0 x.f1 x.f2) (r x)) (d : Nat) : ∀ (j : Nat), j + d = kids.length →
    Ev (fun k => spec_l11Places.l0 k ((List.range j).map (psAt r kids)) ((kids.take j).foldl (stepA r) 0) kids (kids.length : Int) (j : Int)) ((List.range kids.length).map (psAt r kids)) := by
  induction d with
  | zero =>
    intro j hj
    obtain rfl : j = kids.length := by omega
    refine Ev.step (f := fun _ => some ((List.range kids.length).map (psAt r kids))) (fun k => ?_) (Ev.now _)
    simp only [spec_l11Places.l0]
    rw [if_neg (by omega)]
  | succ d ih =>
    intro j hj
    have hlt : j < kids.length := by omega
    obtain ⟨hp, he⟩ := hr kids[j] (List.getElem_mem hlt)
    have h := ih (j + 1) (by omega)
    have e1 : psAt r kids j = upT ((kids.take j).foldl (stepA r) 0) (r kids[j]).2 := by
      rw [psAt, List.getD_eq_getElem?_getD, List.getElem?_eq_getElem hlt]; rfl
    rw [fold_take (stepA r) 0 kids j hlt, List.range_succ, List.map_append, List.map_singleton, e1] at h
    refine Ev.step (f := fun k => (spec_l11Room.f k kids[j].f0 kids[j].f1 kids[j].f2).bind fun bt455 => (spec_l11Up.f ((kids.take j).foldl (stepA r) 0) bt455.2).bind fun t457 => spec_l11Places.l0 k ((List.range j).map (psAt r kids) ++ [t457]) (wrap64 (t457 + bt455.1)) kids (kids.length : Int) ((j + 1 : Nat) : Int)) (fun k => ?_) (Ev.bind he ?_)
    · have hlen : ((List.range j).map (psAt r kids)).length < 17592186044416 := by simp; omega
      simp only [spec_l11Places.l0]
      rw [if_pos (show (j : Int) < (kids.length : Int) by omega), if_pos (show (0 : Int) ≤ (j : Int) by omega), if_pos (show (j : Int) < (kids.length : Int) by omega), rd52_at kids j hlt, w64 (n := (j : Int) + 1) (by omega) (by omega)]
      simp only [hlen, if_true]
      rfl
    · refine Ev.congr (fun k => ?_) h
      rw [up_ok _ _ hp, Option.bind_some]
      rfl
theorem place_l1 (n : Nat) (hn : n ≤ 100) (a : Int) (ha : 1 ≤ a) (d : Nat) : ∀ (j : Nat), j + d = n →
    Ev (fun k => spec_l11Places.l1 k ((List.range j).map (fun _ => upT 1 a)) a (n : Int) (j : Int)) ((List.range n).map (fun _ => upT 1 a)) := by
  induction d with
  | zero =>
    intro j hj
    obtain rfl : j = n := by omega
    refine Ev.step (f := fun _ => some ((List.range j).map (fun _ => upT 1 a))) (fun k => ?_) (Ev.now _)
    simp only [spec_l11Places.l1]
    rw [if_neg (by omega)]
  | succ d ih =>
    intro j hj
    have h := ih (j + 1) (by omega)
    rw [List.range_succ, List.map_append, List.map_singleton] at h
    refine Ev.step (fun k => ?_) h
    have hlen : ((List.range j).map (fun _ => upT 1 a)).length < 17592186044416 := by simp; omega
    simp only [spec_l11Places.l1]
    rw [if_pos (show (j : Int) < (n : Int) by omega), up_ok _ _ ha, Option.bind_some, if_pos hlen, w64 (n := (j : Int) + 1) (by omega) (by omega)]
    rfl
theorem places_spec (m : Nat) (t : S52) (h : NZ (m + 1) t) (hc : t.f0 = 14 ∨ chosenB t.f0 = true) : Ev (fun k => spec_l11Places.f k t.f0 t.f1 t.f2) (placesT (m + 1) t) := by
  have hl : t.f2.length ≤ 8 := h.2.1
  unfold placesT
  by_cases c : t.f0 = 14
  · have hch : ¬ chosenB t.f0 = true := by rw [c]; decide
    rw [if_neg hch]
    have := place_l0 t.f2 (by omega) (roomT (m + 1)) (fun x hx => ⟨room_pos (m + 1) x, room_spec m x (h.2.2 x hx)⟩) t.f2.length 0 (by omega)
    refine Ev.congr (fun k => ?_) this
    unfold spec_l11Places.f
    rw [if_pos c]
    rfl
  · have hch : chosenB t.f0 = true := hc.resolve_left c
    rw [if_pos hch]
    refine Ev.congr (fun k => by unfold spec_l11Places.f; rw [if_neg c]) ?_
    refine Ev.bind (room_spec (m + 1) t h) ?_
    exact place_l1 t.f2.length (by omega) (roomT (m + 1 + 1) t).2 (room_pos _ t) t.f2.length 0 (by omega)
theorem places_len (m : Nat) (t : S52) : (placesT m t).length = t.f2.length := by
  unfold placesT
  split <;> simp
end Go.Proofs.Ytlgegdgilkaldaa.Ty
