/- CountUsed of the program and of the reference tell the same, whatever the table. -/
import Derived.Test.YtdklegalfcmboaaHt
import Derived.Test.YtdklegalfcmboaaQx4
namespace Go.Proofs.Ytdklegalfcmboaa.Pure
open Go.RowKit Go.Proofs.Ytdklegalfcmboaa.Q Go.Proofs.YtdklegalfcmboaaW.PrintWords Go.Proofs.YtdklegalfcmboaaW.PrintLast Go.Proofs.YtdklegalfcmboaaW.PrintMore Go.Proofs.Ytdklegalfcmboaa.Mb Go.Proofs.Ytdklegalfcmboaa.Ht
set_option linter.unusedSimpArgs false
set_option linter.unusedVariables false
theorem count_same (a n : Int) (xs : List S54) : ∀ (k : Nat) (c j : Int), impl_CountUsed.l0 k a c xs n j = spec_CountUsed.l0 k a c xs n j
  | 0, _, _ => by rw [impl_CountUsed.l0, spec_CountUsed.l0]
  | k + 1, c, j => by
    rw [impl_CountUsed.l0, spec_CountUsed.l0]
    simp only [count_same a n xs k]
theorem count_ev (a : Int) (xs : List S54) (hl : xs.length ≤ 1048576) (d : Nat) : ∀ (j : Nat) (c : Int), j + d = xs.length → ∃ r, Ev (fun k => spec_CountUsed.l0 k a c xs (xs.length : Int) (j : Int)) r := by
  induction d with
  | zero =>
    intro j c hj
    exact ⟨(c, true), Ev.step (f := fun _ => some (c, true)) (fun k => by rw [spec_CountUsed.l0, if_neg (by omega)]) (Ev.now _)⟩
  | succ d ih =>
    intro j c hj
    have e1 : wrap64 ((j : Int) + 1) = ((j + 1 : Nat) : Int) := w64 (by omega) (by omega)
    have go : ∀ c', (∀ k, spec_CountUsed.l0 (k + 1) a c xs (xs.length : Int) (j : Int) = spec_CountUsed.l0 k a c' xs (xs.length : Int) ((j + 1 : Nat) : Int)) → ∃ r, Ev (fun k => spec_CountUsed.l0 k a c xs (xs.length : Int) (j : Int)) r := by
      intro c' h
      obtain ⟨r, hr⟩ := ih (j + 1) c' (by omega)
      exact ⟨r, Ev.step h hr⟩
    by_cases c1 : (rd_T54 xs (j : Int)).f0 = true
    · by_cases c2 : a = -1
      · exact go (wrap64 (c + 1)) (fun k => by rw [spec_CountUsed.l0, if_pos (show (j : Int) < (xs.length : Int) by omega), if_pos (show (0 : Int) ≤ (j : Int) by omega), if_pos (show (j : Int) < (xs.length : Int) by omega), if_pos c1, if_pos c2, e1])
      · by_cases c3 : (rd_T54 xs (j : Int)).f1 = a
        · exact go (wrap64 (c + 1)) (fun k => by rw [spec_CountUsed.l0, if_pos (show (j : Int) < (xs.length : Int) by omega), if_pos (show (0 : Int) ≤ (j : Int) by omega), if_pos (show (j : Int) < (xs.length : Int) by omega), if_pos c1, if_neg c2, if_pos c3, e1])
        · exact go c (fun k => by rw [spec_CountUsed.l0, if_pos (show (j : Int) < (xs.length : Int) by omega), if_pos (show (0 : Int) ≤ (j : Int) by omega), if_pos (show (j : Int) < (xs.length : Int) by omega), if_pos c1, if_neg c2, if_neg c3, e1])
    · exact go c (fun k => by rw [spec_CountUsed.l0, if_pos (show (j : Int) < (xs.length : Int) by omega), if_pos (show (0 : Int) ≤ (j : Int) by omega), if_pos (show (j : Int) < (xs.length : Int) by omega), if_neg c1, e1])
theorem used_ok (xs : List S54) (fr : List Int) (a : Int) (hx : xs.length ≤ 1048576) (hl : fr.length ≤ 1048576) : ∃ r, Ev (fun k => spec_CountUsed.f k xs fr a) r ∧ Ev (fun k => impl_CountUsed.f k xs fr a) r := by
  obtain ⟨r, hr⟩ := count_ev a xs hx xs.length 0 0 (by omega)
  refine ⟨if gtB xs fr = true then r else (0, false), ?_, ?_⟩
  · unfold spec_CountUsed.f
    refine Ev.bind (spec_good xs fr hx hl) ?_
    cases gtB xs fr with
    | true => exact Ev.congr (fun k => if_pos rfl) hr
    | false => exact Ev.congr (fun k => if_neg (by decide)) (Ev.now _)
  · unfold impl_CountUsed.f
    refine Ev.bind (impl_good xs fr) ?_
    cases gtB xs fr with
    | true => exact Ev.congr (fun k => by rw [if_pos rfl]; exact count_same a _ xs k 0 0) hr
    | false => exact Ev.congr (fun k => if_neg (by decide)) (Ev.now _)
theorem FnExactCountUsed : laws_FnExactCountUsed.Pure := by
  intro l0 l1 a h0 h1 ha
  refine Ev.rounds ?_
  rcases sz_ok l0 l1 h0.1 h1.1 with ⟨x, h, hx⟩ | ⟨hl, hm, x, h, hx⟩
  · refine Ev.congr (fun k => ?_) (Ev.now true)
    unfold laws_FnExactCountUsed.f
    rw [h, Option.bind_some, if_pos hx]
  · have hlm : (l0.map cv).length ≤ 1048576 := by simpa using hl
    obtain ⟨r, hr, hi⟩ := used_ok (l0.map cv) l1 a hlm hm
    refine Ev.congr (fun k => by unfold laws_FnExactCountUsed.f; rw [h, Option.bind_some, if_neg (by omega)]) ?_
    refine Ev.bind (to_ok l0 l1 hl hm) ?_
    refine Ev.bind hr ?_
    refine Ev.bind (to_ok l0 l1 hl hm) ?_
    refine Ev.bind hi ?_
    refine Ev.congr (fun k => if_pos rfl) ?_
    refine Ev.step (f := fun k => (laws_toTable.f k l0 l1).bind fun bt210 => ((laws_eqTable.f k (l0.map cv) l1 bt210.1 bt210.2).bind fun t216 => (if t216 = true then (some true) else (some false)))) (fun k => by rw [laws_FnExactCountUsed.j0, if_neg (by simp)]) ?_
    refine Ev.bind (to_ok l0 l1 hl hm) ?_
    refine Ev.bind (eq_ok _ _ hlm hm) ?_
    exact Ev.congr (fun k => if_pos rfl) (Ev.now true)
end Go.Proofs.Ytdklegalfcmboaa.Pure
