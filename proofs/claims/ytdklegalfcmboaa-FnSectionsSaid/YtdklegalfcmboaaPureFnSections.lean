/- The law FnSections, on sections, names and bytes alone. -/
import Derived.Test.YtdklegalfcmboaaSn
import Derived.Test.YtdklegalfcmboaaQx3
namespace Go.Proofs.Ytdklegalfcmboaa.Pure
open Go.RowKit Go.Proofs.Ytdklegalfcmboaa.Q Go.Proofs.YtdklegalfcmboaaW.PrintWords Go.Proofs.YtdklegalfcmboaaW.PrintLast Go.Proofs.YtdklegalfcmboaaW.PrintMore Go.Proofs.Ytdklegalfcmboaa.Mb Go.Proofs.Ytdklegalfcmboaa.Cur Go.Proofs.Ytdklegalfcmboaa.Leb Go.Proofs.Ytdklegalfcmboaa.Sn
set_option linter.unusedSimpArgs false
set_option linter.unusedVariables false
theorem j3_ok {l : List Int} (hl : U8 l) : Ev (fun k => laws_FnSections.j3 k l) true := by
  obtain ⟨t, ht, hts⟩ := draw_name hl
  refine Ev.step (f := fun k => (spec_DrawNameBytes.f k l).bind fun t226 => ((impl_NameBytes.f k t226).bind fun bt227 => ((spec_NameBytes.f k t226).bind fun bt229 => (if (bt227.2 != bt229.2) = true then (some false) else (if bt227.2 = true then (if bt227.1.size + 4 ≤ 9223372036854775807 then ((impl_TakeName.f k (bt227.1 ++ (⟨#[109, 111, 114, 101]⟩ : ByteArray))).bind fun bt231 => (if bt231.2.2 = true then (if bt231.1.toList = t226.toList then (some (bt231.2.1 == (bt227.1.size : Int))) else (some false)) else (some false))) else (none)) else (some (bt227.1.toList == ([] : List UInt8)))))))) (fun k => by rw [laws_FnSections.j3]) ?_
  refine Ev.bind ht ?_
  by_cases c : (t.size : Int) > 100
  · obtain ⟨h1, h2⟩ := name_big t c
    refine Ev.bind h1 (Ev.bind h2 ?_)
    refine Ev.congr (fun k => ?_) (Ev.now true)
    rw [if_neg (by decide), if_neg (by decide)]
    exact congrArg some (beq_iff_eq.2 ((empty_iff _).2 rfl))
  · obtain ⟨h1, h2⟩ := name_ok t c
    have hl := U_len (n := (t.size : Int)) (by omega) (by omega)
    refine Ev.bind h1 (Ev.bind h2 ?_)
    have hT := takeName_ok t (⟨#[109, 111, 114, 101]⟩ : ByteArray) (by omega) (by decide)
    rw [← app_as] at hT
    have hs : (strOfNums (U (t.size : Int)) ++ t).size = (U (t.size : Int)).length + t.size := by rw [ByteArray.size_append, U_size]
    refine Ev.congr (f := fun k => (impl_TakeName.f k ((strOfNums (U (t.size : Int)) ++ t) ++ (⟨#[109, 111, 114, 101]⟩ : ByteArray))).bind fun bt231 => (if bt231.2.2 = true then (if bt231.1.toList = t.toList then (some (bt231.2.1 == ((strOfNums (U (t.size : Int)) ++ t).size : Int))) else (some false)) else (some false))) (fun k => ?_) ?_
    · rw [if_neg (by simp), if_pos rfl, if_pos (by rw [hs]; omega)]
    · refine Ev.bind hT ?_
      refine Ev.congr (fun k => ?_) (Ev.now true)
      rw [if_pos rfl, if_pos rfl, hs]
      exact congrArg some (beq_iff_eq.2 rfl)
theorem same_l0 {l1 : List Int} (hl : U8 l1) (l : List S45) (hn : l.length ≤ 100) (d : Nat) : ∀ j : Nat, j + d = l.length → Ev (fun k => laws_FnSections.l0 k l1 l l (l.length : Int) (j : Int)) true := by
  induction d with
  | zero =>
    intro j hj
    refine Ev.step (fun k => ?_) (j3_ok hl)
    rw [laws_FnSections.l0, if_neg (by omega)]
  | succ d ih =>
    intro j hj
    refine Ev.step (fun k => ?_) (ih (j + 1) (by omega))
    rw [laws_FnSections.l0, if_pos (by omega), if_pos (by omega), if_pos (by omega), if_pos (by omega), if_neg (by simp), w64 (n := (j : Int) + 1) (by omega) (by omega)]
    rfl
theorem j0_ok {l1 : List Int} (hl : U8 l1) (l : List S45) (hn : l.length ≤ 100) : Ev (fun k => laws_FnSections.j0 k l1 l (wr l).1 (wr l).2 false) true := by
  have no : (wr l).2 = false → Ev (fun k => laws_FnSections.j0 k l1 l (wr l).1 (wr l).2 false) true := by
    intro h
    refine Ev.step (fun k => ?_) (j3_ok hl)
    rw [laws_FnSections.j0, if_neg (by decide), h, if_neg (by decide)]
  cases hk : okS l with
  | false => exact no (by unfold wr; rw [hk]; rfl)
  | true =>
    by_cases c : ((enc l).size : Int) > 4000
    · exact no (by unfold wr; rw [hk, if_pos rfl, if_pos c])
    · have hw : wr l = (enc l, true) := by unfold wr; rw [hk, if_pos rfl, if_neg c]
      rw [hw]
      have hr := read_wr l hk (by omega)
      have h1 : Ev (fun k => laws_FnSections.j1 k l1 l l false) true := by
        refine Ev.step (fun k => ?_) (same_l0 hl l hn l.length 0 (by omega))
        rw [laws_FnSections.j1, if_neg (by decide)]
        rfl
      refine Ev.step (f := fun k => (impl_ReadSections.f k (enc l)).bind fun bt220 => (if bt220.2 = true then (laws_FnSections.j1 k l1 l bt220.1 ((bt220.1.length : Int) != (l.length : Int))) else (laws_FnSections.j1 k l1 l bt220.1 true))) (fun k => ?_) ?_
      · rw [laws_FnSections.j0, if_neg (by decide), if_pos rfl]
      · refine Ev.bind hr ?_
        refine Ev.congr (fun k => ?_) h1
        rw [if_pos rfl, bne_self_eq_false]
theorem FnSections : laws_FnSections.Pure := by
  intro l0 l1 a0 b0 h0 a1 b1 h1
  refine Ev.rounds ?_
  have u0 := u8_of h0
  have u1 := u8_of h1
  have hs := len_sum b0 b1
  by_cases c : wrap64 ((l0.length : Int) + (l1.length : Int)) > 1048576
  · exact Ev.congr (fun k => by rw [laws_FnSections.f, if_pos c]) (Ev.now true)
  · obtain ⟨l, hl, hn⟩ := draw_secs u0
    refine Ev.congr (fun k => by rw [laws_FnSections.f, if_neg c]) ?_
    refine Ev.bind hl (Ev.bind (wr_impl l (by omega)) (Ev.bind (wr_spec l (by omega)) ?_))
    refine Ev.congr (fun k => ?_) (j0_ok u1 l hn)
    rw [bne_self_eq_false, if_neg (by decide), bne_self_eq_false]
end Go.Proofs.Ytdklegalfcmboaa.Pure
