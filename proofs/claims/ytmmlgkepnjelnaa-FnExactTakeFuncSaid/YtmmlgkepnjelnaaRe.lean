/- Instructions in bytes: both texts read alike. -/
import Derived.Test.YtmmlgkepnjelnaaRc
import Derived.Test.YtmmlgkepnjelnaaRi
import Derived.Test.YtmmlgkepnjelnaaLu
import Derived.Test.YtmmlgkepnjelnaaLw
import Derived.Test.YtmmlgkepnjelnaaQx4
import Derived.Test.YtmmlgkepnjelnaaQx1
namespace Go.Proofs.Ytmmlgkepnjelnaa.Ins
open Go.RowKit Go.Proofs.Ytmmlgkepnjelnaa.Q Go.Proofs.YtmmlgkepnjelnaaW.PrintWords Go.Proofs.YtmmlgkepnjelnaaW.PrintLast Go.Proofs.YtmmlgkepnjelnaaW.PrintMore Go.Proofs.Ytmmlgkepnjelnaa.Mb Go.Proofs.Ytmmlgkepnjelnaa.Leb
set_option linter.unusedSimpArgs false
set_option linter.unusedVariables false
set_option linter.unusedSectionVars false
theorem empty_iff (s : ByteArray) : s.toList = ([] : List UInt8) ↔ s.size = 0 := by
  rw [ByteArray.toList_eq]
  constructor
  · intro h
    show s.data.size = 0
    rw [← Array.length_toList, h]
    rfl
  · intro h
    exact List.length_eq_zero_iff.1 (by rw [Array.length_toList]; exact h)
theorem ba_same {a b : ByteArray} (h : a.data.toList = b.data.toList) : a = b := by
  cases a; cases b
  simp only at h
  congr 1
  exact Array.toList_inj.1 h
theorem tl_ext (a : ByteArray) (i j : Nat) : (a.extract i j).data.toList = (a.data.toList.take j).drop i := by
  rw [ByteArray.data_extract, Array.toList_extract, List.extract_eq_take_drop, List.drop_take]
theorem ext_size (s : ByteArray) (j : Nat) : (s.extract j s.size).size = s.size - j := by
  rw [ByteArray.size_extract]; omega
theorem ext_ext (s : ByteArray) (i w : Nat) : (s.extract i s.size).extract w (s.extract i s.size).size = s.extract (i + w) s.size := by
  apply ba_same
  have hl : s.data.toList.length = s.size := by rw [Array.length_toList]; rfl
  rw [tl_ext, tl_ext, tl_ext, ext_size, ← hl, List.take_length, List.drop_drop.symm, List.take_of_length_le (by rw [List.length_drop]; omega)]
theorem bt_ext (s : ByteArray) (j : Nat) (h : j < s.size) : bt (s.extract j s.size) 0 = bt s (j : Int) := by
  unfold bt
  have h1 : (0 : Int).toNat < (s.extract j s.size).size := by rw [ext_size]; show 0 < _; omega
  have h2 : (j : Int).toNat < s.size := by rw [Int.toNat_natCast]; exact h
  rw [dif_pos h1, dif_pos h2]
  congr 2
  rw [ByteArray.getElem_extract]
  rfl
theorem number_ends (s : ByteArray) (h4 : s.size = 4) : ∃ v, Ev (fun k => impl_number.f k s) v := by
  have step : ∀ (x : Int) (i : Nat), i < 4 → ∀ k, impl_number.l0 (k + 1) s x (i : Int) = impl_number.l0 k s (Go.bits .or .u64 (IntKind.u64.wrap (x * 256)) (IntKind.u64.wrap (bt s (i : Int)))) ((i : Int) - 1) := by
    intro x i hi k
    simp only [impl_number.l0]
    rw [if_pos (by omega), if_pos (by omega), if_pos (by omega), w64 (n := (i : Int) - 1) (by omega) (by omega)]
  have all : ∀ (d : Nat) (x : Int), d ≤ 4 → ∃ v, Ev (fun k => impl_number.l0 k s x ((d : Int) - 1)) v := by
    intro d
    induction d with
    | zero =>
      intro x _
      refine ⟨x, Ev.step (f := fun _ => some x) (fun k => ?_) (Ev.now _)⟩
      simp only [impl_number.l0]
      rw [if_neg (by decide)]
    | succ d ihd =>
      intro x hd
      obtain ⟨v, hv⟩ := ihd (Go.bits .or .u64 (IntKind.u64.wrap (x * 256)) (IntKind.u64.wrap (bt s (d : Int)))) (by omega)
      refine ⟨v, Ev.step (fun k => ?_) hv⟩
      rw [show (((d + 1 : Nat) : Int) - 1) = (d : Int) by omega]
      exact step x d (by omega) k
  obtain ⟨v, hv⟩ := all 4 0 (Nat.le_refl _)
  refine ⟨v, Ev.congr (fun k => ?_) hv⟩
  unfold impl_number.f
  rw [h4, w64 (by decide) (by decide)]
theorem number_f (k : Nat) (s : ByteArray) : spec_l5Number.f k s = impl_number.f k s := number_same k s 0 _

/-- What an instruction and what stands behind it tell. -/
def out (b : Bool) (op a : Int) (acc : List S44) (R : List S44 × Bool) : List S44 × Bool := if b = true ∧ gi (fo op) a = true then (if acc.length = 200 then ([], false) else R) else ([], false)
section
variable (s : ByteArray) (acc : List S44) (op : Int) (h0 : 0 ≤ op) (h1 : op ≤ 255) (hacc : acc.length ≤ 200)
include h0 h1 hacc
theorem gi_evS (a : Int) : Ev (fun k => spec_GoodIns.f k op a) (gi (fo op) a) := ⟨9, fun k hk => gi_spec h0 h1 a hk⟩
theorem gi_evI (a : Int) : Ev (fun k => impl_GoodIns.f k op a) (gi (fo op) a) := ⟨9, fun k hk => gi_impl h0 h1 a hk⟩
theorem shape_ev : Ev (fun k => spec_l6Shape.f k op) (fo op - 1) := ⟨9, fun k hk => (fo_ok h0 h1 hk).2.1⟩
theorem form_ev : Ev (fun k => impl_formOf.f k op) (fo op) := ⟨9, fun k hk => (fo_ok h0 h1 hk).1⟩
theorem tail_yes (j y a : Int) (R : List S44 × Bool) (hy : y ≠ 0 ∨ fo op = 1) (hR : acc.length < 200 → Ev (fun k => spec_l6Read.l0 k s (acc ++ [(⟨op, a⟩ : S44)]) (wrap64 (j + y))) R) :
    Ev (fun k => spec_l6Read.j2 k s acc j y op a) (out true op a acc R) := by
  have main : Ev (fun k => (spec_GoodIns.f k op a).bind fun t122 => (if t122 = true then (if (acc.length : Int) = 200 then (some (([] : List (S44)), false)) else (if acc.length < 8796093022208 then (spec_l6Read.l0 k s (acc ++ [(⟨op, a⟩ : S44)]) (wrap64 (j + y))) else (none))) else (some (([] : List (S44)), false)))) (out true op a acc R) := by
    refine Ev.bind (gi_evS acc op h0 h1 hacc a) ?_
    unfold out
    by_cases c : gi (fo op) a = true
    · rw [if_pos ⟨rfl, c⟩]
      refine Ev.congr (fun k => if_pos c) ?_
      by_cases c2 : acc.length = 200
      · rw [if_pos c2]
        exact Ev.congr (fun k => if_pos (by omega)) (Ev.now _)
      · rw [if_neg c2]
        refine Ev.congr (fun k => ?_) (hR (by omega))
        rw [if_neg (by omega), if_pos (by omega)]
    · rw [if_neg (fun h => c h.2)]
      exact Ev.congr (fun k => if_neg c) (Ev.now _)
  by_cases c : y = 0
  · refine Ev.step (fun k => by simp only [spec_l6Read.j2]; rw [if_pos c]) (Ev.bind (shape_ev acc op h0 h1 hacc) ?_)
    refine Ev.congr (fun k => if_pos (by have := hy.resolve_left (fun h => h c); omega)) main
  · exact Ev.step (fun k => by simp only [spec_l6Read.j2]; rw [if_neg c]) main
theorem tail_no (j a : Int) (hf : fo op ≠ 1) : Ev (fun k => spec_l6Read.j2 k s acc j 0 op a) (([] : List S44), false) := by
  refine Ev.step (fun k => by simp only [spec_l6Read.j2]; rw [if_pos trivial]) (Ev.bind (shape_ev acc op h0 h1 hacc) ?_)
  exact Ev.congr (fun k => if_neg (by omega)) (Ev.now _)
end
/-- One instruction. -/
theorem one_read (s : ByteArray) (hs : s.size ≤ 1000000000) (acc : List S44) (hacc : acc.length ≤ 200) (j : Nat) (hj : j < s.size) :
    ∃ (a y : Int) (b : Bool), Ev (fun k => impl_takeA.f k (s.extract (j + 1) s.size) (fo (bt s (j : Int)))) (a, y, b) ∧ (b = true → 0 ≤ y ∧ (j : Int) + 1 + y ≤ s.size) ∧
      ∀ R, (b = true → acc.length < 200 → Ev (fun k => spec_l6Read.l0 k s (acc ++ [(⟨bt s (j : Int), a⟩ : S44)]) ((j : Int) + 1 + y)) R) → Ev (fun k => spec_l6Read.l0 k s acc (j : Int)) (out b (bt s (j : Int)) a acc R) := by
  obtain ⟨h0, h1⟩ := bt_rng s (j : Int)
  have hsz := ext_size s (j + 1)
  generalize hop : bt s (j : Int) = op at h0 h1
  generalize hrest : s.extract (j + 1) s.size = rest at hsz
  have hf := fo_ok h0 h1 (Nat.le_refl 9)
  have f0 := hf.2.2.1
  have f1 := hf.2.2.2
  have w1 : wrap64 ((j : Int) + 1) = (j : Int) + 1 := w64 (by omega) (by omega)
  have w2 : wrap64 op = op := w64 (by omega) (by omega)
  have step : ∀ k, spec_l6Read.l0 (k + 1) s acc (j : Int) = (spec_l6Shape.f k op).bind fun t113 => (if t113 = (-1) then (some (([] : List (S44)), false)) else (if t113 = 1 then (if rest.toList = ([] : List UInt8) then (some (([] : List (S44)), false)) else (if 0 < (rest.size : Int) then (spec_l6Read.j2 k s acc ((j : Int) + 1) 1 op (wrap64 (bt rest 0))) else (none))) else (if t113 = 2 then (spec_l6Read.j1 k s acc ((j : Int) + 1) 0 rest t113 (t113 == 2) op 0) else (spec_l6Read.j1 k s acc ((j : Int) + 1) 0 rest t113 (t113 == 3) op 0)))) := by
    intro k
    simp only [spec_l6Read.l0, w1, hop, w2]
    rw [if_pos (by omega), if_pos (by omega), if_pos (by omega), if_pos (by omega), show ((j : Int) + 1).toNat = j + 1 by omega, hrest]
  have hsh := shape_ev acc op h0 h1 hacc
  have yes := tail_yes s acc op h0 h1 hacc ((j : Int) + 1)
  have no := tail_no s acc op h0 h1 hacc ((j : Int) + 1)
  have hw : ∀ y : Int, 0 ≤ y → (j : Int) + 1 + y ≤ s.size → wrap64 ((j : Int) + 1 + y) = (j : Int) + 1 + y := fun y _ _ => w64 (by omega) (by omega)
  have noR : ∀ a R, out false op a acc R = ([], false) := fun a R => if_neg (fun h => Bool.false_ne_true h.1)
  generalize hfo : fo op = f at hf f0 f1 hsh
  have hcases : f = 0 ∨ f = 1 ∨ f = 2 ∨ f = 3 ∨ f = 4 ∨ f = 5 ∨ f = 6 ∨ f = 7 := by omega
  rcases hcases with e | e | e | e | e | e | e | e <;> subst e
  · refine ⟨0, 0, false, ?_, fun h => (Bool.false_ne_true h).elim, fun R _ => ?_⟩
    · unfold impl_takeA.f
      refine Ev.congr (fun k => by rw [if_neg (by decide), if_neg (by decide), if_neg (by decide)]) ?_
      exact Ev.step (f := fun _ => some (0, 0, false)) (fun k => rfl) (Ev.now _)
    · rw [noR]
      exact Ev.step step (Ev.bind hsh (Ev.congr (fun k => if_pos (by decide)) (Ev.now _)))
  · refine ⟨0, 0, true, ?_, fun _ => ⟨by omega, by omega⟩, fun R hR => ?_⟩
    · unfold impl_takeA.f
      exact Ev.congr (fun k => if_pos rfl) (Ev.now _)
    · refine Ev.step step (Ev.bind hsh (Ev.congr (fun k => by rw [if_neg (by decide), if_neg (by decide), if_neg (by decide)]) ?_))
      refine Ev.step (f := fun k => spec_l6Read.j2 k s acc ((j : Int) + 1) 0 op 0) (fun k => rfl) ?_
      exact yes 0 0 R (.inr hfo) (fun h => by rw [hw 0 (by omega) (by omega)]; exact hR rfl h)
  · by_cases c : rest.size = 0
    · have ce := (empty_iff rest).2 c
      refine ⟨0, 0, false, ?_, fun h => (Bool.false_ne_true h).elim, fun R _ => ?_⟩
      · unfold impl_takeA.f
        exact Ev.congr (fun k => by rw [if_neg (by decide), if_pos (by decide), if_pos ce]) (Ev.now _)
      · rw [noR]
        exact Ev.step step (Ev.bind hsh (Ev.congr (fun k => by rw [if_neg (by decide), if_pos (by decide), if_pos ce]) (Ev.now _)))
    · have ce : ¬ rest.toList = ([] : List UInt8) := fun h => c ((empty_iff rest).1 h)
      refine ⟨wrap64 (bt rest 0), 1, true, ?_, fun _ => ⟨by omega, by omega⟩, fun R hR => ?_⟩
      · unfold impl_takeA.f
        exact Ev.congr (fun k => by rw [if_neg (by decide), if_pos (by decide), if_neg ce, if_pos (by omega)]) (Ev.now _)
      · refine Ev.step step (Ev.bind hsh (Ev.congr (fun k => by rw [if_neg (by decide), if_pos (by decide), if_neg ce, if_pos (by omega)]) ?_))
        exact yes 1 _ R (.inl (by decide)) (fun h => by rw [hw 1 (by omega) (by omega)]; exact hR rfl h)
  · obtain ⟨x, y, he, hx0, hx1, hy0, hy1⟩ := takeU_l1 rest (by omega) 32 (by decide) (by decide)
    have eI : Ev (fun k => impl_TakeUleb.f k rest 32) (x, y) := ⟨100, fun k hk => (he k hk).1⟩
    have eS : Ev (fun k => spec_l1TakeU.f k rest 32) (x, y) := ⟨100, fun k hk => (he k hk).2⟩
    refine ⟨wrap64 x, y, decide (y > 0), ?_, fun _ => ⟨by omega, by omega⟩, fun R hR => ?_⟩
    · unfold impl_takeA.f
      refine Ev.congr (fun k => by rw [if_neg (by decide), if_neg (by decide), if_pos (by decide)]) ?_
      refine Ev.step (f := fun k => (impl_TakeUleb.f k rest 32).bind fun bt134 => (some (wrap64 (bt134.1), bt134.2, decide (bt134.2 > 0)))) (fun k => rfl) ?_
      exact Ev.bind eI (Ev.now _)
    · refine Ev.step step (Ev.bind hsh (Ev.congr (fun k => by rw [if_neg (by decide), if_neg (by decide), if_pos (by decide)]) ?_))
      refine Ev.step (f := fun k => (spec_l1TakeU.f k rest 32).bind fun bt114 => (spec_l6Read.j2 k s acc ((j : Int) + 1) bt114.2 op (wrap64 (bt114.1)))) (fun k => rfl) ?_
      refine Ev.bind eS ?_
      by_cases c : y = 0
      · subst c
        rw [decide_eq_false (by decide), noR]
        exact no _ (by omega)
      · rw [decide_eq_true (by omega)]
        exact yes y _ R (.inl c) (fun h => by rw [hw y (by omega) (by omega)]; exact hR (decide_eq_true (by omega)) h)
  · obtain ⟨x, y, he, hx0, hx1, hy0, hy1⟩ := takeU_l1 rest (by omega) 32 (by decide) (by decide)
    have eI : Ev (fun k => impl_TakeUleb.f k rest 32) (x, y) := ⟨100, fun k hk => (he k hk).1⟩
    have eS : Ev (fun k => spec_l1TakeU.f k rest 32) (x, y) := ⟨100, fun k hk => (he k hk).2⟩
    refine ⟨wrap64 x, y, decide (y > 0), ?_, fun _ => ⟨by omega, by omega⟩, fun R hR => ?_⟩
    · unfold impl_takeA.f
      refine Ev.congr (fun k => by rw [if_neg (by decide), if_neg (by decide), if_neg (by decide)]) ?_
      refine Ev.step (f := fun k => (impl_TakeUleb.f k rest 32).bind fun bt134 => (some (wrap64 (bt134.1), bt134.2, decide (bt134.2 > 0)))) (fun k => rfl) ?_
      exact Ev.bind eI (Ev.now _)
    · refine Ev.step step (Ev.bind hsh (Ev.congr (fun k => by rw [if_neg (by decide), if_neg (by decide), if_neg (by decide)]) ?_))
      refine Ev.step (f := fun k => (spec_l1TakeU.f k rest 32).bind fun bt114 => (spec_l6Read.j2 k s acc ((j : Int) + 1) bt114.2 op (wrap64 (bt114.1)))) (fun k => rfl) ?_
      refine Ev.bind eS ?_
      by_cases c : y = 0
      · subst c
        rw [decide_eq_false (by decide), noR]
        exact no _ (by omega)
      · rw [decide_eq_true (by omega)]
        exact yes y _ R (.inl c) (fun h => by rw [hw y (by omega) (by omega)]; exact hR (decide_eq_true (by omega)) h)
  · obtain ⟨x, y, he, hy0, hy1⟩ := takeS_l1 rest (by omega) 32 (by decide) (by decide)
    have eI : Ev (fun k => impl_TakeSleb.f k rest 32) (x, y) := ⟨100, fun k hk => (he k hk).1⟩
    have eS : Ev (fun k => spec_l1TakeS.f k rest 32) (x, y) := ⟨100, fun k hk => (he k hk).2⟩
    refine ⟨x, y, decide (y > 0), ?_, fun _ => ⟨by omega, by omega⟩, fun R hR => ?_⟩
    · unfold impl_takeA.f
      refine Ev.congr (fun k => by rw [if_neg (by decide), if_neg (by decide), if_neg (by decide)]) ?_
      refine Ev.step (f := fun k => (impl_TakeSleb.f k rest 32).bind fun bt136 => (some (bt136.1, bt136.2, decide (bt136.2 > 0)))) (fun k => rfl) ?_
      exact Ev.bind eI (Ev.now _)
    · refine Ev.step step (Ev.bind hsh (Ev.congr (fun k => by rw [if_neg (by decide), if_neg (by decide), if_neg (by decide)]) ?_))
      refine Ev.step (f := fun k => (spec_l1TakeS.f k rest 32).bind fun bt116 => (spec_l6Read.j2 k s acc ((j : Int) + 1) bt116.2 op bt116.1)) (fun k => rfl) ?_
      refine Ev.bind eS ?_
      by_cases c : y = 0
      · subst c
        rw [decide_eq_false (by decide), noR]
        exact no _ (by omega)
      · rw [decide_eq_true (by omega)]
        exact yes y _ R (.inl c) (fun h => by rw [hw y (by omega) (by omega)]; exact hR (decide_eq_true (by omega)) h)
  · obtain ⟨x, y, he, hy0, hy1⟩ := takeS_l1 rest (by omega) 64 (by decide) (by decide)
    have eI : Ev (fun k => impl_TakeSleb.f k rest 64) (x, y) := ⟨100, fun k hk => (he k hk).1⟩
    have eS : Ev (fun k => spec_l1TakeS.f k rest 64) (x, y) := ⟨100, fun k hk => (he k hk).2⟩
    refine ⟨x, y, decide (y > 0), ?_, fun _ => ⟨by omega, by omega⟩, fun R hR => ?_⟩
    · unfold impl_takeA.f
      refine Ev.congr (fun k => by rw [if_neg (by decide), if_neg (by decide), if_neg (by decide)]) ?_
      refine Ev.step (f := fun k => (impl_TakeSleb.f k rest 64).bind fun bt136 => (some (bt136.1, bt136.2, decide (bt136.2 > 0)))) (fun k => rfl) ?_
      exact Ev.bind eI (Ev.now _)
    · refine Ev.step step (Ev.bind hsh (Ev.congr (fun k => by rw [if_neg (by decide), if_neg (by decide), if_neg (by decide)]) ?_))
      refine Ev.step (f := fun k => (spec_l1TakeS.f k rest 64).bind fun bt116 => (spec_l6Read.j2 k s acc ((j : Int) + 1) bt116.2 op bt116.1)) (fun k => rfl) ?_
      refine Ev.bind eS ?_
      by_cases c : y = 0
      · subst c
        rw [decide_eq_false (by decide), noR]
        exact no _ (by omega)
      · rw [decide_eq_true (by omega)]
        exact yes y _ R (.inl c) (fun h => by rw [hw y (by omega) (by omega)]; exact hR (decide_eq_true (by omega)) h)
  · by_cases c : (rest.size : Int) < 4
    · refine ⟨0, 0, false, ?_, fun h => (Bool.false_ne_true h).elim, fun R _ => ?_⟩
      · unfold impl_takeA.f
        refine Ev.congr (fun k => by rw [if_neg (by decide), if_neg (by decide), if_neg (by decide)]) ?_
        exact Ev.step (f := fun _ => some (0, 0, false)) (fun k => by simp only [impl_takeA.j0]; simp [c]) (Ev.now _)
      · rw [noR]
        refine Ev.step step (Ev.bind hsh (Ev.congr (fun k => by rw [if_neg (by decide), if_neg (by decide), if_neg (by decide)]) ?_))
        exact Ev.step (f := fun _ => some (([] : List S44), false)) (fun k => by simp only [spec_l6Read.j1]; simp [c]) (Ev.now _)
    · have h4 : (rest.extract 0 4).size = 4 := by rw [ByteArray.size_extract]; omega
      obtain ⟨v, hv⟩ : ∃ v, Ev (fun k => impl_number.f k (rest.extract 0 4)) v := number_ends _ h4
      refine ⟨wrap64 v, 4, true, ?_, fun _ => ⟨by omega, by omega⟩, fun R hR => ?_⟩
      · unfold impl_takeA.f
        refine Ev.congr (fun k => by rw [if_neg (by decide), if_neg (by decide), if_neg (by decide)]) ?_
        refine Ev.step (f := fun k => (impl_number.f k (rest.extract 0 4)).bind fun t140 => (some (wrap64 (t140), 4, true))) (fun k => by simp only [impl_takeA.j0]; rw [if_neg (by decide), if_neg (by decide), if_neg (by decide), if_pos (by decide), if_neg c, if_pos (by decide), if_pos (by omega)]) ?_
        exact Ev.bind hv (Ev.now _)
      · refine Ev.step step (Ev.bind hsh (Ev.congr (fun k => by rw [if_neg (by decide), if_neg (by decide), if_neg (by decide)]) ?_))
        refine Ev.step (f := fun k => (spec_l5Number.f k (rest.extract 0 4)).bind fun t120 => (spec_l6Read.j2 k s acc ((j : Int) + 1) 4 op (wrap64 (t120)))) (fun k => by simp only [spec_l6Read.j1]; rw [if_neg (by decide), if_neg (by decide), if_neg (by decide), if_pos (by decide), if_neg c, if_pos (by decide), if_pos (by omega)]) ?_
        refine Ev.bind (Ev.congr (fun k => number_f k _) hv) ?_
        exact yes 4 _ R (.inl (by decide)) (fun h => by rw [hw 4 (by omega) (by omega)]; exact hR rfl h)
/-- All of the bytes. -/
theorem read_same (s : ByteArray) (hs : s.size ≤ 1000000000) (d : Nat) : ∀ (j : Nat) (acc : List S44), s.size - j = d → acc.length ≤ 200 → ∃ R : List S44 × Bool, Ev (fun k => impl_ReadCode.l0 k (s.extract j s.size) acc) R ∧ Ev (fun k => spec_l6Read.l0 k s acc (j : Int)) R ∧ R.1.length ≤ 200 := by
  induction d using Nat.strongRecOn with
  | _ d ih =>
    intro j acc hd hacc
    have hsz := ext_size s j
    by_cases hj : j < s.size
    · obtain ⟨a, y, b, hT, hb, hS⟩ := one_read s hs acc hacc j hj
      have hbt := bt_ext s j hj
      have hr := bt_rng s (j : Int)
      have hee := ext_ext s j 1
      have w2 : wrap64 (bt s (j : Int)) = bt s (j : Int) := w64 (by omega) (by omega)
      have stepI : ∀ k, impl_ReadCode.l0 (k + 1) (s.extract j s.size) acc = (impl_formOf.f k (bt s (j : Int))).bind fun t148 => ((impl_takeA.f k (s.extract (j + 1) s.size) t148).bind fun bt149 => (if bt149.2.2 = true then ((impl_GoodIns.f k (bt s (j : Int)) bt149.1).bind fun t152 => (if t152 = true then (if (acc.length : Int) = 200 then (some (([] : List (S44)), false)) else (if acc.length < 8796093022208 then (if 0 ≤ (wrap64 (1 + bt149.2.1)) then (if (wrap64 (1 + bt149.2.1)) ≤ ((s.extract j s.size).size : Int) then (impl_ReadCode.l0 k ((s.extract j s.size).extract ((wrap64 (1 + bt149.2.1)) : Int).toNat (s.extract j s.size).size) (acc ++ [(⟨bt s (j : Int), bt149.1⟩ : S44)])) else (none)) else (none)) else (none))) else (some (([] : List (S44)), false)))) else (some (([] : List (S44)), false)))) := by
        intro k
        simp only [impl_ReadCode.l0, hbt, w2, hee]
        rw [if_neg (fun h => by have := (empty_iff _).1 h; omega), if_pos (by omega), if_pos (by omega)]
      obtain ⟨R, hI, hS2, hlen⟩ : ∃ R : List S44 × Bool, (b = true → acc.length < 200 → Ev (fun k => impl_ReadCode.l0 k (s.extract (j + 1 + y.toNat) s.size) (acc ++ [(⟨bt s (j : Int), a⟩ : S44)])) R) ∧ (b = true → acc.length < 200 → Ev (fun k => spec_l6Read.l0 k s (acc ++ [(⟨bt s (j : Int), a⟩ : S44)]) ((j : Int) + 1 + y)) R) ∧ R.1.length ≤ 200 := by
        by_cases c : b = true ∧ acc.length < 200
        · obtain ⟨hy0, hy1⟩ := hb c.1
          obtain ⟨R, r1, r2, r3⟩ := ih (s.size - (j + 1 + y.toNat)) (by omega) (j + 1 + y.toNat) (acc ++ [(⟨bt s (j : Int), a⟩ : S44)]) rfl (by rw [List.length_append, List.length_singleton]; omega)
          have e : ((j + 1 + y.toNat : Nat) : Int) = (j : Int) + 1 + y := by omega
          rw [e] at r2
          exact ⟨R, fun _ _ => r1, fun _ _ => r2, r3⟩
        · exact ⟨([], false), fun h1 h2 => absurd ⟨h1, h2⟩ c, fun h1 h2 => absurd ⟨h1, h2⟩ c, by simp⟩
      refine ⟨out b (bt s (j : Int)) a acc R, ?_, hS R hS2, ?_⟩
      · refine Ev.step stepI (Ev.bind (form_ev acc _ hr.1 hr.2 hacc) (Ev.bind hT ?_))
        cases b with
        | false =>
          exact Ev.congr (fun k => if_neg Bool.false_ne_true) (Ev.now _)
        | true =>
          refine Ev.congr (fun k => if_pos rfl) (Ev.bind (gi_evI acc _ hr.1 hr.2 hacc a) ?_)
          unfold out
          by_cases c : gi (fo (bt s (j : Int))) a = true
          · rw [if_pos ⟨rfl, c⟩]
            refine Ev.congr (fun k => if_pos c) ?_
            by_cases c2 : acc.length = 200
            · rw [if_pos c2]
              exact Ev.congr (fun k => if_pos (by omega)) (Ev.now _)
            · rw [if_neg c2]
              obtain ⟨hy0, hy1⟩ := hb rfl
              have w3 : wrap64 (1 + y) = 1 + y := w64 (by omega) (by omega)
              refine Ev.congr (fun k => ?_) (hI rfl (by omega))
              simp only [w3]
              rw [if_neg (by omega), if_pos (by omega), if_pos (by omega), if_pos (by omega), ext_ext, show j + (1 + y).toNat = j + 1 + y.toNat by omega]
          · rw [if_neg (fun h => c h.2)]
            exact Ev.congr (fun k => if_neg c) (Ev.now _)
      · unfold out
        split
        · split
          · simp
          · exact hlen
        · simp
    · refine ⟨(acc, true), Ev.step (f := fun _ => some (acc, true)) (fun k => ?_) (Ev.now _), Ev.step (f := fun _ => some (acc, true)) (fun k => ?_) (Ev.now _), hacc⟩
      · simp only [impl_ReadCode.l0]
        rw [if_pos ((empty_iff _).2 (by omega))]
      · simp only [spec_l6Read.l0]
        rw [if_neg (by omega)]
end Go.Proofs.Ytmmlgkepnjelnaa.Ins
