/- Instructions: both texts know the same forms. -/
import Derived.Test.YtmmlgkepnjelnaaMb
import Derived.Test.YtmmlgkepnjelnaaQx3
import Derived.Test.YtmmlgkepnjelnaaQx1
import Derived.Test.YtmmlgkepnjelnaaQx4
namespace Go.Proofs.Ytmmlgkepnjelnaa.Ins
open Go.RowKit Go.Proofs.Ytmmlgkepnjelnaa.Q Go.Proofs.YtmmlgkepnjelnaaW.PrintWords Go.Proofs.YtmmlgkepnjelnaaW.PrintLast Go.Proofs.YtmmlgkepnjelnaaW.PrintMore Go.Proofs.Ytmmlgkepnjelnaa.Mb
set_option linter.unusedSimpArgs false
set_option linter.unusedVariables false
/-- The form of what an instruction of one byte has beside it. -/
def fo (x : Int) : Int := (impl_formOf.f 9 x).getD 0
theorem fo_all : ∀ x : Fin 256, impl_formOf.f 9 ((x.val : Nat) : Int) = some (fo ((x.val : Nat) : Int)) ∧ spec_l6Shape.f 9 ((x.val : Nat) : Int) = some (fo ((x.val : Nat) : Int) - 1) ∧ 0 ≤ fo ((x.val : Nat) : Int) ∧ fo ((x.val : Nat) : Int) ≤ 7 := by decide +kernel
theorem fo_ok {x : Int} (h0 : 0 ≤ x) (h1 : x ≤ 255) {k : Nat} (hk : 9 ≤ k) : impl_formOf.f k x = some (fo x) ∧ spec_l6Shape.f k x = some (fo x - 1) ∧ 0 ≤ fo x ∧ fo x ≤ 7 := by
  obtain ⟨n, rfl⟩ := Int.eq_ofNat_of_zero_le h0
  have h := fo_all ⟨n, by omega⟩
  exact ⟨at_rounds (g := fun k => impl_formOf.f k (n : Int)) (fun k => impl_formOf.mono _ k) hk h.1, at_rounds (g := fun k => spec_l6Shape.f k (n : Int)) (fun k => spec_l6Shape.mono _ k) hk h.2.1, h.2.2⟩
theorem in_ok (a x y : Int) : spec_l1In.f a x y = some (decide (x ≤ a ∧ a ≤ y)) := by
  unfold spec_l1In.f
  by_cases c : a ≥ x
  · rw [if_pos c]; congr 2; exact propext ⟨fun h => ⟨c, h⟩, fun h => h.2⟩
  · rw [if_neg c, decide_eq_false (fun h => c h.1)]
/-- What may stand beside an instruction of a form. -/
def gi (f a : Int) : Bool := if f = 1 then a == 0 else if f = 2 then (decide (125 ≤ a ∧ a ≤ 127) || a == 64) else if f = 3 then decide (0 ≤ a ∧ a ≤ 1000) else if f = 4 then decide (0 ≤ a ∧ a ≤ 10000) else if f = 5 then decide (-2147483648 ≤ a ∧ a ≤ 2147483647) else if f = 6 then true else if f = 7 then decide (0 ≤ a ∧ a ≤ 4294967295) else false
theorem gi_spec {x : Int} (h0 : 0 ≤ x) (h1 : x ≤ 255) (a : Int) {k : Nat} (hk : 9 ≤ k) : spec_GoodIns.f k x a = some (gi (fo x) a) := by
  obtain ⟨-, h, f0, f1⟩ := fo_ok h0 h1 hk
  unfold spec_GoodIns.f spec_l6Type.f
  rw [h]
  simp only [Option.bind_some, in_ok]
  generalize fo x = f at *
  have hf : f = 0 ∨ f = 1 ∨ f = 2 ∨ f = 3 ∨ f = 4 ∨ f = 5 ∨ f = 6 ∨ f = 7 := by omega
  rcases hf with e | e | e | e | e | e | e | e <;> subst e <;> simp [gi]
  by_cases c : 125 ≤ a ∧ a ≤ 127 <;> simp [c]
theorem ge_and (a y : Int) (x : Int) : (if a ≥ x then some (decide (a ≤ y)) else some false) = some (decide (x ≤ a ∧ a ≤ y)) := in_ok a x y
theorem ge_lt (a y : Int) (x : Int) : (if a ≥ x then some (decide (a < y + 1)) else some false) = some (decide (x ≤ a ∧ a ≤ y)) := by
  rw [← ge_and]
  congr 2
  congr 1
  exact propext ⟨fun h => by omega, fun h => by omega⟩
theorem good_type (a : Int) : impl_goodType.f a = some (decide (125 ≤ a ∧ a ≤ 127)) := by
  unfold impl_goodType.f
  by_cases c : a = 127
  · rw [if_pos c, decide_eq_true (by omega)]
  · rw [if_neg c]
    by_cases c2 : a = 126
    · rw [if_pos c2, decide_eq_true (by omega)]
    · rw [if_neg c2]
      by_cases c3 : a = 125
      · rw [beq_iff_eq.2 c3, decide_eq_true (by omega)]
      · rw [beq_eq_false_iff_ne.2 c3, decide_eq_false (by omega)]
theorem gi_impl {x : Int} (h0 : 0 ≤ x) (h1 : x ≤ 255) (a : Int) {k : Nat} (hk : 9 ≤ k) : impl_GoodIns.f k x a = some (gi (fo x) a) := by
  obtain ⟨h, -, f0, f1⟩ := fo_ok h0 h1 hk
  unfold impl_GoodIns.f
  rw [h]
  have e5 := ge_lt a 2147483647 (-2147483648)
  have e7 := ge_lt a 4294967295 0
  rw [show (2147483647 + 1 : Int) = 2147483648 by decide] at e5
  rw [show (4294967295 + 1 : Int) = 4294967296 by decide] at e7
  simp only [Option.bind_some, ge_and, good_type, e5, e7]
  generalize fo x = f at *
  have hf : f = 0 ∨ f = 1 ∨ f = 2 ∨ f = 3 ∨ f = 4 ∨ f = 5 ∨ f = 6 ∨ f = 7 := by omega
  rcases hf with e | e | e | e | e | e | e | e <;> subst e <;> simp [gi]
  by_cases c : 125 ≤ a ∧ a ≤ 127 <;> simp [c]
end Go.Proofs.Ytmmlgkepnjelnaa.Ins
