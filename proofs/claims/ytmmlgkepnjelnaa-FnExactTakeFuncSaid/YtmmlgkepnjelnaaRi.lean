/- Lists of instructions: compared with themselves; both texts' numbers of bytes are one. -/
import Derived.Test.YtmmlgkepnjelnaaMb
import Derived.Test.YtmmlgkepnjelnaaQx5
import Derived.Test.YtmmlgkepnjelnaaQx4
import Derived.Test.YtmmlgkepnjelnaaQx1
namespace Go.Proofs.Ytmmlgkepnjelnaa.Ins
open Go.RowKit Go.Proofs.Ytmmlgkepnjelnaa.Q Go.Proofs.YtmmlgkepnjelnaaW.PrintWords Go.Proofs.YtmmlgkepnjelnaaW.PrintLast Go.Proofs.YtmmlgkepnjelnaaW.PrintMore Go.Proofs.Ytmmlgkepnjelnaa.Mb
set_option linter.unusedSimpArgs false
set_option linter.unusedVariables false
theorem eq_l0 (l : List S44) (hl : l.length ≤ 1000000) (d : Nat) : ∀ (k i : Nat), i + d = l.length → d < k → laws_eqInsS.l0 k l l (i : Int) = some true := by
  induction d with
  | zero =>
    intro k i hi hk
    obtain ⟨k, rfl⟩ : ∃ j, k = j + 1 := ⟨k - 1, by omega⟩
    simp only [laws_eqInsS.l0]
    rw [if_neg (by omega)]
  | succ d ih =>
    intro k i hi hk
    obtain ⟨k, rfl⟩ : ∃ j, k = j + 1 := ⟨k - 1, by omega⟩
    simp only [laws_eqInsS.l0]
    have e : ∀ a b : Int, laws_eqIns.f a b a b = some true := by intro a b; unfold laws_eqIns.f; rw [if_pos rfl, if_pos rfl]
    rw [if_pos (show (i : Int) < (l.length : Int) by omega), if_pos (show (0 : Int) ≤ (i : Int) by omega), if_pos (show (i : Int) < (l.length : Int) by omega), e, Option.bind_some, if_pos rfl, w64 (n := (i : Int) + 1) (by omega) (by omega), show (i : Int) + 1 = ((i + 1 : Nat) : Int) by omega]
    exact ih k (i + 1) (by omega) (by omega)
theorem eq_self (l : List S44) (hl : l.length ≤ 1000000) {k : Nat} (hk : l.length < k) : laws_eqInsS.f k l l = some true := by
  unfold laws_eqInsS.f
  rw [if_pos rfl]
  exact eq_l0 l hl l.length k 0 (by omega) hk
theorem number_same : ∀ (k : Nat) (s : ByteArray) (x i : Int), spec_l5Number.l0 k s x i = impl_number.l0 k s x i := by
  intro k
  induction k with
  | zero => intro s x i; rfl
  | succ k ih => intro s x i; simp only [spec_l5Number.l0, impl_number.l0, ih]
end Go.Proofs.Ytmmlgkepnjelnaa.Ins
