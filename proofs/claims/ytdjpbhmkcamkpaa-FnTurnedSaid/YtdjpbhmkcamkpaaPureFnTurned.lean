/- The law FnTurned, on numbers alone. -/
import Derived.Test.YtdjpbhmkcamkpaaBb
import Derived.Test.YtdjpbhmkcamkpaaDb
import Derived.Test.YtdjpbhmkcamkpaaQx3
namespace Go.Proofs.Ytdjpbhmkcamkpaa.Pure
open Go.RowKit Go.Proofs.Ytdjpbhmkcamkpaa.Q Go.Proofs.YtdjpbhmkcamkpaaW.PrintWords Go.Proofs.YtdjpbhmkcamkpaaW.PrintLast Go.Proofs.YtdjpbhmkcamkpaaW.PrintMore Go.Proofs.Ytdjpbhmkcamkpaa.Mb Go.Proofs.Ytdjpbhmkcamkpaa.Bn Go.Proofs.Ytdjpbhmkcamkpaa.Cur
set_option linter.unusedSimpArgs false
set_option linter.unusedVariables false
set_option linter.unusedSectionVars false

section
variable {n : Int} {e : Nat} (h : We n e) (k : Nat) (a b : Nat) (ha : a < 18446744073709551616) (hb : b < 18446744073709551616)
include h ha hb
theorem low (z : Nat) : z % 2 ^ e < 2 ^ e := Nat.mod_lt _ (Nat.two_pow_pos e)
theorem t_add : impl_Binary.f (k + 2) n 1 a b = some ((((a % 2 ^ e + b % 2 ^ e) % 2 ^ e : Nat) : Int), 0) := by
  rw [impl_in h _ _ _ _ (by decide) (by decide), impl_go h (k + 1) a b ha hb, if_pos rfl]; rfl
theorem t_mul : impl_Binary.f (k + 2) n 3 a b = some ((((a % 2 ^ e * (b % 2 ^ e)) % 2 ^ e : Nat) : Int), 0) := by
  rw [impl_in h _ _ _ _ (by decide) (by decide), impl_go h (k + 1) a b ha hb, if_neg (by decide), if_neg (by decide), if_pos rfl]; rfl
theorem t_and : impl_Binary.f (k + 2) n 8 a b = some (((a % 2 ^ e &&& b % 2 ^ e : Nat) : Int), 0) := by
  rw [impl_in h _ _ _ _ (by decide) (by decide), impl_go h (k + 1) a b ha hb, if_neg (by decide), if_neg (by decide), if_neg (by decide)]
  exact v_and h k _ _ (low h a b ha hb a) (low h a b ha hb b)
theorem t_or : impl_Binary.f (k + 2) n 9 a b = some (((a % 2 ^ e ||| b % 2 ^ e : Nat) : Int), 0) := by
  rw [impl_in h _ _ _ _ (by decide) (by decide), impl_go h (k + 1) a b ha hb, if_neg (by decide), if_neg (by decide), if_neg (by decide)]
  exact v_or h k _ _ (low h a b ha hb a) (low h a b ha hb b)
theorem t_xor : impl_Binary.f (k + 2) n 10 a b = some (((a % 2 ^ e ^^^ b % 2 ^ e : Nat) : Int), 0) := by
  rw [impl_in h _ _ _ _ (by decide) (by decide), impl_go h (k + 1) a b ha hb, if_neg (by decide), if_neg (by decide), if_neg (by decide)]
  exact v_xor h k _ _ (low h a b ha hb a) (low h a b ha hb b)
theorem t_shl : impl_Binary.f (k + 2) n 11 a b = some (((a % 2 ^ e * 2 ^ (b % 2 ^ e % e) % 2 ^ e : Nat) : Int), 0) := by
  rw [impl_in h _ _ _ _ (by decide) (by decide), impl_go h (k + 1) a b ha hb, if_neg (by decide), if_neg (by decide), if_neg (by decide)]
  exact v_shl h k _ _ (low h a b ha hb a) (low h a b ha hb b)
theorem t_rotl : impl_Binary.f (k + 2) n 14 a b = some (((tl e (a % 2 ^ e) (b % 2 ^ e % e) : Nat) : Int), 0) := by
  rw [impl_in h _ _ _ _ (by decide) (by decide), impl_go h (k + 1) a b ha hb, if_neg (by decide), if_neg (by decide), if_neg (by decide)]
  exact v_rotl h k _ _ (low h a b ha hb a) (low h a b ha hb b)
theorem t_rotr : impl_Binary.f (k + 2) n 15 a b = some (((tr e (a % 2 ^ e) (b % 2 ^ e % e) : Nat) : Int), 0) := by
  rw [impl_in h _ _ _ _ (by decide) (by decide), impl_go h (k + 1) a b ha hb, if_neg (by decide), if_neg (by decide), if_neg (by decide)]
  exact v_rotr h k _ _ (low h a b ha hb a) (low h a b ha hb b)
theorem by_of : Int.tmod (b : Int) (IntKind.u64.wrap n) = ((b % 2 ^ e % e : Nat) : Int) := by
  rw [byE h]
  congr 1
  rcases h with ⟨_, rfl⟩ | ⟨_, rfl⟩
  · simp only [show (2 ^ 32 : Nat) = 4294967296 from by decide]; omega
  · simp only [show (2 ^ 64 : Nat) = 18446744073709551616 from by decide]; omega
theorem turned_ok : laws_FnTurned.j0 (k + 3) n a b false = some true := by
  have hs : b % 2 ^ e % e < e := Nat.mod_lt _ h.pos
  have he := h.le
  have hp := h.pow
  have hx := low h a b ha hb a
  have hy := low h a b ha hb b
  have hbnd : ∀ z : Nat, z < 2 ^ e → z < 18446744073709551616 := fun z hz => Nat.lt_of_lt_of_le hz hp
  simp only [laws_FnTurned.j0, Bool.false_eq_true, if_false]
  have q1 := t_add h k a 0 ha (by decide)
  have q1' : impl_Binary.f (k + 2) n 1 (a : Int) 0 = some (((a % 2 ^ e : Nat) : Int), 0) := by
    have e0 : (a % 2 ^ e + 0 % 2 ^ e) % 2 ^ e = a % 2 ^ e := by rw [Nat.zero_mod]; exact Nat.mod_mod _ _
    rw [e0] at q1
    exact q1
  rw [q1', t_rotl h k a b ha hb]
  simp only [Option.bind_some, if_true]
  have hl := tl_lt (s := b % 2 ^ e % e) hx (by omega)
  rw [t_rotr h k _ b (hbnd _ hl) hb, Nat.mod_eq_of_lt hl, turned_back hx (by omega)]
  simp only [Option.bind_some]
  rw [if_neg (wrapNE h), t_shl h k a b ha hb, by_of h a b ha hb]
  simp only [Option.bind_some]
  have hpow : 2 ^ (b % 2 ^ e % e) < 2 ^ e := Nat.pow_lt_pow_right (by decide) hs
  rw [if_pos (by omega), shl_one _ (by omega), t_mul h k a _ ha (hbnd _ hpow), Nat.mod_eq_of_lt hpow, t_xor h k a b ha hb]
  simp only [Option.bind_some]
  have hxor := Nat.xor_lt_two_pow hx hy
  rw [t_xor h k _ b (hbnd _ hxor) hb, Nat.mod_eq_of_lt hxor, xor_twice, t_and h k a b ha hb, t_or h k a b ha hb, t_add h k a b ha hb]
  simp only [Option.bind_some]
  have hand : a % 2 ^ e &&& b % 2 ^ e < 2 ^ e := Nat.and_lt_two_pow _ hy
  have hor := Nat.or_lt_two_pow hx hy
  rw [t_add h k _ _ (hbnd _ hand) (hbnd _ hor), Nat.mod_eq_of_lt hand, Nat.mod_eq_of_lt hor, and_add_or]
  simp
end
theorem FnTurned : laws_FnTurned.Pure := by
  intro l0 hl0 hl0' hu0
  have hu0 := u8_of hu0
  refine ⟨13, ?_⟩
  unfold laws_FnTurned.f
  by_cases cl : (l0.length : Int) > 1048576
  · rw [if_pos cl]
  · rw [if_neg cl]
    obtain ⟨n, op, a, b, e1, h1, h2, ha0, ha1, hb0, hb1⟩ := drawBinary_ok hu0 (k := 13) (by decide)
    rw [e1]
    simp only [Option.bind_some]
    obtain ⟨r, t, e2, e3⟩ := bin_same 9 n op a b h1 ha0 ha1 hb0 hb1
    rw [e2, e3]
    simp only [Option.bind_some, if_true]
    rw [show (t != t) = false from by simp]
    by_cases c : n = 32 ∨ n = 64
    · obtain ⟨e, h⟩ : ∃ e, We n e := by
        rcases c with rfl | rfl
        · exact ⟨32, .inl ⟨rfl, rfl⟩⟩
        · exact ⟨64, .inr ⟨rfl, rfl⟩⟩
      obtain ⟨a, rfl⟩ := Int.eq_ofNat_of_zero_le ha0
      obtain ⟨b, rfl⟩ := Int.eq_ofNat_of_zero_le hb0
      exact turned_ok h 10 a b (by omega) (by omega)
    · have ho := (odd_out (n := n) (by omega) (by omega) 11 1 a 0).1
      simp only [laws_FnTurned.j0, Bool.false_eq_true, if_false]
      rw [ho]
      simp only [Option.bind_some]
      rw [if_neg (by decide), if_neg (by omega)]
      simp; omega
end Go.Proofs.Ytdjpbhmkcamkpaa.Pure
