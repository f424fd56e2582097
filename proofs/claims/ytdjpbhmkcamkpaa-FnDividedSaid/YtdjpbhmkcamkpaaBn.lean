/- What both texts tell of two whole numbers of 32 or of 64 bits. -/
import Derived.Test.YtdjpbhmkcamkpaaMb
import Derived.Test.YtdjpbhmkcamkpaaQx2
namespace Go.Proofs.Ytdjpbhmkcamkpaa.Bn
open Go.RowKit Go.Proofs.Ytdjpbhmkcamkpaa.Q Go.Proofs.YtdjpbhmkcamkpaaW.PrintWords Go.Proofs.YtdjpbhmkcamkpaaW.PrintLast Go.Proofs.YtdjpbhmkcamkpaaW.PrintMore Go.Proofs.Ytdjpbhmkcamkpaa.Mb
set_option linter.unusedSimpArgs false
set_option linter.unusedVariables false

/-! plain facts -/
theorem and_add_or : ∀ a b : Nat, (a &&& b) + (a ||| b) = a + b := by
  intro a
  induction a using Nat.strongRecOn with
  | _ a ih =>
    intro b
    by_cases h : a = 0
    · subst h; simp
    · have h0 := ih (a / 2) (by omega) (b / 2)
      have h1 : (a &&& b) / 2 = (a / 2) &&& (b / 2) := Nat.and_div_two
      have h2 : (a ||| b) / 2 = (a / 2) ||| (b / 2) := Nat.or_div_two
      have h3 : (a &&& b) % 2 = (a % 2) &&& (b % 2) := by have := Nat.and_mod_two_pow (a := a) (b := b) (n := 1); simpa using this
      have h4 : (a ||| b) % 2 = (a % 2) ||| (b % 2) := by have := Nat.or_mod_two_pow (a := a) (b := b) (n := 1); simpa using this
      rw [← h1, ← h2] at h0
      have ha : a % 2 = 0 ∨ a % 2 = 1 := by omega
      have hb : b % 2 = 0 ∨ b % 2 = 1 := by omega
      rcases ha with ha | ha <;> rcases hb with hb | hb <;> rw [ha, hb] at h3 h4 <;> simp only [Nat.zero_and, Nat.and_zero, Nat.zero_or, Nat.or_zero, Nat.and_self, Nat.or_self] at h3 h4 <;> omega
theorem xor_twice (a b : Nat) : (a ^^^ b) ^^^ b = a := by rw [Nat.xor_assoc, Nat.xor_self, Nat.xor_zero]

/-! widths -/
def We (n : Int) (e : Nat) : Prop := n = 32 ∧ e = 32 ∨ n = 64 ∧ e = 64
theorem We.le {n : Int} {e : Nat} (h : We n e) : e ≤ 64 := by rcases h with ⟨_, rfl⟩ | ⟨_, rfl⟩ <;> decide
theorem We.pow {n : Int} {e : Nat} (h : We n e) : 2 ^ e ≤ 18446744073709551616 := by rcases h with ⟨_, rfl⟩ | ⟨_, rfl⟩ <;> decide
theorem We.pos {n : Int} {e : Nat} (h : We n e) : 0 < e := by rcases h with ⟨_, rfl⟩ | ⟨_, rfl⟩ <;> decide
theorem cutE {n : Int} {e : Nat} (h : We n e) (a : Nat) (ha : a < 18446744073709551616) : impl_cut.f n (a : Int) = some ((a % 2 ^ e : Nat) : Int) := by
  unfold impl_cut.f
  rcases h with ⟨rfl, rfl⟩ | ⟨rfl, rfl⟩
  · rw [if_pos rfl, u64_and32 (by omega) (by omega)]; congr 1
  · rw [if_neg (by decide)]; congr 2; exact (Nat.mod_eq_of_lt ha).symm
theorem cutW {n : Int} {e : Nat} (h : We n e) (z : Int) : impl_cut.f n (IntKind.u64.wrap z) = some (z % ((2 ^ e : Nat) : Int)) := by
  unfold impl_cut.f
  have hz := wrap_u64_range z
  rcases h with ⟨rfl, rfl⟩ | ⟨rfl, rfl⟩
  · rw [if_pos rfl, u64_and32 hz.1 hz.2, wrap_u64]; congr 1; show z % 18446744073709551616 % 4294967296 = z % 4294967296; omega
  · rw [if_neg (by decide), wrap_u64]; congr 1
theorem mask_cut : spec_l3Mask.f = impl_cut.f := by funext a b; unfold spec_l3Mask.f impl_cut.f; rfl
theorem wrap32_mod (a : Int) : wrap32 (a % 4294967296) = wrap32 a := by unfold wrap32; omega
theorem signed_same : spec_l3Signed.f = impl_signed.f := by funext a b; unfold spec_l3Signed.f impl_signed.f; rw [wrap32_mod]
/-- What a number's bits are, with a sign. -/
def sg (n a : Int) : Int := if n = 32 then wrap64 (wrap32 a) else wrap64 a
theorem signedE (n a : Int) : impl_signed.f n a = some (sg n a) := by unfold impl_signed.f sg; split <;> rfl
theorem truth_yes : spec_l3Yes.f = impl_truth.f := by funext a; unfold spec_l3Yes.f impl_truth.f; rfl
theorem goodE {n : Int} {e : Nat} (h : We n e) : impl_goodBits.f n = some true := by
  unfold impl_goodBits.f
  rcases h with ⟨rfl, rfl⟩ | ⟨rfl, rfl⟩ <;> simp
theorem wrapE {n : Int} {e : Nat} (h : We n e) : IntKind.u64.wrap n = (e : Int) := by
  rcases h with ⟨rfl, rfl⟩ | ⟨rfl, rfl⟩ <;> (rw [wrap_u64]; rfl)
theorem wrapNE {n : Int} {e : Nat} (h : We n e) : IntKind.u64.wrap n ≠ 0 := by
  rw [wrapE h]; have := h.pos; omega
theorem byE {n : Int} {e : Nat} (h : We n e) (y : Nat) : Int.tmod (y : Int) (IntKind.u64.wrap n) = ((y % e : Nat) : Int) := by
  rw [wrapE h, Int.tmod_eq_emod_of_nonneg (by omega)]; rfl
theorem by64 {n : Int} {e : Nat} (h : We n e) (y : Nat) : wrap64 ((y % e : Nat) : Int) = ((y % e : Nat) : Int) := by
  have := h.le; have := Nat.mod_lt y h.pos
  exact w64 (by omega) (by omega)

/-! division -/
theorem sg_range {n : Int} {e : Nat} (h : We n e) (x : Nat) : -((2 ^ (e - 1) : Nat) : Int) ≤ sg n x ∧ sg n x < ((2 ^ (e - 1) : Nat) : Int) := by
  unfold sg
  rcases h with ⟨rfl, rfl⟩ | ⟨rfl, rfl⟩
  · rw [if_pos rfl]; simp only [show (2 ^ (32 - 1) : Nat) = 2147483648 from by decide]; unfold wrap64 wrap32; omega
  · rw [if_neg (by decide)]; simp only [show (2 ^ (64 - 1) : Nat) = 9223372036854775808 from by decide]; unfold wrap64; omega
theorem sg_mod {n : Int} {e : Nat} (h : We n e) (x : Nat) : ∃ t : Int, sg n x = x + t * ((2 ^ e : Nat) : Int) := by
  unfold sg
  rcases h with ⟨rfl, rfl⟩ | ⟨rfl, rfl⟩
  · rw [if_pos rfl]; unfold wrap64 wrap32
    simp only [show (2 ^ 32 : Nat) = 4294967296 from by decide]
    refine ⟨((((x : Int) + 2147483648) % 4294967296 - 2147483648 + 9223372036854775808) % 18446744073709551616 - 9223372036854775808 - x) / 4294967296, ?_⟩
    omega
  · rw [if_neg (by decide)]; unfold wrap64
    simp only [show (2 ^ 64 : Nat) = 18446744073709551616 from by decide]
    refine ⟨(((x : Int) + 9223372036854775808) % 18446744073709551616 - 9223372036854775808 - x) / 18446744073709551616, ?_⟩
    omega
theorem sg_zero {n : Int} {e : Nat} (h : We n e) (x : Nat) (hx : x < 2 ^ e) : sg n x = 0 ↔ x = 0 := by
  unfold sg
  rcases h with ⟨rfl, rfl⟩ | ⟨rfl, rfl⟩
  · rw [if_pos rfl]; simp only [show (2 ^ 32 : Nat) = 4294967296 from by decide] at hx; unfold wrap64 wrap32; omega
  · rw [if_neg (by decide)]; simp only [show (2 ^ 64 : Nat) = 18446744073709551616 from by decide] at hx; unfold wrap64; omega
theorem lowest {n : Int} {e : Nat} (h : We n e) : wrap64 (n - 1) = ((e - 1 : Nat) : Int) ∧ shl .u64 1 (wrap64 (n - 1)) = ((2 ^ (e - 1) : Nat) : Int) := by
  rcases h with ⟨rfl, rfl⟩ | ⟨rfl, rfl⟩
  · have e1 : wrap64 (32 - 1) = ((31 : Nat) : Int) := by unfold wrap64; omega
    exact ⟨e1, by rw [e1, shl_one 31 (by decide)]⟩
  · have e1 : wrap64 (64 - 1) = ((63 : Nat) : Int) := by unfold wrap64; omega
    exact ⟨e1, by rw [e1, shl_one 63 (by decide)]⟩
theorem lowest' {n : Int} {e : Nat} (h : We n e) : IntKind.u64.wrap ((e - 1 : Nat) : Int) = ((e - 1 : Nat) : Int) := by
  have := h.le; exact wu64 (by omega) (by omega)
theorem sg_low {n : Int} {e : Nat} (h : We n e) (x : Nat) (hx : x < 2 ^ e) : sg n x = sg n ((2 ^ (e - 1) : Nat) : Int) ↔ x = 2 ^ (e - 1) := by
  unfold sg
  rcases h with ⟨rfl, rfl⟩ | ⟨rfl, rfl⟩
  · simp only [if_pos, show (2 ^ 32 : Nat) = 4294967296 from by decide, show (2 ^ (32 - 1) : Nat) = 2147483648 from by decide] at hx ⊢; unfold wrap64 wrap32; omega
  · rw [if_neg (by decide), if_neg (by decide)]; simp only [show (2 ^ 64 : Nat) = 18446744073709551616 from by decide, show (2 ^ (64 - 1) : Nat) = 9223372036854775808 from by decide] at hx ⊢; unfold wrap64; omega
theorem sg_low_val {n : Int} {e : Nat} (h : We n e) : sg n ((2 ^ (e - 1) : Nat) : Int) = -((2 ^ (e - 1) : Nat) : Int) := by
  unfold sg
  rcases h with ⟨rfl, rfl⟩ | ⟨rfl, rfl⟩
  · rw [if_pos rfl]; simp only [show (2 ^ (32 - 1) : Nat) = 2147483648 from by decide]; unfold wrap64 wrap32; omega
  · rw [if_neg (by decide)]; simp only [show (2 ^ (64 - 1) : Nat) = 9223372036854775808 from by decide]; unfold wrap64; omega
theorem divide_same {n : Int} {e : Nat} (h : We n e) (k : Nat) (op : Int) (h1 : 4 ≤ op) (h2 : op ≤ 7) (x y : Nat) (hx : x < 2 ^ e) (hy : y < 2 ^ e) :
    impl_divide.f (k + 2) n op x y = spec_l3Divide.f n op x y ∧ ∃ r t : Int, impl_divide.f (k + 2) n op x y = some (r, t) := by
  unfold impl_divide.f spec_l3Divide.f
  by_cases c0 : (y : Int) = 0
  · rw [if_pos c0, if_pos c0]; exact ⟨rfl, _, _, rfl⟩
  · rw [if_neg c0, if_neg c0]
    by_cases c5 : op = 5
    · rw [if_pos c5, if_pos c5]; exact ⟨rfl, _, _, rfl⟩
    · rw [if_neg c5, if_neg c5]
      by_cases c7 : op = 7
      · rw [if_pos c7, if_pos c7]; exact ⟨rfl, _, _, rfl⟩
      · rw [if_neg c7, if_neg c7]
        have hl := lowest h
        have hl3 : shl .u64 1 ((e - 1 : Nat) : Int) = ((2 ^ (e - 1) : Nat) : Int) := by rw [← hl.1]; exact hl.2
        rw [hl.1, lowest' h, hl3, signed_same, mask_cut]
        simp only [signedE, Option.bind_some, if_pos (Int.natCast_nonneg (e - 1))]
        have hy0 : sg n y ≠ 0 := fun hh => c0 (by rw [(sg_zero h y hy).1 hh]; rfl)
        obtain ⟨hr1, hr2⟩ := sg_range h x
        obtain ⟨t, ht⟩ := sg_mod h x
        have hlow := sg_low h x hx
        have hlv := sg_low_val h
        have hpp : ((2 ^ (e - 1) : Nat) : Int) ≤ 9223372036854775808 := by
          rcases h with ⟨_, rfl⟩ | ⟨_, rfl⟩ <;> decide
        generalize hX : sg n (x : Int) = X at *
        generalize hY : sg n (y : Int) = Y at *
        generalize hLL : sg n ((2 ^ (e - 1) : Nat) : Int) = L at *
        have hxx : (x : Int) = ((2 ^ (e - 1) : Nat) : Int) ↔ X = L := by rw [hlow]; exact ⟨fun h => by exact_mod_cast h, fun h => by exact_mod_cast h⟩
        by_cases cy : Y = -1
        · have cyb : (Y == -1) = true := by simp [cy]
          rw [cyb]
          simp only [if_pos cy]
          by_cases cx : X = L
          · rw [if_pos cx]
            have cx2 := hxx.2 cx
            by_cases c4 : op = 4
            · subst c4
              rw [if_neg (by decide), if_pos cx2]
              simp [impl_divide.j0, impl_divide.j1]
            · have c6 : op = 6 := by omega
              subst c6
              simp [impl_divide.j0, impl_divide.j1]
          · rw [if_neg cx]
            have cx2 : ¬ (x : Int) = ((2 ^ (e - 1) : Nat) : Int) := fun h => cx (hxx.1 h)
            by_cases c4 : op = 4
            · subst c4
              rw [if_neg (by decide), if_neg cx2]
              simp only [impl_divide.j0, impl_divide.j1, if_pos, if_neg hy0]
              rw [if_neg (by decide), cutW h, cutW h]
              have e1 : wrap64 (Int.tdiv X Y) = -X := by
                rw [cy, show (-1 : Int) = -(1 : Int) from rfl, Int.tdiv_neg, Int.tdiv_one]
                exact w64 (by omega) (by omega)
              rw [e1]
              have e2 : (-X) % ((2 ^ e : Nat) : Int) = (-(x : Int)) % ((2 ^ e : Nat) : Int) := by
                rw [ht, show -((x : Int) + t * ((2 ^ e : Nat) : Int)) = -(x : Int) + (-t) * ((2 ^ e : Nat) : Int) from by rw [Int.neg_add, Int.neg_mul], Int.add_mul_emod_self_right]
              simp only [Option.bind_some]
              rw [e2]
              exact ⟨rfl, _, _, rfl⟩
            · have c6 : op = 6 := by omega
              subst c6
              simp only [impl_divide.j0, impl_divide.j1]
              rw [if_neg (by decide), if_neg (by decide), if_neg (by decide), if_neg (by decide), if_neg hy0, if_pos trivial, cutW h]
              have e1 : Int.tmod X Y = 0 := by
                rw [cy, show (-1 : Int) = -(1 : Int) from rfl, Int.tmod_neg, Int.tmod_one]
              rw [e1]
              simp
        · have cyb : (Y == -1) = false := by simpa using cy
          rw [cyb]
          simp only [if_neg cy, ite_self]
          by_cases c4 : op = 4
          · subst c4
            simp only [impl_divide.j0, impl_divide.j1, if_pos, if_neg hy0]
            rw [if_neg (by decide), cutW h]
            exact ⟨rfl, _, _, rfl⟩
          · have c6 : op = 6 := by omega
            subst c6
            simp only [impl_divide.j0, impl_divide.j1]
            rw [if_neg (by decide), if_neg (by decide), if_neg (by decide), if_neg (by decide), if_neg hy0, cutW h]
            simp [hy0]

/-! the ops, one by one: x and y are the cut numbers, s the count of a shift -/
/-- Turned left. -/
def tl (e x s : Nat) : Nat := (x * 2 ^ s % 2 ^ e) ||| (x / 2 ^ (e - s))
/-- Turned right. -/
def tr (e x s : Nat) : Nat := (x / 2 ^ s) ||| (x * 2 ^ (e - s) % 2 ^ e)
theorem split_pow {e s : Nat} (hs : s ≤ e) : 2 ^ e = 2 ^ (e - s) * 2 ^ s := by rw [← Nat.pow_add]; congr 1; omega
theorem div_lt {e x s : Nat} (hx : x < 2 ^ e) (hs : s ≤ e) : x / 2 ^ (e - s) < 2 ^ s := by
  rw [Nat.div_lt_iff_lt_mul (Nat.two_pow_pos _), Nat.mul_comm, ← split_pow hs]; exact hx
theorem tl_sum {e x s : Nat} (hx : x < 2 ^ e) (hs : s ≤ e) : tl e x s = (x * 2 ^ s % 2 ^ e) + x / 2 ^ (e - s) := by
  unfold tl
  have h1 := div_lt hx hs
  have h2 : x * 2 ^ s % 2 ^ e = 2 ^ s * (x % 2 ^ (e - s)) := by rw [split_pow hs, Nat.mul_mod_mul_right, Nat.mul_comm]
  rw [h2]
  exact (Nat.two_pow_add_eq_or_of_lt h1 _).symm
theorem tl_eq {e x s : Nat} (hx : x < 2 ^ e) (hs : s ≤ e) : tl e x s = (x % 2 ^ (e - s)) * 2 ^ s + x / 2 ^ (e - s) := by
  rw [tl_sum hx hs, split_pow hs, Nat.mul_mod_mul_right]
theorem tr_sum {e x s : Nat} (hx : x < 2 ^ e) (hs : s ≤ e) : tr e x s = x / 2 ^ s + (x % 2 ^ s) * 2 ^ (e - s) := by
  unfold tr
  have h1 : x / 2 ^ s < 2 ^ (e - s) := by have := div_lt hx (s := e - s) (by omega); rwa [show e - (e - s) = s by omega] at this
  have h2 : x * 2 ^ (e - s) % 2 ^ e = 2 ^ (e - s) * (x % 2 ^ s) := by
    have := split_pow (e := e) (s := e - s) (by omega)
    rw [show e - (e - s) = s by omega] at this
    rw [this, Nat.mul_mod_mul_right, Nat.mul_comm]
  rw [h2, Nat.or_comm, ← Nat.two_pow_add_eq_or_of_lt h1, Nat.add_comm, Nat.mul_comm (2 ^ (e - s))]
theorem tl_lt {e x s : Nat} (hx : x < 2 ^ e) (hs : s ≤ e) : tl e x s < 2 ^ e := by
  rw [tl_eq hx hs, split_pow hs]
  have h1 := div_lt hx hs
  have h2 := Nat.mod_lt x (Nat.two_pow_pos (e - s))
  have h3 : (x % 2 ^ (e - s) + 1) * 2 ^ s ≤ 2 ^ (e - s) * 2 ^ s := Nat.mul_le_mul_right _ h2
  rw [Nat.add_mul, Nat.one_mul] at h3
  omega
theorem tr_lt {e x s : Nat} (hx : x < 2 ^ e) (hs : s ≤ e) : tr e x s < 2 ^ e := by
  rw [tr_sum hx hs]
  have h1 : x / 2 ^ s < 2 ^ (e - s) := by have := div_lt hx (s := e - s) (by omega); rwa [show e - (e - s) = s by omega] at this
  have h2 := Nat.mod_lt x (Nat.two_pow_pos s)
  have h3 : (x % 2 ^ s + 1) * 2 ^ (e - s) ≤ 2 ^ s * 2 ^ (e - s) := Nat.mul_le_mul_right _ h2
  rw [Nat.add_mul, Nat.one_mul, Nat.mul_comm (2 ^ s), ← split_pow hs] at h3
  omega
theorem turned_back {e x s : Nat} (hx : x < 2 ^ e) (hs : s ≤ e) : tr e (tl e x s) s = x := by
  rw [tr_sum (tl_lt hx hs) hs, tl_eq hx hs]
  have h1 := div_lt hx hs
  have h2 : ((x % 2 ^ (e - s)) * 2 ^ s + x / 2 ^ (e - s)) / 2 ^ s = x % 2 ^ (e - s) := by
    rw [Nat.mul_comm, Nat.mul_add_div (Nat.two_pow_pos s), Nat.div_eq_of_lt h1]; rfl
  have h3 : ((x % 2 ^ (e - s)) * 2 ^ s + x / 2 ^ (e - s)) % 2 ^ s = x / 2 ^ (e - s) := by
    rw [Nat.mul_comm, Nat.mul_add_mod, Nat.mod_eq_of_lt h1]
  rw [h2, h3, Nat.mul_comm (x / 2 ^ (e - s)), Nat.mod_add_div]
theorem or_mod (e a b : Nat) : (a ||| b) % 2 ^ e = a % 2 ^ e ||| b % 2 ^ e := Nat.or_mod_two_pow

theorem shlN (x s : Nat) (hs : s ≤ 64) : shl .u64 (x : Int) (s : Int) = ((x * 2 ^ s % 18446744073709551616 : Nat) : Int) := by
  rw [shl_u64 _ _ s rfl hs, Int.natCast_emod, Int.natCast_mul, Int.natCast_pow]; rfl
theorem shl32N (x s : Nat) (hs : s ≤ 32) : shl .u32 (x : Int) (s : Int) = ((x * 2 ^ s % 4294967296 : Nat) : Int) := by
  rw [shl_u32 _ _ s rfl hs, Int.natCast_emod, Int.natCast_mul, Int.natCast_pow]; rfl
theorem shr32N (x s : Nat) (hs : s ≤ 32) : shr .u32 (x : Int) (s : Int) = ((x / 2 ^ s : Nat) : Int) := by
  rw [shr_u32 _ _ s rfl hs, Int.natCast_ediv, Int.natCast_pow]; rfl
theorem mod_mod_pow {n : Int} {e : Nat} (h : We n e) (z : Nat) : z % 18446744073709551616 % 2 ^ e = z % 2 ^ e := by
  rcases h with ⟨_, rfl⟩ | ⟨_, rfl⟩
  · simp only [show (2 ^ 32 : Nat) = 4294967296 from by decide]; omega
  · simp only [show (2 ^ 64 : Nat) = 18446744073709551616 from by decide]; omega
theorem and31 (z : Int) : Go.bits .and .u64 (IntKind.u64.wrap z) 31 = z % 32 := by
  have hz := wrap_u64_range z
  rw [show (31 : Int) = 2 ^ 5 - 1 by decide, u64_mask 5 (by decide) _ hz.1 (by omega), wrap_u64]
  show z % 18446744073709551616 % 32 = z % 32
  omega
theorem and63 (z : Int) : Go.bits .and .u64 (IntKind.u64.wrap z) 63 = z % 64 := by
  have hz := wrap_u64_range z
  rw [show (63 : Int) = 2 ^ 6 - 1 by decide, u64_mask 6 (by decide) _ hz.1 (by omega), wrap_u64]
  show z % 18446744073709551616 % 64 = z % 64
  omega
theorem rot32 (x : Nat) (hx : x < 4294967296) (z : Int) (s : Nat) (hz : z % 32 = (s : Int)) (hs : s < 32) : bits_RotateLeft32.f (x : Int) z = some ((tl 32 x s : Nat) : Int) := by
  unfold bits_RotateLeft32.f
  rw [and31, hz]
  have e1 : IntKind.u64.wrap (32 - (s : Int)) = ((32 - s : Nat) : Int) := by rw [wu64 (by omega) (by omega)]; omega
  rw [e1, if_pos (by omega), if_pos (by omega), shl32N _ _ (by omega), shr32N _ _ (by omega)]
  have h2 := Nat.mod_lt (x * 2 ^ s) (show 0 < 4294967296 by decide)
  have h3 : x / 2 ^ (32 - s) ≤ x := Nat.div_le_self _ _
  have h4 := Mb.u32_or (x * 2 ^ s % 4294967296) (x / 2 ^ (32 - s)) (by omega) (by omega)
  rw [h4]
  rfl
theorem rot64 (x : Nat) (hx : x < 18446744073709551616) (z : Int) (s : Nat) (hz : z % 64 = (s : Int)) (hs : s < 64) : bits_RotateLeft64.f (x : Int) z = some ((tl 64 x s : Nat) : Int) := by
  unfold bits_RotateLeft64.f
  rw [and63, hz]
  have e1 : IntKind.u64.wrap (64 - (s : Int)) = ((64 - s : Nat) : Int) := by rw [wu64 (by omega) (by omega)]; omega
  rw [e1, if_pos (by omega), if_pos (by omega), shlN _ _ (by omega), shr_nat _ _ (by omega)]
  have h2 := Nat.mod_lt (x * 2 ^ s) (show 0 < 18446744073709551616 by decide)
  have h3 : x / 2 ^ (64 - s) ≤ x := Nat.div_le_self _ _
  have h4 := Mb.u64_or (x * 2 ^ s % 18446744073709551616) (x / 2 ^ (64 - s)) (by omega) (by omega)
  rw [h4]
  rfl
theorem rotlE {n : Int} {e : Nat} (h : We n e) (x : Nat) (hx : x < 2 ^ e) (z : Int) (s : Nat) (hz : z % (e : Int) = (s : Int)) (hs : s < e) : impl_rotl.f n (x : Int) z = some ((tl e x s : Nat) : Int) := by
  unfold impl_rotl.f
  rcases h with ⟨rfl, rfl⟩ | ⟨rfl, rfl⟩
  · have hx' : x < 4294967296 := hx
    have := tl_lt (e := 32) hx (s := s) (by omega)
    simp only [show (2 ^ 32 : Nat) = 4294967296 from by decide] at this
    rw [if_pos rfl, show (x : Int) % 4294967296 = (x : Int) by omega, rot32 x hx' z s hz hs]
    simp only [Option.bind_some]
    rw [wu64 (by omega) (by omega)]
  · rw [if_neg (by decide), rot64 x hx z s hz hs]
    rfl
/-- Turned right is turned left by the rest. -/
theorem tl_tr {e x s : Nat} (hx : x < 2 ^ e) (hs : s < e) : tl e x ((e - s) % e) = tr e x s := by
  by_cases h0 : s = 0
  · subst h0
    rw [Nat.sub_zero, Nat.mod_self, tl_eq hx (by omega), tr_sum hx (by omega)]
    simp [Nat.mod_eq_of_lt hx, Nat.div_eq_of_lt hx, Nat.mod_one]
  · rw [Nat.mod_eq_of_lt (by omega), tl_eq hx (by omega), tr_sum hx (by omega), show e - (e - s) = s by omega]
    omega
theorem neg_mod {e s : Nat} (hs : s < e) (he : e = 32 ∨ e = 64) : (wrap64 (-(s : Int))) % (e : Int) = (((e - s) % e : Nat) : Int) := by
  rw [w64 (by omega) (by omega)]
  rcases he with rfl | rfl <;> omega
end Go.Proofs.Ytdjpbhmkcamkpaa.Bn
