/- Rounding in both texts tells the same float. -/
import Derived.Test.YtdeogandkgiggaaFl
namespace Go.Proofs.Ytdeogandkgiggaa.Fr
open Go.RowKit Go.Proofs.Ytdeogandkgiggaa.Q Go.Proofs.YtdeogandkgiggaaW.PrintWords Go.Proofs.YtdeogandkgiggaaW.PrintLast Go.Proofs.YtdeogandkgiggaaW.PrintMore Go.Proofs.Ytdeogandkgiggaa.Mb Go.Proofs.Ytdeogandkgiggaa.Fp Go.Proofs.Ytdeogandkgiggaa.Fl
set_option linter.unusedSimpArgs false
set_option linter.unusedVariables false

/-- The number with one bit more, where something is left. -/
def Vm (m : Nat) (more : Bool) : Nat := if more = true then 2 * m + 1 else m
def Em (e : Int) (more : Bool) : Int := if more = true then e - 1 else e
def vv (m s : Nat) (more : Bool) : Nat := m / 2 ^ s + (if 2 * (m % 2 ^ s) > 2 ^ s ∨ (2 * (m % 2 ^ s) = 2 ^ s ∧ (more = true ∨ m / 2 ^ s % 2 = 1)) then 1 else 0)
theorem kv_left {p : Nat} {L : Int} {m : Nat} {e : Int} (h : low p L m e ≤ e) : kv p L m e = m * 2 ^ (e - low p L m e).toNat := if_pos h
theorem kv_right {p : Nat} {L : Int} {m : Nat} {e : Int} {more : Bool} {s : Nat} (hs : 1 ≤ s) (h : low p L (Vm m more) (Em e more) = e + s) : kv p L (Vm m more) (Em e more) = vv m s more := by
  unfold kv
  rw [h]
  cases more
  · have e1 : Em e false = e := rfl
    have e2 : Vm m false = m := rfl
    rw [e1, e2, if_neg (by omega), show (e + (s : Int) - e).toNat = s by omega]
    unfold rne vv
    simp
  · have e1 : Em e true = e - 1 := rfl
    have e2 : Vm m true = 2 * m + 1 := rfl
    obtain ⟨t, rfl⟩ : ∃ t, s = t + 1 := ⟨s - 1, by omega⟩
    rw [e1, e2, if_neg (by omega), show (e + ((t + 1 : Nat) : Int) - (e - 1)).toNat = t + 2 by omega, rne_more]
    unfold vv
    have g2 : 2 ^ (t + 1) = 2 * 2 ^ t := by rw [Nat.pow_succ, Nat.mul_comm]
    congr 1
    rw [g2]
    by_cases c : m % (2 * 2 ^ t) ≥ 2 ^ t
    · rw [if_pos c, if_pos]
      simp only [true_or, and_true]
      omega
    · rw [if_neg c, if_neg]
      simp only [true_or, and_true]
      omega
theorem vv_far {m s : Nat} {more : Bool} (h : 2 * m < 2 ^ s) : vv m s more = 0 := by
  unfold vv
  rw [Nat.div_eq_of_lt (by omega), Nat.mod_eq_of_lt (by omega), if_neg (by omega)]
/-- What is known of both kinds. -/
theorem facts {F : Fm} (h : IsF F) : F.p = (F.P : Int) ∧ F.A = ((2 ^ F.P : Nat) : Int) ∧ -149 ≤ F.L ∧ F.L ≤ -24 ∧ 10 ≤ F.P ∧ F.P ≤ 23 ∧ F.L = 1 - F.b - F.p ∧ 15 ≤ F.b ∧ F.b ≤ 127 := by rcases h with rfl | rfl <;> decide
theorem facts2 {F : Fm} (h : IsF F) : (2 * F.A = ((2 ^ (F.P + 1) : Nat) : Int)) ∧ F.A ≤ 8388608 ∧ F.A < F.I ∧ F.I < F.C ∧ (F.I : Int) = (F.B - 1) * F.A ∧ F.A ≥ 1024 ∧ 32 ≤ F.B ∧ F.B ≤ 256 := by rcases h with rfl | rfl <;> decide
theorem low_V {F : Fm} (h : IsF F) {m : Nat} {e : Int} {more : Bool} (hm : m ≠ 0) : low F.P F.L (Vm m more) (Em e more) = max (e + (bl m : Int) - F.p - 1) F.L := by
  have := (facts h).1
  unfold low
  cases more
  · show max (e + (bl m : Int) - F.P - 1) F.L = _
    rw [this]
  · show max (e - 1 + (bl (2 * m + 1) : Int) - F.P - 1) F.L = _
    rw [bl_odd m 1 (by omega) hm, this]
    congr 1
    omega
theorem Vm_ne {m : Nat} {more : Bool} (hm : m ≠ 0) : Vm m more ≠ 0 := by unfold Vm; split <;> omega
theorem fin_pack {F : Fm} (h : IsF F) (neg : Bool) (V : Nat) (e : Int) (hV : V ≠ 0) : fin F neg V e = pack F neg (kv F.P F.L V e : Nat) (low F.P F.L V e) := by
  rw [mag_pack h neg V e hV, mag_kv]
  congr 1
  omega
/-- The number's bounds. -/
theorem kv_ok {F : Fm} (h : IsF F) {V : Nat} {e : Int} (hV : V ≠ 0) : (0 : Int) ≤ (kv F.P F.L V e : Nat) ∧ ((kv F.P F.L V e : Nat) : Int) ≤ 2 * F.A ∧ (((kv F.P F.L V e : Nat) : Int) < F.A → low F.P F.L V e = F.L) := by
  obtain ⟨a, b⟩ := kv_bounds (p := F.P) (L := F.L) (e := e) hV
  have f := (facts h).2.1
  have f2 := (facts2 h).1
  refine ⟨by omega, by rw [f2]; exact Int.ofNat_le.2 a, fun c => b ?_⟩
  rw [f] at c
  exact Int.ofNat_lt.1 c

theorem spec_j0 {F : Fm} (h : IsF F) (k : Nat) (neg : Bool) (m : Nat) (e : Int) (more : Bool) (hm : m ≠ 0) (hm1 : m < 2 ^ 62) (he0 : -90000 ≤ e) (he1 : e ≤ 90000) (hmore : more = true → F.P + 2 ≤ bl m) :
    spec_l4K_round.j0 (k + 3) neg (m : Int) e more (low F.P F.L (Vm m more) (Em e more)) F.x F.p = some (fin F neg (Vm m more) (Em e more)) := by
  have hVm := Vm_ne (more := more) hm
  rw [fin_pack h neg _ _ hVm]
  obtain ⟨b0, b1, b2⟩ := kv_ok h (e := Em e more) hVm
  have hq := low_V h (e := e) (more := more) hm
  obtain ⟨f1, f2, f3, f4, f5, f6, -⟩ := facts h
  have hbl : bl m ≤ 62 := bl_le hm1
  have hq0 : F.L ≤ low F.P F.L (Vm m more) (Em e more) := by rw [hq]; omega
  have hq1 : low F.P F.L (Vm m more) (Em e more) ≤ 99999 := by rw [hq]; omega
  have key : ∀ v : Nat, kv F.P F.L (Vm m more) (Em e more) = v → spec_l4K_round.j1 (k + 2) neg (v : Int) (low F.P F.L (Vm m more) (Em e more)) F.x F.p = some (pack F neg (kv F.P F.L (Vm m more) (Em e more) : Nat) (low F.P F.L (Vm m more) (Em e more))) := by
    intro v hv
    rw [hv] at b0 b1 b2 ⊢
    exact spec_j1 h k neg _ _ b0 b1 hq0 hq1 b2
  generalize hQ : low F.P F.L (Vm m more) (Em e more) = q at *
  simp only [spec_l4K_round.j0]
  rw [w64 (n := q - e) (by omega) (by omega)]
  by_cases c : q - e ≤ 0
  · rw [if_pos c, w64 (n := -(q - e)) (by omega) (by omega), wu64 (n := -(q - e)) (by omega) (by omega), if_pos (by omega)]
    have hf : more = false := by
      cases more
      · rfl
      · have := hmore rfl; omega
    subst hf
    have hk : kv F.P F.L (Vm m false) (Em e false) = m * 2 ^ (e - q).toNat := by
      have := kv_left (p := F.P) (L := F.L) (m := m) (e := e) (by show low F.P F.L (Vm m false) (Em e false) ≤ e; omega)
      rw [show low F.P F.L m e = q from hQ] at this
      exact this
    have hbound : m * 2 ^ (e - q).toNat ≤ 2 ^ (F.P + 1) := by
      have := (kv_bounds (p := F.P) (L := F.L) (e := Em e false) hVm).1
      rw [hk] at this
      exact this
    have h24 : 2 ^ (F.P + 1) ≤ 2 ^ 24 := Nat.pow_le_pow_right (by decide) (by omega)
    have hs : (e - q).toNat ≤ 24 := by
      have g1 : 2 ^ (e - q).toNat ≤ m * 2 ^ (e - q).toNat := Nat.le_mul_of_pos_left _ (by omega)
      have g2 : 2 ^ (e - q).toNat ≤ 2 ^ 24 := by omega
      exact (Nat.pow_le_pow_iff_right (by decide : 1 < 2)).1 g2
    have e1 : -(q - e) = (((e - q).toNat : Nat) : Int) := by omega
    rw [e1, shl_nat m _ (by omega) (by omega)]
    exact key _ hk
  · rw [if_neg c]
    obtain ⟨s, hs, hs1⟩ : ∃ s : Nat, q - e = (s : Int) ∧ 1 ≤ s := ⟨(q - e).toNat, by omega, by omega⟩
    have hk := kv_right (p := F.P) (L := F.L) (m := m) (e := e) (more := more) hs1 (by rw [hQ]; omega)
    rw [hs]
    by_cases c2 : (s : Int) < 64
    · rw [if_pos c2, wu64 (n := (s : Int)) (by omega) (by omega), w64 (n := (s : Int) - 1) (by omega) (by omega), wu64 (n := (s : Int) - 1) (by omega) (by omega), if_pos (by omega), if_pos (by omega)]
      rw [mask_nat m s (by omega) (by omega), shr_nat m s (by omega)]
      have hd : m / 2 ^ s ≤ m := Nat.div_le_self _ _
      have hd0 : (0 : Int) ≤ ((m / 2 ^ s : Nat) : Int) := Int.natCast_nonneg _
      have e1 : (s : Int) - 1 = ((s - 1 : Nat) : Int) := by omega
      rw [e1, shl_one (s - 1) (by omega), wu64 (n := ((m / 2 ^ s : Nat) : Int) + 1) (by omega) (by omega), and_one_nat _ (by omega)]
      have g : 2 ^ s = 2 * 2 ^ (s - 1) := by rw [← Nat.pow_succ']; congr 1; omega
      have e2 : ((m / 2 ^ s : Nat) : Int) + 1 = ((m / 2 ^ s + 1 : Nat) : Int) := by omega
      rw [e2]
      unfold vv at hk
      by_cases c3 : (m % 2 ^ s) > 2 ^ (s - 1)
      · rw [if_pos (by omega)]
        rw [if_pos (by omega)] at hk
        exact key _ hk
      · rw [if_neg (by omega)]
        by_cases c4 : (m % 2 ^ s) = 2 ^ (s - 1)
        · rw [if_pos (by omega)]
          by_cases c5 : more = true
          · rw [if_pos c5]
            rw [if_pos (Or.inr ⟨by omega, Or.inl c5⟩)] at hk
            exact key _ hk
          · rw [if_neg c5]
            by_cases c6 : m / 2 ^ s % 2 = 1
            · rw [if_pos (by omega)]
              rw [if_pos (Or.inr ⟨by omega, Or.inr c6⟩)] at hk
              exact key _ hk
            · rw [if_neg (by omega)]
              rw [if_neg (by rintro (h1 | ⟨-, h2 | h2⟩) <;> first | omega | exact c5 h2 | exact c6 h2)] at hk
              exact key _ hk
        · rw [if_neg (by omega)]
          rw [if_neg (by rintro (h1 | ⟨h2, -⟩) <;> omega)] at hk
          exact key _ hk
    · rw [if_neg c2, if_neg (by decide), if_neg (by decide)]
      have h64 : 2 ^ 64 ≤ 2 ^ s := Nat.pow_le_pow_right (by decide) (by omega)
      rw [vv_far (by omega)] at hk
      exact key 0 hk
theorem spec_round {F : Fm} (h : IsF F) (k : Nat) (hk : 70 ≤ k) (neg : Bool) (m : Nat) (e : Int) (more : Bool) (hm1 : m < 2 ^ 62) (he0 : -90000 ≤ e) (he1 : e ≤ 90000) (hmore : more = true → F.P + 2 ≤ bl m) :
    spec_l4K_round.f k F.x F.p neg (m : Int) e more = some (fin F neg (Vm m more) (Em e more)) := by
  obtain ⟨k, rfl⟩ : ∃ j, k = j + 3 := ⟨k - 3, by omega⟩
  have hbl : bl m ≤ 62 := bl_le hm1
  obtain ⟨f1, f2, f3, f4, f5, f6, -⟩ := facts h
  unfold spec_l4K_round.f
  by_cases hm : m = 0
  · subst hm
    have hf : more = false := by
      cases more
      · rfl
      · have := hmore rfl; rw [bl_zero] at this; omega
    subst hf
    rw [if_pos (show ((0 : Nat) : Int) = 0 from rfl), sign_F h]
    show some (sg F neg) = some (fin F neg 0 e)
    unfold fin rb
    rw [if_pos rfl]
    simp
  · rw [if_neg (by omega), spec_len m _ (by omega) (by omega), least_F h]
    simp only [Option.bind_some]
    have hq := low_V h (e := e) (more := more) hm
    rw [w64 (n := e + (bl m : Int)) (by omega) (by omega), w64 (n := F.p) (by omega) (by omega), w64 (n := e + (bl m : Int) - F.p) (by omega) (by omega), w64 (n := e + (bl m : Int) - F.p - 1) (by omega) (by omega)]
    have := spec_j0 h k neg m e more hm hm1 he0 he1 hmore
    rw [hq] at this
    by_cases c : e + (bl m : Int) - F.p - 1 < F.L
    · rw [if_pos c]
      rw [Int.max_eq_right (by omega)] at this
      exact this
    · rw [if_neg c]
      rw [Int.max_eq_left (by omega)] at this
      exact this

/-! the program's text -/
theorem impl_j1 {F : Fm} (h : IsF F) (k : Nat) (neg : Bool) (v q : Int) (hv0 : 0 ≤ v) (hv1 : v < 2 * F.A) (hq : F.L ≤ q) (hq2 : q ≤ 100000) (hv2 : v < F.A → q = F.L) :
    impl_format_round.j1 (k + 1) neg q v F.p F.b = some (pack F neg v q) := by
  have hs1 : (0 : Int) ≤ F.p := by rcases h with rfl | rfl <;> decide
  have hs3 : shl .u64 1 F.p = F.A := by rcases h with rfl | rfl <;> decide +kernel
  obtain ⟨f1, f2, f3, f4, f5, f6, f7, f8, f9⟩ := facts h
  obtain ⟨g1, g2, g3, g4, g5, g6, g7, g8⟩ := facts2 h
  simp only [impl_format_round.j1]
  rw [if_pos hs1, hs3, top_F h, iinf_F h]
  simp only [Option.bind_some]
  unfold pack
  by_cases c : v < F.A
  · rw [if_pos c, hv2 c]
    have e : v % 4294967296 = v := by omega
    rw [e, isigned_F h neg hv0 (by omega)]
    simp only [Option.bind_some]
    congr 2
    rw [Int.sub_self, Int.zero_mul, Int.add_zero]
    omega
  · rw [if_neg c]
    have et : wrap64 (F.B - 1) = F.B - 1 := w64 (by omega) (by omega)
    rw [w64 (n := q + F.b) (by omega) (by omega), w64 (n := q + F.b + F.p) (by omega) (by omega), et]
    have eq : q + F.b + F.p = q - F.L + 1 := by omega
    rw [eq]
    by_cases c2 : q - F.L + 1 ≥ F.B - 1
    · rw [if_pos c2]
      unfold inf
      congr 2
      have : (F.B - 1 - 1) * F.A ≤ (q - F.L) * F.A := Int.mul_le_mul_of_nonneg_right (by omega) (by omega)
      rw [Int.sub_mul (F.B - 1), Int.one_mul, ← g5] at this
      omega
    · rw [if_neg c2]
      have e2 : IntKind.u64.wrap (v - F.A) = v - F.A := wu64 (by omega) (by omega)
      have e3 : (v - F.A) % 4294967296 = v - F.A := by omega
      rw [e2, e3]
      have ho := or_shift 0 h false (q - F.L + 1) (v - F.A) (by omega) (by omega) (by omega) (by omega)
      have e4 : sg F false = 0 := rfl
      have hx : (q - F.L + 1) * F.A ≤ (F.B - 1 - 1) * F.A := Int.mul_le_mul_of_nonneg_right (by omega) (by omega)
      have hx0 : 0 ≤ (q - F.L + 1) * F.A := Int.mul_nonneg (by omega) (by omega)
      rw [Int.sub_mul (F.B - 1), Int.one_mul, ← g5] at hx
      have eo : Go.bits .or .u32 (shl .u32 ((q - F.L + 1) % 4294967296) F.p) (v - F.A) = (q - F.L + 1) * F.A + (v - F.A) := by
        rw [e4] at ho
        have hz : Go.bits .or .u32 0 (shl .u32 ((q - F.L + 1) % 4294967296) F.p) = shl .u32 ((q - F.L + 1) % 4294967296) F.p := by
          have hr : 0 ≤ shl .u32 ((q - F.L + 1) % 4294967296) F.p ∧ shl .u32 ((q - F.L + 1) % 4294967296) F.p < 4294967296 := by
            rw [f1, shl_u32 _ _ F.P rfl (by omega)]
            omega
          rw [u32_join 32 0 _ (by omega) (by omega) (by omega) hr.1 (by omega) (by omega)]
          omega
        rw [hz] at ho
        omega
      rw [eo, isigned_F h neg (by omega) (by omega)]
      simp only [Option.bind_some]
      congr 2
      rw [Int.add_mul, Int.one_mul] at hx ⊢
      omega
theorem impl_j0 {F : Fm} (h : IsF F) (k : Nat) (neg : Bool) (v q : Int) (hv0 : 0 ≤ v) (hv1 : v ≤ 2 * F.A) (hq : F.L ≤ q) (hq2 : q ≤ 99999) (hv2 : v < F.A → q = F.L) :
    impl_format_round.j0 (k + 2) neg q v F.p F.b = some (pack F neg v q) := by
  have hs1 : (0 : Int) ≤ F.p := by rcases h with rfl | rfl <;> decide
  have hs3 : shl .u64 1 F.p = F.A := by rcases h with rfl | rfl <;> decide +kernel
  have hs4 : shl .u64 2 F.p = 2 * F.A := by rcases h with rfl | rfl <;> decide +kernel
  have hA : 1024 ≤ F.A := by rcases h with rfl | rfl <;> decide
  obtain ⟨f1, f2, f3, f4, f5, f6, f7, f8, f9⟩ := facts h
  simp only [impl_format_round.j0]
  rw [if_pos hs1, hs3, hs4]
  by_cases c : v = 2 * F.A
  · subst c
    rw [if_pos rfl, w64 (by omega) (by omega), impl_j1 h k neg _ _ (by omega) (by omega) (by omega) (by omega) (by omega)]
    unfold pack
    congr 3
    rw [show q + 1 - F.L = (q - F.L) + 1 by omega, Int.add_mul, Int.one_mul]
    omega
  · rw [if_neg c, impl_j1 h k neg v q hv0 (by omega) hq (by omega) hv2]
theorem impl_round {F : Fm} (h : IsF F) (k : Nat) (hk : 70 ≤ k) (neg : Bool) (m : Nat) (e : Int) (more : Bool) (hm1 : m < 2 ^ 62) (he0 : -90000 ≤ e) (he1 : e ≤ 90000) (hmore : more = true → F.P + 2 ≤ bl m) :
    impl_format_round.f k F.p F.b neg (m : Int) e more = some (fin F neg (Vm m more) (Em e more)) := by
  obtain ⟨k, rfl⟩ : ∃ j, k = j + 2 := ⟨k - 2, by omega⟩
  have hbl : bl m ≤ 62 := bl_le hm1
  obtain ⟨f1, f2, f3, f4, f5, f6, f7, f8, f9⟩ := facts h
  unfold impl_format_round.f
  by_cases hm : m = 0
  · subst hm
    have hf : more = false := by
      cases more
      · rfl
      · have := hmore rfl; rw [bl_zero] at this; omega
    subst hf
    have g := (facts2 h).2.2.1
    have g' := (facts2 h).2.2.2.1
    rw [if_pos (show ((0 : Nat) : Int) = 0 from rfl), isigned_F h neg (Int.le_refl 0) (by omega)]
    show some (sg F neg + 0) = some (fin F neg 0 e)
    unfold fin rb
    rw [if_pos rfl]
    simp
  · rw [if_neg (by omega), impl_len m (by omega)]
    simp only [Option.bind_some]
    have hq := low_V h (e := e) (more := more) hm
    have hVm := Vm_ne (more := more) hm
    have eq : mx (wrap64 (wrap64 (wrap64 ((bl m : Int) - 1) + e) - F.p)) (wrap64 (wrap64 (1 - F.b) - F.p)) = low F.P F.L (Vm m more) (Em e more) := by
      rw [hq, w64 (n := (bl m : Int) - 1) (by omega) (by omega), w64 (n := (bl m : Int) - 1 + e) (by omega) (by omega), w64 (n := (bl m : Int) - 1 + e - F.p) (by omega) (by omega), w64 (n := 1 - F.b) (by omega) (by omega), w64 (n := 1 - F.b - F.p) (by omega) (by omega)]
      unfold mx
      split <;> omega
    rw [eq, fin_pack h neg _ _ hVm]
    obtain ⟨b0, b1, b2⟩ := kv_ok h (e := Em e more) hVm
    have hq0 : F.L ≤ low F.P F.L (Vm m more) (Em e more) := by rw [hq]; omega
    have hq1 : low F.P F.L (Vm m more) (Em e more) ≤ 99999 := by rw [hq]; omega
    have key : ∀ v : Nat, kv F.P F.L (Vm m more) (Em e more) = v → impl_format_round.j0 (k + 2) neg (low F.P F.L (Vm m more) (Em e more)) (v : Int) F.p F.b = some (pack F neg (kv F.P F.L (Vm m more) (Em e more) : Nat) (low F.P F.L (Vm m more) (Em e more))) := by
      intro v hv
      rw [hv] at b0 b1 b2 ⊢
      exact impl_j0 h k neg _ _ b0 b1 hq0 hq1 b2
    generalize hQ : low F.P F.L (Vm m more) (Em e more) = q at *
    rw [w64 (n := q - e) (by omega) (by omega)]
    by_cases c : q - e > 62
    · rw [if_pos c]
      have hk := kv_right (p := F.P) (L := F.L) (m := m) (e := e) (more := more) (s := (q - e).toNat) (by omega) (by rw [hQ]; omega)
      have h64 : 2 ^ 63 ≤ 2 ^ (q - e).toNat := Nat.pow_le_pow_right (by decide) (by omega)
      rw [vv_far (by omega)] at hk
      exact key 0 hk
    · rw [if_neg c]
      by_cases c1 : q - e > 0
      · rw [if_pos c1]
        obtain ⟨s, hs, hs1⟩ : ∃ s : Nat, q - e = (s : Int) ∧ 1 ≤ s := ⟨(q - e).toNat, by omega, by omega⟩
        have hk := kv_right (p := F.P) (L := F.L) (m := m) (e := e) (more := more) hs1 (by rw [hQ]; omega)
        rw [hs]
        rw [w64 (n := (s : Int) - 1) (by omega) (by omega), if_pos (by omega), if_pos (by omega)]
        have e1 : (s : Int) - 1 = ((s - 1 : Nat) : Int) := by omega
        have g : 2 ^ s = 2 * 2 ^ (s - 1) := by rw [← Nat.pow_succ']; congr 1; omega
        have hp := two_pow_lt (s := s) (by omega)
        have hpp := Nat.two_pow_pos s
        rw [e1, shl_one (s - 1) (by omega)]
        have e3 : IntKind.u64.wrap (IntKind.u64.wrap (2 * ((2 ^ (s - 1) : Nat) : Int)) - 1) = IntKind.u64.wrap (shl .u64 1 (s : Int) - 1) := by
          rw [shl_one s (by omega), wu64 (n := 2 * ((2 ^ (s - 1) : Nat) : Int)) (by omega) (by omega)]
          congr 1
          omega
        rw [e3, mask_nat m s (by omega) (by omega), shr_nat m s (by omega)]
        have hd : m / 2 ^ s ≤ m := Nat.div_le_self _ _
        have hd0 : (0 : Int) ≤ ((m / 2 ^ s : Nat) : Int) := Int.natCast_nonneg _
        rw [wu64 (n := ((m / 2 ^ s : Nat) : Int) + 1) (by omega) (by omega), and_one_nat _ (by omega)]
        have e2 : ((m / 2 ^ s : Nat) : Int) + 1 = ((m / 2 ^ s + 1 : Nat) : Int) := by omega
        rw [e2]
        unfold vv at hk
        by_cases c3 : (m % 2 ^ s) > 2 ^ (s - 1)
        · rw [if_pos (by omega)]
          rw [if_pos (by omega)] at hk
          exact key _ hk
        · rw [if_neg (by omega)]
          by_cases c4 : (m % 2 ^ s) = 2 ^ (s - 1)
          · rw [if_pos (by omega)]
            by_cases c5 : more = true
            · rw [if_pos c5]
              rw [if_pos (Or.inr ⟨by omega, Or.inl c5⟩)] at hk
              exact key _ hk
            · rw [if_neg c5]
              by_cases c6 : m / 2 ^ s % 2 = 1
              · rw [if_pos (by omega)]
                rw [if_pos (Or.inr ⟨by omega, Or.inr c6⟩)] at hk
                exact key _ hk
              · rw [if_neg (by omega)]
                rw [if_neg (by rintro (h1 | ⟨-, h2 | h2⟩) <;> first | omega | exact c5 h2 | exact c6 h2)] at hk
                exact key _ hk
          · rw [if_neg (by omega)]
            rw [if_neg (by rintro (h1 | ⟨h2, -⟩) <;> omega)] at hk
            exact key _ hk
      · rw [if_neg c1]
        rw [w64 (n := -(q - e)) (by omega) (by omega), if_pos (by omega)]
        have hf : more = false := by
          cases more
          · rfl
          · have := hmore rfl; omega
        subst hf
        have hk : kv F.P F.L (Vm m false) (Em e false) = m * 2 ^ (e - q).toNat := by
          have := kv_left (p := F.P) (L := F.L) (m := m) (e := e) (by show low F.P F.L (Vm m false) (Em e false) ≤ e; omega)
          rw [show low F.P F.L m e = q from hQ] at this
          exact this
        have hbound : m * 2 ^ (e - q).toNat ≤ 2 ^ (F.P + 1) := by
          have := (kv_bounds (p := F.P) (L := F.L) (e := Em e false) hVm).1
          rw [hk] at this
          exact this
        have h24 : 2 ^ (F.P + 1) ≤ 2 ^ 24 := Nat.pow_le_pow_right (by decide) (by omega)
        have hs : (e - q).toNat ≤ 24 := by
          have g1 : 2 ^ (e - q).toNat ≤ m * 2 ^ (e - q).toNat := Nat.le_mul_of_pos_left _ (by omega)
          have g2 : 2 ^ (e - q).toNat ≤ 2 ^ 24 := by omega
          exact (Nat.pow_le_pow_iff_right (by decide : 1 < 2)).1 g2
        have e1 : -(q - e) = (((e - q).toNat : Nat) : Int) := by omega
        rw [e1, shl_nat m _ (by omega) (by omega)]
        exact key _ hk
end Go.Proofs.Ytdeogandkgiggaa.Fr
