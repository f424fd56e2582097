/- Words of a place: both texts tell the same good words, and put and take them alike. -/
import Derived.Test.YtdjpbhmkcamkpaaMb
import Derived.Test.YtdjpbhmkcamkpaaQx4
import Derived.Test.YtdjpbhmkcamkpaaQx3
import Derived.Test.YtdjpbhmkcamkpaaQx2
namespace Go.Proofs.Ytdjpbhmkcamkpaa.Pure
open Go.RowKit Go.Proofs.Ytdjpbhmkcamkpaa.Q Go.Proofs.YtdjpbhmkcamkpaaW.PrintWords Go.Proofs.YtdjpbhmkcamkpaaW.PrintLast Go.Proofs.YtdjpbhmkcamkpaaW.PrintMore Go.Proofs.Ytdjpbhmkcamkpaa.Mb
set_option linter.unusedSimpArgs false

def gt (t : Int) : Bool := decide (125 ≤ t ∧ t ≤ 127)
def gw (t b : Int) : Bool := gt t && (t == 126 || decide (b < 4294967296))
theorem spec_gt (t : Int) : spec_l6Type.f t = some (gt t) := by
  unfold spec_l6Type.f spec_l1In.f gt
  by_cases h : t ≥ 125 <;> simp [h]
theorem impl_gt (t : Int) : impl_goodType.f t = some (gt t) := by
  unfold impl_goodType.f gt
  by_cases h : t = 127
  · simp [h]
  · by_cases h2 : t = 126
    · simp [h2]
    · rw [if_neg h, if_neg h2]
      congr 1
      rw [Bool.eq_iff_iff]
      simp
      omega
theorem spec_gw (t b : Int) : spec_l8Word.f t b = some (gw t b) := by
  unfold spec_l8Word.f gw
  rw [spec_gt]
  simp only [Option.bind_some]
  cases gt t
  · simp
  · by_cases h : t = 126
    · simp [h]
    · simp only [h, if_true, if_false, Bool.true_and]
      congr 1
      rw [Bool.eq_iff_iff]
      simp [h]
      omega
theorem impl_gw (t b : Int) : impl_GoodWord.f t b = some (gw t b) := by
  unfold impl_GoodWord.f gw
  rw [impl_gt]
  simp only [Option.bind_some]
  cases gt t
  · simp
  · by_cases h : t = 126 <;> simp [h]

/-- What WordAs tells. -/
def asW (t b w : Int) : Int × Int × Bool := if gw t b = true ∧ gt w = true ∧ (t = w ∨ w = 126 ∨ (w = 127 ∧ t = 125)) then (w, b, true) else (0, 0, false)
theorem spec_as (k : Nat) (t b w : Int) : spec_WordAs.f (k + 1) t b w = some (asW t b w) := by
  unfold spec_WordAs.f asW
  rw [spec_gw]
  simp only [Option.bind_some, spec_gt, spec_WordAs.j0]
  cases gw t b <;> cases gt w <;> simp
  by_cases h1 : t = w
  · simp [h1]
  · by_cases h2 : w = 126
    · simp [h2]
    · by_cases h3 : w = 127
      · subst h3
        by_cases h4 : t = 125 <;> simp [h1, h4]
      · simp [h1, h2, h3]
theorem impl_as (k : Nat) (t b w : Int) : impl_WordAs.f (k + 1) t b w = some (asW t b w) := by
  unfold impl_WordAs.f asW
  rw [impl_gw]
  simp only [Option.bind_some, impl_gt, impl_WordAs.j0]
  cases gw t b <;> cases gt w <;> simp
  by_cases h1 : t = w
  · simp [h1]
  · by_cases h2 : w = 126
    · simp [h2]
    · by_cases h3 : w = 127
      · subst h3
        by_cases h4 : t = 125 <;> simp [h1, h4]
      · simp [h1, h2, h3]

/-- What WordFrom tells. -/
def fromW (t b w : Int) : Int × Int × Bool :=
  if gw t b = true then (if w = 126 then (if t = 126 then (126, b, true) else (0, 0, false)) else if w = 125 then (125, Go.bits .and .u64 b 4294967295, true)
    else if w = 127 then (if t = 125 then (0, 0, false) else (127, Go.bits .and .u64 b 4294967295, true)) else (0, 0, false)) else (0, 0, false)
theorem gw_gt {t b : Int} (h : gw t b = true) : 125 ≤ t ∧ t ≤ 127 := by
  unfold gw gt at h
  simp at h
  exact h.1
theorem gt_no {w : Int} (h1 : w ≠ 126) (h2 : w ≠ 125) (h3 : w ≠ 127) : gt w = false := by unfold gt; simp; omega
theorem spec_from (k : Nat) (t b w : Int) : spec_WordFrom.f (k + 1) t b w = some (fromW t b w) := by
  unfold spec_WordFrom.f fromW
  rw [spec_gw]
  simp only [Option.bind_some, spec_gt, spec_WordFrom.j0, spec_l14From.f]
  cases hg : gw t b
  · simp
  · have ht := gw_gt hg
    by_cases h1 : w = 126
    · subst h1
      by_cases h : t = 126
      · simp [h, gt]
      · simp [h, gt]
    · by_cases h2 : w = 125
      · subst h2
        by_cases h : t = 125 <;> simp [h, gt]
      · by_cases h3 : w = 127
        · subst h3
          by_cases h : t = 127
          · simp [h, gt]
          · by_cases h4 : t = 126
            · simp [h4, gt]
            · have h5 : t = 125 := by omega
              simp [h5, gt]
        · simp [gt_no h1 h2 h3, h1, h2, h3]
theorem impl_from (k : Nat) (t b w : Int) : impl_WordFrom.f (k + 1) t b w = some (fromW t b w) := by
  unfold impl_WordFrom.f fromW
  rw [impl_gw]
  simp only [Option.bind_some, impl_WordFrom.j0, impl_cut.f]
  cases hg : gw t b
  · simp
  · have ht := gw_gt hg
    by_cases h1 : w = 126
    · subst h1
      by_cases h : t = 126
      · simp [h]
      · simp [h]
    · by_cases h2 : w = 125
      · subst h2; simp
      · by_cases h3 : w = 127
        · subst h3
          by_cases h : t = 125 <;> simp [h]
        · simp [h1, h2, h3]
theorem eq_word (a b : Int) : laws_eqWord.f a b a b = some true := by unfold laws_eqWord.f; simp
end Go.Proofs.Ytdjpbhmkcamkpaa.Pure
