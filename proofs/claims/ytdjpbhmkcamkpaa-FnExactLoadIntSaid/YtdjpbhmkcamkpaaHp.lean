/- Memories and heaps: both texts tell the same good ones. -/
import Derived.Test.YtdjpbhmkcamkpaaMb
import Derived.Test.YtdjpbhmkcamkpaaQx6
namespace Go.Proofs.Ytdjpbhmkcamkpaa.Pure
open Go.RowKit Go.Proofs.Ytdjpbhmkcamkpaa.Q Go.Proofs.YtdjpbhmkcamkpaaW.PrintWords Go.Proofs.YtdjpbhmkcamkpaaW.PrintLast Go.Proofs.YtdjpbhmkcamkpaaW.PrintMore Go.Proofs.Ytdjpbhmkcamkpaa.Mb
set_option linter.unusedSimpArgs false

def gm (m : Int) (d : ByteArray) : Bool := decide (0 ≤ m ∧ m ≤ 8 ∧ (d.size : Int) % 256 = 0 ∧ (d.size : Int) ≤ m * 256)
theorem spec_gm (m : Int) (d : ByteArray) : spec_GoodMemory.f m d = some (gm m d) := by
  unfold spec_GoodMemory.f spec_l1In.f gm
  by_cases h : m ≥ 0
  · by_cases h2 : m ≤ 8
    · rw [if_pos h]
      simp only [Option.bind_some, h2, decide_true, if_true]
      by_cases h3 : (d.size : Int) % 256 = 0
      · rw [if_pos h3, w64 (by omega) (by omega)]
        simp [h, h2, h3]
      · rw [if_neg h3]; simp [h3]
    · simp [h, h2]
  · simp [h]
theorem impl_gm (m : Int) (d : ByteArray) : impl_GoodMemory.f m d = some (gm m d) := by
  unfold impl_GoodMemory.f gm
  by_cases h : m ≥ 0
  · by_cases h2 : m ≤ 8
    · rw [if_pos h, if_pos h2]
      by_cases h3 : (d.size : Int) % 256 = 0
      · rw [if_pos h3, w64 (by omega) (by omega)]
        simp [h, h2, h3]
      · rw [if_neg h3]; simp [h3]
    · simp [h, h2]
  · simp [h]
def gh (m : Int) (d : ByteArray) (n : Int) : Bool := gm m d && decide (0 ≤ n ∧ n ≤ (d.size : Int))
theorem spec_gh (m : Int) (d : ByteArray) (n : Int) : spec_GoodHeap.f m d n = some (gh m d n) := by
  unfold spec_GoodHeap.f gh spec_l1In.f
  rw [spec_gm]
  simp only [Option.bind_some]
  cases gm m d
  · simp
  · by_cases h : n ≥ 0 <;> simp [h]
theorem impl_gh (m : Int) (d : ByteArray) (n : Int) : impl_GoodHeap.f m d n = some (gh m d n) := by
  unfold impl_GoodHeap.f gh
  rw [impl_gm]
  simp only [Option.bind_some]
  cases gm m d
  · simp
  · by_cases h : n ≥ 0 <;> simp [h]
/-- A memory that is weighed: too great, or what is left. -/
theorem sz_mem (m : Int) (d : ByteArray) (h : d.size ≤ maxLen) : (d.size ≤ 1048576 ∧ laws_szMemory.f m d 1048576 = some (1048576 - (d.size : Int))) ∨ laws_szMemory.f m d 1048576 = some (-1) := by
  unfold maxLen at h
  unfold laws_szMemory.f
  rw [w64 (by omega) (by omega)]
  by_cases c : 1048576 - (d.size : Int) < 0
  · right; rw [if_pos c]
  · left; exact ⟨by omega, by rw [if_neg c]⟩
theorem sz_heap (m : Int) (d : ByteArray) (n : Int) (h : d.size ≤ maxLen) : (d.size ≤ 1048576 ∧ laws_szHeap.f m d n 1048576 = some (1048576 - (d.size : Int))) ∨ laws_szHeap.f m d n 1048576 = some (-1) := by
  unfold laws_szHeap.f
  rcases sz_mem m d h with ⟨h1, h2⟩ | h2
  · left; exact ⟨h1, by rw [h2]; simp only [Option.bind_some]; rw [if_neg (by omega)]⟩
  · right; rw [h2]; simp
theorem gm_size {m : Int} {d : ByteArray} (h : gm m d = true) : (d.size : Int) ≤ 2048 ∧ 0 ≤ m ∧ m ≤ 8 := by
  unfold gm at h
  simp at h
  omega
end Go.Proofs.Ytdjpbhmkcamkpaa.Pure
