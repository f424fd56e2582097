/- TakeRoom of the program and of the reference tell the same, whatever the heap, the align and the size. -/
import Derived.Test.YtdjpbhmkcamkpaaHp
namespace Go.Proofs.Ytdjpbhmkcamkpaa.Pure
open Go.RowKit Go.Proofs.Ytdjpbhmkcamkpaa.Q Go.Proofs.YtdjpbhmkcamkpaaW.PrintWords Go.Proofs.YtdjpbhmkcamkpaaW.PrintLast Go.Proofs.Ytdjpbhmkcamkpaa.Mb
set_option linter.unusedSimpArgs false
theorem align_same (a : Int) : spec_l13Align.f a = impl_goodWidth.f a := rfl
theorem up_same (a b : Int) : spec_l11Up.f a b = impl_upTo.f a b := rfl
def gwd (a : Int) : Bool := a == 1 || a == 2 || a == 4 || a == 8
theorem impl_width (a : Int) : impl_goodWidth.f a = some (gwd a) := by
  unfold impl_goodWidth.f gwd
  by_cases h1 : a = 1
  · simp [h1]
  · by_cases h2 : a = 2
    · simp [h2]
    · by_cases h4 : a = 4 <;> simp [h1, h2, h4]
theorem eq_heap (m : Int) (d : ByteArray) (n : Int) : laws_eqHeap.f m d n m d n = some true := by
  unfold laws_eqHeap.f laws_eqMemory.f; simp
theorem take_same (m : Int) (d : ByteArray) (n a s : Int) : ∃ r, spec_TakeRoom.f 1 m d n a s = some r ∧ impl_TakeRoom.f 1 m d n a s = some r := by
  unfold spec_TakeRoom.f impl_TakeRoom.f
  rw [spec_gh, impl_gh, align_same, impl_width]
  simp only [Option.bind_some, spec_TakeRoom.j0, impl_TakeRoom.j0, impl_orZeroHeap.f, impl_gh, spec_l13Take.f, up_same]
  cases hg : gh m d n
  · exact ⟨_, by simp; rfl, by simp⟩
  · simp only [if_true, Option.bind_some]
    cases hw : gwd a
    · exact ⟨_, by simp; rfl, by simp⟩
    · simp only [if_true]
      by_cases hs : s < 0
      · exact ⟨_, by simp [hs]; rfl, by simp [hs]⟩
      · have ha : a ≠ 0 := by intro h0; subst h0; simp [gwd] at hw
        obtain ⟨u, hu⟩ : ∃ u, impl_upTo.f n a = some u := by unfold impl_upTo.f; rw [if_neg ha]; exact ⟨_, rfl⟩
        simp only [hs, decide_false, hu, Option.bind_some]
        by_cases c1 : u > (d.size : Int)
        · exact ⟨_, by simp [c1]; rfl, by simp [c1]⟩
        · by_cases c2 : s > wrap64 ((d.size : Int) - u)
          · exact ⟨_, by simp [c1, c2]; rfl, by simp [c1, c2]⟩
          · exact ⟨_, by simp [c1, c2]; rfl, by simp [c1, c2]⟩
theorem FnExactTakeRoom : laws_FnExactTakeRoom.Pure := by
  intro m d n a s _ h2 _ _ _
  refine ⟨1, ?_⟩
  unfold laws_FnExactTakeRoom.f
  rcases sz_heap m d n h2 with ⟨hd, h⟩ | h
  · rw [h]
    simp only [Option.bind_some]
    rw [if_neg (by omega)]
    obtain ⟨⟨r1, r2, r3, r4, r5⟩, e1, e2⟩ := take_same m d n a s
    simp only [laws_toHeap.f, laws_toMemory.f, Option.bind_some, e1, e2, eq_heap]
    simp
  · rw [h]; simp
end Go.Proofs.Ytdjpbhmkcamkpaa.Pure
