/- GoodHeap of the program and of the reference tell the same, whatever the heap. -/
import Derived.Test.YtdjpbhmkcamkpaaHp
namespace Go.Proofs.Ytdjpbhmkcamkpaa.Pure
open Go.RowKit Go.Proofs.Ytdjpbhmkcamkpaa.Q Go.Proofs.YtdjpbhmkcamkpaaW.PrintWords Go.Proofs.YtdjpbhmkcamkpaaW.PrintLast
theorem FnExactGoodHeap : laws_FnExactGoodHeap.Pure := by
  intro m d n _ h2 _
  unfold laws_FnExactGoodHeap.f
  rcases sz_heap m d n h2 with ⟨hd, h⟩ | h
  · rw [h]
    simp only [Option.bind_some]
    rw [if_neg (by omega)]
    simp only [laws_toHeap.f, laws_toMemory.f, Option.bind_some, spec_gh, impl_gh]
    simp
  · rw [h]; simp
end Go.Proofs.Ytdjpbhmkcamkpaa.Pure
