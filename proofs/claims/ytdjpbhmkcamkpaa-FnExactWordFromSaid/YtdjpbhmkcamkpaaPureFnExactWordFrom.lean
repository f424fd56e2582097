/- WordFrom of the program and of the reference tell the same, whatever the word and the type wanted. -/
import Derived.Test.YtdjpbhmkcamkpaaWd
namespace Go.Proofs.Ytdjpbhmkcamkpaa.Pure
open Go.RowKit Go.Proofs.Ytdjpbhmkcamkpaa.Q Go.Proofs.YtdjpbhmkcamkpaaW.PrintWords Go.Proofs.YtdjpbhmkcamkpaaW.PrintLast
theorem FnExactWordFrom : laws_FnExactWordFrom.Pure := by
  intro t b w _ _ _
  refine ⟨1, ?_⟩
  unfold laws_FnExactWordFrom.f laws_toWord.f
  simp only [Option.bind_some]
  rw [spec_from 0, impl_from 0]
  simp only [Option.bind_some, eq_word]
  simp
end Go.Proofs.Ytdjpbhmkcamkpaa.Pure
