/- LoadInt of the program and of the reference tell the same, whatever the memory, the place, the width and the sign. -/
import Derived.Test.YtdjpbhmkcamkpaaLd
namespace Go.Proofs.Ytdjpbhmkcamkpaa.Pure
open Go.RowKit Go.Proofs.Ytdjpbhmkcamkpaa.Q Go.Proofs.YtdjpbhmkcamkpaaW.PrintWords Go.Proofs.YtdjpbhmkcamkpaaW.PrintLast Go.Proofs.Ytdjpbhmkcamkpaa.Mb
theorem FnExactLoadInt : laws_FnExactLoadInt.Pure := by
  intro m d at_ n sg _ h2 h3 h4
  have ha := (wf_i64 h3).2
  have hn := (wf_i64 h4).2
  refine ⟨9, ?_⟩
  unfold laws_FnExactLoadInt.f
  rcases sz_mem m d h2 with ⟨hd, h⟩ | h
  · rw [h]
    simp only [Option.bind_some]
    rw [if_neg (by omega)]
    simp only [laws_toMemory.f, Option.bind_some]
    rw [spec_ldI 8 m d at_ n sg ha hn (by decide), impl_ldI 8 m d at_ n sg ha hn (by decide)]
    simp
  · rw [h]; simp
end Go.Proofs.Ytdjpbhmkcamkpaa.Pure
