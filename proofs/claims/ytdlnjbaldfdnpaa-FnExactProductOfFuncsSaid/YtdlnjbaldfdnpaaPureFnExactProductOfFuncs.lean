/- The pure statement of the law FnExactProductOfFuncs: the functions that the program's text comes to answer true at every input. -/
import Derived.Test.YtdlnjbaldfdnpaaPx1
import Derived.Test.YtdlnjbaldfdnpaaPx18
import Derived.Test.YtdlnjbaldfdnpaaPx19
import Derived.Test.YtdlnjbaldfdnpaaLBase
import Derived.Test.YtdlnjbaldfdnpaaLLike
namespace Go.Proofs.Ytdlnjbaldfdnpaa.Pure
open Go.RowKit Go.Proofs.Ytdlnjbaldfdnpaa.P Go.Proofs.YtdlnjbaldfdnpaaW.PrintWords Go.Proofs.YtdlnjbaldfdnpaaW.PrintLast Go.Proofs.YtdlnjbaldfdnpaaW.PrintMore
set_option linter.unusedVariables false
set_option linter.unusedSimpArgs false
theorem FnExactProductOfFuncs : ∀ (a0_0 : Int) (a0_1 : Int) (a1_0 : Int) (a1_1 : Int), (Lit.int .i64 a0_0).wf = true → (Lit.int .i64 a0_1).wf = true → (Lit.int .i64 a1_0).wf = true → (Lit.int .i64 a1_1).wf = true → ∃ k, laws_FnExactProductOfFuncs.f k a0_0 a0_1 a1_0 a1_1 = some true := by
  intro n b m c _ _ _ _
  have e : ∃ r, spec_ProductOfFuncs.f 100 n b m c = some r ∧ impl_ProductOfFuncs.f n b m c = some r := by
    unfold spec_ProductOfFuncs.f impl_ProductOfFuncs.f
    rw [like_eq]
    obtain ⟨r, hr⟩ := code_some n b m c
    rw [hr]
    simp only [Option.bind_some]
    by_cases h : r = 0
    · rw [if_pos h]; exact ⟨_, rfl, rfl⟩
    · rw [if_neg h]; exact ⟨_, rfl, rfl⟩
  obtain ⟨⟨r1, r2, r3⟩, h1, h2⟩ := e
  refine ⟨100, ?_⟩
  unfold laws_FnExactProductOfFuncs.f laws_toFunc.f
  simp only [Option.bind_some]
  rw [h1, h2]
  simp [laws_eqFunc.f]

end Go.Proofs.Ytdlnjbaldfdnpaa.Pure
