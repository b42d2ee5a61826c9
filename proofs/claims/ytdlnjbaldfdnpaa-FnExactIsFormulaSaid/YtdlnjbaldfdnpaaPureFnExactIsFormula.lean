/- The pure statement of the law FnExactIsFormula: the functions that the program's text comes to answer true at every input. -/
import Derived.Test.YtdlnjbaldfdnpaaPx4
import Derived.Test.YtdlnjbaldfdnpaaPx5
import Derived.Test.YtdlnjbaldfdnpaaPx17
import Derived.Test.YtdlnjbaldfdnpaaLBase
import Derived.Test.YtdlnjbaldfdnpaaLForm
namespace Go.Proofs.Ytdlnjbaldfdnpaa.Pure
open Go.RowKit Go.Proofs.Ytdlnjbaldfdnpaa.P Go.Proofs.YtdlnjbaldfdnpaaW.PrintWords Go.Proofs.YtdlnjbaldfdnpaaW.PrintLast Go.Proofs.YtdlnjbaldfdnpaaW.PrintMore
set_option linter.unusedVariables false
set_option linter.unusedSimpArgs false
theorem FnExactIsFormula : ∀ (a0 : ByteArray), a0.size ≤ 140737488351232 → ∃ k, laws_FnExactIsFormula.f k a0 = some true := by
  intro s _
  by_cases hlen : s.size ≤ 1048576
  · have e : ∃ r, spec_IsFormula.f 600 s = some r ∧ impl_IsFormula.f 600 s = some r := by
      unfold spec_IsFormula.f impl_IsFormula.f
      rcases parse_both s 600 600 (by omega) (by omega) with ⟨h1, c, ps, h2⟩ | ⟨t, _, _, _, h1, h2⟩
      · rw [h1, h2]
        exact ⟨_, rfl, rfl⟩
      · rw [h1, h2]
        exact ⟨_, rfl, rfl⟩
    obtain ⟨r, h1, h2⟩ := e
    refine ⟨600, ?_⟩
    unfold laws_FnExactIsFormula.f
    rw [if_neg (by omega), h1, h2]
    simp
  · refine ⟨0, ?_⟩
    unfold laws_FnExactIsFormula.f
    rw [if_pos (by omega)]

end Go.Proofs.Ytdlnjbaldfdnpaa.Pure
