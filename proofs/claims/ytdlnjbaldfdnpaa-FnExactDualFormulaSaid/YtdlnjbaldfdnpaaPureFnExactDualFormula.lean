/- The pure statement of the law FnExactDualFormula: the functions that the program's text comes to answer true at every input. -/
import Derived.Test.YtdlnjbaldfdnpaaPx4
import Derived.Test.YtdlnjbaldfdnpaaPx5
import Derived.Test.YtdlnjbaldfdnpaaPx15
import Derived.Test.YtdlnjbaldfdnpaaPx16
import Derived.Test.YtdlnjbaldfdnpaaPx17
import Derived.Test.YtdlnjbaldfdnpaaLBase
import Derived.Test.YtdlnjbaldfdnpaaLForm
import Derived.Test.YtdlnjbaldfdnpaaLFormB
import Derived.Test.YtdlnjbaldfdnpaaLFormC
import Derived.Test.YtdlnjbaldfdnpaaLFormD
namespace Go.Proofs.Ytdlnjbaldfdnpaa.Pure
open Go.RowKit Go.Proofs.Ytdlnjbaldfdnpaa.P Go.Proofs.YtdlnjbaldfdnpaaW.PrintWords Go.Proofs.YtdlnjbaldfdnpaaW.PrintLast Go.Proofs.YtdlnjbaldfdnpaaW.PrintMore
set_option linter.unusedVariables false
set_option linter.unusedSimpArgs false
theorem FnExactDualFormula : ∀ (a0 : ByteArray), a0.size ≤ 140737488351232 → ∃ k, laws_FnExactDualFormula.f k a0 = some true := by
  intro s _
  by_cases hlen : s.size ≤ 1048576
  · have e : ∃ r, spec_DualFormula.f 1000 s = some r ∧ impl_DualFormula.f 1000 s = some r := by
      unfold spec_DualFormula.f impl_DualFormula.f
      rcases parse_both s 1000 1000 (by omega) (by omega) with ⟨h1, c, ps, h2⟩ | ⟨t, hw, hb, h60, h1, h2⟩
      · rw [h1, h2]
        exact ⟨_, rfl, rfl⟩
      · rw [h1, h2]
        simp only [Option.bind_some, if_true, tree_eta]
        have hl : (txt t).length ≤ 60 := by rw [← hb, bs_length]; exact h60
        have hc : fok t = true ∧ flen t ≤ 1048576 := ⟨wf_fok t hw, by rw [flen_txt]; omega⟩
        rw [str_eq s t hw hb, dual_both t hw (by omega) 1000 (by omega), if_pos hc]
        simp only [Option.bind_some]
        unfold spec_l05Told.f impl_limited.f
        split
        · exact ⟨_, rfl, rfl⟩
        · exact ⟨_, rfl, rfl⟩
    obtain ⟨⟨r1, r2⟩, h1, h2⟩ := e
    refine ⟨1000, ?_⟩
    unfold laws_FnExactDualFormula.f
    rw [if_neg (by omega), h1, h2]
    simp
  · refine ⟨0, ?_⟩
    unfold laws_FnExactDualFormula.f
    rw [if_pos (by omega)]

end Go.Proofs.Ytdlnjbaldfdnpaa.Pure
