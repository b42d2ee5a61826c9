/- Two functions of one arity. -/
import Derived.Test.YtdlnjbaldfdnpaaPx0
import Derived.Test.YtdlnjbaldfdnpaaPx1
import Derived.Test.YtdlnjbaldfdnpaaPx18
import Derived.Test.YtdlnjbaldfdnpaaLBase
namespace Go.Proofs.Ytdlnjbaldfdnpaa.Pure
open Go.RowKit Go.Proofs.Ytdlnjbaldfdnpaa.P Go.Proofs.YtdlnjbaldfdnpaaW.PrintWords Go.Proofs.YtdlnjbaldfdnpaaW.PrintLast Go.Proofs.YtdlnjbaldfdnpaaW.PrintMore
set_option linter.unusedVariables false
set_option linter.unusedSimpArgs false
theorem like_eq (n b m c : Int) : spec_l03Like.f 100 n b m c = impl_pairCode.f n b m c := by
  unfold spec_l03Like.f impl_pairCode.f
  rw [is_eq, is_eq]
  simp only [Option.bind_some]
  by_cases h1 : M.valid n b = true
  · rw [if_pos h1]
    simp only [spec_l03Like.j0]
    by_cases h2 : M.valid m c = true
    · simp [h1, h2]
    · simp only [Bool.not_eq_true] at h2
      simp [h1, h2]
  · rw [if_neg h1]
    simp only [spec_l03Like.j0]
    simp [h1]
theorem code_some (n b m c : Int) : ∃ r, impl_pairCode.f n b m c = some r := by
  unfold impl_pairCode.f
  by_cases h1 : (M.valid n b && M.valid m c) = true
  · rw [if_pos h1]
    by_cases h2 : n = m
    · rw [if_pos h2]; exact ⟨_, rfl⟩
    · rw [if_neg h2]; exact ⟨_, rfl⟩
  · rw [if_neg h1]; exact ⟨_, rfl⟩
end Go.Proofs.Ytdlnjbaldfdnpaa.Pure
