/- The pure statement of the law FnExactIsBalanced: the functions that the program's text comes to answer true at every input. -/
import Derived.Test.YtdlnjbaldfdnpaaPx1
import Derived.Test.YtdlnjbaldfdnpaaPx5
import Derived.Test.YtdlnjbaldfdnpaaPx20
import Derived.Test.YtdlnjbaldfdnpaaLBase
import Derived.Test.YtdlnjbaldfdnpaaLCnt
import Derived.Test.YtdlnjbaldfdnpaaLWgt
namespace Go.Proofs.Ytdlnjbaldfdnpaa.Pure
open Go.RowKit Go.Proofs.Ytdlnjbaldfdnpaa.P Go.Proofs.YtdlnjbaldfdnpaaW.PrintWords Go.Proofs.YtdlnjbaldfdnpaaW.PrintLast Go.Proofs.YtdlnjbaldfdnpaaW.PrintMore
set_option linter.unusedVariables false
set_option linter.unusedSimpArgs false
theorem FnExactIsBalanced : ∀ (a0_0 : Int) (a0_1 : Int), (Lit.int .i64 a0_0).wf = true → (Lit.int .i64 a0_1).wf = true → ∃ k, laws_FnExactIsBalanced.f k a0_0 a0_1 = some true := by
  intro n b _ _
  have e : ∃ r, spec_IsBalanced.f 100 n b = some r ∧ impl_IsBalanced.f n b = some r := by
    unfold spec_IsBalanced.f impl_IsBalanced.f
    rw [is_eq, isFunc_eq]
    simp only [Option.bind_some]
    by_cases hv : M.valid n b = true
    · rw [if_pos hv, if_pos hv]
      obtain ⟨m, c, hm, hc, rfl, rfl⟩ := (M.valid_iff _ _).1 hv
      rw [weight_eq m c hm (Nat.lt_trans (M.bits_lt hm hc) (by decide)), rows_eq m hm, Func_rows_eq m _ hm, ones_eq c (M.bits_lt hm hc), M.pop_up (2 ^ m) 16 c hc (M.pow_le16 hm)]
      exact ⟨_, rfl, rfl⟩
    · rw [if_neg hv, if_neg hv]
      exact ⟨_, rfl, rfl⟩
  obtain ⟨⟨r1, r2⟩, h1, h2⟩ := e
  refine ⟨100, ?_⟩
  unfold laws_FnExactIsBalanced.f laws_toFunc.f
  simp only [Option.bind_some]
  rw [h1, h2]
  simp

end Go.Proofs.Ytdlnjbaldfdnpaa.Pure
