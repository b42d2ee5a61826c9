/- The pure statement of the law FnExactSpectrumOf: the functions that the program's text comes to answer true at every input. -/
import Derived.Test.YtdhfbgbclibagaaPx1
import Derived.Test.YtdhfbgbclibagaaPx3
import Derived.Test.YtdhfbgbclibagaaPx5
import Derived.Test.YtdhfbgbclibagaaPx7
import Derived.Test.YtdhfbgbclibagaaPx8
import Derived.Test.YtdhfbgbclibagaaPx19
import Derived.Test.YtdhfbgbclibagaaLBase
import Derived.Test.YtdhfbgbclibagaaLSize
import Derived.Test.YtdhfbgbclibagaaLSpec
import Derived.Test.YtdhfbgbclibagaaLLists
namespace Go.Proofs.Ytdhfbgbclibagaa.Pure
open Go.RowKit Go.Proofs.Ytdhfbgbclibagaa.P Go.Proofs.YtdhfbgbclibagaaW.PrintWords Go.Proofs.YtdhfbgbclibagaaW.PrintLast Go.Proofs.YtdhfbgbclibagaaW.PrintMore
set_option linter.unusedVariables false
set_option linter.unusedSimpArgs false
theorem spectrum_both (n b : Int) : ∃ l c, spec_SpectrumOf.f 400 n b = some (l, c) ∧ impl_SpectrumOf.f n b = some (l, c) ∧ impl_SpectrumOf.f n b = some (l, c) ∧ l.length ≤ 16 := by
  unfold spec_SpectrumOf.f impl_SpectrumOf.f
  rw [is_eq, isFunc_eq]
  simp only [Option.bind_some]
  by_cases hv : M.valid n b = true
  · rw [if_pos hv, if_pos hv]
    obtain ⟨m, c, hm, hc, rfl, rfl⟩ := (M.valid_iff _ _).1 hv
    have hc6 : c < 2 ^ 62 := Nat.lt_trans (M.bits_lt hm hc) (by decide)
    rw [spectrum_eq m c hm hc6 400 (by omega), ispectrum_eq m c hv]
    exact ⟨_, _, rfl, rfl, rfl, by rw [M.sumL_length]; exact M.pow_le16 hm⟩
  · rw [if_neg hv, if_neg hv]
    exact ⟨_, _, rfl, rfl, rfl, by simp⟩
theorem FnExactSpectrumOf : ∀ (a0_0 : Int) (a0_1 : Int), (Lit.int .i64 a0_0).wf = true → (Lit.int .i64 a0_1).wf = true → ∃ k, laws_FnExactSpectrumOf.f k a0_0 a0_1 = some true := by
  intro n b _ _
  obtain ⟨l, c, h1, h2, h3, hl⟩ := spectrum_both n b
  refine ⟨400, ?_⟩
  unfold laws_FnExactSpectrumOf.f laws_toFunc.f
  simp only [Option.bind_some]
  rw [h1, h2]
  simp only [Option.bind_some]
  rw [eqL_self l (by omega) 400 (by omega)]
  simp only [Option.bind_some, if_true, bne_self_eq_false]
  simp only [laws_FnExactSpectrumOf.j0, laws_toFunc.f, Option.bind_some]
  rw [if_neg (by simp), mark_eq l (by omega) 399 (by omega)]
  simp only [Option.bind_some]
  rw [held_eq _ (by omega) 399 (by omega)]
  rw [Option.bind_some, if_neg (by omega), if_pos rfl, h3]
  simp only [Option.bind_some]
  rw [eqL_self l (by omega) 399 (by omega)]
  simp only [Option.bind_some, if_true, bne_self_eq_false]
  simp only [laws_FnExactSpectrumOf.j1]
  rw [if_neg (by simp), held_eq _ (by omega) 398 (by omega)]
  rw [Option.bind_some, if_neg (by omega), if_pos rfl]

end Go.Proofs.Ytdhfbgbclibagaa.Pure
