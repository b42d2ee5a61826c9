/- The pure statement of the law FnExactNegateFunc: the functions that the program's text comes to answer true at every input. -/
import Derived.Test.YtapceiflmkmoeaaPx2
import Derived.Test.YtapceiflmkmoeaaPx11
import Derived.Test.YtapceiflmkmoeaaLBase
namespace Go.Proofs.Ytapceiflmkmoeaa.Pure
open Go.RowKit Go.Proofs.Ytapceiflmkmoeaa.P Go.Proofs.YtapceiflmkmoeaaW.PrintWords Go.Proofs.YtapceiflmkmoeaaW.PrintLast Go.Proofs.YtapceiflmkmoeaaW.PrintMore
set_option linter.unusedVariables false
set_option linter.unusedSimpArgs false
theorem FnExactNegateFunc : ∀ (a0_0 : Int) (a0_1 : Int), (Lit.int .i64 a0_0).wf = true → (Lit.int .i64 a0_1).wf = true → laws_FnExactNegateFunc.f a0_0 a0_1 = some true := by
  intro n b _ _
  have e : ∃ r, spec_NegateFunc.f n b = some r ∧ impl_NegateFunc.f n b = some r := by
    unfold spec_NegateFunc.f impl_NegateFunc.f
    rw [is_eq, isFunc_eq]
    simp only [Option.bind_some]
    by_cases hv : M.valid n b = true
    · rw [if_pos hv, if_pos hv]
      obtain ⟨m, c, hm, hc, rfl, rfl⟩ := (M.valid_iff _ _).1 hv
      unfold spec_l01Not.f impl_Func_negation.f
      have h2 := pow2_16 hm
      have h3 := M.pow_pos (2 ^ m)
      rw [all_eq m hm, funcsOf_eq m hm]
      simp only [Option.bind_some]
      generalize 2 ^ 2 ^ m = q at *
      refine ⟨_, rfl, ?_⟩
      rw [M.w64_in ((q : Int) - 1) (by omega) (by omega)]
      have e1 : ((q : Int) - 1) = ((q - 1 : Nat) : Int) := by omega
      rw [e1]
    · rw [if_neg hv, if_neg hv]
      exact ⟨_, rfl, rfl⟩
  obtain ⟨⟨r1, r2, r3⟩, h1, h2⟩ := e
  unfold laws_FnExactNegateFunc.f laws_toFunc.f
  simp only [Option.bind_some]
  rw [h1, h2]
  simp [laws_eqFunc.f]

end Go.Proofs.Ytapceiflmkmoeaa.Pure
