/- The pure statement of the law FnExactIsSheffer: the functions that the program's text comes to answer true at every input. -/
import Derived.Test.YtmfkmkjgeibpnaaPx2
import Derived.Test.YtmfkmkjgeibpnaaPx7
import Derived.Test.YtmfkmkjgeibpnaaPx18
import Derived.Test.YtmfkmkjgeibpnaaPx19
import Derived.Test.YtmfkmkjgeibpnaaPx20
import Derived.Test.YtmfkmkjgeibpnaaPx24
import Derived.Test.YtmfkmkjgeibpnaaLBase
import Derived.Test.YtmfkmkjgeibpnaaLClass
import Derived.Test.YtmfkmkjgeibpnaaLCls2
import Derived.Test.YtmfkmkjgeibpnaaLCls3
namespace Go.Proofs.Ytmfkmkjgeibpnaa.Pure
open Go.RowKit Go.Proofs.Ytmfkmkjgeibpnaa.P Go.Proofs.YtmfkmkjgeibpnaaW.PrintWords Go.Proofs.YtmfkmkjgeibpnaaW.PrintLast Go.Proofs.YtmfkmkjgeibpnaaW.PrintMore
set_option linter.unusedVariables false
set_option linter.unusedSimpArgs false
theorem FnExactIsSheffer : ∀ (a0_0 : Int) (a0_1 : Int), (Lit.int .i64 a0_0).wf = true → (Lit.int .i64 a0_1).wf = true → ∃ k, laws_FnExactIsSheffer.f k a0_0 a0_1 = some true := by
  intro n b _ _
  have e : ∃ r, spec_IsSheffer.f 300 n b = some r ∧ impl_IsSheffer.f 300 n b = some r := by
    unfold spec_IsSheffer.f impl_IsSheffer.f
    rw [is_eq, isFunc_eq]
    simp only [Option.bind_some]
    by_cases hv : M.valid n b = true
    · rw [if_pos hv, if_pos hv]
      obtain ⟨m, b, hm, hb, rfl, rfl⟩ := (M.valid_iff _ _).1 hv
      rw [ssheffer_eq m b hm hb 300 (by omega), isheffer_eq m b hm hb 300 (by omega)]
      exact ⟨_, rfl, rfl⟩
    · rw [if_neg hv, if_neg hv]
      exact ⟨_, rfl, rfl⟩
  obtain ⟨⟨r1, r2⟩, h1, h2⟩ := e
  refine ⟨300, ?_⟩
  unfold laws_FnExactIsSheffer.f laws_toFunc.f
  simp only [Option.bind_some]
  rw [h1, h2]
  simp

end Go.Proofs.Ytmfkmkjgeibpnaa.Pure
