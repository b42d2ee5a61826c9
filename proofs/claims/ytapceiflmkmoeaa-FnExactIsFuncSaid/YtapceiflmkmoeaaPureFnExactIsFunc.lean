/- The pure statement of the law FnExactIsFunc: the functions that the program's text comes to answer true at every input. -/
import Derived.Test.YtapceiflmkmoeaaPx2
import Derived.Test.YtapceiflmkmoeaaPx9
import Derived.Test.YtapceiflmkmoeaaLBase
namespace Go.Proofs.Ytapceiflmkmoeaa.Pure
open Go.RowKit Go.Proofs.Ytapceiflmkmoeaa.P Go.Proofs.YtapceiflmkmoeaaW.PrintWords Go.Proofs.YtapceiflmkmoeaaW.PrintLast Go.Proofs.YtapceiflmkmoeaaW.PrintMore
set_option linter.unusedVariables false
set_option linter.unusedSimpArgs false
theorem FnExactIsFunc : ∀ (a0_0 : Int) (a0_1 : Int), (Lit.int .i64 a0_0).wf = true → (Lit.int .i64 a0_1).wf = true → laws_FnExactIsFunc.f a0_0 a0_1 = some true := by
  intro n b _ _
  unfold laws_FnExactIsFunc.f laws_toFunc.f spec_IsFunc.f
  simp only [Option.bind_some]
  rw [is_eq, isFunc_eq]
  simp

end Go.Proofs.Ytapceiflmkmoeaa.Pure
