/- The dual, as the reference makes it. -/
import Derived.Test.YtdlnjbaldfdnpaaPx0
import Derived.Test.YtdlnjbaldfdnpaaPx1
import Derived.Test.YtdlnjbaldfdnpaaPx8
import Derived.Test.YtdlnjbaldfdnpaaLBase
import Derived.Test.YtdlnjbaldfdnpaaLOf
namespace Go.Proofs.Ytdlnjbaldfdnpaa.Pure
open Go.RowKit Go.Proofs.Ytdlnjbaldfdnpaa.P Go.Proofs.YtdlnjbaldfdnpaaW.PrintWords Go.Proofs.YtdlnjbaldfdnpaaW.PrintLast Go.Proofs.YtdlnjbaldfdnpaaW.PrintMore
set_option linter.unusedVariables false
set_option linter.unusedSimpArgs false
theorem Func_dual_eq (n b : Nat) (hn : n ≤ 4) (hb : b < 2 ^ 2 ^ n) : impl_Func_dual.f (n : Int) (b : Int) = some ((n : Int), ((M.tab (2 ^ n) (fun r => 1 - M.atN b (2 ^ n - 1 - r)) : Nat) : Int)) := by
  unfold impl_Func_dual.f
  rw [if_pos ((M.valid_iff _ _).2 ⟨n, b, hn, hb, rfl, rfl⟩)]
  simp only [Int.toNat_natCast]
end Go.Proofs.Ytdlnjbaldfdnpaa.Pure
