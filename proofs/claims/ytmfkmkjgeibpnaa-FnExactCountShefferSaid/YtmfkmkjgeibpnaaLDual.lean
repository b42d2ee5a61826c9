/- The dual, as the reference makes it. -/
import Derived.Test.YtmfkmkjgeibpnaaPx0
import Derived.Test.YtmfkmkjgeibpnaaPx1
import Derived.Test.YtmfkmkjgeibpnaaPx19
import Derived.Test.YtmfkmkjgeibpnaaLBase
import Derived.Test.YtmfkmkjgeibpnaaLOf
namespace Go.Proofs.Ytmfkmkjgeibpnaa.Pure
open Go.RowKit Go.Proofs.Ytmfkmkjgeibpnaa.P Go.Proofs.YtmfkmkjgeibpnaaW.PrintWords Go.Proofs.YtmfkmkjgeibpnaaW.PrintLast Go.Proofs.YtmfkmkjgeibpnaaW.PrintMore
set_option linter.unusedVariables false
set_option linter.unusedSimpArgs false
theorem Func_dual_eq (n b : Nat) (hn : n ≤ 4) (hb : b < 2 ^ 2 ^ n) : impl_Func_dual.f (n : Int) (b : Int) = some ((n : Int), ((M.tab (2 ^ n) (fun r => 1 - M.atN b (2 ^ n - 1 - r)) : Nat) : Int)) := by
  unfold impl_Func_dual.f
  rw [if_pos ((M.valid_iff _ _).2 ⟨n, b, hn, hb, rfl, rfl⟩)]
  simp only [Int.toNat_natCast]
end Go.Proofs.Ytmfkmkjgeibpnaa.Pure
