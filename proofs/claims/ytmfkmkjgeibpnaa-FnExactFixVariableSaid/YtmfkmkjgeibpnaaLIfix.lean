/- A function with a variable fixed, as the program makes it. -/
import Derived.Test.YtmfkmkjgeibpnaaPx0
import Derived.Test.YtmfkmkjgeibpnaaPx1
import Derived.Test.YtmfkmkjgeibpnaaPx9
import Derived.Test.YtmfkmkjgeibpnaaLBase
namespace Go.Proofs.Ytmfkmkjgeibpnaa.Pure
open Go.RowKit Go.Proofs.Ytmfkmkjgeibpnaa.P Go.Proofs.YtmfkmkjgeibpnaaW.PrintWords Go.Proofs.YtmfkmkjgeibpnaaW.PrintLast Go.Proofs.YtmfkmkjgeibpnaaW.PrintMore
set_option linter.unusedVariables false
set_option linter.unusedSimpArgs false
theorem ifix_eq (n b i v : Nat) (hn : n ≤ 4) (hb : b < 2 ^ 2 ^ n) (hi : i < n) (hv : v < 2) :
    impl_Func_fix.f (n : Int) (b : Int) (i : Int) (v : Int) = some (((n - 1 : Nat) : Int), ((M.fixN n b i v : Nat) : Int)) := by
  unfold impl_Func_fix.f
  rw [if_pos ⟨(M.valid_iff _ _).2 ⟨n, b, hn, hb, rfl, rfl⟩, by omega, by omega, by omega, by omega⟩]
  simp only [Int.toNat_natCast]
  rw [show (n : Int) - 1 = ((n - 1 : Nat) : Int) from by omega]
end Go.Proofs.Ytmfkmkjgeibpnaa.Pure
