/- The weight, as the reference counts it. -/
import Derived.Test.YtdhfbgbclibagaaSQx0
import Derived.Test.YtdhfbgbclibagaaSQx1
import Derived.Test.YtdhfbgbclibagaaSQx10
import Derived.Test.YtdhfbgbclibagaaSOnes
import Derived.Test.YtdhfbgbclibagaaSKBase
namespace Go.Proofs.Ytdhfbgbclibagaa.Pure
open Go.RowKit Go.Proofs.Ytdhfbgbclibagaa.P Go.Proofs.YtdhfbgbclibagaaW.PrintWords Go.Proofs.YtdhfbgbclibagaaW.PrintLast Go.Proofs.YtdhfbgbclibagaaW.PrintMore
set_option linter.unusedVariables false
set_option linter.unusedSimpArgs false
theorem weight_loop (n b : Nat) (hn : n ≤ 4) (hb : b < 2 ^ 62) (d : Nat) : ∀ (k r : Nat), r + d = 2 ^ n → d < k →
    spec_l01Weight.l0 k ((M.pop r b : Nat) : Int) (r : Int) (n : Int) (b : Int) = some ((M.pop (2 ^ n) b : Nat) : Int) := by
  have h16 := M.pow_le16 hn
  induction d with
  | zero =>
    intro k r hr hk
    obtain ⟨k, rfl⟩ : ∃ m, k = m + 1 := ⟨k - 1, by omega⟩
    obtain rfl : r = 2 ^ n := by omega
    simp only [spec_l01Weight.l0]; rw [rows_eq n hn]; simp only [Option.bind_some]
    rw [if_neg (by omega)]
  | succ d ih =>
    intro k r hr hk
    obtain ⟨k, rfl⟩ : ∃ m, k = m + 1 := ⟨k - 1, by omega⟩
    have h1 := M.pop_le r b
    have h2 := M.atN_le b r
    simp only [spec_l01Weight.l0]; rw [rows_eq n hn]; simp only [Option.bind_some]
    rw [if_pos (by omega), at_eq (n : Int) b r hb (by omega)]
    simp only [Option.bind_some]
    rw [M.w64_in ((r : Int) + 1) (by omega) (by omega), M.w64_in _ (by omega) (by omega)]
    have := ih k (r + 1) (by omega) (by omega)
    rw [M.pop_succ, Int.natCast_add] at this
    exact this
end Go.Proofs.Ytdhfbgbclibagaa.Pure
