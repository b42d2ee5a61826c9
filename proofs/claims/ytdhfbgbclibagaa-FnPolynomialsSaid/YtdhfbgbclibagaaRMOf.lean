/- The function with values by rows, as the reference makes it; and what both programs make of a function that is told by its digits. -/
import Derived.Test.YtdhfbgbclibagaaROx0
import Derived.Test.YtdhfbgbclibagaaROx1
import Derived.Test.YtdhfbgbclibagaaROx2
import Derived.Test.YtdhfbgbclibagaaROx3
import Derived.Test.YtdhfbgbclibagaaRMBase
namespace Go.Proofs.Ytdhfbgbclibagaa.Pure
open Go.RowKit Go.Proofs.Ytdhfbgbclibagaa.P Go.Proofs.YtdhfbgbclibagaaW.PrintWords Go.Proofs.YtdhfbgbclibagaaW.PrintLast Go.Proofs.YtdhfbgbclibagaaW.PrintMore
set_option linter.unusedVariables false
set_option linter.unusedSimpArgs false
theorem Of_loop (n : Nat) (hn : n ≤ 4) (h : Nat → Nat) (hh : ∀ r, r < 2 ^ n → h r ≤ 1) (d : Nat) : ∀ (k r : Nat), r + d = 2 ^ n → d < k →
    spec_l01Of.l0 k (n : Int) (M.lis (2 ^ n) h) (r : Int) (n : Int) ((M.tab r h : Nat) : Int) = some ((n : Int), ((M.tab (2 ^ n) h : Nat) : Int)) := by
  have h16 := M.pow_le16 hn
  induction d with
  | zero =>
    intro k r hr hk
    obtain ⟨k, rfl⟩ : ∃ m, k = m + 1 := ⟨k - 1, by omega⟩
    obtain rfl : r = 2 ^ n := by omega
    simp only [spec_l01Of.l0]; rw [rows_eq n hn]; simp only [Option.bind_some]; rw [if_neg (by omega)]
  | succ d ih =>
    intro k r hr hk
    obtain ⟨k, rfl⟩ : ∃ m, k = m + 1 := ⟨k - 1, by omega⟩
    have hlt : r < 2 ^ n := by omega
    have h1 := hh r hlt
    have h2 := M.tab_lt r h (fun q hq => hh q (by omega))
    have h3 : 2 ^ r ≤ 2 ^ 15 := M.pow2_le (by omega)
    have h4 : h r * 2 ^ r ≤ 2 ^ 15 := Nat.le_trans (Nat.mul_le_mul_right _ h1) (by omega)
    simp only [spec_l01Of.l0]; rw [rows_eq n hn]; simp only [Option.bind_some]
    rw [if_pos (by omega), if_pos (by omega), if_pos (by rw [M.lis_length]; omega), M.u64_in _ (by omega) (by omega), if_pos (by omega), M.lis_rd _ _ _ hlt, M.shl_nat (h r) r (by omega) (by omega), M.w64_in ((r : Int) + 1) (by omega) (by omega), M.w64_in _ (by omega) (by omega)]
    have := ih k (r + 1) (by omega) (by omega)
    rw [M.tab_succ] at this
    push_cast at this ⊢
    exact this
theorem Of_eq (n : Nat) (hn : n ≤ 4) (h : Nat → Nat) (hh : ∀ r, r < 2 ^ n → h r ≤ 1) (k : Nat) (hk : 2 ^ n < k) :
    spec_l01Of.f k (n : Int) (M.lis (2 ^ n) h) = some ((n : Int), ((M.tab (2 ^ n) h : Nat) : Int)) := by
  unfold spec_l01Of.f
  exact Of_loop n hn h hh (2 ^ n) k 0 (by omega) hk
end Go.Proofs.Ytdhfbgbclibagaa.Pure
