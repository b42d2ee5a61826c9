/- The dual, as the reference makes it. -/
import Derived.Test.YtdhfbgbclibagaaROx0
import Derived.Test.YtdhfbgbclibagaaROx1
import Derived.Test.YtdhfbgbclibagaaROx2
import Derived.Test.YtdhfbgbclibagaaROx3
import Derived.Test.YtdhfbgbclibagaaROx11
import Derived.Test.YtdhfbgbclibagaaRMBase
import Derived.Test.YtdhfbgbclibagaaRMOf
namespace Go.Proofs.Ytdhfbgbclibagaa.Pure
open Go.RowKit Go.Proofs.Ytdhfbgbclibagaa.P Go.Proofs.YtdhfbgbclibagaaW.PrintWords Go.Proofs.YtdhfbgbclibagaaW.PrintLast Go.Proofs.YtdhfbgbclibagaaW.PrintMore
set_option linter.unusedVariables false
set_option linter.unusedSimpArgs false
theorem dual_loop (n b : Nat) (hn : n ≤ 4) (hb : b < 2 ^ 62) (d : Nat) : ∀ (k r : Nat), r + d = 2 ^ n → d + 30 ≤ k →
    spec_l01Dual.l0 k (M.lis r (fun r => 1 - M.atN b (2 ^ n - 1 - r))) ((2 ^ n : Nat) : Int) (r : Int) (n : Int) (b : Int) = some ((n : Int), ((M.tab (2 ^ n) (fun r => 1 - M.atN b (2 ^ n - 1 - r)) : Nat) : Int)) := by
  have h16 := M.pow_le16 hn
  induction d with
  | zero =>
    intro k r hr hk
    obtain ⟨k, rfl⟩ : ∃ m, k = m + 1 := ⟨k - 1, by omega⟩
    obtain rfl : r = 2 ^ n := by omega
    simp only [spec_l01Dual.l0]
    rw [if_neg (by omega), Of_eq n hn _ (fun r _ => by omega) k (by omega)]
    rfl
  | succ d ih =>
    intro k r hr hk
    obtain ⟨k, rfl⟩ : ∃ m, k = m + 1 := ⟨k - 1, by omega⟩
    simp only [spec_l01Dual.l0]
    have hlt : r < 2 ^ n := by omega
    have h1 := M.atN_le b (2 ^ n - 1 - r)
    have e1 : wrap64 (wrap64 (((2 ^ n : Nat) : Int) - 1) - (r : Int)) = ((2 ^ n - 1 - r : Nat) : Int) := by
      generalize 2 ^ n = m at *
      rw [M.w64_in ((m : Int) - 1) (by omega) (by omega), M.w64_in _ (by omega) (by omega)]; omega
    rw [if_pos (by omega), e1, at_eq (n : Int) b _ hb (by omega)]
    simp only [Option.bind_some]
    rw [if_pos (by rw [M.lis_length]; omega), M.w64_in ((r : Int) + 1) (by omega) (by omega), M.w64_in _ (by omega) (by omega)]
    have := ih k (r + 1) (by omega) (by omega)
    rw [M.lis_succ] at this
    have e2 : (1 : Int) - ((M.atN b (2 ^ n - 1 - r) : Nat) : Int) = ((1 - M.atN b (2 ^ n - 1 - r) : Nat) : Int) := by omega
    rw [e2]
    exact this
theorem dual_eq (n b : Nat) (hn : n ≤ 4) (hb : b < 2 ^ 62) (k : Nat) (hk : 50 ≤ k) : spec_l01Dual.f k (n : Int) (b : Int) = some ((n : Int), ((M.tab (2 ^ n) (fun r => 1 - M.atN b (2 ^ n - 1 - r)) : Nat) : Int)) := by
  have h16 := M.pow_le16 hn
  unfold spec_l01Dual.f
  rw [rows_eq n hn]
  simp only [Option.bind_some]
  have hp := dual_loop n b hn hb (2 ^ n) k 0 (by omega) (by omega)
  exact hp
end Go.Proofs.Ytdhfbgbclibagaa.Pure
