/- How many digits are 1, as the reference counts them; the summands of the spectrum. -/
import Derived.Test.YtdhfbgbclibagaaROx0
import Derived.Test.YtdhfbgbclibagaaROx1
import Derived.Test.YtdhfbgbclibagaaROx2
import Derived.Test.YtdhfbgbclibagaaROx6
import Derived.Test.YtdhfbgbclibagaaROnes
import Derived.Test.YtdhfbgbclibagaaRMBase
namespace Go.Proofs.Ytdhfbgbclibagaa.Pure
open Go.RowKit Go.Proofs.Ytdhfbgbclibagaa.P Go.Proofs.YtdhfbgbclibagaaW.PrintWords Go.Proofs.YtdhfbgbclibagaaW.PrintLast Go.Proofs.YtdhfbgbclibagaaW.PrintMore
set_option linter.unusedVariables false
set_option linter.unusedSimpArgs false
theorem popf_zero : ∀ m, M.popf m 0 = 0
  | 0 => rfl
  | m + 1 => by simp [M.popf, popf_zero m]
theorem size_loop (m : Nat) : ∀ (k x acc : Nat), x < 65536 → x < 2 ^ m → m < k → acc + m ≤ 1000 → spec_l03Size.l0 k (x : Int) (acc : Int) = some ((acc + M.popf m x : Nat) : Int) := by
  induction m with
  | zero =>
    intro k x acc h6 hx hk ha
    obtain ⟨k, rfl⟩ : ∃ m, k = m + 1 := ⟨k - 1, by omega⟩
    simp only [spec_l03Size.l0]
    rw [if_neg (by simp at hx; omega)]
    rfl
  | succ m ih =>
    intro k x acc h6 hx hk ha
    obtain ⟨k, rfl⟩ : ∃ m, k = m + 1 := ⟨k - 1, by omega⟩
    simp only [spec_l03Size.l0]
    by_cases h : 0 < x
    · rw [if_pos (by omega)]
      have e1 : Int.tdiv (x : Int) 2 = ((x / 2 : Nat) : Int) := rfl
      have e2 : Int.tmod (x : Int) 2 = ((x % 2 : Nat) : Int) := rfl
      have hq : x / 2 < 2 ^ m := by rw [Nat.pow_succ] at hx; omega
      have := ih k (x / 2) (acc + x % 2) (by omega) hq (by omega) (by omega)
      have e3 : acc + M.popf (m + 1) x = acc + x % 2 + M.popf m (x / 2) := by simp only [M.popf]; omega
      rw [e1, e2, ← Int.natCast_add, M.w64_in _ (by omega) (by omega), M.w64_in _ (by omega) (by omega), e3]
      exact this
    · rw [if_neg (by omega)]
      obtain rfl : x = 0 := by omega
      rw [popf_zero]; rfl
theorem size_eq (x : Nat) (hx : x < 65536) (k : Nat) (hk : 17 ≤ k) : spec_l03Size.f k (x : Int) = some ((M.pop 16 x : Nat) : Int) := by
  unfold spec_l03Size.f
  have := size_loop 16 k x 0 hx hx (by omega) (by omega)
  rw [Nat.zero_add, M.popf_pop] at this
  exact this
end Go.Proofs.Ytdhfbgbclibagaa.Pure
