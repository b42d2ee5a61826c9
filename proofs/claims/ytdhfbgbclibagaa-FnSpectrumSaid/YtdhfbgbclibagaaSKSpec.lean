/- The spectrum, as the reference sums it. -/
import Derived.Test.YtdhfbgbclibagaaSQx0
import Derived.Test.YtdhfbgbclibagaaSQx1
import Derived.Test.YtdhfbgbclibagaaSQx4
import Derived.Test.YtdhfbgbclibagaaSQx5
import Derived.Test.YtdhfbgbclibagaaSKBase
import Derived.Test.YtdhfbgbclibagaaSKSize
namespace Go.Proofs.Ytdhfbgbclibagaa.Pure
open Go.RowKit Go.Proofs.Ytdhfbgbclibagaa.P Go.Proofs.YtdhfbgbclibagaaW.PrintWords Go.Proofs.YtdhfbgbclibagaaW.PrintLast Go.Proofs.YtdhfbgbclibagaaW.PrintMore
set_option linter.unusedVariables false
set_option linter.unusedSimpArgs false
theorem spc_inner (n b a : Nat) (hn : n ≤ 4) (hb : b < 2 ^ 62) (ha : a < 2 ^ n) (R : Option (List Int)) (K0 : Nat) (h17 : 18 ≤ K0)
    (H : ∀ k, K0 ≤ k → spec_l03Spectrum.l0 k (M.sumL (2 ^ n) (M.spc b) (a + 1)) ((2 ^ n : Nat) : Int) ((a + 1 : Nat) : Int) (n : Int) (b : Int) = R) (d : Nat) : ∀ (k r : Nat), r + d = 2 ^ n → K0 + d < k →
    spec_l03Spectrum.l1 k (M.sumL (2 ^ n) (M.spc b) a) ((2 ^ n : Nat) : Int) (a : Int) (M.part (M.spc b) a r) (r : Int) (n : Int) (b : Int) = R := by
  have h16 := M.pow_le16 hn
  induction d with
  | zero =>
    intro k r hr hk
    obtain ⟨k, rfl⟩ : ∃ m, k = m + 1 := ⟨k - 1, by omega⟩
    obtain rfl : r = 2 ^ n := by omega
    have hl := M.sumL_length (2 ^ n) (M.spc b) a
    have := H k (by omega)
    rw [M.sumL_succ] at this
    simp only [spec_l03Spectrum.l1]
    rw [if_neg (by omega), if_pos (by omega), M.w64_in ((a : Int) + 1) (by omega) (by omega)]
    exact this
  | succ d ih =>
    intro k r hr hk
    obtain ⟨k, rfl⟩ : ∃ m, k = m + 1 := ⟨k - 1, by omega⟩
    have hp := M.part_le (M.spc b) (spc_le b) a r
    have hand : r &&& a < 65536 := Nat.lt_of_le_of_lt Nat.and_le_left (by omega)
    have h2 := M.pop_le16 (r &&& a)
    have h3 := M.atN_le b r
    simp only [spec_l03Spectrum.l1]
    rw [if_pos (by omega), at_eq (n : Int) b r hb (by omega), M.and_nat r a (by omega) (by omega), Option.bind_some, size_eq _ hand k (by omega), Option.bind_some, sgn_step _ _ _ (by omega) (by omega) (by omega) (by omega), M.w64_in ((r : Int) + 1) (by omega) (by omega)]
    exact ih k (r + 1) (by omega) (by omega)
theorem spc_outer (n b : Nat) (hn : n ≤ 4) (hb : b < 2 ^ 62) (d : Nat) : ∀ (a : Nat), a + d = 2 ^ n → ∀ k, 40 + 20 * d ≤ k →
    spec_l03Spectrum.l0 k (M.sumL (2 ^ n) (M.spc b) a) ((2 ^ n : Nat) : Int) (a : Int) (n : Int) (b : Int) = some (M.sumL (2 ^ n) (M.spc b) (2 ^ n)) := by
  have h16 := M.pow_le16 hn
  induction d with
  | zero =>
    intro a ha k hk
    obtain ⟨k, rfl⟩ : ∃ m, k = m + 1 := ⟨k - 1, by omega⟩
    obtain rfl : a = 2 ^ n := by omega
    simp only [spec_l03Spectrum.l0]
    rw [if_neg (by omega)]
  | succ d ih =>
    intro a ha k hk
    obtain ⟨k, rfl⟩ : ∃ m, k = m + 1 := ⟨k - 1, by omega⟩
    simp only [spec_l03Spectrum.l0]
    rw [if_pos (by omega)]
    exact spc_inner n b a hn hb (by omega) _ (40 + 20 * d) (by omega) (ih (a + 1) (by omega)) (2 ^ n) k 0 (by omega) (by omega)
theorem spectrum_eq (n b : Nat) (hn : n ≤ 4) (hb : b < 2 ^ 62) (k : Nat) (hk : 360 ≤ k) : spec_l03Spectrum.f k (n : Int) (b : Int) = some (M.sumL (2 ^ n) (M.spc b) (2 ^ n)) := by
  have h16 := M.pow_le16 hn
  unfold spec_l03Spectrum.f
  rw [rows_eq n hn, Option.bind_some]
  exact spc_outer n b hn hb (2 ^ n) 0 (by omega) k (by omega)
theorem ispectrum_eq (n b : Nat) (h : M.valid (n : Int) (b : Int) = true) : impl_Func_spectrum.f (n : Int) (b : Int) = some (M.sumL (2 ^ n) (M.spc b) (2 ^ n)) := by
  unfold impl_Func_spectrum.f
  rw [if_pos h]; rfl
end Go.Proofs.Ytdhfbgbclibagaa.Pure
