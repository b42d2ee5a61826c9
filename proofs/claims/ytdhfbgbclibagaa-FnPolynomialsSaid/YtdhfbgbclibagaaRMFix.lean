/- A function with a variable fixed, as the reference makes it; and which variables are essential. -/
import Derived.Test.YtdhfbgbclibagaaROx0
import Derived.Test.YtdhfbgbclibagaaROx1
import Derived.Test.YtdhfbgbclibagaaROx2
import Derived.Test.YtdhfbgbclibagaaROx3
import Derived.Test.YtdhfbgbclibagaaROx11
import Derived.Test.YtdhfbgbclibagaaRMBase
import Derived.Test.YtdhfbgbclibagaaRMOf
namespace Go.Proofs.Ytdhfbgbclibagaa.Pure
open Go.RowKit Go.Proofs.Ytdhfbgbclibagaa.P Go.Proofs.YtdhfbgbclibagaaW.PrintWords Go.Proofs.YtdhfbgbclibagaaW.PrintLast Go.Proofs.YtdhfbgbclibagaaW.PrintMore
set_option linter.unusedVariables false
set_option linter.unusedSimpArgs false
theorem fix_loop (n b i v : Nat) (hn : n ≤ 4) (hi : i < n) (hv : v < 2) (hb : b < 2 ^ 62) (d : Nat) : ∀ (k r : Nat), r + d = 2 ^ n → d + 30 ≤ k →
    spec_l01Fix.l0 k (i : Int) (v : Int) (M.lis (M.cnt r i v) (fun r => M.atN b (M.ins r i v))) (r : Int) (n : Int) (b : Int) = some (((n - 1 : Nat) : Int), ((M.fixN n b i v : Nat) : Int)) := by
  have h16 := M.pow_le16 hn
  induction d with
  | zero =>
    intro k r hr hk
    obtain ⟨k, rfl⟩ : ∃ m, k = m + 1 := ⟨k - 1, by omega⟩
    obtain rfl : r = 2 ^ n := by omega
    have h8 : 2 ^ (n - 1) ≤ 8 := M.pow2_le (a := n - 1) (b := 3) (by omega)
    simp only [spec_l01Fix.l0]; rw [rows_eq n hn]; simp only [Option.bind_some]
    rw [if_neg (by omega), M.w64_in _ (by omega) (by omega), M.cnt_end n (by omega) i hi v hv, show (n : Int) - 1 = ((n - 1 : Nat) : Int) from by omega, Of_eq (n - 1) (by omega) _ (fun r _ => M.atN_le _ _) k (by omega)]
    rfl
  | succ d ih =>
    intro k r hr hk
    obtain ⟨k, rfl⟩ : ∃ m, k = m + 1 := ⟨k - 1, by omega⟩
    have hlt : r < 2 ^ n := by omega
    obtain ⟨hy, hno⟩ := M.cnt_asked r (by omega) i (by omega) v hv
    have hcl := M.cnt_le r (by omega) i (by omega) v hv
    simp only [spec_l01Fix.l0]; rw [rows_eq n hn]; simp only [Option.bind_some]
    rw [if_pos (by omega), M.u64_in _ (by omega) (by omega), if_pos (by omega), M.bit_nat r i (by omega) (by omega)]
    by_cases e : M.atN r i = v
    · rw [if_pos (by rw [e]), at_eq (n : Int) b r hb (by omega)]
      simp only [Option.bind_some]
      rw [if_pos (by rw [M.lis_length]; omega), M.w64_in ((r : Int) + 1) (by omega) (by omega)]
      have := ih k (r + 1) (by omega) (by omega)
      rw [(hy e).2, M.lis_succ, (hy e).1] at this
      exact this
    · rw [if_neg (by omega), M.w64_in ((r : Int) + 1) (by omega) (by omega)]
      have := ih k (r + 1) (by omega) (by omega)
      rw [hno e] at this
      exact this
theorem fix_eq (n b i v : Nat) (hn : n ≤ 4) (hi : i < n) (hv : v < 2) (hb : b < 2 ^ 62) (k : Nat) (hk : 50 ≤ k) :
    spec_l01Fix.f k (n : Int) (b : Int) (i : Int) (v : Int) = some (((n - 1 : Nat) : Int), ((M.fixN n b i v : Nat) : Int)) := by
  have h16 := M.pow_le16 hn
  unfold spec_l01Fix.f
  have hp := fix_loop n b i v hn hi hv hb (2 ^ n) k 0 (by omega) (by omega)
  have e : M.cnt 0 i v = 0 := by unfold M.cnt; split <;> simp
  rw [e] at hp
  exact hp
end Go.Proofs.Ytdhfbgbclibagaa.Pure
