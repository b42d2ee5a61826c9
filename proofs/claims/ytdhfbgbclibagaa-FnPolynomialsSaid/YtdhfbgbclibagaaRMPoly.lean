/- The coefficients, as the reference sums them. -/
import Derived.Test.YtdhfbgbclibagaaROx0
import Derived.Test.YtdhfbgbclibagaaROx1
import Derived.Test.YtdhfbgbclibagaaROx6
import Derived.Test.YtdhfbgbclibagaaROx8
import Derived.Test.YtdhfbgbclibagaaRMBase
namespace Go.Proofs.Ytdhfbgbclibagaa.Pure
open Go.RowKit Go.Proofs.Ytdhfbgbclibagaa.P Go.Proofs.YtdhfbgbclibagaaW.PrintWords Go.Proofs.YtdhfbgbclibagaaW.PrintLast Go.Proofs.YtdhfbgbclibagaaW.PrintMore
set_option linter.unusedVariables false
set_option linter.unusedSimpArgs false
theorem has_eq (w r : Nat) (hw : w < 2 ^ 62) (hr : r < 2 ^ 62) : spec_l03Has.f (w : Int) (r : Int) = some (decide (r &&& w = r)) := by
  unfold spec_l03Has.f
  rw [M.and_nat w r hw hr, Nat.and_comm]
  congr 1
  by_cases h : r &&& w = r
  · rw [h, decide_eq_true rfl, beq_self_eq_true]
  · rw [decide_eq_false h]
    exact beq_eq_false_iff_ne.2 (by omega)
/-- The sum that the reference keeps. -/
def ssum (b w : Nat) : Nat → Nat
  | 0 => 0
  | r + 1 => if r &&& w = r then ssum b w r + M.atN b r else ssum b w r
theorem ssum_le (b w : Nat) : ∀ r, ssum b w r ≤ r
  | 0 => Nat.le_refl _
  | r + 1 => by
    have := ssum_le b w r
    have := M.atN_le b r
    simp only [ssum]; split <;> omega
theorem ssum_mod (b w : Nat) : ∀ r, ssum b w r % 2 = M.psum b w r
  | 0 => rfl
  | r + 1 => by
    have h1 := ssum_mod b w r
    have h2 := M.atN_le b r
    have h3 := M.psum_le b w r
    simp only [ssum, M.psum]
    split
    · rw [M.xor_digit _ _ h3 h2]; omega
    · exact h1
def cofL (n b w : Nat) : List Int := M.lis w (fun q => M.psum b q (2 ^ n))
theorem cofL_len (n b w : Nat) : (cofL n b w).length = w := M.lis_length _ _
theorem cofL_succ (n b w : Nat) : cofL n b (w + 1) = cofL n b w ++ [((M.psum b w (2 ^ n) : Nat) : Int)] := M.lis_succ _ _
theorem sums_inner (n b w : Nat) (hn : n ≤ 4) (hw : w < 2 ^ n) (R : Option (List Int)) (K0 : Nat)
    (H : ∀ k, K0 ≤ k → spec_l03Sums.l0 k (M.lis (2 ^ n) (M.atN b)) (cofL n b (w + 1)) ((w + 1 : Nat) : Int) = R) (d : Nat) : ∀ (k r : Nat), r + d = 2 ^ n → K0 + d < k →
    spec_l03Sums.l1 k (M.lis (2 ^ n) (M.atN b)) (cofL n b w) (w : Int) ((ssum b w r : Nat) : Int) (r : Int) = R := by
  have h16 := M.pow_le16 hn
  have hlen := M.lis_length (2 ^ n) (M.atN b)
  induction d with
  | zero =>
    intro k r hr hk
    obtain ⟨k, rfl⟩ : ∃ m, k = m + 1 := ⟨k - 1, by omega⟩
    obtain rfl : r = 2 ^ n := by omega
    have hl := cofL_len n b w
    have e : Int.tmod ((ssum b w (2 ^ n) : Nat) : Int) 2 = ((M.psum b w (2 ^ n) : Nat) : Int) := by rw [← ssum_mod]; rfl
    have := H k (by omega)
    rw [cofL_succ] at this
    simp only [spec_l03Sums.l1]
    rw [if_neg (by omega), if_pos (by omega), e, M.w64_in ((w : Int) + 1) (by omega) (by omega)]
    exact this
  | succ d ih =>
    intro k r hr hk
    obtain ⟨k, rfl⟩ : ∃ m, k = m + 1 := ⟨k - 1, by omega⟩
    have hs := ssum_le b w r
    have h3 := M.atN_le b r
    have step := ih k (r + 1) (by omega) (by omega)
    simp only [ssum] at step
    simp only [spec_l03Sums.l1]
    rw [if_pos (by omega), has_eq w r (by omega) (by omega), Option.bind_some, M.w64_in ((r : Int) + 1) (by omega) (by omega)]
    by_cases h : r &&& w = r
    · rw [if_pos h] at step
      rw [if_pos (by simpa using h), if_pos (by omega), M.lis_rd _ _ r (by omega), M.w64_in _ (by omega) (by omega)]
      exact step
    · rw [if_neg h] at step
      rw [if_neg (by simpa using h)]
      exact step
theorem sums_outer (n b : Nat) (hn : n ≤ 4) (d : Nat) : ∀ (w : Nat), w + d = 2 ^ n → ∀ k, 40 + 20 * d ≤ k →
    spec_l03Sums.l0 k (M.lis (2 ^ n) (M.atN b)) (cofL n b w) (w : Int) = some (cofL n b (2 ^ n)) := by
  have h16 := M.pow_le16 hn
  have hlen := M.lis_length (2 ^ n) (M.atN b)
  induction d with
  | zero =>
    intro w ha k hk
    obtain ⟨k, rfl⟩ : ∃ m, k = m + 1 := ⟨k - 1, by omega⟩
    obtain rfl : w = 2 ^ n := by omega
    simp only [spec_l03Sums.l0]
    rw [if_neg (by omega)]
  | succ d ih =>
    intro w ha k hk
    obtain ⟨k, rfl⟩ : ∃ m, k = m + 1 := ⟨k - 1, by omega⟩
    simp only [spec_l03Sums.l0]
    rw [if_pos (by omega)]
    exact sums_inner n b w hn (by omega) _ (40 + 20 * d) (ih (w + 1) (by omega)) (2 ^ n) k 0 (by omega) (by omega)
theorem sums_eq (n b : Nat) (hn : n ≤ 4) (k : Nat) (hk : 360 ≤ k) : spec_l03Sums.f k (M.lis (2 ^ n) (M.atN b)) = some (cofL n b (2 ^ n)) := by
  have h16 := M.pow_le16 hn
  unfold spec_l03Sums.f
  exact sums_outer n b hn (2 ^ n) 0 (by omega) k (by omega)
theorem ipoly_eq (n b : Nat) (h : M.valid (n : Int) (b : Int) = true) : impl_Func_polynomial.f (n : Int) (b : Int) = some ((M.polN n b : Nat) : Int) := by
  unfold impl_Func_polynomial.f
  rw [if_pos h]; rfl
theorem polN_at (n b w : Nat) (hw : w < 2 ^ n) : M.atN (M.polN n b) w = M.psum b w (2 ^ n) := M.tab_at _ _ (fun _ _ => M.psum_le _ _ _) w hw
theorem values_loop (n b : Nat) (hn : n ≤ 4) (hb : b < 2 ^ 62) (d : Nat) : ∀ (k r : Nat), r + d = 2 ^ n → d < k →
    spec_l03Values.l0 k (M.lis r (M.atN b)) (r : Int) (n : Int) (b : Int) = some (M.lis (2 ^ n) (M.atN b)) := by
  have h16 := M.pow_le16 hn
  induction d with
  | zero =>
    intro k r hr hk
    obtain ⟨k, rfl⟩ : ∃ m, k = m + 1 := ⟨k - 1, by omega⟩
    obtain rfl : r = 2 ^ n := by omega
    simp only [spec_l03Values.l0]; rw [rows_eq n hn, Option.bind_some, if_neg (by omega)]
  | succ d ih =>
    intro k r hr hk
    obtain ⟨k, rfl⟩ : ∃ m, k = m + 1 := ⟨k - 1, by omega⟩
    have hl := M.lis_length r (M.atN b)
    have step := ih k (r + 1) (by omega) (by omega)
    rw [M.lis_succ] at step
    simp only [spec_l03Values.l0]; rw [rows_eq n hn, Option.bind_some]
    rw [if_pos (by omega), at_eq (n : Int) b r hb (by omega), Option.bind_some, if_pos (by omega), M.w64_in ((r : Int) + 1) (by omega) (by omega)]
    exact step
theorem poly_eq (n b : Nat) (hn : n ≤ 4) (hb : b < 2 ^ 62) (k : Nat) (hk : 360 ≤ k) : spec_l03Poly.f k (n : Int) (b : Int) = some (cofL n b (2 ^ n)) := by
  have h16 := M.pow_le16 hn
  unfold spec_l03Poly.f spec_l03Values.f
  have := values_loop n b hn hb (2 ^ n) k 0 (by omega) (by omega)
  rw [M.lis_zero, Int.natCast_zero] at this
  rw [this, Option.bind_some, sums_eq n b hn k hk]; rfl
end Go.Proofs.Ytdhfbgbclibagaa.Pure
