/- The printed functions of the first layer that both programs begin with: ranges, rows, what is a function. -/
import Derived.Test.YtdhfbgbclibagaaROx0
import Derived.Test.YtdhfbgbclibagaaROx1
import Derived.Test.YtdhfbgbclibagaaROx2
namespace Go.Proofs.Ytdhfbgbclibagaa.Pure
open Go.RowKit Go.Proofs.Ytdhfbgbclibagaa.P Go.Proofs.YtdhfbgbclibagaaW.PrintWords Go.Proofs.YtdhfbgbclibagaaW.PrintLast Go.Proofs.YtdhfbgbclibagaaW.PrintMore
set_option linter.unusedVariables false
set_option linter.unusedSimpArgs false
theorem in_eq (a b c : Int) : spec_l01In.f a b c = some (decide (b ≤ a) && decide (a ≤ c)) := by
  unfold spec_l01In.f
  by_cases h : b ≤ a
  · rw [if_pos h]; simp [h]
  · rw [if_neg h]; simp [h]
theorem within_eq (a b c : Int) : impl_within.f a b c = some (decide (b ≤ a) && decide (a ≤ c)) := by
  unfold impl_within.f
  by_cases h : b ≤ a
  · rw [if_pos h]; simp [h]
  · rw [if_neg h]; simp [h]
theorem rows_eq (n : Nat) (hn : n ≤ 4) : spec_l01Rows.f (n : Int) = some ((2 ^ n : Nat) : Int) := by
  unfold spec_l01Rows.f
  rw [M.u64_in _ (by omega) (by omega), if_pos (by omega), show (1 : Int) = ((1 : Nat) : Int) from rfl, M.shl_nat 1 n (by omega) (by rw [Nat.one_mul]; exact Nat.lt_of_le_of_lt (M.pow_le16 hn) (by decide)), Nat.one_mul]
theorem pow2_16 {n : Nat} (hn : n ≤ 4) : 2 ^ 2 ^ n ≤ 65536 := M.pow2_le (M.pow_le16 hn)
theorem all_eq (n : Nat) (hn : n ≤ 4) : spec_l01All.f (n : Int) = some ((2 ^ 2 ^ n - 1 : Nat) : Int) := by
  have h := M.pow_le16 hn
  have h2 := pow2_16 hn
  have h3 := M.pow_pos (2 ^ n)
  unfold spec_l01All.f
  rw [rows_eq n hn]
  simp only [Option.bind_some]
  generalize 2 ^ n = p at *
  rw [M.u64_in _ (by omega) (by omega), if_pos (by omega), show (1 : Int) = ((1 : Nat) : Int) from rfl, M.shl_nat 1 p (by omega) (by omega), Nat.one_mul]
  generalize 2 ^ p = q at *
  rw [M.w64_in _ (by omega) (by omega), Int.natCast_sub h3]
theorem is_eq (n b : Int) : spec_l01Is.f n b = some (M.valid n b) := by
  unfold spec_l01Is.f
  rw [in_eq]
  simp only [Option.bind_some]
  by_cases h : 0 ≤ n ∧ n ≤ 4
  · obtain ⟨h0, h4⟩ := h
    obtain ⟨m, rfl⟩ := Int.eq_ofNat_of_zero_le h0
    have h2 := pow2_16 (n := m) (by omega)
    have h3 := M.pow_pos (2 ^ m)
    rw [if_pos (by simp; omega), all_eq m (by omega)]
    simp only [Option.bind_some]
    rw [in_eq]
    simp only [Option.bind_some]
    unfold M.valid
    congr 1
    rw [Bool.eq_iff_iff]
    simp only [Bool.and_eq_true, decide_eq_true_eq, Int.toNat_natCast]
    generalize 2 ^ 2 ^ m = q at *
    omega
  · rw [if_neg (by simp; omega)]
    unfold M.valid
    congr 1
    by_cases h0 : 0 ≤ n
    · have h4 : ¬ n ≤ 4 := by omega
      simp [h4]
    · simp [h0]
theorem rowsOf_eq (n : Nat) (hn : n ≤ 4) : impl_rowsOf.f (n : Int) = some ((2 ^ n : Nat) : Int) := by
  unfold impl_rowsOf.f
  rw [if_pos (by omega), show (1 : Int) = ((1 : Nat) : Int) from rfl, M.shl_nat 1 n (by omega) (by rw [Nat.one_mul]; exact Nat.lt_of_le_of_lt (M.pow_le16 hn) (by decide)), Nat.one_mul]
theorem funcsOf_eq (n : Nat) (hn : n ≤ 4) : impl_funcsOf.f (n : Int) = some ((2 ^ 2 ^ n : Nat) : Int) := by
  have h := M.pow_le16 hn
  have h2 := pow2_16 hn
  unfold impl_funcsOf.f
  rw [rowsOf_eq n hn]
  simp only [Option.bind_some]
  generalize 2 ^ n = p at *
  rw [if_pos (by omega), show (1 : Int) = ((1 : Nat) : Int) from rfl, M.shl_nat 1 p (by omega) (by omega), Nat.one_mul]
theorem isArity_eq (n : Int) : impl_isArity.f n = some (decide (0 ≤ n) && decide (n ≤ 4)) := by
  unfold impl_isArity.f; rw [within_eq]; rfl
theorem isFunc_eq (n b : Int) : impl_IsFunc.f n b = some (M.valid n b) := by
  unfold impl_IsFunc.f
  rw [isArity_eq]
  simp only [Option.bind_some]
  by_cases h : 0 ≤ n ∧ n ≤ 4
  · obtain ⟨h0, h4⟩ := h
    obtain ⟨m, rfl⟩ := Int.eq_ofNat_of_zero_le h0
    have h2 := pow2_16 (n := m) (by omega)
    have h3 := M.pow_pos (2 ^ m)
    rw [if_pos (by simp; omega), funcsOf_eq m (by omega)]
    simp only [Option.bind_some]
    rw [within_eq]
    simp only [Option.bind_some]
    unfold M.valid
    congr 1
    rw [Bool.eq_iff_iff, M.w64_in _ (by omega) (by omega)]
    simp only [Bool.and_eq_true, decide_eq_true_eq, Int.toNat_natCast]
    generalize 2 ^ 2 ^ m = q at *
    omega
  · rw [if_neg (by simp; omega)]
    unfold M.valid
    congr 1
    by_cases h0 : 0 ≤ n
    · have h4 : ¬ n ≤ 4 := by omega
      simp [h4]
    · simp [h0]
theorem at_eq (n : Int) (b r : Nat) (hb : b < 2 ^ 62) (hr : r ≤ 64) : spec_l01At.f n (b : Int) (r : Int) = some ((M.atN b r : Nat) : Int) := by
  unfold spec_l01At.f
  rw [M.u64_in _ (by omega) (by omega), if_pos (by omega), M.bit_nat b r hb hr]
theorem bit_eq (b r : Nat) (hb : b < 2 ^ 62) (hr : r ≤ 64) : impl_bit.f (b : Int) (r : Int) = some ((M.atN b r : Nat) : Int) := by
  unfold impl_bit.f
  rw [if_pos (by omega), M.bit_nat b r hb hr]
theorem Func_rows_eq (n : Nat) (b : Int) (hn : n ≤ 4) : impl_Func_rows.f (n : Int) b = some ((2 ^ n : Nat) : Int) := by
  unfold impl_Func_rows.f; rw [rowsOf_eq n hn]; rfl
end Go.Proofs.Ytdhfbgbclibagaa.Pure
