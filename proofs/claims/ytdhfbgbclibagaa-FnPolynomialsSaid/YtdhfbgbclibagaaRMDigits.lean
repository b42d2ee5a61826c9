/- Lists of digits: asked for, and packed into a number. -/
import Derived.Test.YtdhfbgbclibagaaROx0
import Derived.Test.YtdhfbgbclibagaaROx1
import Derived.Test.YtdhfbgbclibagaaROx2
import Derived.Test.YtdhfbgbclibagaaROx4
import Derived.Test.YtdhfbgbclibagaaRMBase
namespace Go.Proofs.Ytdhfbgbclibagaa.Pure
open Go.RowKit Go.Proofs.Ytdhfbgbclibagaa.P Go.Proofs.YtdhfbgbclibagaaW.PrintWords Go.Proofs.YtdhfbgbclibagaaW.PrintLast Go.Proofs.YtdhfbgbclibagaaW.PrintMore
set_option linter.unusedVariables false
set_option linter.unusedSimpArgs false
theorem all_digits (l : List Int) (h : (l.all fun x => decide (0 ≤ x) && decide (x ≤ 1)) = true) : ∀ x ∈ l, 0 ≤ x ∧ x ≤ 1 := by
  intro x hx
  have := List.all_eq_true.1 h x hx
  simpa using this
theorem sbits_loop (l : List Int) (hlen : l.length ≤ 1048576) (d : Nat) : ∀ (k r : Nat), r + d = l.length → d < k →
    spec_l01Bits.l0 k l (r : Int) = some ((l.drop r).all fun x => decide (0 ≤ x) && decide (x ≤ 1)) := by
  induction d with
  | zero =>
    intro k r hr hk
    obtain ⟨k, rfl⟩ : ∃ m, k = m + 1 := ⟨k - 1, by omega⟩
    simp only [spec_l01Bits.l0]
    rw [if_neg (by omega), List.drop_of_length_le (by omega)]
    rfl
  | succ d ih =>
    intro k r hr hk
    obtain ⟨k, rfl⟩ : ∃ m, k = m + 1 := ⟨k - 1, by omega⟩
    have hlt : r < l.length := by omega
    have er : rd l (r : Int) = l[r] := by simp [rd, List.getD_eq_getElem?_getD, List.getElem?_eq_getElem hlt]
    simp only [spec_l01Bits.l0]
    rw [if_pos (by omega), if_pos (by omega), in_eq, er, List.drop_eq_getElem_cons hlt, List.all_cons]
    simp only [Option.bind_some]
    by_cases e : (decide (0 ≤ l[r]) && decide (l[r] ≤ 1)) = true
    · rw [if_pos e, M.w64_in ((r : Int) + 1) (by omega) (by omega), e, Bool.true_and]
      exact ih k (r + 1) (by omega) (by omega)
    · rw [if_neg e]
      simp only [Bool.not_eq_true] at e
      rw [e, Bool.false_and]
theorem sbits_eq (l : List Int) (hlen : l.length ≤ 1048576) (k : Nat) (hk : l.length < k) : spec_l01Bits.f k l = some (l.all fun x => decide (0 ≤ x) && decide (x ≤ 1)) := by
  unfold spec_l01Bits.f
  exact sbits_loop l hlen l.length k 0 (by omega) hk
theorem idigits_eq (l : List Int) (hlen : l.length ≤ 1048576) : impl_areDigits.f l = some (l.all fun x => decide (0 ≤ x) && decide (x ≤ 1)) := by
  unfold impl_areDigits.f
  rw [if_pos (by omega)]
theorem packed_loop (m : Nat) (h16 : m ≤ 16) (h : Nat → Nat) (hh : ∀ r, r < m → h r ≤ 1) (d : Nat) : ∀ (k r : Nat), r + d = m → d < k →
    impl_packed.l0 k ((M.tab r h : Nat) : Int) (M.lis m h) (m : Int) (r : Int) = some ((M.tab m h : Nat) : Int) := by
  induction d with
  | zero =>
    intro k r hr hk
    obtain ⟨k, rfl⟩ : ∃ m, k = m + 1 := ⟨k - 1, by omega⟩
    obtain rfl : r = m := by omega
    simp only [impl_packed.l0]
    rw [if_neg (by omega)]
  | succ d ih =>
    intro k r hr hk
    obtain ⟨k, rfl⟩ : ∃ m, k = m + 1 := ⟨k - 1, by omega⟩
    have hlt : r < m := by omega
    have h1 := hh r hlt
    have h2 := M.tab_lt r h (fun q hq => hh q (by omega))
    have h3 : 2 ^ r ≤ 2 ^ 15 := M.pow2_le (by omega)
    have h4 : h r * 2 ^ r ≤ 2 ^ 15 := Nat.le_trans (Nat.mul_le_mul_right _ h1) (by omega)
    simp only [impl_packed.l0]
    rw [if_pos (by omega), if_pos (by omega), if_pos (by rw [M.lis_length]; omega), M.lis_rd _ _ _ hlt, M.shl_nat (h r) r (by omega) (by omega), M.w64_in ((r : Int) + 1) (by omega) (by omega), M.or_nat _ _ (by omega) (by omega), M.or_high _ _ _ h2]
    have := ih k (r + 1) (by omega) (by omega)
    rw [M.tab_succ] at this
    exact this
theorem packed_eq (m : Nat) (h16 : m ≤ 16) (h : Nat → Nat) (hh : ∀ r, r < m → h r ≤ 1) (k : Nat) (hk : m < k) : impl_packed.f k (M.lis m h) = some ((M.tab m h : Nat) : Int) := by
  unfold impl_packed.f
  rw [M.lis_length]
  exact packed_loop m h16 h hh m k 0 (by omega) hk
end Go.Proofs.Ytdhfbgbclibagaa.Pure
