/- The greatest and the least size in a list, and squares. -/
import Derived.Test.YtdhfbgbclibagaaSQx0
import Derived.Test.YtdhfbgbclibagaaSQx1
import Derived.Test.YtdhfbgbclibagaaSQx5
import Derived.Test.YtdhfbgbclibagaaSQx9
import Derived.Test.YtdhfbgbclibagaaSKBase
import Derived.Test.YtdhfbgbclibagaaSKSize
import Derived.Test.YtdhfbgbclibagaaSKSpec
namespace Go.Proofs.Ytdhfbgbclibagaa.Pure
open Go.RowKit Go.Proofs.Ytdhfbgbclibagaa.P Go.Proofs.YtdhfbgbclibagaaW.PrintWords Go.Proofs.YtdhfbgbclibagaaW.PrintLast Go.Proofs.YtdhfbgbclibagaaW.PrintMore
set_option linter.unusedVariables false
set_option linter.unusedSimpArgs false
/-- The size of a number, as both programs ask for it. -/
def sz (v : Int) : Int := if 0 ≤ v then v else -v
def hiN (l : List Int) : Nat → Int
  | 0 => 0
  | i + 1 => mx (mx (hiN l i) (rd l (i : Int))) (-(rd l (i : Int)))
def loN (m : Int) (l : List Int) : Nat → Int
  | 0 => m
  | i + 1 => mn (loN m l i) (mx (rd l (i : Int)) (-(rd l (i : Int))))
theorem hi_step (h v : Int) (h0 : 0 ≤ h) : mx (mx h v) (-v) = if h < sz v then sz v else h := by
  unfold mx sz
  by_cases h1 : 0 ≤ v
  · rw [if_pos h1]
    by_cases h2 : h < v
    · rw [if_pos h2, if_neg (by omega)]
    · rw [if_neg h2, if_neg (by omega)]
  · rw [if_neg h1, if_neg (show ¬ h < v from by omega)]
theorem lo_step (h v : Int) : mn h (mx v (-v)) = if sz v < h then sz v else h := by
  unfold mx mn sz
  by_cases h1 : v < -v
  · rw [if_pos h1]
    rw [if_neg (show ¬ 0 ≤ v from by omega)]
  · rw [if_neg h1]
    rw [if_pos (show 0 ≤ v from by omega)]
theorem sz_le (v : Int) (h0 : -16 ≤ v) (h1 : v ≤ 16) : 0 ≤ sz v ∧ sz v ≤ 16 := by
  unfold sz; split <;> omega
theorem hi_in (l : List Int) (hl : ∀ i : Nat, -16 ≤ rd l (i : Int) ∧ rd l (i : Int) ≤ 16) : ∀ i : Nat, 0 ≤ hiN l i ∧ hiN l i ≤ 16
  | 0 => by simp [hiN]
  | i + 1 => by
    have h1 := hi_in l hl i
    have h2 := sz_le _ (hl i).1 (hl i).2
    simp only [hiN]
    rw [hi_step _ _ h1.1]
    split <;> omega
theorem hi_all (l : List Int) (hl : ∀ i : Nat, -16 ≤ rd l (i : Int) ∧ rd l (i : Int) ≤ 16) : ∀ i q : Nat, q < i → sz (rd l (q : Int)) ≤ hiN l i
  | 0, q, h => by omega
  | i + 1, q, h => by
    have h1 := hi_in l hl i
    simp only [hiN]
    rw [hi_step _ _ h1.1]
    by_cases e : q = i
    · subst e; split <;> omega
    · have := hi_all l hl i q (by omega)
      split <;> omega
theorem hi_some (l : List Int) (hl : ∀ i : Nat, -16 ≤ rd l (i : Int) ∧ rd l (i : Int) ≤ 16) : ∀ i : Nat, hiN l i = 0 ∨ ∃ q, q < i ∧ hiN l i = sz (rd l (q : Int))
  | 0 => Or.inl rfl
  | i + 1 => by
    have h1 := hi_in l hl i
    simp only [hiN]
    rw [hi_step _ _ h1.1]
    split
    · exact Or.inr ⟨i, by omega, rfl⟩
    · rcases hi_some l hl i with h | ⟨q, hq, h⟩
      · exact Or.inl h
      · exact Or.inr ⟨q, by omega, h⟩
theorem lo_all (m : Int) (l : List Int) : ∀ i q : Nat, q < i → loN m l i ≤ sz (rd l (q : Int))
  | 0, q, h => by omega
  | i + 1, q, h => by
    simp only [loN]
    rw [lo_step]
    by_cases e : q = i
    · subst e; split <;> omega
    · have := lo_all m l i q (by omega)
      split <;> omega
theorem lo_some (m : Int) (l : List Int) : ∀ i : Nat, loN m l i = m ∨ ∃ q, q < i ∧ loN m l i = sz (rd l (q : Int))
  | 0 => Or.inl rfl
  | i + 1 => by
    simp only [loN]
    rw [lo_step]
    split
    · exact Or.inr ⟨i, by omega, rfl⟩
    · rcases lo_some m l i with h | ⟨q, hq, h⟩
      · exact Or.inl h
      · exact Or.inr ⟨q, by omega, h⟩
theorem sz_natAbs (v : Int) : sz v = (v.natAbs : Int) := by unfold sz; split <;> omega
theorem sq_sz (v w : Int) : v * v = w * w ↔ sz v = sz w := by
  rw [sz_natAbs, sz_natAbs, ← Int.natAbs_mul_self, ← Int.natAbs_mul_self (a := w)]
  constructor
  · intro h
    have : v.natAbs * v.natAbs = w.natAbs * w.natAbs := by exact_mod_cast h
    rw [Nat.mul_self_inj.1 this]
  · intro h
    have : v.natAbs = w.natAbs := by exact_mod_cast h
    rw [this]
/-- The greatest size is the least one where all sizes are alike. -/
theorem ends_iff (m : Int) (l : List Int) (p : Nat) (hp : 0 < p) (hl : ∀ i : Nat, -16 ≤ rd l (i : Int) ∧ rd l (i : Int) ≤ 16) (hm : ∀ i : Nat, i < p → sz (rd l (i : Int)) ≤ m) :
    hiN l p = loN m l p ↔ ∀ i : Nat, i < p → rd l (i : Int) * rd l (i : Int) = rd l 0 * rd l 0 := by
  have ha := hi_all l hl p
  have hs := hi_some l hl p
  have la := lo_all m l p
  have ls := lo_some m l p
  constructor
  · intro h i hi
    rw [sq_sz]
    have a1 := ha i hi
    have a2 := la i hi
    have b1 := ha 0 hp
    have b2 := la 0 hp
    rw [Int.natCast_zero] at b1 b2
    omega
  · intro h
    have e : ∀ i : Nat, i < p → sz (rd l (i : Int)) = sz (rd l 0) := fun i hi => (sq_sz _ _).1 (h i hi)
    have a1 := ha 0 hp
    have a2 := la 0 hp
    have a3 := hm 0 hp
    have a4 := (sz_le _ (hl 0).1 (hl 0).2).1
    rw [Int.natCast_zero] at a1 a2 a3 a4
    have h1 : hiN l p = sz (rd l 0) := by
      rcases hs with h | ⟨q, hq, h⟩
      · omega
      · rw [h, e q hq]
    have h2 : loN m l p = sz (rd l 0) := by
      rcases ls with h | ⟨q, hq, h⟩
      · omega
      · rw [h, e q hq]
    rw [h1, h2]
theorem sq_in (v : Int) (h0 : -16 ≤ v) (h1 : v ≤ 16) : wrap64 (v * v) = v * v := by
  have h : v.natAbs ≤ 16 := by omega
  have h2 := Nat.mul_le_mul h h
  rw [← Int.natAbs_mul_self]
  exact M.w64_in _ (by omega) (by omega)
theorem sumL_rd (m : Nat) (h : Nat → Nat → Int) (a i : Nat) (hi : i < a) : rd (M.sumL m h a) (i : Int) = M.part h i m := by
  unfold rd M.sumL; simp [List.getD_eq_getElem?_getD, hi]
theorem sumL_in (m : Nat) (hm : m ≤ 16) (h : Nat → Nat → Int) (hh : ∀ a r, -1 ≤ h a r ∧ h a r ≤ 1) (a : Nat) (i : Nat) : -16 ≤ rd (M.sumL m h a) (i : Int) ∧ rd (M.sumL m h a) (i : Int) ≤ 16 := by
  by_cases hi : i < a
  · rw [sumL_rd m h a i hi]
    have := M.part_le h hh i m
    omega
  · have : rd (M.sumL m h a) (i : Int) = 0 := by
      unfold rd
      rw [List.getD_eq_getElem?_getD, List.getElem?_eq_none (by rw [M.sumL_length]; omega)]; rfl
    rw [this]; decide
theorem ends_loop (m : Int) (l : List Int) (hlen : l.length ≤ 16) (hl : ∀ i : Nat, -16 ≤ rd l (i : Int) ∧ rd l (i : Int) ≤ 16) (d : Nat) : ∀ (k i : Nat), i + d = l.length → d < k →
    spec_l03Ends.l0 k l (hiN l i) (loN m l i) (i : Int) = some (hiN l l.length, loN m l l.length) := by
  induction d with
  | zero =>
    intro k i hi hk
    obtain ⟨k, rfl⟩ : ∃ m, k = m + 1 := ⟨k - 1, by omega⟩
    obtain rfl : i = l.length := by omega
    simp only [spec_l03Ends.l0]
    rw [if_neg (by omega)]
  | succ d ih =>
    intro k i hi hk
    obtain ⟨k, rfl⟩ : ∃ m, k = m + 1 := ⟨k - 1, by omega⟩
    have hv := hl i
    simp only [spec_l03Ends.l0]
    rw [if_pos (by omega), if_pos (by omega), M.w64_in (-_) (by omega) (by omega), M.w64_in ((i : Int) + 1) (by omega) (by omega)]
    exact ih k (i + 1) (by omega) (by omega)
end Go.Proofs.Ytdhfbgbclibagaa.Pure
