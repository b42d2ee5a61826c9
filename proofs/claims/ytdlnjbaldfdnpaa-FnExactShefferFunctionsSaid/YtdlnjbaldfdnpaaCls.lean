/- The classes of Post as plain facts about digits; the two ways to ask for affine functions. -/
import Derived.Test.YtdlnjbaldfdnpaaMath
namespace Go.Proofs.Ytdlnjbaldfdnpaa.M
/-- Is the function in the class? -/
def cls (n b : Nat) (c : Nat) : Bool :=
  if c = 0 then decide (atN b 0 = 0) else if c = 1 then decide (atN b (2 ^ n - 1) = 1)
  else if c = 2 then decide (∀ r, r < 2 ^ n → atN b r ≠ atN b (2 ^ n - 1 - r))
  else if c = 3 then decide (∀ r, r < 2 ^ n → ∀ i, i < n → ¬ atN b r > atN b (r ||| 2 ^ i))
  else decide (∀ i, i < n → ∀ r, r < 2 ^ n → (atN b r ≠ atN b (r ^^^ 2 ^ i) ↔ atN b 0 ≠ atN b (2 ^ i)))
/-- The value of an affine function with the coefficients that b tells, of the variables below i. -/
def aff (b r : Nat) : Nat → Nat
  | 0 => atN b 0
  | i + 1 => aff b r i ^^^ (atN r i &&& (atN b 0 ^^^ atN b (2 ^ i)))
theorem aff_le (b r : Nat) : ∀ i, aff b r i ≤ 1
  | 0 => atN_le _ _
  | i + 1 => by
    have h1 := aff_le b r i
    have h2 := atN_le r i
    have h3 := atN_le b 0
    have h4 := atN_le b (2 ^ i)
    simp only [aff]
    rcases (by omega : aff b r i = 0 ∨ aff b r i = 1) with e1 | e1 <;> rcases (by omega : atN r i = 0 ∨ atN r i = 1) with e2 | e2 <;> rcases (by omega : atN b 0 = 0 ∨ atN b 0 = 1) with e3 | e3 <;> rcases (by omega : atN b (2 ^ i) = 0 ∨ atN b (2 ^ i) = 1) with e4 | e4 <;> rw [e1, e2, e3, e4] <;> decide
theorem tog_asked : ∀ r, r < 16 → ∀ v, v < 4 → ∀ i, i < 4 → (i ≠ v → atN (r ^^^ 2 ^ v) i = atN r i) ∧ atN (r ^^^ 2 ^ v) v = 1 - atN r v := by decide +kernel
theorem low_asked : ∀ n, n < 5 → ∀ r, r < 2 ^ n → r = 0 ∨ ∃ v, v < n ∧ atN r v = 1 ∧ r ^^^ 2 ^ v < r := by decide +kernel
theorem aff_tog (b r v : Nat) (hr : r < 16) (hv : v < 4) : ∀ i, i ≤ 4 → aff b (r ^^^ 2 ^ v) i = if v < i then aff b r i ^^^ (atN b 0 ^^^ atN b (2 ^ v)) else aff b r i
  | 0, _ => by simp [aff]
  | i + 1, hi => by
    have ih := aff_tog b r v hr hv i (by omega)
    obtain ⟨h1, h2⟩ := tog_asked r hr v hv i (by omega)
    simp only [aff]
    rw [ih]
    by_cases e : i = v
    · subst e
      rw [if_neg (by omega), if_pos (by omega), h2]
      have a1 := aff_le b r i
      have a2 := atN_le r i
      have a3 := atN_le b 0
      have a4 := atN_le b (2 ^ i)
      rcases (by omega : aff b r i = 0 ∨ aff b r i = 1) with e1 | e1 <;> rcases (by omega : atN r i = 0 ∨ atN r i = 1) with e2 | e2 <;> rcases (by omega : atN b 0 = 0 ∨ atN b 0 = 1) with e3 | e3 <;> rcases (by omega : atN b (2 ^ i) = 0 ∨ atN b (2 ^ i) = 1) with e4 | e4 <;> rw [e1, e2, e3, e4] <;> decide
    · rw [h1 e]
      by_cases h : v < i
      · rw [if_pos h, if_pos (by omega)]
        generalize atN b 0 ^^^ atN b (2 ^ v) = c
        generalize atN r i &&& (atN b 0 ^^^ atN b (2 ^ i)) = d
        rw [Nat.xor_assoc, Nat.xor_comm c d, ← Nat.xor_assoc]
      · rw [if_neg h, if_neg (by omega)]
theorem bit_ne (x y : Nat) (hx : x ≤ 1) (hy : y ≤ 1) : (x ≠ y ↔ x ^^^ y = 1) := by
  rcases (by omega : x = 0 ∨ x = 1) with e1 | e1 <;> rcases (by omega : y = 0 ∨ y = 1) with e2 | e2 <;> rw [e1, e2] <;> decide
theorem xor_le (x y : Nat) (hx : x ≤ 1) (hy : y ≤ 1) : x ^^^ y ≤ 1 := by
  rcases (by omega : x = 0 ∨ x = 1) with e1 | e1 <;> rcases (by omega : y = 0 ∨ y = 1) with e2 | e2 <;> rw [e1, e2] <;> decide
/-- Each argument changes the value always or never: just where the value is that of the affine function. -/
theorem affine_iff (n b : Nat) (hn : n ≤ 4) : (∀ i, i < n → ∀ r, r < 2 ^ n → (atN b r ≠ atN b (r ^^^ 2 ^ i) ↔ atN b 0 ≠ atN b (2 ^ i))) ↔ ∀ r, r < 2 ^ n → aff b r n = atN b r := by
  have h16 := pow_le16 hn
  constructor
  · intro h r
    induction r using Nat.strongRecOn with
    | _ r ih =>
      intro hr
      rcases low_asked n (by omega) r hr with e | ⟨v, hv, h1, h2⟩
      · subst e
        have : ∀ i, aff b 0 i = atN b 0 := by
          intro i
          induction i with
          | zero => rfl
          | succ i ihi => simp only [aff]; rw [ihi]; simp [atN]
        exact this n
      · have hx := ih (r ^^^ 2 ^ v) h2 (by omega)
        have ht := aff_tog b r v (by omega) (by omega) n hn
        rw [if_pos hv] at ht
        have hc := h v hv r hr
        rw [bit_ne _ _ (atN_le _ _) (atN_le _ _), bit_ne _ _ (atN_le _ _) (atN_le _ _)] at hc
        have l1 := aff_le b r n
        have l2 := atN_le b r
        have l3 := atN_le b (r ^^^ 2 ^ v)
        have l4 := xor_le _ _ (atN_le b 0) (atN_le b (2 ^ v))
        have l5 := xor_le _ _ (atN_le b r) (atN_le b (r ^^^ 2 ^ v))
        rw [← hx, ht] at hc l5
        have hce : atN b r ^^^ (aff b r n ^^^ (atN b 0 ^^^ atN b (2 ^ v))) = atN b 0 ^^^ atN b (2 ^ v) := by omega
        generalize atN b 0 ^^^ atN b (2 ^ v) = c at *
        generalize aff b r n = x at *
        generalize atN b r = y at *
        rcases (by omega : x = 0 ∨ x = 1) with e1 | e1 <;> rcases (by omega : y = 0 ∨ y = 1) with e2 | e2 <;> rcases (by omega : c = 0 ∨ c = 1) with e3 | e3 <;> rw [e1, e2, e3] at hce <;> first | (rw [e1, e2]; done) | (exfalso; revert hce; decide)
  · intro h i hi r hr
    have hx : r ^^^ 2 ^ i < 2 ^ n := xor_lt16 n (by omega) i hi r hr
    have ht := aff_tog b r i (by omega) (by omega) n hn
    rw [if_pos hi, h r hr, h _ hx] at ht
    rw [ht, bit_ne _ _ (atN_le _ _) (xor_le _ _ (atN_le _ _) (xor_le _ _ (atN_le _ _) (atN_le _ _))), bit_ne _ _ (atN_le _ _) (atN_le _ _), ← Nat.xor_assoc, Nat.xor_self, Nat.zero_xor]
/-- Self-dual: just where the function is its own dual. -/
theorem dual_iff (n b : Nat) (hb : b < 2 ^ 2 ^ n) : (∀ r, r < 2 ^ n → atN b r ≠ atN b (2 ^ n - 1 - r)) ↔ b = tab (2 ^ n) (fun r => 1 - atN b (2 ^ n - 1 - r)) := by
  constructor
  · intro h
    refine at_ext (2 ^ n) _ _ hb (tab_lt _ _ (fun r _ => by omega)) fun r hr => ?_
    rw [tab_at _ _ (fun r _ => by omega) r hr]
    have := h r hr
    have h1 := atN_le b r
    have h2 := atN_le b (2 ^ n - 1 - r)
    omega
  · intro h r hr
    have e : atN b r = 1 - atN b (2 ^ n - 1 - r) := by
      have := tab_at (2 ^ n) (fun r => 1 - atN b (2 ^ n - 1 - r)) (fun r _ => by omega) r hr
      rw [← h] at this
      exact this
    have h1 := atN_le b r
    have h2 := atN_le b (2 ^ n - 1 - r)
    omega
theorem or_asked : ∀ r, r < 16 → ∀ v, v < 4 → (r &&& 2 ^ v = 0 → True) ∧ (r &&& 2 ^ v ≠ 0 → r ||| 2 ^ v = r) := by decide +kernel
theorem or_lt : ∀ n, n < 5 → ∀ i, i < n → ∀ r, r < 2 ^ n → r ||| 2 ^ i < 2 ^ n := by decide +kernel
end Go.Proofs.Ytdlnjbaldfdnpaa.M
