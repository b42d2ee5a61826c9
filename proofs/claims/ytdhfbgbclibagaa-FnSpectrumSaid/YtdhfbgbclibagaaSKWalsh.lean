/- Spectra and correlations of functions of at most four variables: squares of spectra add up to 4^n, bent functions have no correlation but at 0. No program in sight. -/
import Derived.Test.YtdhfbgbclibagaaSQx0
import Derived.Test.YtdhfbgbclibagaaSQx1
import Derived.Test.YtdhfbgbclibagaaSKBase
import Derived.Test.YtdhfbgbclibagaaSKSize
namespace Go.Proofs.Ytdhfbgbclibagaa.Pure
open Go.RowKit Go.Proofs.Ytdhfbgbclibagaa.P Go.Proofs.YtdhfbgbclibagaaW.PrintWords Go.Proofs.YtdhfbgbclibagaaW.PrintLast Go.Proofs.YtdhfbgbclibagaaW.PrintMore
set_option linter.unusedVariables false
set_option linter.unusedSimpArgs false
/-- A sum over the numbers below m. -/
def sm (f : Nat → Int) : Nat → Int
  | 0 => 0
  | r + 1 => sm f r + f r
theorem part_sm (h : Nat → Nat → Int) (a : Nat) : ∀ m, M.part h a m = sm (h a) m
  | 0 => rfl
  | m + 1 => by simp only [M.part, sm, part_sm h a m]
theorem sm_congr (f g : Nat → Int) : ∀ m, (∀ r, r < m → f r = g r) → sm f m = sm g m
  | 0, _ => rfl
  | m + 1, h => by simp only [sm]; rw [sm_congr f g m (fun r hr => h r (by omega)), h m (by omega)]
theorem sm_add (f g : Nat → Int) : ∀ m, sm (fun r => f r + g r) m = sm f m + sm g m
  | 0 => rfl
  | m + 1 => by simp only [sm, sm_add f g m]; omega
theorem sm_mul (c : Int) (f : Nat → Int) : ∀ m, sm (fun r => c * f r) m = c * sm f m
  | 0 => by simp [sm]
  | m + 1 => by simp only [sm, sm_mul c f m, Int.mul_add]
theorem sm_zero : ∀ m, sm (fun _ => 0) m = 0
  | 0 => rfl
  | m + 1 => by simp only [sm, sm_zero m]; rfl
theorem sm_swap (f : Nat → Nat → Int) (m : Nat) : ∀ k, sm (fun a => sm (fun r => f a r) m) k = sm (fun r => sm (fun a => f a r) k) m
  | 0 => by simp only [sm]; exact (sm_zero m).symm
  | k + 1 => by
    simp only [sm]
    rw [sm_swap f m k, ← sm_add]
theorem sm_none (f : Nat → Int) : ∀ m, (∀ r, r < m → f r = 0) → sm f m = 0
  | 0, _ => rfl
  | m + 1, h => by simp only [sm]; rw [sm_none f m (fun r hr => h r (by omega)), h m (by omega)]; rfl
theorem sm_one (f : Nat → Int) (j : Nat) : ∀ m, j < m → (∀ r, r < m → r ≠ j → f r = 0) → sm f m = f j
  | 0, hj, _ => by omega
  | m + 1, hj, h => by
    simp only [sm]
    by_cases e : j = m
    · subst e
      rw [sm_none f j (fun r hr => h r (by omega) (by omega)), Int.zero_add]
    · rw [sm_one f j m (by omega) (fun r hr hne => h r (by omega) hne), h m (by omega) (by omega), Int.add_zero]
theorem sm_const (c : Int) : ∀ m : Nat, sm (fun _ => c) m = (m : Int) * c
  | 0 => by simp [sm]
  | m + 1 => by simp only [sm, sm_const c m]; rw [Int.natCast_succ, Int.add_mul, Int.one_mul]
theorem sgn_add (x y : Nat) : M.sgn (x + y) = M.sgn x * M.sgn y := by
  unfold M.sgn
  have h1 : x % 2 = 0 ∨ x % 2 = 1 := by omega
  have h2 : y % 2 = 0 ∨ y % 2 = 1 := by omega
  rcases h1 with h1 | h1 <;> rcases h2 with h2 | h2 <;> rw [Nat.add_mod, h1, h2] <;> rfl
theorem sgn_sq (x : Nat) : M.sgn x * M.sgn x = 1 := by
  unfold M.sgn
  have h1 : x % 2 = 0 ∨ x % 2 = 1 := by omega
  rcases h1 with h1 | h1 <;> rw [h1] <;> rfl
/-- The sign of a row at a mask. -/
def chi (r w : Nat) : Int := M.sgn (M.pop 16 (r &&& w))
theorem chi_asked : ∀ a, a < 16 → ∀ r, r < 16 → ∀ w, w < 16 → chi a w * chi r w = chi (a ^^^ r) w := by decide +kernel
theorem chi_sum : ∀ n, n < 5 → ∀ c, c < 2 ^ n → sm (fun w => chi c w) (2 ^ n) = if c = 0 then ((2 ^ n : Nat) : Int) else 0 := by decide +kernel
theorem chi_zero (w : Nat) : chi 0 w = 1 := by unfold chi; rw [Nat.zero_and]; rfl
/-- The number of the spectrum at w. -/
def spw (n b w : Nat) : Int := sm (fun r => M.sgn (M.atN b r) * chi r w) (2 ^ n)
theorem spw_part (n b w : Nat) : M.part (M.spc b) w (2 ^ n) = spw n b w := by
  rw [part_sm]
  exact sm_congr _ _ _ fun r _ => by unfold M.spc chi; rw [sgn_add]
/-- The correlation at a. -/
def cow (n b a : Nat) : Int := sm (fun r => M.sgn (M.atN b r) * M.sgn (M.atN b (r ^^^ a))) (2 ^ n)
theorem cow_part (n b a : Nat) : M.part (M.cor b) a (2 ^ n) = cow n b a := by
  rw [part_sm]
  exact sm_congr _ _ _ fun r _ => by unfold M.cor; rw [sgn_add]
theorem mul4 (a b c d e : Int) : a * (b * c) * (d * e) = (b * d) * (a * c * e) := by
  rw [Int.mul_comm a (b * c), Int.mul_assoc b c a, Int.mul_assoc, ← Int.mul_assoc (c * a) d e, Int.mul_comm (c * a) d, Int.mul_assoc d, ← Int.mul_assoc b d, Int.mul_comm c a]
theorem wiener (n b a : Nat) (hn : n ≤ 4) (ha : a < 2 ^ n) : sm (fun w => chi a w * spw n b w * spw n b w) (2 ^ n) = ((2 ^ n : Nat) : Int) * cow n b a := by
  have h16 := M.pow_le16 hn
  have e1 : ∀ w, w < 2 ^ n → chi a w * spw n b w * spw n b w = sm (fun r => sm (fun s => (M.sgn (M.atN b r) * M.sgn (M.atN b s)) * (chi ((a ^^^ r) ^^^ s) w)) (2 ^ n)) (2 ^ n) := by
    intro w hw
    have e2 : chi a w * spw n b w = sm (fun r => chi a w * (M.sgn (M.atN b r) * chi r w)) (2 ^ n) := (sm_mul _ _ _).symm
    rw [e2, Int.mul_comm, ← sm_mul]
    refine sm_congr _ _ _ fun r hr => ?_
    rw [Int.mul_comm]
    unfold spw
    rw [← sm_mul]
    refine sm_congr _ _ _ fun s hs => ?_
    have hx : a ^^^ r < 2 ^ n := Nat.xor_lt_two_pow ha hr
    rw [mul4, chi_asked a (by omega) r (by omega) w (by omega), chi_asked _ (by omega) s (by omega) w (by omega)]
  rw [sm_congr _ _ _ e1, sm_swap]
  have e3 : ∀ r, r < 2 ^ n → sm (fun w => sm (fun s => (M.sgn (M.atN b r) * M.sgn (M.atN b s)) * (chi ((a ^^^ r) ^^^ s) w)) (2 ^ n)) (2 ^ n) = ((2 ^ n : Nat) : Int) * (M.sgn (M.atN b r) * M.sgn (M.atN b (r ^^^ a))) := by
    intro r hr
    have hx : r ^^^ a < 2 ^ n := Nat.xor_lt_two_pow hr ha
    rw [sm_swap, sm_one _ (r ^^^ a) _ hx]
    · rw [sm_mul, Nat.xor_comm a r, Nat.xor_self, chi_sum n (by omega) 0 (by omega), if_pos rfl, Int.mul_comm]
    · intro s hs hne
      have hx2 : (a ^^^ r) ^^^ s < 2 ^ n := Nat.xor_lt_two_pow (Nat.xor_lt_two_pow ha hr) hs
      rw [sm_mul, chi_sum n (by omega) _ hx2, if_neg, Int.mul_zero]
      intro h0
      apply hne
      have : (a ^^^ r) ^^^ ((a ^^^ r) ^^^ s) = (a ^^^ r) ^^^ 0 := by rw [h0]
      rw [← Nat.xor_assoc, Nat.xor_self, Nat.zero_xor, Nat.xor_zero, Nat.xor_comm a r] at this
      exact this
  rw [sm_congr _ _ _ e3, sm_mul]
  rfl
theorem cow_zero (n b : Nat) : cow n b 0 = ((2 ^ n : Nat) : Int) := by
  unfold cow
  rw [sm_congr _ (fun _ => 1) _ (fun r _ => by rw [Nat.xor_zero, sgn_sq]), sm_const, Int.mul_one]
theorem parseval (n b : Nat) (hn : n ≤ 4) : sm (fun w => spw n b w * spw n b w) (2 ^ n) = ((2 ^ n : Nat) : Int) * ((2 ^ n : Nat) : Int) := by
  have h := wiener n b 0 hn (Nat.lt_of_lt_of_le Nat.zero_lt_one (M.pow_pos n))
  rw [cow_zero] at h
  rw [← h]
  exact sm_congr _ _ _ fun w _ => by rw [chi_zero, Int.one_mul]
theorem bent_cow (n b a : Nat) (hn : n ≤ 4) (ha : a < 2 ^ n) (h0 : a ≠ 0) (h : ∀ w, w < 2 ^ n → spw n b w * spw n b w = spw n b 0 * spw n b 0) : cow n b a = 0 := by
  have hp := M.pow_pos n
  have hw := wiener n b a hn ha
  have e : sm (fun w => chi a w * spw n b w * spw n b w) (2 ^ n) = sm (fun w => (spw n b 0 * spw n b 0) * chi a w) (2 ^ n) :=
    sm_congr _ _ _ fun w hw => by rw [Int.mul_assoc, h w hw, Int.mul_comm]
  rw [e, sm_mul, chi_sum n (by omega) a ha, if_neg h0, Int.mul_zero] at hw
  rcases Int.mul_eq_zero.1 hw.symm with h1 | h1
  · omega
  · exact h1
/-- The spectrum at 0 is the number of rows less twice the weight. -/
theorem spw_zero (n b : Nat) : spw n b 0 = ((2 ^ n : Nat) : Int) - 2 * ((M.pop (2 ^ n) b : Nat) : Int) := by
  have h : ∀ m, sm (fun r => M.sgn (M.atN b r) * chi r 0) m = (m : Int) - 2 * ((M.pop m b : Nat) : Int) := by
    intro m
    induction m with
    | zero => rfl
    | succ m ih =>
      have e : M.pop (m + 1) b = M.pop m b + M.atN b m := by simp [M.pop, List.range_succ]
      have h1 := M.atN_le b m
      have e2 : chi m 0 = 1 := by unfold chi; rw [Nat.and_zero]; rfl
      simp only [sm]
      rw [ih, e, e2, Int.mul_one]
      unfold M.sgn
      omega
  exact h _
/-- The numbers of the spectrum are even or odd as the number of rows is. -/
theorem spw_even (n b w : Nat) : ∃ t : Int, spw n b w = ((2 ^ n : Nat) : Int) - 2 * t := by
  have h : ∀ m, ∃ t : Int, sm (fun r => M.sgn (M.atN b r) * chi r w) m = (m : Int) - 2 * t := by
    intro m
    induction m with
    | zero => exact ⟨0, rfl⟩
    | succ m ih =>
      obtain ⟨t, ht⟩ := ih
      simp only [sm]
      rw [ht]
      unfold chi
      rw [← sgn_add]
      unfold M.sgn
      exact ⟨t + (((M.atN b m + M.pop 16 (m &&& w)) % 2 : Nat) : Int), by omega⟩
  exact h _
end Go.Proofs.Ytdhfbgbclibagaa.Pure
