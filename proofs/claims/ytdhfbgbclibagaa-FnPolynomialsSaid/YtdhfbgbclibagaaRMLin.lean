/- Functions of digits that are linear modulo 2: polynomials lead back, derivatives have a lesser degree. No program in sight. -/
import Derived.Test.YtdhfbgbclibagaaROx0
import Derived.Test.YtdhfbgbclibagaaROx1
import Derived.Test.YtdhfbgbclibagaaROx2
import Derived.Test.YtdhfbgbclibagaaRMBase
namespace Go.Proofs.Ytdhfbgbclibagaa.Pure
open Go.RowKit Go.Proofs.Ytdhfbgbclibagaa.P Go.Proofs.YtdhfbgbclibagaaW.PrintWords Go.Proofs.YtdhfbgbclibagaaW.PrintLast Go.Proofs.YtdhfbgbclibagaaW.PrintMore
set_option linter.unusedVariables false
set_option linter.unusedSimpArgs false
theorem atN_bit (b r : Nat) : M.atN b r = (b.testBit r).toNat := (Nat.toNat_testBit b r).symm
theorem atN_xor (b c r : Nat) : M.atN (b ^^^ c) r = M.atN b r ^^^ M.atN c r := by
  rw [atN_bit, atN_bit, atN_bit, Nat.testBit_xor]
  cases b.testBit r <;> cases c.testBit r <;> rfl
theorem xor_swap (a b c d : Nat) : (a ^^^ b) ^^^ (c ^^^ d) = (a ^^^ c) ^^^ (b ^^^ d) := by
  rw [Nat.xor_assoc, ← Nat.xor_assoc b c d, Nat.xor_comm b c, Nat.xor_assoc c b d, ← Nat.xor_assoc]
theorem psum_xor (b c w : Nat) : ∀ r, M.psum (b ^^^ c) w r = M.psum b w r ^^^ M.psum c w r
  | 0 => by simp [M.psum]
  | r + 1 => by
    simp only [M.psum]
    split
    · rw [psum_xor b c w r, atN_xor, xor_swap]
    · exact psum_xor b c w r
theorem tab_xor (m : Nat) (h g : Nat → Nat) (hh : ∀ r, r < m → h r ≤ 1) (hg : ∀ r, r < m → g r ≤ 1) : M.tab m (fun r => h r ^^^ g r) = M.tab m h ^^^ M.tab m g := by
  have hx : ∀ r, r < m → h r ^^^ g r ≤ 1 := fun r hr => M.xor_le1 _ _ (hh r hr) (hg r hr)
  refine M.at_ext m _ _ (M.tab_lt m _ hx) (Nat.xor_lt_two_pow (M.tab_lt m _ hh) (M.tab_lt m _ hg)) fun r hr => ?_
  rw [M.tab_at m _ hx r hr, atN_xor, M.tab_at m _ hh r hr, M.tab_at m _ hg r hr]
theorem polN_xor (n b c : Nat) : M.polN n (b ^^^ c) = M.polN n b ^^^ M.polN n c := by
  unfold M.polN
  rw [← tab_xor _ _ _ (fun _ _ => M.psum_le _ _ _) (fun _ _ => M.psum_le _ _ _)]
  exact M.tab_congr _ _ _ fun w _ => psum_xor b c w _
theorem derN_xor (n b c a : Nat) : M.derN n (b ^^^ c) a = M.derN n b a ^^^ M.derN n c a := by
  unfold M.derN
  rw [← tab_xor _ _ _ (fun _ _ => M.der_le _ _ _) (fun _ _ => M.der_le _ _ _)]
  refine M.tab_congr _ _ _ fun r _ => ?_
  rw [atN_xor, atN_xor, xor_swap]
theorem xor_top (m c : Nat) (h : c < 2 ^ m) : 2 ^ m ^^^ c = 2 ^ m + c := by
  apply Nat.eq_of_testBit_eq
  intro i
  rw [Nat.testBit_xor]
  by_cases e : i = m
  · subst e
    rw [Nat.testBit_two_pow_add_eq, Nat.testBit_two_pow_self, Bool.true_xor]
  · by_cases l : i < m
    · rw [Nat.testBit_two_pow_add_gt l, Nat.testBit_two_pow_of_ne (by omega), Bool.false_xor]
    · have h1 : 2 ^ (m + 1) ≤ 2 ^ i := M.pow2_le (by omega)
      rw [Nat.pow_succ] at h1
      rw [Nat.testBit_two_pow_of_ne (by omega), Bool.false_xor, Nat.testBit_lt_two_pow (show c < 2 ^ i by omega), Nat.testBit_lt_two_pow (show 2 ^ m + c < 2 ^ i by omega)]
theorem top_cases (m b : Nat) (h : b < 2 ^ (m + 1)) : b < 2 ^ m ∨ ∃ c, c < 2 ^ m ∧ b = 2 ^ m ^^^ c ∧ b = 2 ^ m + c := by
  rw [Nat.pow_succ] at h
  by_cases l : b < 2 ^ m
  · exact .inl l
  · refine .inr ⟨b - 2 ^ m, by omega, ?_, by omega⟩
    rw [xor_top m _ (by omega)]; omega
theorem lin_zero (f : Nat → Nat) (hf : ∀ x y, f (x ^^^ y) = f x ^^^ f y) : f 0 = 0 := by
  have := hf 0 0
  rw [Nat.xor_self, Nat.xor_self] at this
  exact this
theorem lin_ext (f g : Nat → Nat) (hf : ∀ x y, f (x ^^^ y) = f x ^^^ f y) (hg : ∀ x y, g (x ^^^ y) = g x ^^^ g y) : ∀ m, (∀ r, r < m → f (2 ^ r) = g (2 ^ r)) → ∀ b, b < 2 ^ m → f b = g b
  | 0, _, b, hb => by
    obtain rfl : b = 0 := by simpa using hb
    rw [lin_zero f hf, lin_zero g hg]
  | m + 1, h, b, hb => by
    have ih := lin_ext f g hf hg m (fun r hr => h r (by omega))
    rcases top_cases m b hb with l | ⟨c, hc, e, _⟩
    · exact ih b l
    · rw [e, hf, hg, h m (by omega), ih c hc]
theorem lin_some (f : Nat → Nat) (hf : ∀ x y, f (x ^^^ y) = f x ^^^ f y) : ∀ m b, b < 2 ^ m → f b ≠ 0 → ∃ w, w < m ∧ M.atN b w = 1 ∧ f (2 ^ w) ≠ 0
  | 0, b, hb, h => by
    obtain rfl : b = 0 := by simpa using hb
    exact absurd (lin_zero f hf) h
  | m + 1, b, hb, h => by
    rcases top_cases m b hb with l | ⟨c, hc, e, e2⟩
    · obtain ⟨w, hw, h1, h2⟩ := lin_some f hf m b l h
      exact ⟨w, by omega, h1, h2⟩
    · by_cases hm : f (2 ^ m) = 0
      · have hc2 : f c ≠ 0 := by
          intro h0
          rw [e, hf, hm, h0] at h
          exact h rfl
        obtain ⟨w, hw, h1, h2⟩ := lin_some f hf m c hc hc2
        refine ⟨w, by omega, ?_, h2⟩
        rw [e2, atN_bit, Nat.testBit_two_pow_add_gt hw, ← atN_bit]; exact h1
      · refine ⟨m, by omega, ?_, hm⟩
        rw [e2, atN_bit, Nat.testBit_two_pow_add_eq, Nat.testBit_lt_two_pow hc]; rfl
theorem pol_asked : ∀ n, n < 5 → ∀ r, r < 2 ^ n → M.polN n (M.polN n (2 ^ r)) = 2 ^ r := by decide +kernel
theorem pol_pol (n b : Nat) (hn : n ≤ 4) (hb : b < 2 ^ 2 ^ n) : M.polN n (M.polN n b) = b :=
  lin_ext (fun x => M.polN n (M.polN n x)) (fun x => x) (fun x y => by simp only [polN_xor]) (fun _ _ => rfl) (2 ^ n) (fun r hr => pol_asked n (by omega) r hr) b hb
/-- The rows of at least as many variables as a row has. -/
def above (n w : Nat) : Nat := M.tab (2 ^ n) (fun q => if M.pop 16 q < M.pop 16 w then 0 else 1)
theorem der_asked : ∀ n, n < 5 → ∀ w, w < 2 ^ n → ∀ a, a < 2 ^ n → M.polN n (M.derN n (M.polN n (2 ^ w)) a) &&& above n w = 0 := by decide +kernel
theorem der_low (n b a q : Nat) (hn : n ≤ 4) (hb : b < 2 ^ 2 ^ n) (ha : a < 2 ^ n) (hq : q < 2 ^ n) (h : M.psum (M.derN n b a) q (2 ^ n) = 1) :
    ∃ w, w < 2 ^ n ∧ M.psum b w (2 ^ n) = 1 ∧ M.pop 16 q < M.pop 16 w := by
  have hpq := fun c => M.tab_at (2 ^ n) (fun w => M.psum c w (2 ^ n)) (fun _ _ => M.psum_le _ _ _)
  obtain ⟨w, hw, h1, h2⟩ := lin_some (fun p => M.psum (M.derN n (M.polN n p) a) q (2 ^ n)) (fun x y => by simp only [polN_xor, derN_xor, psum_xor]) (2 ^ n) (M.polN n b) (M.polN_lt n b) (by
    show M.psum (M.derN n (M.polN n (M.polN n b)) a) q (2 ^ n) ≠ 0
    rw [pol_pol n b hn hb, h]; decide)
  refine ⟨w, hw, ?_, ?_⟩
  · rw [← h1]; exact (hpq b w hw).symm
  · have hd := der_asked n (by omega) w hw a ha
    have h3 : M.atN (M.polN n (M.derN n (M.polN n (2 ^ w)) a)) q = 1 := by
      have e := hpq (M.derN n (M.polN n (2 ^ w)) a) q hq
      have hl := M.psum_le (M.derN n (M.polN n (2 ^ w)) a) q (2 ^ n)
      have h2' : M.psum (M.derN n (M.polN n (2 ^ w)) a) q (2 ^ n) ≠ 0 := h2
      rw [show M.atN (M.polN n (M.derN n (M.polN n (2 ^ w)) a)) q = M.psum (M.derN n (M.polN n (2 ^ w)) a) q (2 ^ n) from e]
      omega
    by_cases hp : M.pop 16 q < M.pop 16 w
    · exact hp
    · exfalso
      have e2 : M.atN (above n w) q = 1 := by
        unfold above
        rw [M.tab_at _ _ (fun r _ => by split <;> omega) q hq, if_neg hp]
      have e3 : M.atN (M.polN n (M.derN n (M.polN n (2 ^ w)) a) &&& above n w) q = 1 := by
        rw [atN_bit] at h3 e2 ⊢
        rw [Nat.testBit_and]
        cases hx : (M.polN n (M.derN n (M.polN n (2 ^ w)) a)).testBit q
        · rw [hx] at h3; simp at h3
        · cases hy : (above n w).testBit q
          · rw [hy] at e2; simp at e2
          · rfl
      rw [hd] at e3
      have : M.atN 0 q = 0 := by simp [M.atN]
      omega
/-- The degree that the coefficients below w tell. -/
def dgr (n b : Nat) : Nat → Int
  | 0 => 0
  | w + 1 => if M.psum b w (2 ^ n) = 1 then mx (dgr n b w) ((M.pop 16 w : Nat) : Int) else dgr n b w
theorem dgr_nonneg (n b : Nat) : ∀ w, 0 ≤ dgr n b w
  | 0 => Int.le_refl 0
  | w + 1 => by
    have := dgr_nonneg n b w
    simp only [dgr, mx]
    split
    · split <;> omega
    · exact this
theorem dgr_ge (n b : Nat) : ∀ w q, q < w → M.psum b q (2 ^ n) = 1 → ((M.pop 16 q : Nat) : Int) ≤ dgr n b w
  | 0, q, h, _ => by omega
  | w + 1, q, h, h1 => by
    simp only [dgr, mx]
    by_cases e : q = w
    · subst e
      rw [if_pos h1]
      split <;> omega
    · have := dgr_ge n b w q (by omega) h1
      split
      · split <;> omega
      · exact this
theorem dgr_le (n b : Nat) (X : Int) (hX : 0 ≤ X) : ∀ w, (∀ q, q < w → M.psum b q (2 ^ n) = 1 → ((M.pop 16 q : Nat) : Int) ≤ X) → dgr n b w ≤ X
  | 0, _ => hX
  | w + 1, h => by
    have ih := dgr_le n b X hX w (fun q hq h1 => h q (by omega) h1)
    simp only [dgr, mx]
    split
    · rename_i h1
      have := h w (by omega) h1
      split <;> omega
    · exact ih
theorem dgr_sum (n b c : Nat) : dgr n (b ^^^ c) (2 ^ n) ≤ dgr n b (2 ^ n) ∨ dgr n (b ^^^ c) (2 ^ n) ≤ dgr n c (2 ^ n) := by
  have key : ∀ X : Int, 0 ≤ X → dgr n b (2 ^ n) ≤ X → dgr n c (2 ^ n) ≤ X → dgr n (b ^^^ c) (2 ^ n) ≤ X := fun X hX h1 h2 => by
    refine dgr_le n _ X hX _ fun q hq h => ?_
    rw [psum_xor] at h
    by_cases hb : M.psum b q (2 ^ n) = 1
    · exact Int.le_trans (dgr_ge n b _ q hq hb) h1
    · have hc : M.psum c q (2 ^ n) = 1 := by
        have := M.psum_le b q (2 ^ n)
        have e : M.psum b q (2 ^ n) = 0 := by omega
        rw [e, Nat.zero_xor] at h; exact h
      exact Int.le_trans (dgr_ge n c _ q hq hc) h2
  have h0 := dgr_nonneg n b (2 ^ n)
  have h1 := dgr_nonneg n c (2 ^ n)
  by_cases h : dgr n b (2 ^ n) ≤ dgr n c (2 ^ n)
  · exact .inr (key _ h1 h (Int.le_refl _))
  · exact .inl (key _ h0 (Int.le_refl _) (by omega))
theorem dgr_der (n b a : Nat) (hn : n ≤ 4) (hb : b < 2 ^ 2 ^ n) (ha : a < 2 ^ n) : dgr n (M.derN n b a) (2 ^ n) = 0 ∨ dgr n (M.derN n b a) (2 ^ n) < dgr n b (2 ^ n) := by
  by_cases h0 : dgr n b (2 ^ n) ≤ 0
  · left
    have := dgr_nonneg n (M.derN n b a) (2 ^ n)
    have := dgr_le n (M.derN n b a) 0 (Int.le_refl 0) (2 ^ n) fun q hq h => by
      obtain ⟨w, hw, h1, h2⟩ := der_low n b a q hn hb ha hq h
      have := dgr_ge n b _ w hw h1
      omega
    omega
  · right
    have := dgr_le n (M.derN n b a) (dgr n b (2 ^ n) - 1) (by omega) (2 ^ n) fun q hq h => by
      obtain ⟨w, hw, h1, h2⟩ := der_low n b a q hn hb ha hq h
      have := dgr_ge n b _ w hw h1
      omega
    omega
theorem low_at (n b q : Nat) (hq : q < 2 ^ n) : M.atN (M.tab (2 ^ n) (M.lowC (M.polN n b))) q = M.lowC (M.polN n b) q := M.tab_at _ _ (fun _ _ => M.lowC_le _ _) q hq
theorem low_lt (n b : Nat) : M.tab (2 ^ n) (M.lowC (M.polN n b)) < 2 ^ 2 ^ n := M.tab_lt _ _ (fun _ _ => M.lowC_le _ _)
theorem aff_lt (n b : Nat) : M.affN n b < 2 ^ 2 ^ n := M.polN_lt _ _
theorem aff_dgr (n b : Nat) (hn : n ≤ 4) : dgr n (M.affN n b) (2 ^ n) ≤ 1 := by
  refine dgr_le n _ 1 (by decide) _ fun q hq h => ?_
  have e : M.atN (M.polN n (M.affN n b)) q = M.psum (M.affN n b) q (2 ^ n) := M.tab_at _ _ (fun _ _ => M.psum_le _ _ _) q hq
  unfold M.affN at e
  rw [pol_pol n _ hn (low_lt n b), low_at n b q hq] at e
  unfold M.affN at h
  rw [h] at e
  unfold M.lowC at e
  split at e
  · omega
  · omega
theorem aff_self (n b : Nat) (hn : n ≤ 4) (hb : b < 2 ^ 2 ^ n) (h : dgr n b (2 ^ n) < 2) : M.affN n b = b := by
  unfold M.affN
  have e : M.tab (2 ^ n) (M.lowC (M.polN n b)) = M.polN n b := by
    refine M.at_ext (2 ^ n) _ _ (low_lt n b) (M.polN_lt n b) fun q hq => ?_
    rw [low_at n b q hq]
    unfold M.lowC
    split
    · rename_i hp
      have e1 : M.atN (M.polN n b) q = M.psum b q (2 ^ n) := M.tab_at _ _ (fun _ _ => M.psum_le _ _ _) q hq
      have hl := M.psum_le b q (2 ^ n)
      by_cases h1 : M.psum b q (2 ^ n) = 1
      · have := dgr_ge n b _ q hq h1; omega
      · omega
    · rfl
  rw [e]
  exact pol_pol n b hn hb
end Go.Proofs.Ytdhfbgbclibagaa.Pure
