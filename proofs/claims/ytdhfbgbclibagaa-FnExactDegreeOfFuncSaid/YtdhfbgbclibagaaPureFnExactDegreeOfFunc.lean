/- The pure statement of the law FnExactDegreeOfFunc: the functions that the program's text comes to answer true at every input. -/
import Derived.Test.YtdhfbgbclibagaaPx1
import Derived.Test.YtdhfbgbclibagaaPx7
import Derived.Test.YtdhfbgbclibagaaPx13
import Derived.Test.YtdhfbgbclibagaaPx20
import Derived.Test.YtdhfbgbclibagaaLBase
import Derived.Test.YtdhfbgbclibagaaLCnt
import Derived.Test.YtdhfbgbclibagaaLSize
import Derived.Test.YtdhfbgbclibagaaLPoly
namespace Go.Proofs.Ytdhfbgbclibagaa.Pure
open Go.RowKit Go.Proofs.Ytdhfbgbclibagaa.P Go.Proofs.YtdhfbgbclibagaaW.PrintWords Go.Proofs.YtdhfbgbclibagaaW.PrintLast Go.Proofs.YtdhfbgbclibagaaW.PrintMore
set_option linter.unusedVariables false
set_option linter.unusedSimpArgs false
/-- The degree that the coefficients below w tell. -/
def dgr (n b : Nat) : Nat → Int
  | 0 => 0
  | w + 1 => if M.psum b w (2 ^ n) = 1 then mx (dgr n b w) ((M.pop 16 w : Nat) : Int) else dgr n b w
theorem sdeg_loop (n b : Nat) (hn : n ≤ 4) (d : Nat) : ∀ (k w : Nat), w + d = 2 ^ n → d + 20 < k →
    spec_l03Degree.l0 k (cofL n b (2 ^ n)) (dgr n b w) (w : Int) = some (dgr n b (2 ^ n)) := by
  have h16 := M.pow_le16 hn
  have hlen := cofL_len n b (2 ^ n)
  induction d with
  | zero =>
    intro k r hr hk
    obtain ⟨k, rfl⟩ : ∃ m, k = m + 1 := ⟨k - 1, by omega⟩
    obtain rfl : r = 2 ^ n := by omega
    simp only [spec_l03Degree.l0]; rw [if_neg (by omega)]
  | succ d ih =>
    intro k r hr hk
    obtain ⟨k, rfl⟩ : ∃ m, k = m + 1 := ⟨k - 1, by omega⟩
    have step := ih k (r + 1) (by omega) (by omega)
    have hrd : rd (cofL n b (2 ^ n)) (r : Int) = ((M.psum b r (2 ^ n) : Nat) : Int) := M.lis_rd _ _ r (by omega)
    simp only [dgr] at step
    simp only [spec_l03Degree.l0]
    rw [if_pos (by omega), if_pos (by omega), hrd, M.w64_in ((r : Int) + 1) (by omega) (by omega)]
    by_cases h : M.psum b r (2 ^ n) = 1
    · rw [if_pos h] at step
      rw [if_pos (by omega), size_eq r (by omega) k (by omega), Option.bind_some]
      exact step
    · rw [if_neg h] at step
      rw [if_neg (by omega)]
      exact step
theorem ideg_loop (n b : Nat) (hn : n ≤ 4) (d : Nat) : ∀ (k w : Nat), w + d = 2 ^ n → d < k →
    impl_DegreeOfFunc.l0 k ((M.polN n b : Nat) : Int) (dgr n b w) ((2 ^ n : Nat) : Int) (w : Int) = some (dgr n b (2 ^ n), 0) := by
  have h16 := M.pow_le16 hn
  have hp6 : M.polN n b < 2 ^ 62 := Nat.lt_trans (M.bits_lt hn (M.polN_lt n b)) (by decide)
  induction d with
  | zero =>
    intro k r hr hk
    obtain ⟨k, rfl⟩ : ∃ m, k = m + 1 := ⟨k - 1, by omega⟩
    obtain rfl : r = 2 ^ n := by omega
    simp only [impl_DegreeOfFunc.l0]; rw [if_neg (by omega)]
  | succ d ih =>
    intro k r hr hk
    obtain ⟨k, rfl⟩ : ∃ m, k = m + 1 := ⟨k - 1, by omega⟩
    have step := ih k (r + 1) (by omega) (by omega)
    simp only [dgr] at step
    simp only [impl_DegreeOfFunc.l0]
    rw [if_pos (by omega), bit_eq _ r hp6 (by omega), Option.bind_some, polN_at n b r (by omega), M.w64_in ((r : Int) + 1) (by omega) (by omega)]
    by_cases h : M.psum b r (2 ^ n) = 1
    · rw [if_pos h] at step
      rw [if_pos (by omega), ones_eq r (by omega), Option.bind_some]
      exact step
    · rw [if_neg h] at step
      rw [if_neg (by omega)]
      exact step
theorem FnExactDegreeOfFunc : ∀ (a0_0 : Int) (a0_1 : Int), (Lit.int .i64 a0_0).wf = true → (Lit.int .i64 a0_1).wf = true → ∃ k, laws_FnExactDegreeOfFunc.f k a0_0 a0_1 = some true := by
  intro n b _ _
  have e : ∃ r, spec_DegreeOfFunc.f 400 n b = some r ∧ impl_DegreeOfFunc.f 400 n b = some r := by
    unfold spec_DegreeOfFunc.f impl_DegreeOfFunc.f
    rw [is_eq, isFunc_eq]
    simp only [Option.bind_some]
    by_cases hv : M.valid n b = true
    · rw [if_pos hv, if_pos hv]
      obtain ⟨m, c, hm, hc, rfl, rfl⟩ := (M.valid_iff _ _).1 hv
      have h16 := M.pow_le16 hm
      unfold spec_l03Degree.f
      rw [poly_eq m c hm (Nat.lt_trans (M.bits_lt hm hc) (by decide)) 400 (by omega), ipoly_eq m c hv, Func_rows_eq m _ hm]
      simp only [Option.bind_some]
      have e1 := sdeg_loop m c hm (2 ^ m) 400 0 (by omega) (by omega)
      have e2 := ideg_loop m c hm (2 ^ m) 400 0 (by omega) (by omega)
      rw [Int.natCast_zero] at e1 e2
      erw [e1]
      exact ⟨_, rfl, e2⟩
    · rw [if_neg hv, if_neg hv]
      exact ⟨_, rfl, rfl⟩
  obtain ⟨⟨r1, r2⟩, h1, h2⟩ := e
  refine ⟨400, ?_⟩
  unfold laws_FnExactDegreeOfFunc.f laws_toFunc.f
  simp only [Option.bind_some]
  rw [h1, h2]
  simp

end Go.Proofs.Ytdhfbgbclibagaa.Pure
