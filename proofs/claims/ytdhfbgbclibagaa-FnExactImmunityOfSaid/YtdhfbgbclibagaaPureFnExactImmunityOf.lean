/- The pure statement of the law FnExactImmunityOf: the functions that the program's text comes to answer true at every input. -/
import Derived.Test.YtdhfbgbclibagaaPx1
import Derived.Test.YtdhfbgbclibagaaPx7
import Derived.Test.YtdhfbgbclibagaaPx8
import Derived.Test.YtdhfbgbclibagaaPx15
import Derived.Test.YtdhfbgbclibagaaLBase
import Derived.Test.YtdhfbgbclibagaaLCnt
import Derived.Test.YtdhfbgbclibagaaLSize
import Derived.Test.YtdhfbgbclibagaaLSpec
namespace Go.Proofs.Ytdhfbgbclibagaa.Pure
open Go.RowKit Go.Proofs.Ytdhfbgbclibagaa.P Go.Proofs.YtdhfbgbclibagaaW.PrintWords Go.Proofs.YtdhfbgbclibagaaW.PrintLast Go.Proofs.YtdhfbgbclibagaaW.PrintMore
set_option linter.unusedVariables false
set_option linter.unusedSimpArgs false
/-- What the rows below w tell. -/
def imm (n : Int) (l : List Int) : Nat → Int
  | 0 => n
  | w + 1 => if 0 < w then (if rd l (w : Int) = 0 then imm n l w else mn (imm n l w) (((M.pop 16 w : Nat) : Int) - 1)) else imm n l w
theorem simm_loop (n : Int) (l : List Int) (hlen : l.length ≤ 16) (d : Nat) : ∀ (k w : Nat), w + d = l.length → 0 < w → d + 20 < k →
    spec_ImmunityOf.l0 k l (imm n l w) (w : Int) = some (imm n l l.length, 0) := by
  induction d with
  | zero =>
    intro k r hr h0 hk
    obtain ⟨k, rfl⟩ : ∃ m, k = m + 1 := ⟨k - 1, by omega⟩
    obtain rfl : r = l.length := by omega
    simp only [spec_ImmunityOf.l0]; rw [if_neg (by omega)]
  | succ d ih =>
    intro k r hr h0 hk
    obtain ⟨k, rfl⟩ : ∃ m, k = m + 1 := ⟨k - 1, by omega⟩
    have step := ih k (r + 1) (by omega) (by omega) (by omega)
    have hp := M.pop_le16 r
    simp only [imm] at step
    rw [if_pos h0] at step
    simp only [spec_ImmunityOf.l0]
    rw [if_pos (by omega), if_pos (by omega), M.w64_in ((r : Int) + 1) (by omega) (by omega)]
    by_cases h : rd l (r : Int) = 0
    · rw [if_pos h] at step
      rw [if_pos h]
      exact step
    · rw [if_neg h] at step
      rw [if_neg h, size_eq r (by omega) k (by omega), Option.bind_some, M.w64_in _ (by omega) (by omega)]
      exact step
theorem iimm_loop (n : Int) (l : List Int) (hlen : l.length ≤ 16) (d : Nat) : ∀ (k w : Nat), w + d = l.length → d < k →
    impl_ImmunityOf.l0 k (imm n l w) l (l.length : Int) (w : Int) = some (imm n l l.length, 0) := by
  induction d with
  | zero =>
    intro k r hr hk
    obtain ⟨k, rfl⟩ : ∃ m, k = m + 1 := ⟨k - 1, by omega⟩
    obtain rfl : r = l.length := by omega
    simp only [impl_ImmunityOf.l0]; rw [if_neg (by omega)]
  | succ d ih =>
    intro k r hr hk
    obtain ⟨k, rfl⟩ : ∃ m, k = m + 1 := ⟨k - 1, by omega⟩
    have step := ih k (r + 1) (by omega) (by omega)
    have hp := M.pop_le16 r
    simp only [imm] at step
    simp only [impl_ImmunityOf.l0]
    rw [if_pos (by omega), if_pos (by omega), if_pos (by omega), M.w64_in ((r : Int) + 1) (by omega) (by omega)]
    by_cases h0 : 0 < r
    · rw [if_pos h0] at step
      rw [if_pos (by omega)]
      by_cases h : rd l (r : Int) = 0
      · rw [if_pos h] at step
        rw [if_pos h]
        exact step
      · rw [if_neg h] at step
        rw [if_neg h, ones_eq r (by omega), Option.bind_some, M.w64_in _ (by omega) (by omega)]
        exact step
    · rw [if_neg h0] at step
      rw [if_neg (by omega)]
      exact step
theorem FnExactImmunityOf : ∀ (a0_0 : Int) (a0_1 : Int), (Lit.int .i64 a0_0).wf = true → (Lit.int .i64 a0_1).wf = true → ∃ k, laws_FnExactImmunityOf.f k a0_0 a0_1 = some true := by
  intro n b _ _
  have e : ∃ r, spec_ImmunityOf.f 400 n b = some r ∧ impl_ImmunityOf.f 400 n b = some r := by
    unfold spec_ImmunityOf.f impl_ImmunityOf.f
    rw [is_eq, isFunc_eq]
    simp only [Option.bind_some]
    by_cases hv : M.valid n b = true
    · rw [if_pos hv, if_pos hv]
      obtain ⟨m, c, hm, hc, rfl, rfl⟩ := (M.valid_iff _ _).1 hv
      have h16 := M.pow_le16 hm
      have hp := M.pow_pos m
      have hlen := M.sumL_length (2 ^ m) (M.spc c) (2 ^ m)
      rw [ispectrum_eq m c hv, Option.bind_some, spectrum_eq m c hm (Nat.lt_trans (M.bits_lt hm hc) (by decide)) 400 (by omega), Option.bind_some]
      have e1 := simm_loop (m : Int) (M.sumL (2 ^ m) (M.spc c) (2 ^ m)) (by omega) (2 ^ m - 1) 400 1 (by omega) (by omega) (by omega)
      have e2 := iimm_loop (m : Int) (M.sumL (2 ^ m) (M.spc c) (2 ^ m)) (by omega) (2 ^ m) 400 0 (by omega) (by omega)
      have e0 : imm (m : Int) (M.sumL (2 ^ m) (M.spc c) (2 ^ m)) 1 = (m : Int) := by simp [imm]
      rw [e0] at e1
      exact ⟨_, e1, e2⟩
    · rw [if_neg hv, if_neg hv]
      exact ⟨_, rfl, rfl⟩
  obtain ⟨⟨r1, r2⟩, h1, h2⟩ := e
  refine ⟨400, ?_⟩
  unfold laws_FnExactImmunityOf.f laws_toFunc.f
  simp only [Option.bind_some]
  rw [h1, h2]
  simp

end Go.Proofs.Ytdhfbgbclibagaa.Pure
