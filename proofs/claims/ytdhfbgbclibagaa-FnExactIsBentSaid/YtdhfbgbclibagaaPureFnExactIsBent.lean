/- The pure statement of the law FnExactIsBent: the functions that the program's text comes to answer true at every input. -/
import Derived.Test.YtdhfbgbclibagaaPx1
import Derived.Test.YtdhfbgbclibagaaPx7
import Derived.Test.YtdhfbgbclibagaaPx8
import Derived.Test.YtdhfbgbclibagaaPx16
import Derived.Test.YtdhfbgbclibagaaPx17
import Derived.Test.YtdhfbgbclibagaaLBase
import Derived.Test.YtdhfbgbclibagaaLSize
import Derived.Test.YtdhfbgbclibagaaLSpec
import Derived.Test.YtdhfbgbclibagaaLEnds
namespace Go.Proofs.Ytdhfbgbclibagaa.Pure
open Go.RowKit Go.Proofs.Ytdhfbgbclibagaa.P Go.Proofs.YtdhfbgbclibagaaW.PrintWords Go.Proofs.YtdhfbgbclibagaaW.PrintLast Go.Proofs.YtdhfbgbclibagaaW.PrintMore
set_option linter.unusedVariables false
set_option linter.unusedSimpArgs false
theorem bent_loop (l : List Int) (hlen : l.length ≤ 16) (hl : ∀ i : Nat, -16 ≤ rd l (i : Int) ∧ rd l (i : Int) ≤ 16) (d : Nat) : ∀ (k i : Nat), i + d = l.length → d < k →
    impl_IsBent.l0 k l l (l.length : Int) (i : Int) = some (decide (∀ q : Nat, q < l.length → i ≤ q → rd l (q : Int) * rd l (q : Int) = rd l 0 * rd l 0), 0) := by
  induction d with
  | zero =>
    intro k i hi hk
    obtain ⟨k, rfl⟩ : ∃ m, k = m + 1 := ⟨k - 1, by omega⟩
    obtain rfl : i = l.length := by omega
    simp only [impl_IsBent.l0]
    rw [if_neg (by omega), decide_eq_true (fun q h1 h2 => by omega)]
  | succ d ih =>
    intro k i hi hk
    obtain ⟨k, rfl⟩ : ∃ m, k = m + 1 := ⟨k - 1, by omega⟩
    have hv := hl i
    have h0 := hl 0
    have hs := ih k (i + 1) (by omega) (by omega)
    simp only [impl_IsBent.l0]
    rw [Int.natCast_zero] at h0
    rw [if_pos (by omega), if_pos (by omega), if_pos (by omega), if_pos (by omega), sq_in _ hv.1 hv.2, sq_in _ h0.1 h0.2, M.w64_in ((i : Int) + 1) (by omega) (by omega)]
    by_cases e : rd l (i : Int) * rd l (i : Int) = rd l 0 * rd l 0
    · rw [if_pos e]
      refine hs.trans ?_
      congr 2
      rw [decide_eq_decide]
      constructor
      · intro h q h1 h2
        by_cases c : q = i
        · subst c; exact e
        · exact h q h1 (by omega)
      · intro h q h1 h2
        exact h q h1 (by omega)
    · rw [if_neg e, decide_eq_false (fun h => e (h i (by omega) (Nat.le_refl _)))]
theorem FnExactIsBent : ∀ (a0_0 : Int) (a0_1 : Int), (Lit.int .i64 a0_0).wf = true → (Lit.int .i64 a0_1).wf = true → ∃ k, laws_FnExactIsBent.f k a0_0 a0_1 = some true := by
  intro n b _ _
  have e : ∃ r, spec_IsBent.f 400 n b = some r ∧ impl_IsBent.f 400 n b = some r := by
    unfold spec_IsBent.f impl_IsBent.f
    rw [is_eq, isFunc_eq]
    simp only [Option.bind_some]
    by_cases hv : M.valid n b = true
    · rw [if_pos hv, if_pos hv]
      obtain ⟨m, c, hm, hc, rfl, rfl⟩ := (M.valid_iff _ _).1 hv
      have h16 := M.pow_le16 hm
      have hp := M.pow_pos m
      have hlen := M.sumL_length (2 ^ m) (M.spc c) (2 ^ m)
      have hin := sumL_in (2 ^ m) h16 (M.spc c) (spc_le c) (2 ^ m)
      have := bent_loop (M.sumL (2 ^ m) (M.spc c) (2 ^ m)) (by omega) hin (2 ^ m) 400 0 (by omega) (by omega)
      rw [ispectrum_eq m c hv, Option.bind_some, ends_eq m c hm (Nat.lt_trans (M.bits_lt hm hc) (by decide)), Option.bind_some]
      refine ⟨_, rfl, this.trans ?_⟩
      congr 2
      rw [hlen, Bool.eq_iff_iff, decide_eq_true_eq, beq_iff_eq, ends_iff _ _ _ (by omega) hin]
      · constructor
        · intro h q hq; exact h q hq (Nat.zero_le _)
        · intro h q hq _; exact h q hq
      · intro i hi
        rw [sumL_rd _ _ _ _ hi]
        have := M.part_le (M.spc c) (spc_le c) i (2 ^ m)
        unfold sz; split <;> omega
    · rw [if_neg hv, if_neg hv]
      exact ⟨_, rfl, rfl⟩
  obtain ⟨⟨r1, r2⟩, h1, h2⟩ := e
  refine ⟨400, ?_⟩
  unfold laws_FnExactIsBent.f laws_toFunc.f
  simp only [Option.bind_some]
  rw [h1, h2]
  simp

end Go.Proofs.Ytdhfbgbclibagaa.Pure
