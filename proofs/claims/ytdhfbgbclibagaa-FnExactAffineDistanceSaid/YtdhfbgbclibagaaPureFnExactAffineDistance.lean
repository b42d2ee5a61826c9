/- The pure statement of the law FnExactAffineDistance: the functions that the program's text comes to answer true at every input. -/
import Derived.Test.YtdhfbgbclibagaaPx1
import Derived.Test.YtdhfbgbclibagaaPx7
import Derived.Test.YtdhfbgbclibagaaPx8
import Derived.Test.YtdhfbgbclibagaaPx16
import Derived.Test.YtdhfbgbclibagaaLBase
import Derived.Test.YtdhfbgbclibagaaLSize
import Derived.Test.YtdhfbgbclibagaaLSpec
import Derived.Test.YtdhfbgbclibagaaLEnds
namespace Go.Proofs.Ytdhfbgbclibagaa.Pure
open Go.RowKit Go.Proofs.Ytdhfbgbclibagaa.P Go.Proofs.YtdhfbgbclibagaaW.PrintWords Go.Proofs.YtdhfbgbclibagaaW.PrintLast Go.Proofs.YtdhfbgbclibagaaW.PrintMore
set_option linter.unusedVariables false
set_option linter.unusedSimpArgs false
theorem adist_loop (n : Nat) (hn : n ≤ 4) (b : Int) (l : List Int) (hlen : l.length ≤ 16) (hl : ∀ i : Nat, -16 ≤ rd l (i : Int) ∧ rd l (i : Int) ≤ 16) (d : Nat) : ∀ (k i : Nat), i + d = l.length → d < k →
    impl_AffineDistance.l0 k (hiN l i) l (l.length : Int) (i : Int) (n : Int) b = some (wrap64 (Int.tdiv (wrap64 (((2 ^ n : Nat) : Int) - hiN l l.length)) 2), 0) := by
  induction d with
  | zero =>
    intro k i hi hk
    obtain ⟨k, rfl⟩ : ∃ m, k = m + 1 := ⟨k - 1, by omega⟩
    obtain rfl : i = l.length := by omega
    simp only [impl_AffineDistance.l0]
    rw [if_neg (by omega), Func_rows_eq n _ hn]; rfl
  | succ d ih =>
    intro k i hi hk
    obtain ⟨k, rfl⟩ : ∃ m, k = m + 1 := ⟨k - 1, by omega⟩
    have hv := hl i
    simp only [impl_AffineDistance.l0]
    rw [if_pos (by omega), if_pos (by omega), if_pos (by omega), M.w64_in (-_) (by omega) (by omega), M.w64_in ((i : Int) + 1) (by omega) (by omega)]
    exact ih k (i + 1) (by omega) (by omega)
theorem FnExactAffineDistance : ∀ (a0_0 : Int) (a0_1 : Int), (Lit.int .i64 a0_0).wf = true → (Lit.int .i64 a0_1).wf = true → ∃ k, laws_FnExactAffineDistance.f k a0_0 a0_1 = some true := by
  intro n b _ _
  have e : ∃ r, spec_AffineDistance.f 400 n b = some r ∧ impl_AffineDistance.f 400 n b = some r := by
    unfold spec_AffineDistance.f impl_AffineDistance.f
    rw [is_eq, isFunc_eq]
    simp only [Option.bind_some]
    by_cases hv : M.valid n b = true
    · rw [if_pos hv, if_pos hv]
      obtain ⟨m, c, hm, hc, rfl, rfl⟩ := (M.valid_iff _ _).1 hv
      have h16 := M.pow_le16 hm
      have hlen := M.sumL_length (2 ^ m) (M.spc c) (2 ^ m)
      have := adist_loop m hm (c : Int) (M.sumL (2 ^ m) (M.spc c) (2 ^ m)) (by omega) (sumL_in _ h16 _ (spc_le c) _) (2 ^ m) 400 0 (by omega) (by omega)
      rw [ispectrum_eq m c hv, Option.bind_some, ends_eq m c hm (Nat.lt_trans (M.bits_lt hm hc) (by decide)), Option.bind_some, rows_eq m hm]
      rw [hlen] at this ⊢
      exact ⟨_, rfl, this⟩
    · rw [if_neg hv, if_neg hv]
      exact ⟨_, rfl, rfl⟩
  obtain ⟨⟨r1, r2⟩, h1, h2⟩ := e
  refine ⟨400, ?_⟩
  unfold laws_FnExactAffineDistance.f laws_toFunc.f
  simp only [Option.bind_some]
  rw [h1, h2]
  simp

end Go.Proofs.Ytdhfbgbclibagaa.Pure
