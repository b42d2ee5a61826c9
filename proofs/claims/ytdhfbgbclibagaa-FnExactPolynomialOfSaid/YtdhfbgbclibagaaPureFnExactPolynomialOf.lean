/- The pure statement of the law FnExactPolynomialOf: the functions that the program's text comes to answer true at every input. -/
import Derived.Test.YtdhfbgbclibagaaPx1
import Derived.Test.YtdhfbgbclibagaaPx3
import Derived.Test.YtdhfbgbclibagaaPx5
import Derived.Test.YtdhfbgbclibagaaPx7
import Derived.Test.YtdhfbgbclibagaaPx13
import Derived.Test.YtdhfbgbclibagaaPx14
import Derived.Test.YtdhfbgbclibagaaLBase
import Derived.Test.YtdhfbgbclibagaaLPoly
import Derived.Test.YtdhfbgbclibagaaLLists
namespace Go.Proofs.Ytdhfbgbclibagaa.Pure
open Go.RowKit Go.Proofs.Ytdhfbgbclibagaa.P Go.Proofs.YtdhfbgbclibagaaW.PrintWords Go.Proofs.YtdhfbgbclibagaaW.PrintLast Go.Proofs.YtdhfbgbclibagaaW.PrintMore
set_option linter.unusedVariables false
set_option linter.unusedSimpArgs false
theorem unp_loop (m p : Nat) (h16 : m ≤ 16) (hp : p < 2 ^ 62) (d : Nat) : ∀ (k r : Nat), r + d = m → d < k →
    impl_unpacked.l0 k (p : Int) (M.lis r (M.atN p)) (m : Int) (r : Int) = some (M.lis m (M.atN p)) := by
  induction d with
  | zero =>
    intro k r hr hk
    obtain ⟨k, rfl⟩ : ∃ m, k = m + 1 := ⟨k - 1, by omega⟩
    obtain rfl : r = m := by omega
    simp only [impl_unpacked.l0]; rw [if_neg (by omega)]
  | succ d ih =>
    intro k r hr hk
    obtain ⟨k, rfl⟩ : ∃ m, k = m + 1 := ⟨k - 1, by omega⟩
    have hl := M.lis_length r (M.atN p)
    have step := ih k (r + 1) (by omega) (by omega)
    rw [M.lis_succ] at step
    simp only [impl_unpacked.l0]
    rw [if_pos (by omega), bit_eq p r hp (by omega), Option.bind_some, if_pos (by omega), M.w64_in ((r : Int) + 1) (by omega) (by omega)]
    exact step
theorem poly_both (n b : Int) : ∃ l c, spec_PolynomialOf.f 400 n b = some (l, c) ∧ impl_PolynomialOf.f 400 n b = some (l, c) ∧ impl_PolynomialOf.f 399 n b = some (l, c) ∧ l.length ≤ 16 := by
  unfold spec_PolynomialOf.f impl_PolynomialOf.f
  rw [is_eq, isFunc_eq]
  simp only [Option.bind_some]
  by_cases hv : M.valid n b = true
  · rw [if_pos hv, if_pos hv, if_pos hv]
    obtain ⟨m, c, hm, hc, rfl, rfl⟩ := (M.valid_iff _ _).1 hv
    have hc6 : c < 2 ^ 62 := Nat.lt_trans (M.bits_lt hm hc) (by decide)
    have h16 := M.pow_le16 hm
    have hp6 : M.polN m c < 2 ^ 62 := Nat.lt_trans (M.bits_lt hm (M.polN_lt m c)) (by decide)
    have e : M.lis (2 ^ m) (M.atN (M.polN m c)) = cofL m c (2 ^ m) := M.lis_congr _ _ _ fun r hr => polN_at m c r hr
    have u : ∀ k, 20 < k → impl_unpacked.f k ((M.polN m c : Nat) : Int) ((2 ^ m : Nat) : Int) = some (cofL m c (2 ^ m)) := fun k hk => by
      unfold impl_unpacked.f
      have := unp_loop (2 ^ m) (M.polN m c) h16 hp6 (2 ^ m) k 0 (by omega) (by omega)
      rw [M.lis_zero, Int.natCast_zero] at this
      rw [this, e]
    rw [poly_eq m c hm hc6 400 (by omega), ipoly_eq m c hv, Func_rows_eq m _ hm]
    simp only [Option.bind_some]
    rw [u 400 (by omega), u 399 (by omega)]
    exact ⟨_, _, rfl, rfl, rfl, by rw [cofL_len]; exact h16⟩
  · rw [if_neg hv, if_neg hv, if_neg hv]
    exact ⟨_, _, rfl, rfl, rfl, by simp⟩
theorem FnExactPolynomialOf : ∀ (a0_0 : Int) (a0_1 : Int), (Lit.int .i64 a0_0).wf = true → (Lit.int .i64 a0_1).wf = true → ∃ k, laws_FnExactPolynomialOf.f k a0_0 a0_1 = some true := by
  intro n b _ _
  obtain ⟨l, c, h1, h2, h3, hl⟩ := poly_both n b
  refine ⟨400, ?_⟩
  unfold laws_FnExactPolynomialOf.f laws_toFunc.f
  simp only [Option.bind_some]
  rw [h1, h2]
  simp only [Option.bind_some]
  rw [eqL_self l (by omega) 400 (by omega)]
  simp only [Option.bind_some, if_true, bne_self_eq_false]
  simp only [laws_FnExactPolynomialOf.j0, laws_toFunc.f, Option.bind_some]
  rw [if_neg (by simp), mark_eq l (by omega) 399 (by omega)]
  simp only [Option.bind_some]
  rw [held_eq _ (by omega) 399 (by omega)]
  rw [Option.bind_some, if_neg (by omega), if_pos rfl, h3]
  simp only [Option.bind_some]
  rw [eqL_self l (by omega) 399 (by omega)]
  simp only [Option.bind_some, if_true, bne_self_eq_false]
  simp only [laws_FnExactPolynomialOf.j1]
  rw [if_neg (by simp), held_eq _ (by omega) 398 (by omega)]
  rw [Option.bind_some, if_neg (by omega), if_pos rfl]

end Go.Proofs.Ytdhfbgbclibagaa.Pure
