/- The pure statement of the law FnExactFuncOfPolynomial: the functions that the program's text comes to answer true at every input. -/
import Derived.Test.YtdhfbgbclibagaaPx1
import Derived.Test.YtdhfbgbclibagaaPx2
import Derived.Test.YtdhfbgbclibagaaPx3
import Derived.Test.YtdhfbgbclibagaaPx4
import Derived.Test.YtdhfbgbclibagaaPx7
import Derived.Test.YtdhfbgbclibagaaPx13
import Derived.Test.YtdhfbgbclibagaaPx18
import Derived.Test.YtdhfbgbclibagaaLBase
import Derived.Test.YtdhfbgbclibagaaLOf
import Derived.Test.YtdhfbgbclibagaaLLists
import Derived.Test.YtdhfbgbclibagaaLDigits
import Derived.Test.YtdhfbgbclibagaaLPoly
namespace Go.Proofs.Ytdhfbgbclibagaa.Pure
open Go.RowKit Go.Proofs.Ytdhfbgbclibagaa.P Go.Proofs.YtdhfbgbclibagaaW.PrintWords Go.Proofs.YtdhfbgbclibagaaW.PrintLast Go.Proofs.YtdhfbgbclibagaaW.PrintMore
set_option linter.unusedVariables false
set_option linter.unusedSimpArgs false
theorem fop_both (n : Int) (l : List Int) (hlen : l.length ≤ 1048576) : ∃ r, spec_FuncOfPolynomial.f 1048700 n l = some r ∧ impl_FuncOfPolynomial.f 1048700 n l = some r := by
  unfold spec_FuncOfPolynomial.f impl_FuncOfPolynomial.f impl_FuncOf.f
  rw [in_eq, isArity_eq]
  simp only [Option.bind_some]
  have hbad : spec_FuncOfPolynomial.j0 1048700 n l true = some (0, 0, 2) := by
    simp only [spec_FuncOfPolynomial.j0, if_true]
  by_cases hn : 0 ≤ n ∧ n ≤ 4
  · obtain ⟨m, hm, rfl⟩ := M.small_n hn.1 hn.2
    have h16 := M.pow_le16 hm
    have hd : (decide (0 ≤ (m : Int)) && decide ((m : Int) ≤ 4)) = true := by simp; omega
    rw [if_pos hd, if_pos hd, rows_eq m hm, rowsOf_eq m hm]
    simp only [Option.bind_some]
    by_cases hl : (l.length : Int) = ((2 ^ m : Nat) : Int)
    · have hl' : l.length = 2 ^ m := by omega
      rw [if_pos hl, if_pos hl, sbits_eq l hlen 1048700 (by omega), idigits_eq l hlen]
      simp only [Option.bind_some]
      by_cases hb : (l.all fun x => decide (0 ≤ x) && decide (x ≤ 1)) = true
      · rw [if_pos hb, hb]
        obtain ⟨h, e, hh⟩ := M.lis_of l (all_digits l hb)
        rw [hl'] at e
        have hc : M.tab (2 ^ m) h < 2 ^ 2 ^ m := M.tab_lt _ _ (fun r _ => hh r)
        have hv : M.valid (m : Int) ((M.tab (2 ^ m) h : Nat) : Int) = true := (M.valid_iff _ _).2 ⟨m, _, hm, hc, rfl, rfl⟩
        have e2 : M.lis (2 ^ m) h = M.lis (2 ^ m) (M.atN (M.tab (2 ^ m) h)) := M.lis_congr _ _ _ fun r hr => (M.tab_at _ _ (fun r _ => hh r) r hr).symm
        rw [e, packed_eq (2 ^ m) h16 h (fun r _ => hh r) _ (by omega)]
        simp only [Option.bind_some, spec_FuncOfPolynomial.j0]
        rw [if_neg (by simp), if_true, ipoly_eq m _ hv, e2, sums_eq m _ hm _ (by omega)]
        simp only [Option.bind_some]
        unfold cofL
        rw [Of_eq m hm _ (fun r _ => M.psum_le _ _ _) _ (by omega)]
        exact ⟨_, rfl, rfl⟩
      · simp only [Bool.not_eq_true] at hb
        rw [hb, if_neg (by simp), show (!false) = true from rfl, hbad]
        exact ⟨_, rfl, rfl⟩
    · rw [if_neg hl, if_neg hl, hbad]
      exact ⟨_, rfl, rfl⟩
  · have hd : ¬ (decide (0 ≤ n) && decide (n ≤ 4)) = true := by simp; omega
    rw [if_neg hd, if_neg hd, hbad]
    exact ⟨_, rfl, rfl⟩
theorem FnExactFuncOfPolynomial : ∀ (a0 : Int) (l1 : List Int), (Lit.int .i64 a0).wf = true → l1.length ≤ maxLen → l1.length * 8 ≤ 140737488351232 → (∀ x ∈ l1, (Lit.int .i64 x).wf = true) → ∃ k, laws_FnExactFuncOfPolynomial.f k a0 l1 = some true := by
  intro n l _ _ _ _
  refine ⟨1048700, ?_⟩
  unfold laws_FnExactFuncOfPolynomial.f
  by_cases hl : (l.length : Int) > 1048576
  · rw [if_pos hl]
  · have hlen : l.length ≤ 1048576 := by omega
    obtain ⟨⟨r1, r2, r3⟩, h1, h2⟩ := fop_both n l hlen
    rw [if_neg hl, toL_eq l hlen _ (by omega)]
    simp only [Option.bind_some]
    rw [h1, h2]
    simp only [Option.bind_some, laws_eqFunc.f, if_true, bne_self_eq_false]
    simp only [laws_FnExactFuncOfPolynomial.j0]
    rw [if_neg (by simp), toL_eq l hlen _ (by omega)]
    simp only [Option.bind_some]
    rw [eqL_self l hlen _ (by omega)]
    rfl

end Go.Proofs.Ytdhfbgbclibagaa.Pure
