/- The pure statement of the law FnExactFuncOf: the functions that the program's text comes to answer true at every input. -/
import Derived.Test.YtapceiflmkmoeaaPx2
import Derived.Test.YtapceiflmkmoeaaPx3
import Derived.Test.YtapceiflmkmoeaaPx4
import Derived.Test.YtapceiflmkmoeaaPx5
import Derived.Test.YtapceiflmkmoeaaPx18
import Derived.Test.YtapceiflmkmoeaaLBase
import Derived.Test.YtapceiflmkmoeaaLOf
import Derived.Test.YtapceiflmkmoeaaLLists
import Derived.Test.YtapceiflmkmoeaaLDigits
namespace Go.Proofs.Ytapceiflmkmoeaa.Pure
open Go.RowKit Go.Proofs.Ytapceiflmkmoeaa.P Go.Proofs.YtapceiflmkmoeaaW.PrintWords Go.Proofs.YtapceiflmkmoeaaW.PrintLast Go.Proofs.YtapceiflmkmoeaaW.PrintMore
set_option linter.unusedVariables false
set_option linter.unusedSimpArgs false
theorem funcOf_both (n : Int) (l : List Int) (hlen : l.length ≤ 1048576) : ∃ r, spec_FuncOf.f 1048700 n l = some r ∧ impl_FuncOf.f 1048700 n l = some r := by
  unfold spec_FuncOf.f impl_FuncOf.f
  rw [in_eq, isArity_eq]
  simp only [Option.bind_some]
  by_cases hn : 0 ≤ n ∧ n ≤ 4
  · obtain ⟨m, hm, rfl⟩ := M.small_n hn.1 hn.2
    have h16 := M.pow_le16 hm
    have hd : (decide (0 ≤ (m : Int)) && decide ((m : Int) ≤ 4)) = true := by simp; omega
    rw [if_pos hd, if_pos hd, rows_eq m hm, rowsOf_eq m hm]
    simp only [Option.bind_some]
    by_cases hl : (l.length : Int) = ((2 ^ m : Nat) : Int)
    · have hl' : l.length = 2 ^ m := by omega
      rw [if_pos hl, if_pos hl, sbits_eq l hlen 1048700 (by omega), idigits_eq l hlen]
      simp only [Option.bind_some]
      by_cases hb : (l.all fun x => decide (0 ≤ x) && decide (x ≤ 1)) = true
      · rw [if_pos hb, if_pos hb]
        obtain ⟨h, e, hh⟩ := M.lis_of l (all_digits l hb)
        rw [hl'] at e
        rw [e, Of_eq m hm h (fun r _ => hh r) _ (by omega), packed_eq (2 ^ m) h16 h (fun r _ => hh r) _ (by omega)]
        exact ⟨_, rfl, rfl⟩
      · rw [if_neg hb, if_neg hb]
        exact ⟨_, rfl, rfl⟩
    · rw [if_neg hl, if_neg hl]
      exact ⟨_, rfl, rfl⟩
  · have hd : ¬ (decide (0 ≤ n) && decide (n ≤ 4)) = true := by simp; omega
    rw [if_neg hd, if_neg hd]
    exact ⟨_, rfl, rfl⟩
theorem FnExactFuncOf : ∀ (a0 : Int) (l1 : List Int), (Lit.int .i64 a0).wf = true → l1.length ≤ maxLen → l1.length * 8 ≤ 140737488351232 → (∀ x ∈ l1, (Lit.int .i64 x).wf = true) → ∃ k, laws_FnExactFuncOf.f k a0 l1 = some true := by
  intro n l _ _ _ _
  refine ⟨1048700, ?_⟩
  unfold laws_FnExactFuncOf.f
  by_cases hl : (l.length : Int) > 1048576
  · rw [if_pos hl]
  · have hlen : l.length ≤ 1048576 := by omega
    obtain ⟨⟨r1, r2, r3⟩, h1, h2⟩ := funcOf_both n l hlen
    rw [if_neg hl, toL_eq l hlen _ (by omega)]
    simp only [Option.bind_some]
    rw [h1, h2]
    simp only [Option.bind_some, laws_eqFunc.f, if_true, bne_self_eq_false]
    simp only [laws_FnExactFuncOf.j0]
    rw [if_neg (by simp), toL_eq l hlen _ (by omega)]
    simp only [Option.bind_some]
    rw [eqL_self l hlen _ (by omega)]
    rfl

end Go.Proofs.Ytapceiflmkmoeaa.Pure
