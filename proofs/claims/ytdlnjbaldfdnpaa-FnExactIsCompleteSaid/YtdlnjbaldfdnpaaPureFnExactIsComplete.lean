/- The pure statement of the law FnExactIsComplete: the functions that the program's text comes to answer true at every input. -/
import Derived.Test.YtdlnjbaldfdnpaaPx2
import Derived.Test.YtdlnjbaldfdnpaaPx5
import Derived.Test.YtdlnjbaldfdnpaaPx7
import Derived.Test.YtdlnjbaldfdnpaaPx8
import Derived.Test.YtdlnjbaldfdnpaaPx10
import Derived.Test.YtdlnjbaldfdnpaaPx11
import Derived.Test.YtdlnjbaldfdnpaaPx12
import Derived.Test.YtdlnjbaldfdnpaaPx13
import Derived.Test.YtdlnjbaldfdnpaaLBase
import Derived.Test.YtdlnjbaldfdnpaaLClass
import Derived.Test.YtdlnjbaldfdnpaaLCls2
import Derived.Test.YtdlnjbaldfdnpaaLCls3
import Derived.Test.YtdlnjbaldfdnpaaLFuncs
namespace Go.Proofs.Ytdlnjbaldfdnpaa.Pure
open Go.RowKit Go.Proofs.Ytdlnjbaldfdnpaa.P Go.Proofs.YtdlnjbaldfdnpaaW.PrintWords Go.Proofs.YtdlnjbaldfdnpaaW.PrintLast Go.Proofs.YtdlnjbaldfdnpaaW.PrintMore
set_option linter.unusedVariables false
set_option linter.unusedSimpArgs false
theorem good_of (l : List S49) (h : allV l = true) : Good l := by
  intro x hx
  have := List.all_eq_true.1 h x hx
  obtain ⟨n, b, hn, hb, e0, e1⟩ := (M.valid_iff _ _).1 this
  exact ⟨n, b, hn, hb, by cases x; simp only at e0 e1; rw [e0, e1]⟩
theorem FnExactIsComplete : ∀ (l0 : List (S48)), l0.length ≤ maxLen → l0.length * 16 ≤ 140737488351232 → ∃ k, laws_FnExactIsComplete.f k l0 = some true := by
  intro l hm _
  by_cases hlen : l.length ≤ 1048576
  · have hc : (conv l).length ≤ 1048576 := by rw [conv_length]; exact hlen
    have hk : (conv l).length < 1049000 := by omega
    have e : ∃ r, spec_IsComplete.f 1049000 (conv l) = some r ∧ impl_IsComplete.f 1049000 (conv l) = some r := by
      unfold spec_IsComplete.f impl_IsComplete.f
      rw [s2code_eq (conv l) hc 1049000 hk, icode_eq (conv l) hc]
      simp only [Option.bind_some]
      by_cases hv : allV (conv l) = true
      · rw [if_pos hv]
        by_cases h8 : (conv l).length > 8
        · rw [if_pos h8, if_neg (by decide), if_neg (by decide)]
          exact ⟨_, rfl, rfl⟩
        · rw [if_neg h8, if_pos rfl, if_pos rfl, whole_eq _ (by omega), Option.bind_some]
          obtain ⟨y, h1, h2⟩ := sclasses_eq (conv l) (good_of _ hv) (by omega) 1049000 (by omega)
          obtain ⟨x, h3, h4⟩ := icomplete_eq (conv l) (good_of _ hv) hc 1049000 (by omega)
          rw [h1, h3]
          refine ⟨_, rfl, ?_⟩
          rw [Option.bind_some]
          congr 2
          rw [Bool.eq_iff_iff, h4, ← h2]
          simp
      · rw [if_neg hv, if_neg (by decide), if_neg (by decide)]
        exact ⟨_, rfl, rfl⟩
    obtain ⟨⟨r1, r2⟩, h1, h2⟩ := e
    refine ⟨1049000, ?_⟩
    unfold laws_FnExactIsComplete.f
    rw [szF_eq l (by unfold maxLen at hm; omega), if_pos hlen, Option.bind_some, if_neg (by omega), toF_eq l hlen 1049000 (by omega)]
    simp only [Option.bind_some]
    rw [h1, h2]
    simp only [Option.bind_some, bne_self_eq_false, Bool.false_eq_true, if_false]
    obtain ⟨k, hk⟩ : ∃ k, 1049000 = k + 1 := ⟨1048999, rfl⟩
    rw [hk]
    simp only [laws_FnExactIsComplete.j0]
    rw [if_neg (by decide), toF_eq l hlen k (by omega), Option.bind_some, eqF_self (conv l) hc k (by omega), Option.bind_some, if_pos rfl]
  · refine ⟨0, ?_⟩
    unfold laws_FnExactIsComplete.f
    rw [szF_eq l (by unfold maxLen at hm; omega), if_neg hlen, Option.bind_some, if_pos (by decide)]

end Go.Proofs.Ytdlnjbaldfdnpaa.Pure
