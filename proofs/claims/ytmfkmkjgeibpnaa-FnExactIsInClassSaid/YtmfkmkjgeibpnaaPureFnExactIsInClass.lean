/- The pure statement of the law FnExactIsInClass: the functions that the program's text comes to answer true at every input. -/
import Derived.Test.YtmfkmkjgeibpnaaPx2
import Derived.Test.YtmfkmkjgeibpnaaPx18
import Derived.Test.YtmfkmkjgeibpnaaPx19
import Derived.Test.YtmfkmkjgeibpnaaPx20
import Derived.Test.YtmfkmkjgeibpnaaPx21
import Derived.Test.YtmfkmkjgeibpnaaLBase
import Derived.Test.YtmfkmkjgeibpnaaLClass
namespace Go.Proofs.Ytmfkmkjgeibpnaa.Pure
open Go.RowKit Go.Proofs.Ytmfkmkjgeibpnaa.P Go.Proofs.YtmfkmkjgeibpnaaW.PrintWords Go.Proofs.YtmfkmkjgeibpnaaW.PrintLast Go.Proofs.YtmfkmkjgeibpnaaW.PrintMore
set_option linter.unusedVariables false
set_option linter.unusedSimpArgs false
theorem FnExactIsInClass : ∀ (a0_0 : Int) (a0_1 : Int) (a1 : Int), (Lit.int .i64 a0_0).wf = true → (Lit.int .i64 a0_1).wf = true → (Lit.int .i64 a1).wf = true → ∃ k, laws_FnExactIsInClass.f k a0_0 a0_1 a1 = some true := by
  intro n b c _ _ _
  have e : ∃ r, spec_IsInClass.f 300 n b c = some r ∧ impl_IsInClass.f 300 n b c = some r := by
    unfold spec_IsInClass.f impl_IsInClass.f
    rw [is_eq, isFunc_eq]
    simp only [Option.bind_some]
    by_cases hv : M.valid n b = true
    · rw [if_pos hv, if_pos hv]
      obtain ⟨m, b, hm, hb, rfl, rfl⟩ := (M.valid_iff _ _).1 hv
      have hb6 : b < 2 ^ 62 := Nat.lt_trans (M.bits_lt hm hb) (by decide)
      rw [in_eq, within_eq]
      simp only [Option.bind_some]
      by_cases hc : 0 ≤ c ∧ c ≤ 4
      · have hd : (decide (0 ≤ c) && decide (c ≤ 4)) = true := by simp; omega
        rw [if_pos hd, if_pos hd]
        obtain ⟨c, hc4, rfl⟩ := M.small_n hc.1 hc.2
        rw [sin_eq m b c hm hb6 hc4 300 (by omega), iin_eq m b c hm hb hc4 300 (by omega)]
        exact ⟨_, rfl, rfl⟩
      · have hd : ¬ (decide (0 ≤ c) && decide (c ≤ 4)) = true := by simp; omega
        rw [if_neg hd, if_neg hd]
        exact ⟨_, rfl, rfl⟩
    · rw [if_neg hv, if_neg hv]
      exact ⟨_, rfl, rfl⟩
  obtain ⟨⟨r1, r2⟩, h1, h2⟩ := e
  refine ⟨300, ?_⟩
  unfold laws_FnExactIsInClass.f laws_toFunc.f
  simp only [Option.bind_some]
  rw [h1, h2]
  simp

end Go.Proofs.Ytmfkmkjgeibpnaa.Pure
