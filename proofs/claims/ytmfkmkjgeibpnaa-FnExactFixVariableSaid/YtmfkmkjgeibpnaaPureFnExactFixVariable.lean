/- The pure statement of the law FnExactFixVariable: the functions that the program's text comes to answer true at every input. -/
import Derived.Test.YtmfkmkjgeibpnaaPx2
import Derived.Test.YtmfkmkjgeibpnaaPx3
import Derived.Test.YtmfkmkjgeibpnaaPx9
import Derived.Test.YtmfkmkjgeibpnaaLBase
import Derived.Test.YtmfkmkjgeibpnaaLFix
import Derived.Test.YtmfkmkjgeibpnaaLIfix
namespace Go.Proofs.Ytmfkmkjgeibpnaa.Pure
open Go.RowKit Go.Proofs.Ytmfkmkjgeibpnaa.P Go.Proofs.YtmfkmkjgeibpnaaW.PrintWords Go.Proofs.YtmfkmkjgeibpnaaW.PrintLast Go.Proofs.YtmfkmkjgeibpnaaW.PrintMore
set_option linter.unusedVariables false
set_option linter.unusedSimpArgs false
theorem FnExactFixVariable : ∀ (a0_0 : Int) (a0_1 : Int) (a1 : Int) (a2 : Int), (Lit.int .i64 a0_0).wf = true → (Lit.int .i64 a0_1).wf = true → (Lit.int .i64 a1).wf = true → (Lit.int .i64 a2).wf = true → ∃ k, laws_FnExactFixVariable.f k a0_0 a0_1 a1 a2 = some true := by
  intro n b i v _ _ _ _
  have e : ∃ r, spec_FixVariable.f 100 n b i v = some r ∧ impl_FixVariable.f n b i v = some r := by
    unfold spec_FixVariable.f impl_FixVariable.f
    rw [is_eq, isFunc_eq]
    simp only [Option.bind_some]
    by_cases hv : M.valid n b = true
    · rw [if_pos hv, if_pos hv]
      obtain ⟨m, c, hm, hc, rfl, rfl⟩ := (M.valid_iff _ _).1 hv
      have hc6 : c < 2 ^ 62 := Nat.lt_trans (M.bits_lt hm hc) (by decide)
      rw [in_eq, within_eq, M.w64_in ((m : Int) - 1) (by omega) (by omega)]
      simp only [Option.bind_some]
      by_cases hi : 0 ≤ i ∧ i ≤ (m : Int) - 1
      · have hd : (decide (0 ≤ i) && decide (i ≤ (m : Int) - 1)) = true := by simp; omega
        rw [if_pos hd, if_pos hd, in_eq, within_eq]
        simp only [Option.bind_some]
        by_cases hw : 0 ≤ v ∧ v ≤ 1
        · have hd : (decide (0 ≤ v) && decide (v ≤ 1)) = true := by simp; omega
          rw [if_pos hd, if_pos hd]
          obtain ⟨j, hj, rfl⟩ := M.small_n (n := i) (by omega) (by omega)
          obtain ⟨u, hu, rfl⟩ := M.small_n (n := v) (by omega) (by omega)
          rw [fix_eq m c j u hm (by omega) (by omega) hc6 100 (by omega), ifix_eq m c j u hm hc (by omega) (by omega)]
          exact ⟨_, rfl, rfl⟩
        · have hd : ¬ (decide (0 ≤ v) && decide (v ≤ 1)) = true := by simp; omega
          rw [if_neg hd, if_neg hd]
          exact ⟨_, rfl, rfl⟩
      · have hd : ¬ (decide (0 ≤ i) && decide (i ≤ (m : Int) - 1)) = true := by simp; omega
        rw [if_neg hd, if_neg hd]
        exact ⟨_, rfl, rfl⟩
    · rw [if_neg hv, if_neg hv]
      exact ⟨_, rfl, rfl⟩
  obtain ⟨⟨r1, r2, r3⟩, h1, h2⟩ := e
  refine ⟨100, ?_⟩
  unfold laws_FnExactFixVariable.f laws_toFunc.f
  simp only [Option.bind_some]
  rw [h1, h2]
  simp [laws_eqFunc.f]

end Go.Proofs.Ytmfkmkjgeibpnaa.Pure
