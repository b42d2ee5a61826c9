/- The pure statement of the law FnExactConstantOf: the functions that the program's text comes to answer true at every input. -/
import Derived.Test.YtapceiflmkmoeaaPx2
import Derived.Test.YtapceiflmkmoeaaPx10
import Derived.Test.YtapceiflmkmoeaaLBase
namespace Go.Proofs.Ytapceiflmkmoeaa.Pure
open Go.RowKit Go.Proofs.Ytapceiflmkmoeaa.P Go.Proofs.YtapceiflmkmoeaaW.PrintWords Go.Proofs.YtapceiflmkmoeaaW.PrintLast Go.Proofs.YtapceiflmkmoeaaW.PrintMore
set_option linter.unusedVariables false
set_option linter.unusedSimpArgs false
theorem FnExactConstantOf : ∀ (a0 : Int) (a1 : Int), (Lit.int .i64 a0).wf = true → (Lit.int .i64 a1).wf = true → laws_FnExactConstantOf.f a0 a1 = some true := by
  intro n v _ _
  have e : ∃ r, spec_ConstantOf.f n v = some r ∧ impl_ConstantOf.f n v = some r := by
    unfold spec_ConstantOf.f impl_ConstantOf.f
    rw [in_eq, isArity_eq]
    simp only [Option.bind_some]
    by_cases hn : 0 ≤ n ∧ n ≤ 4
    · obtain ⟨m, hm, rfl⟩ := M.small_n hn.1 hn.2
      have hd : (decide (0 ≤ (m : Int)) && decide ((m : Int) ≤ 4)) = true := by simp; omega
      rw [if_pos hd, if_pos hd, in_eq, within_eq]
      simp only [Option.bind_some]
      by_cases hv : 0 ≤ v ∧ v ≤ 1
      · have hd : (decide (0 ≤ v) && decide (v ≤ 1)) = true := by simp; omega
        rw [if_pos hd, if_pos hd]
        unfold spec_l01Constant.f impl_constant.f
        have h2 := pow2_16 hm
        have h3 := M.pow_pos (2 ^ m)
        rw [all_eq m hm, funcsOf_eq m hm]
        simp only [Option.bind_some]
        generalize 2 ^ 2 ^ m = q at *
        refine ⟨_, rfl, ?_⟩
        rw [M.w64_in ((q : Int) - 1) (by omega) (by omega)]
        have e1 : ((q : Int) - 1) * v = v * ((q - 1 : Nat) : Int) := by rw [Int.mul_comm]; congr 1; omega
        rw [e1]
      · have hd : ¬ (decide (0 ≤ v) && decide (v ≤ 1)) = true := by simp; omega
        rw [if_neg hd, if_neg hd]
        exact ⟨_, rfl, rfl⟩
    · have hd : ¬ (decide (0 ≤ n) && decide (n ≤ 4)) = true := by simp; omega
      rw [if_neg hd, if_neg hd]
      exact ⟨_, rfl, rfl⟩
  obtain ⟨⟨r1, r2, r3⟩, h1, h2⟩ := e
  unfold laws_FnExactConstantOf.f
  rw [h1, h2]
  simp [laws_eqFunc.f]

end Go.Proofs.Ytapceiflmkmoeaa.Pure
