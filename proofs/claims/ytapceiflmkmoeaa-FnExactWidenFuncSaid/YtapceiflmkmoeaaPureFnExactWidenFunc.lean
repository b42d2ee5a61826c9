/- The pure statement of the law FnExactWidenFunc: the functions that the program's text comes to answer true at every input. -/
import Derived.Test.YtapceiflmkmoeaaPx2
import Derived.Test.YtapceiflmkmoeaaPx12
import Derived.Test.YtapceiflmkmoeaaLBase
namespace Go.Proofs.Ytapceiflmkmoeaa.Pure
open Go.RowKit Go.Proofs.Ytapceiflmkmoeaa.P Go.Proofs.YtapceiflmkmoeaaW.PrintWords Go.Proofs.YtapceiflmkmoeaaW.PrintLast Go.Proofs.YtapceiflmkmoeaaW.PrintMore
set_option linter.unusedVariables false
set_option linter.unusedSimpArgs false
theorem FnExactWidenFunc : ∀ (a0_0 : Int) (a0_1 : Int), (Lit.int .i64 a0_0).wf = true → (Lit.int .i64 a0_1).wf = true → laws_FnExactWidenFunc.f a0_0 a0_1 = some true := by
  intro n b _ _
  have e : ∃ r, spec_WidenFunc.f n b = some r ∧ impl_WidenFunc.f n b = some r := by
    unfold spec_WidenFunc.f impl_WidenFunc.f
    rw [is_eq, isFunc_eq]
    simp only [Option.bind_some]
    by_cases hv : M.valid n b = true
    · rw [if_pos hv, if_pos hv]
      obtain ⟨m, c, hm, hc, rfl, rfl⟩ := (M.valid_iff _ _).1 hv
      by_cases h4 : (m : Int) = 4
      · rw [if_pos h4, if_pos h4]
        exact ⟨_, rfl, rfl⟩
      · rw [if_neg h4, if_neg h4]
        have hm3 : m ≤ 3 := by omega
        have h8 : 2 ^ m ≤ 8 := M.pow2_le hm3
        have h2 : 2 ^ 2 ^ m ≤ 256 := M.pow2_le h8
        have h5 : c * 2 ^ 2 ^ m ≤ 256 * 256 := Nat.mul_le_mul (by omega) h2
        unfold spec_l01Widen.f
        rw [rows_eq m hm, Func_rows_eq m _ hm]
        simp only [Option.bind_some]
        generalize 2 ^ m = p at *
        rw [M.u64_in _ (by omega) (by omega), if_pos (by omega), if_pos (by omega)]
        simp only [Option.bind_some]
        rw [M.shl_nat c p (by omega) (by omega)]
        refine ⟨_, rfl, ?_⟩
        have e1 : (c * 2 ^ p) ||| c = c + c * 2 ^ p := by rw [Nat.or_comm, M.or_high c c p hc]
        rw [M.or_nat _ _ (by omega) (by omega), e1, M.w64_in ((c : Int) + _) (by omega) (by omega)]
        rw [Int.natCast_add]
    · rw [if_neg hv, if_neg hv]
      exact ⟨_, rfl, rfl⟩
  obtain ⟨⟨r1, r2, r3⟩, h1, h2⟩ := e
  unfold laws_FnExactWidenFunc.f laws_toFunc.f
  simp only [Option.bind_some]
  rw [h1, h2]
  simp [laws_eqFunc.f]

end Go.Proofs.Ytapceiflmkmoeaa.Pure
