/- The pure statement of the law FnExactShefferFunctions: the functions that the program's text comes to answer true at every input. -/
import Derived.Test.YtdlnjbaldfdnpaaPx2
import Derived.Test.YtdlnjbaldfdnpaaPx5
import Derived.Test.YtdlnjbaldfdnpaaPx7
import Derived.Test.YtdlnjbaldfdnpaaPx8
import Derived.Test.YtdlnjbaldfdnpaaPx9
import Derived.Test.YtdlnjbaldfdnpaaPx10
import Derived.Test.YtdlnjbaldfdnpaaPx11
import Derived.Test.YtdlnjbaldfdnpaaPx12
import Derived.Test.YtdlnjbaldfdnpaaLBase
import Derived.Test.YtdlnjbaldfdnpaaLClass
import Derived.Test.YtdlnjbaldfdnpaaLCls2
import Derived.Test.YtdlnjbaldfdnpaaLCls3
import Derived.Test.YtdlnjbaldfdnpaaLFuncs
namespace Go.Proofs.Ytdlnjbaldfdnpaa.Pure
open Go.RowKit Go.Proofs.Ytdlnjbaldfdnpaa.P Go.Proofs.YtdlnjbaldfdnpaaW.PrintWords Go.Proofs.YtdlnjbaldfdnpaaW.PrintLast Go.Proofs.YtdlnjbaldfdnpaaW.PrintMore
set_option linter.unusedVariables false
set_option linter.unusedSimpArgs false
theorem FnExactShefferFunctions : ∀ (a0 : Int), (Lit.int .i64 a0).wf = true → ∃ k, laws_FnExactShefferFunctions.f k a0 = some true := by
  intro n _
  have e : ∃ l c, spec_ShefferFunctions.f 70000 n = some (l, c) ∧ impl_ShefferFunctions.f n = some (l, c) ∧ l.length ≤ 65536 := by
    unfold spec_ShefferFunctions.f impl_ShefferFunctions.f
    rw [in_eq]
    simp only [Option.bind_some]
    by_cases hn : (decide (0 ≤ n) && decide (n ≤ 3)) = true
    · rw [if_pos hn, if_pos hn]
      have h1 : 0 ≤ n ∧ n ≤ 3 := by simpa using hn
      obtain ⟨m, hm, rfl⟩ := M.small_n h1.1 (by omega)
      have h16 := pow2_16 hm
      rw [Int.toNat_natCast]
      have hin : ∀ b, b < 2 ^ 2 ^ m → impl_Func_isSheffer.f 310 (m : Int) (b : Nat) = some (shef m b) := fun b hb => isheffer_eq m b hm hb 310 (by omega)
      rw [if_pos (fun b hb => by rw [hin b hb]; rfl), fnsThat_congr (m : Int) (shefBits (m : Int)) (shef m) _ (fun b hb => by unfold shefBits; rw [hin b hb]; cases shef m b <;> rfl)]
      refine ⟨_, _, ?_, rfl, Nat.le_trans (fnsThat_le _ _ _) h16⟩
      exact ssf_loop m hm (2 ^ 2 ^ m) 70000 0 (by omega) (by omega)
    · rw [if_neg hn, if_neg hn]
      exact ⟨_, _, rfl, rfl, by simp⟩
  obtain ⟨l, c, h1, h2, hl⟩ := e
  refine ⟨70000, ?_⟩
  unfold laws_FnExactShefferFunctions.f
  rw [h1, h2]
  simp only [Option.bind_some]
  rw [eqF_self l (by omega) 70000 (by omega)]
  simp only [Option.bind_some, if_true, bne_self_eq_false]
  obtain ⟨k, hk⟩ : ∃ k, 70000 = k + 1 + 1 := ⟨69998, rfl⟩
  rw [hk]
  simp only [laws_FnExactShefferFunctions.j0]
  rw [if_neg (by decide), markF_eq l (by omega) (k + 1) (by omega)]
  simp only [Option.bind_some]
  rw [heldF_eq _ (by omega) (k + 1) (by omega), Option.bind_some, if_neg (by omega), if_pos rfl, h2, Option.bind_some, eqF_self l (by omega) (k + 1) (by omega), Option.bind_some, if_pos rfl]
  simp only [laws_FnExactShefferFunctions.j1, bne_self_eq_false]
  rw [if_neg (by decide), heldF_eq _ (by omega) k (by omega), Option.bind_some, if_neg (by omega), if_pos rfl]

end Go.Proofs.Ytdlnjbaldfdnpaa.Pure
