/- The pure statement of the law FnExactCountSheffer: the functions that the program's text comes to answer true at every input. -/
import Derived.Test.YtmfkmkjgeibpnaaPx2
import Derived.Test.YtmfkmkjgeibpnaaPx7
import Derived.Test.YtmfkmkjgeibpnaaPx18
import Derived.Test.YtmfkmkjgeibpnaaPx19
import Derived.Test.YtmfkmkjgeibpnaaPx20
import Derived.Test.YtmfkmkjgeibpnaaPx24
import Derived.Test.YtmfkmkjgeibpnaaPx25
import Derived.Test.YtmfkmkjgeibpnaaLBase
import Derived.Test.YtmfkmkjgeibpnaaLClass
import Derived.Test.YtmfkmkjgeibpnaaLCls2
import Derived.Test.YtmfkmkjgeibpnaaLCls3
namespace Go.Proofs.Ytmfkmkjgeibpnaa.Pure
open Go.RowKit Go.Proofs.Ytmfkmkjgeibpnaa.P Go.Proofs.YtmfkmkjgeibpnaaW.PrintWords Go.Proofs.YtmfkmkjgeibpnaaW.PrintLast Go.Proofs.YtmfkmkjgeibpnaaW.PrintMore
set_option linter.unusedVariables false
set_option linter.unusedSimpArgs false
theorem FnExactCountSheffer : ∀ (a0 : Int), (Lit.int .i64 a0).wf = true → ∃ k, laws_FnExactCountSheffer.f k a0 = some true := by
  intro n _
  have e : ∃ r, spec_CountSheffer.f 66000 n = some r ∧ impl_CountSheffer.f n = some r := by
    unfold spec_CountSheffer.f impl_CountSheffer.f
    rw [in_eq]
    simp only [Option.bind_some]
    by_cases hn : (decide (0 ≤ n) && decide (n ≤ 4)) = true
    · rw [if_pos hn, if_pos hn]
      have h1 : 0 ≤ n ∧ n ≤ 4 := by simpa using hn
      obtain ⟨m, hm, rfl⟩ := M.small_n h1.1 h1.2
      have h16 := pow2_16 hm
      rw [Int.toNat_natCast]
      have hin : ∀ b, b < 2 ^ 2 ^ m → impl_Func_isSheffer.f 310 (m : Int) (b : Nat) = some (shef m b) := fun b hb => isheffer_eq m b hm hb 310 (by omega)
      rw [if_pos (fun b hb => by rw [hin b hb]; rfl), fnsThat_cnt, cntP_congr (shefBits (m : Int)) (shef m) _ (fun b hb => by unfold shefBits; rw [hin b hb]; cases shef m b <;> rfl)]
      refine ⟨_, ?_, rfl⟩
      exact scsheffer_loop m hm (2 ^ 2 ^ m) 66000 0 (by omega) (by omega)
    · rw [if_neg hn, if_neg hn]
      exact ⟨_, rfl, rfl⟩
  obtain ⟨⟨r1, r2⟩, h1, h2⟩ := e
  refine ⟨66000, ?_⟩
  unfold laws_FnExactCountSheffer.f
  rw [h1, h2]
  simp

end Go.Proofs.Ytmfkmkjgeibpnaa.Pure
