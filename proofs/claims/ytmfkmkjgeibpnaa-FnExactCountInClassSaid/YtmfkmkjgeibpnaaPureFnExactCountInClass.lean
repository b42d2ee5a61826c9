/- The pure statement of the law FnExactCountInClass: the functions that the program's text comes to answer true at every input. -/
import Derived.Test.YtmfkmkjgeibpnaaPx2
import Derived.Test.YtmfkmkjgeibpnaaPx18
import Derived.Test.YtmfkmkjgeibpnaaPx19
import Derived.Test.YtmfkmkjgeibpnaaPx20
import Derived.Test.YtmfkmkjgeibpnaaPx23
import Derived.Test.YtmfkmkjgeibpnaaLBase
import Derived.Test.YtmfkmkjgeibpnaaLClass
import Derived.Test.YtmfkmkjgeibpnaaLCls2
namespace Go.Proofs.Ytmfkmkjgeibpnaa.Pure
open Go.RowKit Go.Proofs.Ytmfkmkjgeibpnaa.P Go.Proofs.YtmfkmkjgeibpnaaW.PrintWords Go.Proofs.YtmfkmkjgeibpnaaW.PrintLast Go.Proofs.YtmfkmkjgeibpnaaW.PrintMore
set_option linter.unusedVariables false
set_option linter.unusedSimpArgs false
theorem FnExactCountInClass : ∀ (a0 : Int) (a1 : Int), (Lit.int .i64 a0).wf = true → (Lit.int .i64 a1).wf = true → ∃ k, laws_FnExactCountInClass.f k a0 a1 = some true := by
  intro n c _ _
  have e : ∃ r, spec_CountInClass.f 66000 n c = some r ∧ impl_CountInClass.f n c = some r := by
    unfold spec_CountInClass.f impl_CountInClass.f
    rw [in_eq, in_eq]
    simp only [Option.bind_some]
    by_cases hn : (decide (0 ≤ n) && decide (n ≤ 4)) = true
    · rw [if_pos hn]
      by_cases hc : (decide (0 ≤ c) && decide (c ≤ 4)) = true
      · rw [if_pos (by rw [hn, hc]; rfl), hc]
        have h1 : 0 ≤ n ∧ n ≤ 4 := by simpa using hn
        have h2 : 0 ≤ c ∧ c ≤ 4 := by simpa using hc
        obtain ⟨m, hm, rfl⟩ := M.small_n h1.1 h1.2
        obtain ⟨c, hc4, rfl⟩ := M.small_n h2.1 h2.2
        have h16 := pow2_16 hm
        rw [Int.toNat_natCast]
        have hin : ∀ b, b < 2 ^ 2 ^ m → impl_Func_isIn.f 300 (m : Int) (b : Nat) (c : Int) = some (M.cls m b c) := fun b hb => iin_eq m b c hm hb hc4 300 (by omega)
        rw [if_pos (fun b hb => by rw [hin b hb]; rfl), fnsThat_cnt, cntP_congr (inBits (m : Int) (c : Int)) (fun b => M.cls m b c) _ (fun b hb => by unfold inBits; rw [hin b hb]; cases M.cls m b c <;> rfl)]
        refine ⟨_, ?_, rfl⟩
        obtain ⟨k, hk⟩ : ∃ k, 66000 = k + 1 := ⟨65999, rfl⟩
        rw [hk]
        simp only [spec_CountInClass.j0]
        rw [if_neg (by simp)]
        have := scount_loop m c hm hc4 (2 ^ 2 ^ m) k 0 (by omega) (by omega)
        exact this
      · rw [if_neg (by rw [hn]; simpa using hc), show (decide (0 ≤ c) && decide (c ≤ 4)) = false from by simpa using hc]
        refine ⟨_, ?_, rfl⟩
        obtain ⟨k, hk⟩ : ∃ k, 66000 = k + 1 := ⟨65999, rfl⟩
        rw [hk]
        simp only [spec_CountInClass.j0, Bool.not_false, if_true]
    · rw [if_neg hn]
      rw [if_neg (by simp only [Bool.and_eq_true] at hn ⊢; exact fun h => hn h.1)]
      refine ⟨_, ?_, rfl⟩
      obtain ⟨k, hk⟩ : ∃ k, 66000 = k + 1 := ⟨65999, rfl⟩
      rw [hk]
      simp only [spec_CountInClass.j0, Bool.not_false, if_true]
  obtain ⟨⟨r1, r2⟩, h1, h2⟩ := e
  refine ⟨66000, ?_⟩
  unfold laws_FnExactCountInClass.f
  rw [h1, h2]
  simp

end Go.Proofs.Ytmfkmkjgeibpnaa.Pure
