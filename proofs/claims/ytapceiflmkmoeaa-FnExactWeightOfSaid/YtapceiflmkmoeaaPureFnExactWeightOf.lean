/- The pure statement of the law FnExactWeightOf: the functions that the program's text comes to answer true at every input. -/
import Derived.Test.YtapceiflmkmoeaaPx2
import Derived.Test.YtapceiflmkmoeaaPx7
import Derived.Test.YtapceiflmkmoeaaPx16
import Derived.Test.YtapceiflmkmoeaaLBase
import Derived.Test.YtapceiflmkmoeaaLCnt
namespace Go.Proofs.Ytapceiflmkmoeaa.Pure
open Go.RowKit Go.Proofs.Ytapceiflmkmoeaa.P Go.Proofs.YtapceiflmkmoeaaW.PrintWords Go.Proofs.YtapceiflmkmoeaaW.PrintLast Go.Proofs.YtapceiflmkmoeaaW.PrintMore
set_option linter.unusedVariables false
set_option linter.unusedSimpArgs false
theorem weight_loop (n b : Nat) (hn : n ≤ 4) (hb : b < 2 ^ 62) (d : Nat) : ∀ (k r : Nat), r + d = 2 ^ n → d < k →
    spec_l01Weight.l0 k ((M.pop r b : Nat) : Int) (r : Int) (n : Int) (b : Int) = some ((M.pop (2 ^ n) b : Nat) : Int) := by
  have h16 := M.pow_le16 hn
  induction d with
  | zero =>
    intro k r hr hk
    obtain ⟨k, rfl⟩ : ∃ m, k = m + 1 := ⟨k - 1, by omega⟩
    obtain rfl : r = 2 ^ n := by omega
    simp only [spec_l01Weight.l0]; rw [rows_eq n hn]; simp only [Option.bind_some]
    rw [if_neg (by omega)]
  | succ d ih =>
    intro k r hr hk
    obtain ⟨k, rfl⟩ : ∃ m, k = m + 1 := ⟨k - 1, by omega⟩
    have h1 := M.pop_le r b
    have h2 := M.atN_le b r
    simp only [spec_l01Weight.l0]; rw [rows_eq n hn]; simp only [Option.bind_some]
    rw [if_pos (by omega), at_eq (n : Int) b r hb (by omega)]
    simp only [Option.bind_some]
    rw [M.w64_in ((r : Int) + 1) (by omega) (by omega), M.w64_in _ (by omega) (by omega)]
    have := ih k (r + 1) (by omega) (by omega)
    rw [M.pop_succ, Int.natCast_add] at this
    exact this
theorem FnExactWeightOf : ∀ (a0_0 : Int) (a0_1 : Int), (Lit.int .i64 a0_0).wf = true → (Lit.int .i64 a0_1).wf = true → ∃ k, laws_FnExactWeightOf.f k a0_0 a0_1 = some true := by
  intro n b _ _
  have e : ∃ r, spec_WeightOf.f 100 n b = some r ∧ impl_WeightOf.f n b = some r := by
    unfold spec_WeightOf.f impl_WeightOf.f
    rw [is_eq, isFunc_eq]
    simp only [Option.bind_some]
    by_cases hv : M.valid n b = true
    · rw [if_pos hv, if_pos hv]
      obtain ⟨m, c, hm, hc, rfl, rfl⟩ := (M.valid_iff _ _).1 hv
      have h16 := M.pow_le16 hm
      unfold spec_l01Weight.f
      have hp := weight_loop m c hm (Nat.lt_trans (M.bits_lt hm hc) (by decide)) (2 ^ m) 100 0 (by omega) (by omega)
      rw [show M.pop 0 c = 0 from rfl] at hp
      erw [hp]
      rw [ones_eq c (M.bits_lt hm hc), M.pop_up (2 ^ m) 16 c hc h16]
      exact ⟨_, rfl, rfl⟩
    · rw [if_neg hv, if_neg hv]
      exact ⟨_, rfl, rfl⟩
  obtain ⟨⟨r1, r2⟩, h1, h2⟩ := e
  refine ⟨100, ?_⟩
  unfold laws_FnExactWeightOf.f laws_toFunc.f
  simp only [Option.bind_some]
  rw [h1, h2]
  simp

end Go.Proofs.Ytapceiflmkmoeaa.Pure
