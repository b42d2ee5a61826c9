/- The pure statement of the law FnExactProjectionOf: the functions that the program's text comes to answer true at every input. -/
import Derived.Test.YtapceiflmkmoeaaPx2
import Derived.Test.YtapceiflmkmoeaaPx3
import Derived.Test.YtapceiflmkmoeaaPx13
import Derived.Test.YtapceiflmkmoeaaLBase
import Derived.Test.YtapceiflmkmoeaaLOf
namespace Go.Proofs.Ytapceiflmkmoeaa.Pure
open Go.RowKit Go.Proofs.Ytapceiflmkmoeaa.P Go.Proofs.YtapceiflmkmoeaaW.PrintWords Go.Proofs.YtapceiflmkmoeaaW.PrintLast Go.Proofs.YtapceiflmkmoeaaW.PrintMore
set_option linter.unusedVariables false
set_option linter.unusedSimpArgs false
theorem proj_loop (n i : Nat) (hn : n ≤ 4) (hi : i ≤ 62) (d : Nat) : ∀ (k r : Nat), r + d = 2 ^ n → d + 30 ≤ k →
    spec_l01Projection.l0 k (n : Int) (i : Int) (M.lis r (fun r => M.atN r i)) (r : Int) = some ((n : Int), ((M.tab (2 ^ n) (fun r => M.atN r i) : Nat) : Int)) := by
  have h16 := M.pow_le16 hn
  induction d with
  | zero =>
    intro k r hr hk
    obtain ⟨k, rfl⟩ : ∃ m, k = m + 1 := ⟨k - 1, by omega⟩
    obtain rfl : r = 2 ^ n := by omega
    simp only [spec_l01Projection.l0]; rw [rows_eq n hn]; simp only [Option.bind_some]
    rw [if_neg (by omega), Of_eq n hn _ (fun r _ => M.atN_le r i) k (by omega)]
    rfl
  | succ d ih =>
    intro k r hr hk
    obtain ⟨k, rfl⟩ : ∃ m, k = m + 1 := ⟨k - 1, by omega⟩
    simp only [spec_l01Projection.l0]; rw [rows_eq n hn]; simp only [Option.bind_some]
    have hlt : r < 2 ^ n := by omega
    rw [if_pos (by omega), M.u64_in _ (by omega) (by omega), if_pos (by omega), if_pos (by rw [M.lis_length]; omega), M.bit_nat r i (by omega) (by omega), M.w64_in _ (by omega) (by omega)]
    have := ih k (r + 1) (by omega) (by omega)
    rw [M.lis_succ] at this
    exact this
theorem FnExactProjectionOf : ∀ (a0 : Int) (a1 : Int), (Lit.int .i64 a0).wf = true → (Lit.int .i64 a1).wf = true → ∃ k, laws_FnExactProjectionOf.f k a0 a1 = some true := by
  intro n i _ _
  have e : ∃ r, spec_ProjectionOf.f 100 n i = some r ∧ impl_ProjectionOf.f n i = some r := by
    unfold spec_ProjectionOf.f impl_ProjectionOf.f
    rw [in_eq, within_eq]
    simp only [Option.bind_some]
    by_cases hn : 1 ≤ n ∧ n ≤ 4
    · obtain ⟨m, hm, rfl⟩ := M.small_n (n := n) (by omega) hn.2
      have hd : (decide (1 ≤ (m : Int)) && decide ((m : Int) ≤ 4)) = true := by simp; omega
      rw [if_pos hd, if_pos hd, in_eq, within_eq, M.w64_in ((m : Int) - 1) (by omega) (by omega)]
      simp only [Option.bind_some]
      by_cases hv : 0 ≤ i ∧ i ≤ (m : Int) - 1
      · have hd : (decide (0 ≤ i) && decide (i ≤ (m : Int) - 1)) = true := by simp; omega
        rw [if_pos hd, if_pos hd]
        obtain ⟨j, hj, rfl⟩ := M.small_n (n := i) (by omega) (by omega)
        have h16 := M.pow_le16 hm
        unfold spec_l01Projection.f impl_projection.f
        have hp := proj_loop m j hm (by omega) (2 ^ m) 100 0 (by omega) (by omega)
        rw [M.lis_zero] at hp
        rw [if_pos (by omega)]
        erw [hp]
        simp only [Option.bind_some, Int.toNat_natCast]
        exact ⟨_, rfl, rfl⟩
      · have hd : ¬ (decide (0 ≤ i) && decide (i ≤ (m : Int) - 1)) = true := by simp; omega
        rw [if_neg hd, if_neg hd]
        exact ⟨_, rfl, rfl⟩
    · have hd : ¬ (decide (1 ≤ n) && decide (n ≤ 4)) = true := by simp; omega
      rw [if_neg hd, if_neg hd]
      exact ⟨_, rfl, rfl⟩
  obtain ⟨⟨r1, r2, r3⟩, h1, h2⟩ := e
  refine ⟨100, ?_⟩
  unfold laws_FnExactProjectionOf.f
  rw [h1, h2]
  simp [laws_eqFunc.f]

end Go.Proofs.Ytapceiflmkmoeaa.Pure
