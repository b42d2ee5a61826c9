/- The pure statement of the law FnExactCoreOf: the functions that the program's text comes to answer true at every input. -/
import Derived.Test.YtmfkmkjgeibpnaaPx2
import Derived.Test.YtmfkmkjgeibpnaaPx3
import Derived.Test.YtmfkmkjgeibpnaaPx9
import Derived.Test.YtmfkmkjgeibpnaaPx10
import Derived.Test.YtmfkmkjgeibpnaaPx11
import Derived.Test.YtmfkmkjgeibpnaaLBase
import Derived.Test.YtmfkmkjgeibpnaaLFix
import Derived.Test.YtmfkmkjgeibpnaaLIfix
namespace Go.Proofs.Ytmfkmkjgeibpnaa.Pure
open Go.RowKit Go.Proofs.Ytmfkmkjgeibpnaa.P Go.Proofs.YtmfkmkjgeibpnaaW.PrintWords Go.Proofs.YtmfkmkjgeibpnaaW.PrintLast Go.Proofs.YtmfkmkjgeibpnaaW.PrintMore
set_option linter.unusedVariables false
set_option linter.unusedSimpArgs false
theorem core_loop (d : Nat) : ∀ (k n b : Nat), n ≤ 4 → b < 2 ^ 2 ^ n → d ≤ n → d + 60 ≤ k →
    ∃ r1 r2, spec_l01Core.l0 k ((d : Int) - 1) (n : Int) (b : Int) = some (r1, r2) ∧ impl_CoreOf.l0 k ((d : Int) - 1) (n : Int) (b : Int) = some (r1, r2, 0) := by
  induction d with
  | zero =>
    intro k n b hn hb hd hk
    obtain ⟨k, rfl⟩ : ∃ m, k = m + 1 := ⟨k - 1, by omega⟩
    simp only [spec_l01Core.l0, impl_CoreOf.l0]
    rw [if_neg (by omega), if_neg (by omega)]
    exact ⟨_, _, rfl, rfl⟩
  | succ d ih =>
    intro k n b hn hb hd hk
    obtain ⟨k, rfl⟩ : ∃ m, k = m + 1 := ⟨k - 1, by omega⟩
    have hb6 : b < 2 ^ 62 := Nat.lt_trans (M.bits_lt hn hb) (by decide)
    have e1 : ((d + 1 : Nat) : Int) - 1 = (d : Int) := by omega
    have f0 := fix_eq n b d 0 hn (by omega) (by omega) hb6 k (by omega)
    have f1 := fix_eq n b d 1 hn (by omega) (by omega) hb6 k (by omega)
    have g0 := ifix_eq n b d 0 hn hb (by omega) (by omega)
    rw [Int.natCast_zero] at f0 g0
    rw [Int.natCast_one] at f1
    have hw : wrap64 ((d : Int) - 1) = (d : Int) - 1 := M.w64_in _ (by omega) (by omega)
    rw [e1]
    have hcond : ((((n - 1 : Nat) : Int)) == (((n - 1 : Nat) : Int)) && (((M.fixN n b d 0 : Nat) : Int) == ((M.fixN n b d 1 : Nat) : Int))) = !M.ess n b d := by
      unfold M.ess
      by_cases h : M.fixN n b d 0 = M.fixN n b d 1
      · simp [h]
      · have h2 : ¬ ((M.fixN n b d 0 : Nat) : Int) = ((M.fixN n b d 1 : Nat) : Int) := by omega
        simp [h, h2]
    have hs : spec_l01Core.l0 (k + 1) (d : Int) (n : Int) (b : Int) = if M.ess n b d = true then spec_l01Core.l0 k ((d : Int) - 1) (n : Int) (b : Int) else spec_l01Core.l0 k ((d : Int) - 1) ((n - 1 : Nat) : Int) ((M.fixN n b d 0 : Nat) : Int) := by
      simp only [spec_l01Core.l0]
      rw [if_pos (by omega), f0, f1]
      simp only [Option.bind_some]
      rw [hcond, hw]
      by_cases h : M.ess n b d = true
      · rw [if_pos h, if_neg (by rw [h]; simp)]
      · simp only [Bool.not_eq_true] at h
        rw [h, if_pos (by rfl), if_neg (by simp)]
    have hi : impl_CoreOf.l0 (k + 1) (d : Int) (n : Int) (b : Int) = if M.ess n b d = true then impl_CoreOf.l0 k ((d : Int) - 1) (n : Int) (b : Int) else impl_CoreOf.l0 k ((d : Int) - 1) ((n - 1 : Nat) : Int) ((M.fixN n b d 0 : Nat) : Int) := by
      simp only [impl_CoreOf.l0]
      rw [if_pos (by omega), iess_eq n b d hn (by omega) hb6 k (by omega)]
      simp only [Option.bind_some]
      rw [hw, g0]
      simp only [Option.bind_some]
    rw [hs, hi]
    by_cases h : M.ess n b d = true
    · rw [if_pos h, if_pos h]
      exact ih k n b hn hb (by omega) (by omega)
    · rw [if_neg h, if_neg h]
      exact ih k (n - 1) (M.fixN n b d 0) (by omega) (M.tab_lt _ _ (fun _ _ => M.atN_le _ _)) (by omega) (by omega)
theorem FnExactCoreOf : ∀ (a0_0 : Int) (a0_1 : Int), (Lit.int .i64 a0_0).wf = true → (Lit.int .i64 a0_1).wf = true → ∃ k, laws_FnExactCoreOf.f k a0_0 a0_1 = some true := by
  intro n b _ _
  have e : ∃ r, spec_CoreOf.f 100 n b = some r ∧ impl_CoreOf.f 100 n b = some r := by
    unfold spec_CoreOf.f impl_CoreOf.f
    rw [is_eq, isFunc_eq]
    simp only [Option.bind_some]
    by_cases hv : M.valid n b = true
    · rw [if_pos hv, if_pos hv]
      obtain ⟨m, c, hm, hc, rfl, rfl⟩ := (M.valid_iff _ _).1 hv
      unfold spec_l01Core.f
      rw [M.w64_in ((m : Int) - 1) (by omega) (by omega)]
      obtain ⟨r1, r2, e1, e2⟩ := core_loop m 100 m c hm hc (by omega) (by omega)
      rw [e1, e2]
      exact ⟨_, rfl, rfl⟩
    · rw [if_neg hv, if_neg hv]
      exact ⟨_, rfl, rfl⟩
  obtain ⟨⟨r1, r2, r3⟩, h1, h2⟩ := e
  refine ⟨100, ?_⟩
  unfold laws_FnExactCoreOf.f laws_toFunc.f
  simp only [Option.bind_some]
  rw [h1, h2]
  simp [laws_eqFunc.f]

end Go.Proofs.Ytmfkmkjgeibpnaa.Pure
