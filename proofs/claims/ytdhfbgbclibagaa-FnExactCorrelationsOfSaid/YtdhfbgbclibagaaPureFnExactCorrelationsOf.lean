/- The pure statement of the law FnExactCorrelationsOf: the functions that the program's text comes to answer true at every input. -/
import Derived.Test.YtdhfbgbclibagaaPx1
import Derived.Test.YtdhfbgbclibagaaPx3
import Derived.Test.YtdhfbgbclibagaaPx5
import Derived.Test.YtdhfbgbclibagaaPx7
import Derived.Test.YtdhfbgbclibagaaPx8
import Derived.Test.YtdhfbgbclibagaaPx9
import Derived.Test.YtdhfbgbclibagaaPx10
import Derived.Test.YtdhfbgbclibagaaLBase
import Derived.Test.YtdhfbgbclibagaaLSize
import Derived.Test.YtdhfbgbclibagaaLLists
namespace Go.Proofs.Ytdhfbgbclibagaa.Pure
open Go.RowKit Go.Proofs.Ytdhfbgbclibagaa.P Go.Proofs.YtdhfbgbclibagaaW.PrintWords Go.Proofs.YtdhfbgbclibagaaW.PrintLast Go.Proofs.YtdhfbgbclibagaaW.PrintMore
set_option linter.unusedVariables false
set_option linter.unusedSimpArgs false
theorem ccc_inner (n b a : Nat) (hn : n ≤ 4) (hb : b < 2 ^ 62) (ha : a < 2 ^ n) (R : Option (List Int × Int)) (K0 : Nat) (h17 : 18 ≤ K0)
    (H : ∀ k, K0 ≤ k → spec_CorrelationsOf.l0 k (M.sumL (2 ^ n) (M.cor b) (a + 1)) ((2 ^ n : Nat) : Int) ((a + 1 : Nat) : Int) (n : Int) (b : Int) = R) (d : Nat) : ∀ (k r : Nat), r + d = 2 ^ n → K0 + d < k →
    spec_CorrelationsOf.l1 k (M.sumL (2 ^ n) (M.cor b) a) ((2 ^ n : Nat) : Int) (a : Int) (M.part (M.cor b) a r) (r : Int) (n : Int) (b : Int) = R := by
  have h16 := M.pow_le16 hn
  induction d with
  | zero =>
    intro k r hr hk
    obtain ⟨k, rfl⟩ : ∃ m, k = m + 1 := ⟨k - 1, by omega⟩
    obtain rfl : r = 2 ^ n := by omega
    have hl := M.sumL_length (2 ^ n) (M.cor b) a
    have := H k (by omega)
    rw [M.sumL_succ] at this
    simp only [spec_CorrelationsOf.l1]
    rw [if_neg (by omega), if_pos (by omega), M.w64_in ((a : Int) + 1) (by omega) (by omega)]
    exact this
  | succ d ih =>
    intro k r hr hk
    obtain ⟨k, rfl⟩ : ∃ m, k = m + 1 := ⟨k - 1, by omega⟩
    have hp := M.part_le (M.cor b) (cor_le b) a r
    have hxor : r ^^^ a < 2 ^ n := Nat.xor_lt_two_pow (by omega) ha
    have h2 := M.atN_le b (r ^^^ a)
    have h3 := M.atN_le b r
    simp only [spec_CorrelationsOf.l1]
    rw [if_pos (by omega), at_eq (n : Int) b r hb (by omega), M.xor_nat r a (by omega) (by omega), Option.bind_some, at_eq (n : Int) b _ hb (by omega), Option.bind_some, sgn_step _ _ _ (by omega) (by omega) (by omega) (by omega), M.w64_in ((r : Int) + 1) (by omega) (by omega)]
    exact ih k (r + 1) (by omega) (by omega)
theorem ccc_outer (n b : Nat) (hn : n ≤ 4) (hb : b < 2 ^ 62) (d : Nat) : ∀ (a : Nat), a + d = 2 ^ n → ∀ k, 40 + 20 * d ≤ k →
    spec_CorrelationsOf.l0 k (M.sumL (2 ^ n) (M.cor b) a) ((2 ^ n : Nat) : Int) (a : Int) (n : Int) (b : Int) = some (M.sumL (2 ^ n) (M.cor b) (2 ^ n), 0) := by
  have h16 := M.pow_le16 hn
  induction d with
  | zero =>
    intro a ha k hk
    obtain ⟨k, rfl⟩ : ∃ m, k = m + 1 := ⟨k - 1, by omega⟩
    obtain rfl : a = 2 ^ n := by omega
    simp only [spec_CorrelationsOf.l0]
    rw [if_neg (by omega)]
  | succ d ih =>
    intro a ha k hk
    obtain ⟨k, rfl⟩ : ∃ m, k = m + 1 := ⟨k - 1, by omega⟩
    simp only [spec_CorrelationsOf.l0]
    rw [if_pos (by omega)]
    exact ccc_inner n b a hn hb (by omega) _ (40 + 20 * d) (by omega) (ih (a + 1) (by omega)) (2 ^ n) k 0 (by omega) (by omega)
theorem cor_both (n b : Int) : ∃ l c, spec_CorrelationsOf.f 400 n b = some (l, c) ∧ impl_CorrelationsOf.f n b = some (l, c) ∧ impl_CorrelationsOf.f n b = some (l, c) ∧ l.length ≤ 16 := by
  unfold spec_CorrelationsOf.f impl_CorrelationsOf.f
  rw [is_eq]
  simp only [Option.bind_some]
  by_cases hv : M.valid n b = true
  · rw [if_pos hv, if_pos hv]
    obtain ⟨m, c, hm, hc, rfl, rfl⟩ := (M.valid_iff _ _).1 hv
    have hc6 : c < 2 ^ 62 := Nat.lt_trans (M.bits_lt hm hc) (by decide)
    have h16 := M.pow_le16 hm
    rw [rows_eq m hm, Option.bind_some]
    have := ccc_outer m c hm hc6 (2 ^ m) 0 (by omega) 400 (by omega)
    refine ⟨_, _, this, rfl, rfl, by rw [M.sumL_length]; exact h16⟩
  · rw [if_neg hv, if_neg hv]
    exact ⟨_, _, rfl, rfl, rfl, by simp⟩
theorem FnExactCorrelationsOf : ∀ (a0_0 : Int) (a0_1 : Int), (Lit.int .i64 a0_0).wf = true → (Lit.int .i64 a0_1).wf = true → ∃ k, laws_FnExactCorrelationsOf.f k a0_0 a0_1 = some true := by
  intro n b _ _
  obtain ⟨l, c, h1, h2, h3, hl⟩ := cor_both n b
  refine ⟨400, ?_⟩
  unfold laws_FnExactCorrelationsOf.f laws_toFunc.f
  simp only [Option.bind_some]
  rw [h1, h2]
  simp only [Option.bind_some]
  rw [eqL_self l (by omega) 400 (by omega)]
  simp only [Option.bind_some, if_true, bne_self_eq_false]
  simp only [laws_FnExactCorrelationsOf.j0, laws_toFunc.f, Option.bind_some]
  rw [if_neg (by simp), mark_eq l (by omega) 399 (by omega)]
  simp only [Option.bind_some]
  rw [held_eq _ (by omega) 399 (by omega)]
  rw [Option.bind_some, if_neg (by omega), if_pos rfl, h3]
  simp only [Option.bind_some]
  rw [eqL_self l (by omega) 399 (by omega)]
  simp only [Option.bind_some, if_true, bne_self_eq_false]
  simp only [laws_FnExactCorrelationsOf.j1]
  rw [if_neg (by simp), held_eq _ (by omega) 398 (by omega)]
  rw [Option.bind_some, if_neg (by omega), if_pos rfl]

end Go.Proofs.Ytdhfbgbclibagaa.Pure
