/- The pure statement of the law FnExactDerivativeBy: the functions that the program's text comes to answer true at every input. -/
import Derived.Test.YtdlnjbaldfdnpaaPx1
import Derived.Test.YtdlnjbaldfdnpaaPx2
import Derived.Test.YtdlnjbaldfdnpaaPx17
import Derived.Test.YtdlnjbaldfdnpaaLBase
import Derived.Test.YtdlnjbaldfdnpaaLOf
namespace Go.Proofs.Ytdlnjbaldfdnpaa.Pure
open Go.RowKit Go.Proofs.Ytdlnjbaldfdnpaa.P Go.Proofs.YtdlnjbaldfdnpaaW.PrintWords Go.Proofs.YtdlnjbaldfdnpaaW.PrintLast Go.Proofs.YtdlnjbaldfdnpaaW.PrintMore
set_option linter.unusedVariables false
set_option linter.unusedSimpArgs false
theorem sder_loop (n b a : Nat) (hn : n ≤ 4) (hb : b < 2 ^ 62) (ha : a < 2 ^ n) (d : Nat) : ∀ (k r : Nat), r + d = 2 ^ n → d + 20 < k →
    spec_DerivativeBy.l0 k (a : Int) (M.lis r (fun r => M.atN b r ^^^ M.atN b (r ^^^ a))) (r : Int) (n : Int) (b : Int) = some ((n : Int), ((M.derN n b a : Nat) : Int), 0) := by
  have h16 := M.pow_le16 hn
  induction d with
  | zero =>
    intro k r hr hk
    obtain ⟨k, rfl⟩ : ∃ m, k = m + 1 := ⟨k - 1, by omega⟩
    obtain rfl : r = 2 ^ n := by omega
    simp only [spec_DerivativeBy.l0]
    rw [rows_eq n hn, Option.bind_some, if_neg (by omega), Of_eq n hn _ (fun r _ => M.der_le _ _ _) k (by omega)]; rfl
  | succ d ih =>
    intro k r hr hk
    obtain ⟨k, rfl⟩ : ∃ m, k = m + 1 := ⟨k - 1, by omega⟩
    have hl := M.lis_length r (fun r => M.atN b r ^^^ M.atN b (r ^^^ a))
    have hx16 : r ^^^ a < 2 ^ n := Nat.xor_lt_two_pow (by omega) ha
    have h1 := M.atN_le b r
    have h2 := M.atN_le b (r ^^^ a)
    have e : Int.tmod (wrap64 (((M.atN b r : Nat) : Int) + ((M.atN b (r ^^^ a) : Nat) : Int))) 2 = ((M.atN b r ^^^ M.atN b (r ^^^ a) : Nat) : Int) := by
      rw [M.xor_digit _ _ h1 h2, M.w64_in _ (by omega) (by omega), ← Int.natCast_add]; rfl
    have step := ih k (r + 1) (by omega) (by omega)
    rw [M.lis_succ] at step
    simp only [spec_DerivativeBy.l0]
    rw [rows_eq n hn, Option.bind_some, if_pos (by omega), at_eq (n : Int) b r hb (by omega), Option.bind_some, M.xor_nat r a (by omega) (by omega), at_eq (n : Int) b _ hb (by omega), Option.bind_some, if_pos (by omega), e, M.w64_in ((r : Int) + 1) (by omega) (by omega)]
    exact step
theorem FnExactDerivativeBy : ∀ (a0_0 : Int) (a0_1 : Int) (a1 : Int), (Lit.int .i64 a0_0).wf = true → (Lit.int .i64 a0_1).wf = true → (Lit.int .i64 a1).wf = true → ∃ k, laws_FnExactDerivativeBy.f k a0_0 a0_1 a1 = some true := by
  intro n b a _ _ _
  have e : ∃ r, spec_DerivativeBy.f 100 n b a = some r ∧ impl_DerivativeBy.f n b a = some r := by
    unfold spec_DerivativeBy.f impl_DerivativeBy.f
    rw [is_eq]
    simp only [Option.bind_some]
    by_cases hv : M.valid n b = true
    · rw [if_pos hv, if_pos hv]
      obtain ⟨m, c, hm, hc, rfl, rfl⟩ := (M.valid_iff _ _).1 hv
      have h16 := M.pow_le16 hm
      have h1p := M.pow_pos m
      rw [rows_eq m hm, Option.bind_some, M.w64_in _ (by omega) (by omega), in_eq, Option.bind_some]
      simp only [Int.toNat_natCast]
      by_cases ha : 0 ≤ a ∧ a < ((2 ^ m : Nat) : Int)
      · rw [if_pos ha, if_pos (by simp only [Bool.and_eq_true, decide_eq_true_eq]; omega)]
        obtain ⟨d, rfl⟩ := Int.eq_ofNat_of_zero_le ha.1
        have e1 := sder_loop m c d hm (Nat.lt_trans (M.bits_lt hm hc) (by decide)) (by omega) (2 ^ m) 100 0 (by omega) (by omega)
        rw [M.lis_zero, Int.natCast_zero] at e1
        exact ⟨_, e1, rfl⟩
      · rw [if_neg ha, if_neg (by simp only [Bool.and_eq_true, decide_eq_true_eq]; omega)]
        exact ⟨_, rfl, rfl⟩
    · rw [if_neg hv, if_neg hv]
      exact ⟨_, rfl, rfl⟩
  obtain ⟨⟨r1, r2, r3⟩, h1, h2⟩ := e
  refine ⟨100, ?_⟩
  unfold laws_FnExactDerivativeBy.f laws_toFunc.f
  simp only [Option.bind_some]
  rw [h1, h2]
  simp [laws_eqFunc.f]

end Go.Proofs.Ytdlnjbaldfdnpaa.Pure
