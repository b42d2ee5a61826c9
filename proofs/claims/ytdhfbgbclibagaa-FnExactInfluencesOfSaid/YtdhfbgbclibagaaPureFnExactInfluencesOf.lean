/- The pure statement of the law FnExactInfluencesOf: the functions that the program's text comes to answer true at every input. -/
import Derived.Test.YtdhfbgbclibagaaPx1
import Derived.Test.YtdhfbgbclibagaaPx3
import Derived.Test.YtdhfbgbclibagaaPx5
import Derived.Test.YtdhfbgbclibagaaPx11
import Derived.Test.YtdhfbgbclibagaaPx12
import Derived.Test.YtdhfbgbclibagaaLBase
import Derived.Test.YtdhfbgbclibagaaLLists
namespace Go.Proofs.Ytdhfbgbclibagaa.Pure
open Go.RowKit Go.Proofs.Ytdhfbgbclibagaa.P Go.Proofs.YtdhfbgbclibagaaW.PrintWords Go.Proofs.YtdhfbgbclibagaaW.PrintLast Go.Proofs.YtdhfbgbclibagaaW.PrintMore
set_option linter.unusedVariables false
set_option linter.unusedSimpArgs false
/-- How many rows below r tell the variable's influence. -/
def inf (b i : Nat) : Nat → Nat
  | 0 => 0
  | r + 1 => inf b i r + (M.atN b r ^^^ M.atN b (r ^^^ 2 ^ i))
theorem inf_le (b i : Nat) : ∀ r, inf b i r ≤ r
  | 0 => Nat.le_refl _
  | r + 1 => by
    have := inf_le b i r
    have := M.xor_le1 (M.atN b r) (M.atN b (r ^^^ 2 ^ i)) (M.atN_le _ _) (M.atN_le _ _)
    simp only [inf]; omega
def infL (n b i : Nat) : List Int := M.lis i (fun q => inf b q (2 ^ n))
theorem infL_len (n b i : Nat) : (infL n b i).length = i := M.lis_length _ _
theorem infL_succ (n b i : Nat) : infL n b (i + 1) = infL n b i ++ [((inf b i (2 ^ n) : Nat) : Int)] := M.lis_succ _ _
theorem shl_one (i : Nat) (hi : i < 4) : shl .i64 1 (i : Int) = ((2 ^ i : Nat) : Int) := by
  have h8 : 2 ^ i ≤ 8 := M.pow2_le (a := i) (b := 3) (by omega)
  rw [show (1 : Int) = ((1 : Nat) : Int) from rfl, M.shl_nat 1 i (by omega) (by omega), Nat.one_mul]
theorem s_inf (n b i : Nat) (hn : n ≤ 4) (hb : b < 2 ^ 62) (hi : i < n) (d : Nat) : ∀ (k r : Nat), r + d = 2 ^ n → d < k →
    spec_l03Influence.l0 k (i : Int) ((inf b i r : Nat) : Int) (r : Int) (n : Int) (b : Int) = some ((inf b i (2 ^ n) : Nat) : Int) := by
  have h16 := M.pow_le16 hn
  induction d with
  | zero =>
    intro k r hr hk
    obtain ⟨k, rfl⟩ : ∃ m, k = m + 1 := ⟨k - 1, by omega⟩
    obtain rfl : r = 2 ^ n := by omega
    simp only [spec_l03Influence.l0]; rw [rows_eq n hn]; simp only [Option.bind_some]
    rw [if_neg (by omega)]
  | succ d ih =>
    intro k r hr hk
    obtain ⟨k, rfl⟩ : ∃ m, k = m + 1 := ⟨k - 1, by omega⟩
    have hx := M.xor_lt16 n (by omega) i hi r (by omega)
    have h8 : 2 ^ i ≤ 8 := M.pow2_le (a := i) (b := 3) (by omega)
    have hl := inf_le b i r
    have hs := ih k (r + 1) (by omega) (by omega)
    simp only [spec_l03Influence.l0]; rw [rows_eq n hn]; simp only [Option.bind_some]
    rw [if_pos (by omega), at_eq (n : Int) b r hb (by omega), Option.bind_some, M.u64_in _ (by omega) (by omega), if_pos (by omega), shl_one i (by omega), M.xor_nat r _ (by omega) (by omega), at_eq (n : Int) b _ hb (by omega), Option.bind_some, M.w64_in ((r : Int) + 1) (by omega) (by omega), M.w64_in _ (by omega) (by omega)]
    have h1 := M.atN_lt b r
    have h2 := M.atN_lt b (r ^^^ 2 ^ i)
    simp only [inf] at hs
    rw [M.xor_digit _ _ (by omega) (by omega)] at hs
    by_cases e : M.atN b r = M.atN b (r ^^^ 2 ^ i)
    · rw [if_pos (by omega)]
      rw [show inf b i r + (M.atN b r + M.atN b (r ^^^ 2 ^ i)) % 2 = inf b i r from by omega] at hs
      exact hs
    · rw [if_neg (by omega)]
      rw [show inf b i r + (M.atN b r + M.atN b (r ^^^ 2 ^ i)) % 2 = inf b i r + 1 from by omega] at hs
      exact hs
theorem s_infs (n b : Nat) (hn : n ≤ 4) (hb : b < 2 ^ 62) (d : Nat) : ∀ (k i : Nat), i + d = n → d + 20 < k →
    spec_InfluencesOf.l0 k (infL n b i) (i : Int) (n : Int) (b : Int) = some (infL n b n, 0) := by
  have h16 := M.pow_le16 hn
  induction d with
  | zero =>
    intro k i hr hk
    obtain ⟨k, rfl⟩ : ∃ m, k = m + 1 := ⟨k - 1, by omega⟩
    obtain rfl : i = n := by omega
    simp only [spec_InfluencesOf.l0]
    rw [if_neg (by omega)]
  | succ d ih =>
    intro k i hr hk
    obtain ⟨k, rfl⟩ : ∃ m, k = m + 1 := ⟨k - 1, by omega⟩
    have hl := infL_len n b i
    have hs := ih k (i + 1) (by omega) (by omega)
    have hi := s_inf n b i hn hb (by omega) (2 ^ n) k 0 (by omega) (by omega)
    rw [infL_succ] at hs
    simp only [spec_InfluencesOf.l0]
    rw [if_pos (by omega)]
    unfold spec_l03Influence.f
    erw [hi]
    rw [Option.bind_some, if_pos (by omega), M.w64_in ((i : Int) + 1) (by omega) (by omega)]
    exact hs
theorem i_inner (n b i : Nat) (hn : n ≤ 4) (hb : b < 2 ^ 62) (hi : i < n) (R : Option (List Int × Int)) (K0 : Nat)
    (H : ∀ k, K0 ≤ k → impl_InfluencesOf.l0 k (infL n b (i + 1)) (n : Int) ((i + 1 : Nat) : Int) (n : Int) (b : Int) = R) (d : Nat) : ∀ (k r : Nat), r + d = 2 ^ n → K0 + d < k →
    impl_InfluencesOf.l1 k (infL n b i) (i : Int) ((inf b i r : Nat) : Int) (n : Int) (i : Int) ((2 ^ n : Nat) : Int) (r : Int) (n : Int) (b : Int) = R := by
  have h16 := M.pow_le16 hn
  induction d with
  | zero =>
    intro k r hr hk
    obtain ⟨k, rfl⟩ : ∃ m, k = m + 1 := ⟨k - 1, by omega⟩
    obtain rfl : r = 2 ^ n := by omega
    have hl := infL_len n b i
    have := H k (by omega)
    rw [infL_succ] at this
    simp only [impl_InfluencesOf.l1]
    rw [if_neg (by omega), if_pos (by omega), M.w64_in ((i : Int) + 1) (by omega) (by omega)]
    exact this
  | succ d ih =>
    intro k r hr hk
    obtain ⟨k, rfl⟩ : ∃ m, k = m + 1 := ⟨k - 1, by omega⟩
    have hx := M.xor_lt16 n (by omega) i hi r (by omega)
    have h8 : 2 ^ i ≤ 8 := M.pow2_le (a := i) (b := 3) (by omega)
    have hl := inf_le b i r
    have h1 := M.atN_le b r
    have h2 := M.atN_le b (r ^^^ 2 ^ i)
    have h3 := M.xor_le1 _ _ h1 h2
    simp only [impl_InfluencesOf.l1]
    rw [if_pos (by omega), Func_at_eq (n : Int) b r hb (by omega), Option.bind_some, if_pos (by omega), shl_one i (by omega), M.xor_nat r _ (by omega) (by omega), Func_at_eq (n : Int) b _ hb (by omega), Option.bind_some, M.xor_nat _ _ (by omega) (by omega), M.w64_in ((r : Int) + 1) (by omega) (by omega), M.w64_in _ (by omega) (by omega)]
    exact ih k (r + 1) (by omega) (by omega)
theorem i_outer (n b : Nat) (hn : n ≤ 4) (hb : b < 2 ^ 62) (d : Nat) : ∀ (i : Nat), i + d = n → ∀ k, 20 + 20 * d ≤ k →
    impl_InfluencesOf.l0 k (infL n b i) (n : Int) (i : Int) (n : Int) (b : Int) = some (infL n b n, 0) := by
  have h16 := M.pow_le16 hn
  induction d with
  | zero =>
    intro i hr k hk
    obtain ⟨k, rfl⟩ : ∃ m, k = m + 1 := ⟨k - 1, by omega⟩
    obtain rfl : i = n := by omega
    simp only [impl_InfluencesOf.l0]
    rw [if_neg (by omega)]
  | succ d ih =>
    intro i hr k hk
    obtain ⟨k, rfl⟩ : ∃ m, k = m + 1 := ⟨k - 1, by omega⟩
    simp only [impl_InfluencesOf.l0]
    rw [if_pos (by omega), Func_rows_eq n _ hn, Option.bind_some]
    exact i_inner n b i hn hb (by omega) _ (20 + 20 * d) (ih (i + 1) (by omega)) (2 ^ n) k 0 (by omega) (by omega)
theorem inf_both (n b : Int) : ∃ l c, spec_InfluencesOf.f 200 n b = some (l, c) ∧ impl_InfluencesOf.f 200 n b = some (l, c) ∧ impl_InfluencesOf.f 199 n b = some (l, c) ∧ l.length ≤ 16 := by
  unfold spec_InfluencesOf.f impl_InfluencesOf.f
  rw [is_eq, isFunc_eq]
  simp only [Option.bind_some]
  by_cases hv : M.valid n b = true
  · rw [if_pos hv, if_pos hv, if_pos hv]
    obtain ⟨m, c, hm, hc, rfl, rfl⟩ := (M.valid_iff _ _).1 hv
    have hc6 : c < 2 ^ 62 := Nat.lt_trans (M.bits_lt hm hc) (by decide)
    have e1 := s_infs m c hm hc6 m 200 0 (by omega) (by omega)
    have e2 := i_outer m c hm hc6 m 0 (by omega) 200 (by omega)
    have e3 := i_outer m c hm hc6 m 0 (by omega) 199 (by omega)
    exact ⟨_, _, e1, e2, e3, by rw [infL_len]; omega⟩
  · rw [if_neg hv, if_neg hv, if_neg hv]
    exact ⟨_, _, rfl, rfl, rfl, by simp⟩
theorem FnExactInfluencesOf : ∀ (a0_0 : Int) (a0_1 : Int), (Lit.int .i64 a0_0).wf = true → (Lit.int .i64 a0_1).wf = true → ∃ k, laws_FnExactInfluencesOf.f k a0_0 a0_1 = some true := by
  intro n b _ _
  obtain ⟨l, c, h1, h2, h3, hl⟩ := inf_both n b
  refine ⟨200, ?_⟩
  unfold laws_FnExactInfluencesOf.f laws_toFunc.f
  simp only [Option.bind_some]
  rw [h1, h2]
  simp only [Option.bind_some]
  rw [eqL_self l (by omega) 200 (by omega)]
  simp only [Option.bind_some, if_true, bne_self_eq_false]
  simp only [laws_FnExactInfluencesOf.j0, laws_toFunc.f, Option.bind_some]
  rw [if_neg (by simp), mark_eq l (by omega) 199 (by omega)]
  simp only [Option.bind_some]
  rw [held_eq _ (by omega) 199 (by omega)]
  rw [Option.bind_some, if_neg (by omega), if_pos rfl, h3]
  simp only [Option.bind_some]
  rw [eqL_self l (by omega) 199 (by omega)]
  simp only [Option.bind_some, if_true, bne_self_eq_false]
  simp only [laws_FnExactInfluencesOf.j1]
  rw [if_neg (by simp), held_eq _ (by omega) 198 (by omega)]
  rw [Option.bind_some, if_neg (by omega), if_pos rfl]

end Go.Proofs.Ytdhfbgbclibagaa.Pure
