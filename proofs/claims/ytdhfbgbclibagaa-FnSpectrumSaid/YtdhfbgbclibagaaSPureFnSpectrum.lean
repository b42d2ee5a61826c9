/- The pure statement of the law FnSpectrum: the functions that the program's text comes to answer true at every input. -/
import Derived.Test.YtdhfbgbclibagaaSQx1
import Derived.Test.YtdhfbgbclibagaaSQx2
import Derived.Test.YtdhfbgbclibagaaSQx3
import Derived.Test.YtdhfbgbclibagaaSQx4
import Derived.Test.YtdhfbgbclibagaaSQx5
import Derived.Test.YtdhfbgbclibagaaSQx6
import Derived.Test.YtdhfbgbclibagaaSQx7
import Derived.Test.YtdhfbgbclibagaaSQx8
import Derived.Test.YtdhfbgbclibagaaSQx9
import Derived.Test.YtdhfbgbclibagaaSQx10
import Derived.Test.YtdhfbgbclibagaaSQx11
import Derived.Test.YtdhfbgbclibagaaSQx12
import Derived.Test.YtdhfbgbclibagaaSQx13
import Derived.Test.YtdhfbgbclibagaaSQx14
import Derived.Test.YtdhfbgbclibagaaSQx15
import Derived.Test.YtdhfbgbclibagaaSQx16
import Derived.Test.YtdhfbgbclibagaaSQx17
import Derived.Test.YtdhfbgbclibagaaSQx18
import Derived.Test.YtdhfbgbclibagaaSKBase
import Derived.Test.YtdhfbgbclibagaaSKOf
import Derived.Test.YtdhfbgbclibagaaSKSize
import Derived.Test.YtdhfbgbclibagaaSKCnt
import Derived.Test.YtdhfbgbclibagaaSKWgt
import Derived.Test.YtdhfbgbclibagaaSKFix
import Derived.Test.YtdhfbgbclibagaaSKSpec
import Derived.Test.YtdhfbgbclibagaaSKEnds
import Derived.Test.YtdhfbgbclibagaaSKDraw
import Derived.Test.YtdhfbgbclibagaaSQx0
import Derived.Test.YtdhfbgbclibagaaSKWalsh
namespace Go.Proofs.Ytdhfbgbclibagaa.Pure
open Go.RowKit Go.Proofs.Ytdhfbgbclibagaa.P Go.Proofs.YtdhfbgbclibagaaW.PrintWords Go.Proofs.YtdhfbgbclibagaaW.PrintLast Go.Proofs.YtdhfbgbclibagaaW.PrintMore
set_option linter.unusedVariables false
set_option linter.unusedSimpArgs false
theorem ends_eqk (n b : Nat) (hn : n ≤ 4) (hb : b < 2 ^ 62) (k : Nat) (hk : 400 ≤ k) : spec_l03Ends.f k (n : Int) (b : Int) = some (hiN (M.sumL (2 ^ n) (M.spc b) (2 ^ n)) (2 ^ n), loN ((2 ^ n : Nat) : Int) (M.sumL (2 ^ n) (M.spc b) (2 ^ n)) (2 ^ n)) := by
  have h16 := M.pow_le16 hn
  unfold spec_l03Ends.f
  rw [spectrum_eq n b hn hb k (by omega), Option.bind_some, rows_eq n hn, Option.bind_some]
  have hlen := M.sumL_length (2 ^ n) (M.spc b) (2 ^ n)
  have := ends_loop ((2 ^ n : Nat) : Int) (M.sumL (2 ^ n) (M.spc b) (2 ^ n)) (by omega) (sumL_in _ h16 _ (spc_le b) _) (2 ^ n) k 0 (by omega) (by omega)
  rw [hlen] at this
  exact this
theorem bent_loop (l : List Int) (hlen : l.length ≤ 16) (hl : ∀ i : Nat, -16 ≤ rd l (i : Int) ∧ rd l (i : Int) ≤ 16) (d : Nat) : ∀ (k i : Nat), i + d = l.length → d < k →
    impl_IsBent.l0 k l l (l.length : Int) (i : Int) = some (decide (∀ q : Nat, q < l.length → i ≤ q → rd l (q : Int) * rd l (q : Int) = rd l 0 * rd l 0), 0) := by
  induction d with
  | zero =>
    intro k i hi hk
    obtain ⟨k, rfl⟩ : ∃ m, k = m + 1 := ⟨k - 1, by omega⟩
    obtain rfl : i = l.length := by omega
    simp only [impl_IsBent.l0]
    rw [if_neg (by omega), decide_eq_true (fun q h1 h2 => by omega)]
  | succ d ih =>
    intro k i hi hk
    obtain ⟨k, rfl⟩ : ∃ m, k = m + 1 := ⟨k - 1, by omega⟩
    have hv := hl i
    have h0 := hl 0
    have hs := ih k (i + 1) (by omega) (by omega)
    simp only [impl_IsBent.l0]
    rw [Int.natCast_zero] at h0
    rw [if_pos (by omega), if_pos (by omega), if_pos (by omega), if_pos (by omega), sq_in _ hv.1 hv.2, sq_in _ h0.1 h0.2, M.w64_in ((i : Int) + 1) (by omega) (by omega)]
    by_cases e : rd l (i : Int) * rd l (i : Int) = rd l 0 * rd l 0
    · rw [if_pos e]
      refine hs.trans ?_
      congr 2
      rw [decide_eq_decide]
      constructor
      · intro h q h1 h2
        by_cases c : q = i
        · subst c; exact e
        · exact h q h1 (by omega)
      · intro h q h1 h2
        exact h q h1 (by omega)
    · rw [if_neg e, decide_eq_false (fun h => e (h i (by omega) (Nat.le_refl _)))]
theorem bent_both (n b : Int) (k : Nat) (hk : 400 ≤ k) : ∃ r c, impl_IsBent.f k n b = some (r, c) ∧ spec_IsBent.f k n b = some (r, c) ∧
    (c = 0 → ∃ N B : Nat, N ≤ 4 ∧ B < 2 ^ 2 ^ N ∧ n = N ∧ b = B ∧ (r = true → ∀ w, w < 2 ^ N → spw N B w * spw N B w = spw N B 0 * spw N B 0)) := by
  unfold spec_IsBent.f impl_IsBent.f
  rw [is_eq, isFunc_eq]
  simp only [Option.bind_some]
  by_cases hv : M.valid n b = true
  · rw [if_pos hv, if_pos hv]
    obtain ⟨m, c, hm, hc, rfl, rfl⟩ := (M.valid_iff _ _).1 hv
    have h16 := M.pow_le16 hm
    have hp := M.pow_pos m
    have hlen := M.sumL_length (2 ^ m) (M.spc c) (2 ^ m)
    have hin := sumL_in (2 ^ m) h16 (M.spc c) (spc_le c) (2 ^ m)
    have := bent_loop (M.sumL (2 ^ m) (M.spc c) (2 ^ m)) (by omega) hin (2 ^ m) k 0 (by omega) (by omega)
    rw [ispectrum_eq m c hv, Option.bind_some, ends_eqk m c hm (Nat.lt_trans (M.bits_lt hm hc) (by decide)) k hk, Option.bind_some]
    refine ⟨_, _, this, ?_, fun _ => ⟨m, c, hm, hc, rfl, rfl, fun h w hw => ?_⟩⟩
    · congr 2
      rw [hlen, Bool.eq_iff_iff, decide_eq_true_eq, beq_iff_eq, ends_iff _ _ _ (by omega) hin]
      · constructor
        · intro h q hq _; exact h q hq
        · intro h q hq; exact h q hq (Nat.zero_le _)
      · intro i hi
        rw [sumL_rd _ _ _ _ hi]
        have := M.part_le (M.spc c) (spc_le c) i (2 ^ m)
        unfold sz; split <;> omega
    · have h1 := of_decide_eq_true h w (by omega) (Nat.zero_le _)
      have e0 := sumL_rd (2 ^ m) (M.spc c) (2 ^ m) 0 (by omega)
      rw [Int.natCast_zero] at e0
      rw [sumL_rd _ _ _ _ hw, e0, spw_part, spw_part] at h1
      exact h1
  · rw [if_neg hv, if_neg hv]
    exact ⟨_, _, rfl, rfl, fun h => absurd h (by decide)⟩
theorem spec_val (m c : Nat) (hm : m ≤ 4) (hc : c < 2 ^ 2 ^ m) : impl_SpectrumOf.f (m : Int) (c : Int) = some (M.sumL (2 ^ m) (M.spc c) (2 ^ m), 0) := by
  have hv : M.valid (m : Int) (c : Int) = true := (M.valid_iff _ _).2 ⟨m, c, hm, hc, rfl, rfl⟩
  unfold impl_SpectrumOf.f
  rw [isFunc_eq, Option.bind_some, if_pos hv, ispectrum_eq m c hv]; rfl
theorem spectrum_bothk (n b : Int) (k : Nat) (hk : 400 ≤ k) : ∃ l c, impl_SpectrumOf.f n b = some (l, c) ∧ spec_SpectrumOf.f k n b = some (l, c) ∧ l.length ≤ 16 := by
  unfold spec_SpectrumOf.f impl_SpectrumOf.f
  rw [is_eq, isFunc_eq]
  simp only [Option.bind_some]
  by_cases hv : M.valid n b = true
  · rw [if_pos hv, if_pos hv]
    obtain ⟨m, c, hm, hc, rfl, rfl⟩ := (M.valid_iff _ _).1 hv
    have hc6 : c < 2 ^ 62 := Nat.lt_trans (M.bits_lt hm hc) (by decide)
    rw [spectrum_eq m c hm hc6 k (by omega), ispectrum_eq m c hv]
    exact ⟨_, _, rfl, rfl, by rw [M.sumL_length]; exact M.pow_le16 hm⟩
  · rw [if_neg hv, if_neg hv]
    exact ⟨_, _, rfl, rfl, by simp⟩
theorem ccc_inner (n b a : Nat) (hn : n ≤ 4) (hb : b < 2 ^ 62) (ha : a < 2 ^ n) (R : Option (List Int × Int)) (K0 : Nat) (h17 : 18 ≤ K0)
    (H : ∀ k, K0 ≤ k → spec_CorrelationsOf.l0 k (M.sumL (2 ^ n) (M.cor b) (a + 1)) ((2 ^ n : Nat) : Int) ((a + 1 : Nat) : Int) (n : Int) (b : Int) = R) (d : Nat) : ∀ (k r : Nat), r + d = 2 ^ n → K0 + d < k →
    spec_CorrelationsOf.l1 k (M.sumL (2 ^ n) (M.cor b) a) ((2 ^ n : Nat) : Int) (a : Int) (M.part (M.cor b) a r) (r : Int) (n : Int) (b : Int) = R := by
  have h16 := M.pow_le16 hn
  induction d with
  | zero =>
    intro k r hr hk
    obtain ⟨k, rfl⟩ : ∃ m, k = m + 1 := ⟨k - 1, by omega⟩
    obtain rfl : r = 2 ^ n := by omega
    have hl := M.sumL_length (2 ^ n) (M.cor b) a
    have := H k (by omega)
    rw [M.sumL_succ] at this
    simp only [spec_CorrelationsOf.l1]
    rw [if_neg (by omega), if_pos (by omega), M.w64_in ((a : Int) + 1) (by omega) (by omega)]
    exact this
  | succ d ih =>
    intro k r hr hk
    obtain ⟨k, rfl⟩ : ∃ m, k = m + 1 := ⟨k - 1, by omega⟩
    have hp := M.part_le (M.cor b) (cor_le b) a r
    have hxor : r ^^^ a < 2 ^ n := Nat.xor_lt_two_pow (by omega) ha
    have h2 := M.atN_le b (r ^^^ a)
    have h3 := M.atN_le b r
    simp only [spec_CorrelationsOf.l1]
    rw [if_pos (by omega), at_eq (n : Int) b r hb (by omega), M.xor_nat r a (by omega) (by omega), Option.bind_some, at_eq (n : Int) b _ hb (by omega), Option.bind_some, sgn_step _ _ _ (by omega) (by omega) (by omega) (by omega), M.w64_in ((r : Int) + 1) (by omega) (by omega)]
    exact ih k (r + 1) (by omega) (by omega)
theorem ccc_outer (n b : Nat) (hn : n ≤ 4) (hb : b < 2 ^ 62) (d : Nat) : ∀ (a : Nat), a + d = 2 ^ n → ∀ k, 40 + 20 * d ≤ k →
    spec_CorrelationsOf.l0 k (M.sumL (2 ^ n) (M.cor b) a) ((2 ^ n : Nat) : Int) (a : Int) (n : Int) (b : Int) = some (M.sumL (2 ^ n) (M.cor b) (2 ^ n), 0) := by
  have h16 := M.pow_le16 hn
  induction d with
  | zero =>
    intro a ha k hk
    obtain ⟨k, rfl⟩ : ∃ m, k = m + 1 := ⟨k - 1, by omega⟩
    obtain rfl : a = 2 ^ n := by omega
    simp only [spec_CorrelationsOf.l0]
    rw [if_neg (by omega)]
  | succ d ih =>
    intro a ha k hk
    obtain ⟨k, rfl⟩ : ∃ m, k = m + 1 := ⟨k - 1, by omega⟩
    simp only [spec_CorrelationsOf.l0]
    rw [if_pos (by omega)]
    exact ccc_inner n b a hn hb (by omega) _ (40 + 20 * d) (by omega) (ih (a + 1) (by omega)) (2 ^ n) k 0 (by omega) (by omega)
theorem cor_val (m c : Nat) (hm : m ≤ 4) (hc : c < 2 ^ 2 ^ m) : impl_CorrelationsOf.f (m : Int) (c : Int) = some (M.sumL (2 ^ m) (M.cor c) (2 ^ m), 0) := by
  have hv : M.valid (m : Int) (c : Int) = true := (M.valid_iff _ _).2 ⟨m, c, hm, hc, rfl, rfl⟩
  unfold impl_CorrelationsOf.f
  rw [if_pos hv]; rfl
theorem cor_bothk (n b : Int) (k : Nat) (hk : 400 ≤ k) : ∃ l c, impl_CorrelationsOf.f n b = some (l, c) ∧ spec_CorrelationsOf.f k n b = some (l, c) ∧ l.length ≤ 16 := by
  unfold spec_CorrelationsOf.f impl_CorrelationsOf.f
  rw [is_eq]
  simp only [Option.bind_some]
  by_cases hv : M.valid n b = true
  · rw [if_pos hv, if_pos hv]
    obtain ⟨m, c, hm, hc, rfl, rfl⟩ := (M.valid_iff _ _).1 hv
    have hc6 : c < 2 ^ 62 := Nat.lt_trans (M.bits_lt hm hc) (by decide)
    have h16 := M.pow_le16 hm
    rw [rows_eq m hm, Option.bind_some]
    have := ccc_outer m c hm hc6 (2 ^ m) 0 (by omega) k (by omega)
    exact ⟨_, _, rfl, this, by simp only [Int.toNat_natCast]; rw [M.sumL_length]; exact h16⟩
  · rw [if_neg hv, if_neg hv]
    exact ⟨_, _, rfl, rfl, by simp⟩
/-- How many rows below r tell the variable's influence. -/
def inf (b i : Nat) : Nat → Nat
  | 0 => 0
  | r + 1 => inf b i r + (M.atN b r ^^^ M.atN b (r ^^^ 2 ^ i))
theorem inf_le (b i : Nat) : ∀ r, inf b i r ≤ r
  | 0 => Nat.le_refl _
  | r + 1 => by
    have := inf_le b i r
    have := M.xor_le1 (M.atN b r) (M.atN b (r ^^^ 2 ^ i)) (M.atN_le _ _) (M.atN_le _ _)
    simp only [inf]; omega
theorem inf_zero (b i : Nat) : ∀ m, inf b i m = 0 ↔ ∀ r, r < m → M.atN b r = M.atN b (r ^^^ 2 ^ i)
  | 0 => ⟨fun _ r hr => by omega, fun _ => rfl⟩
  | m + 1 => by
    have ih := inf_zero b i m
    have h1 := M.atN_le b m
    have h2 := M.atN_le b (m ^^^ 2 ^ i)
    have hx := M.xor_digit _ _ h1 h2
    simp only [inf]
    constructor
    · intro h r hr
      by_cases e : r = m
      · subst e; omega
      · exact ih.1 (by omega) r (by omega)
    · intro h
      have h3 := ih.2 (fun r hr => h r (by omega))
      have h4 := h m (by omega)
      omega
def infL (n b i : Nat) : List Int := M.lis i (fun q => inf b q (2 ^ n))
theorem infL_len (n b i : Nat) : (infL n b i).length = i := M.lis_length _ _
theorem infL_succ (n b i : Nat) : infL n b (i + 1) = infL n b i ++ [((inf b i (2 ^ n) : Nat) : Int)] := M.lis_succ _ _
theorem shl_one (i : Nat) (hi : i ≤ 4) : shl .i64 1 (i : Int) = ((2 ^ i : Nat) : Int) := by
  have h16 : 2 ^ i ≤ 16 := M.pow_le16 hi
  rw [show (1 : Int) = ((1 : Nat) : Int) from rfl, M.shl_nat 1 i (by omega) (by omega), Nat.one_mul]
theorem s_inf (n b i : Nat) (hn : n ≤ 4) (hb : b < 2 ^ 62) (hi : i < n) (d : Nat) : ∀ (k r : Nat), r + d = 2 ^ n → d < k →
    spec_l03Influence.l0 k (i : Int) ((inf b i r : Nat) : Int) (r : Int) (n : Int) (b : Int) = some ((inf b i (2 ^ n) : Nat) : Int) := by
  have h16 := M.pow_le16 hn
  induction d with
  | zero =>
    intro k r hr hk
    obtain ⟨k, rfl⟩ : ∃ m, k = m + 1 := ⟨k - 1, by omega⟩
    obtain rfl : r = 2 ^ n := by omega
    simp only [spec_l03Influence.l0]; rw [rows_eq n hn]; simp only [Option.bind_some]
    rw [if_neg (by omega)]
  | succ d ih =>
    intro k r hr hk
    obtain ⟨k, rfl⟩ : ∃ m, k = m + 1 := ⟨k - 1, by omega⟩
    have hx := M.xor_lt16 n (by omega) i hi r (by omega)
    have h8 : 2 ^ i ≤ 8 := M.pow2_le (a := i) (b := 3) (by omega)
    have hl := inf_le b i r
    have hs := ih k (r + 1) (by omega) (by omega)
    simp only [spec_l03Influence.l0]; rw [rows_eq n hn]; simp only [Option.bind_some]
    rw [if_pos (by omega), at_eq (n : Int) b r hb (by omega), Option.bind_some, M.u64_in _ (by omega) (by omega), if_pos (by omega), shl_one i (by omega), M.xor_nat r _ (by omega) (by omega), at_eq (n : Int) b _ hb (by omega), Option.bind_some, M.w64_in ((r : Int) + 1) (by omega) (by omega), M.w64_in _ (by omega) (by omega)]
    have h1 := M.atN_lt b r
    have h2 := M.atN_lt b (r ^^^ 2 ^ i)
    simp only [inf] at hs
    rw [M.xor_digit _ _ (by omega) (by omega)] at hs
    by_cases e : M.atN b r = M.atN b (r ^^^ 2 ^ i)
    · rw [if_pos (by omega)]
      rw [show inf b i r + (M.atN b r + M.atN b (r ^^^ 2 ^ i)) % 2 = inf b i r from by omega] at hs
      exact hs
    · rw [if_neg (by omega)]
      rw [show inf b i r + (M.atN b r + M.atN b (r ^^^ 2 ^ i)) % 2 = inf b i r + 1 from by omega] at hs
      exact hs
theorem s_infs (n b : Nat) (hn : n ≤ 4) (hb : b < 2 ^ 62) (d : Nat) : ∀ (k i : Nat), i + d = n → d + 20 < k →
    spec_InfluencesOf.l0 k (infL n b i) (i : Int) (n : Int) (b : Int) = some (infL n b n, 0) := by
  have h16 := M.pow_le16 hn
  induction d with
  | zero =>
    intro k i hr hk
    obtain ⟨k, rfl⟩ : ∃ m, k = m + 1 := ⟨k - 1, by omega⟩
    obtain rfl : i = n := by omega
    simp only [spec_InfluencesOf.l0]
    rw [if_neg (by omega)]
  | succ d ih =>
    intro k i hr hk
    obtain ⟨k, rfl⟩ : ∃ m, k = m + 1 := ⟨k - 1, by omega⟩
    have hl := infL_len n b i
    have hs := ih k (i + 1) (by omega) (by omega)
    have hi := s_inf n b i hn hb (by omega) (2 ^ n) k 0 (by omega) (by omega)
    rw [infL_succ] at hs
    simp only [spec_InfluencesOf.l0]
    rw [if_pos (by omega)]
    unfold spec_l03Influence.f
    erw [hi]
    rw [Option.bind_some, if_pos (by omega), M.w64_in ((i : Int) + 1) (by omega) (by omega)]
    exact hs
theorem i_inner (n b i : Nat) (hn : n ≤ 4) (hb : b < 2 ^ 62) (hi : i < n) (R : Option (List Int × Int)) (K0 : Nat)
    (H : ∀ k, K0 ≤ k → impl_InfluencesOf.l0 k (infL n b (i + 1)) (n : Int) ((i + 1 : Nat) : Int) (n : Int) (b : Int) = R) (d : Nat) : ∀ (k r : Nat), r + d = 2 ^ n → K0 + d < k →
    impl_InfluencesOf.l1 k (infL n b i) (i : Int) ((inf b i r : Nat) : Int) (n : Int) (i : Int) ((2 ^ n : Nat) : Int) (r : Int) (n : Int) (b : Int) = R := by
  have h16 := M.pow_le16 hn
  induction d with
  | zero =>
    intro k r hr hk
    obtain ⟨k, rfl⟩ : ∃ m, k = m + 1 := ⟨k - 1, by omega⟩
    obtain rfl : r = 2 ^ n := by omega
    have hl := infL_len n b i
    have := H k (by omega)
    rw [infL_succ] at this
    simp only [impl_InfluencesOf.l1]
    rw [if_neg (by omega), if_pos (by omega), M.w64_in ((i : Int) + 1) (by omega) (by omega)]
    exact this
  | succ d ih =>
    intro k r hr hk
    obtain ⟨k, rfl⟩ : ∃ m, k = m + 1 := ⟨k - 1, by omega⟩
    have hx := M.xor_lt16 n (by omega) i hi r (by omega)
    have h8 : 2 ^ i ≤ 8 := M.pow2_le (a := i) (b := 3) (by omega)
    have hl := inf_le b i r
    have h1 := M.atN_le b r
    have h2 := M.atN_le b (r ^^^ 2 ^ i)
    have h3 := M.xor_le1 _ _ h1 h2
    simp only [impl_InfluencesOf.l1]
    rw [if_pos (by omega), Func_at_eq (n : Int) b r hb (by omega), Option.bind_some, if_pos (by omega), shl_one i (by omega), M.xor_nat r _ (by omega) (by omega), Func_at_eq (n : Int) b _ hb (by omega), Option.bind_some, M.xor_nat _ _ (by omega) (by omega), M.w64_in ((r : Int) + 1) (by omega) (by omega), M.w64_in _ (by omega) (by omega)]
    exact ih k (r + 1) (by omega) (by omega)
theorem i_outer (n b : Nat) (hn : n ≤ 4) (hb : b < 2 ^ 62) (d : Nat) : ∀ (i : Nat), i + d = n → ∀ k, 20 + 20 * d ≤ k →
    impl_InfluencesOf.l0 k (infL n b i) (n : Int) (i : Int) (n : Int) (b : Int) = some (infL n b n, 0) := by
  have h16 := M.pow_le16 hn
  induction d with
  | zero =>
    intro i hr k hk
    obtain ⟨k, rfl⟩ : ∃ m, k = m + 1 := ⟨k - 1, by omega⟩
    obtain rfl : i = n := by omega
    simp only [impl_InfluencesOf.l0]
    rw [if_neg (by omega)]
  | succ d ih =>
    intro i hr k hk
    obtain ⟨k, rfl⟩ : ∃ m, k = m + 1 := ⟨k - 1, by omega⟩
    simp only [impl_InfluencesOf.l0]
    rw [if_pos (by omega), Func_rows_eq n _ hn, Option.bind_some]
    exact i_inner n b i hn hb (by omega) _ (20 + 20 * d) (ih (i + 1) (by omega)) (2 ^ n) k 0 (by omega) (by omega)
theorem inf_val (m c : Nat) (hm : m ≤ 4) (hc : c < 2 ^ 2 ^ m) (k : Nat) (hk : 200 ≤ k) : impl_InfluencesOf.f k (m : Int) (c : Int) = some (infL m c m, 0) ∧ spec_InfluencesOf.f k (m : Int) (c : Int) = some (infL m c m, 0) := by
  have hv : M.valid (m : Int) (c : Int) = true := (M.valid_iff _ _).2 ⟨m, c, hm, hc, rfl, rfl⟩
  have hc6 : c < 2 ^ 62 := Nat.lt_trans (M.bits_lt hm hc) (by decide)
  unfold spec_InfluencesOf.f impl_InfluencesOf.f
  rw [is_eq, isFunc_eq, Option.bind_some, Option.bind_some, if_pos hv, if_pos hv]
  exact ⟨i_outer m c hm hc6 m 0 (by omega) k (by omega), s_infs m c hm hc6 m k 0 (by omega) (by omega)⟩
theorem inf_bothk (n b : Int) (k : Nat) (hk : 200 ≤ k) : ∃ l c, impl_InfluencesOf.f k n b = some (l, c) ∧ spec_InfluencesOf.f k n b = some (l, c) ∧ l.length ≤ 16 := by
  by_cases hv : M.valid n b = true
  · obtain ⟨m, c, hm, hc, rfl, rfl⟩ := (M.valid_iff _ _).1 hv
    obtain ⟨h1, h2⟩ := inf_val m c hm hc k hk
    exact ⟨_, _, h1, h2, by rw [infL_len]; omega⟩
  · unfold spec_InfluencesOf.f impl_InfluencesOf.f
    rw [is_eq, isFunc_eq, Option.bind_some, Option.bind_some, if_neg hv, if_neg hv]
    exact ⟨_, _, rfl, rfl, by simp⟩
theorem weight_eqk (n b : Nat) (hn : n ≤ 4) (hb : b < 2 ^ 62) (k : Nat) (hk : 17 ≤ k) : spec_l01Weight.f k (n : Int) (b : Int) = some ((M.pop (2 ^ n) b : Nat) : Int) := by
  have h16 := M.pow_le16 hn
  unfold spec_l01Weight.f
  have hp := weight_loop n b hn hb (2 ^ n) k 0 (by omega) (by omega)
  rw [show M.pop 0 b = 0 from rfl] at hp
  exact hp
theorem bal_val (m c : Nat) (hm : m ≤ 4) (hc : c < 2 ^ 2 ^ m) (k : Nat) (hk : 17 ≤ k) : impl_IsBalanced.f (m : Int) (c : Int) = some (((wrap64 (2 * ((M.pop (2 ^ m) c : Nat) : Int))) == ((2 ^ m : Nat) : Int)), 0) ∧ spec_IsBalanced.f k (m : Int) (c : Int) = some (((wrap64 (2 * ((M.pop (2 ^ m) c : Nat) : Int))) == ((2 ^ m : Nat) : Int)), 0) := by
  have hv : M.valid (m : Int) (c : Int) = true := (M.valid_iff _ _).2 ⟨m, c, hm, hc, rfl, rfl⟩
  unfold spec_IsBalanced.f impl_IsBalanced.f
  rw [is_eq, isFunc_eq, Option.bind_some, Option.bind_some, if_pos hv, if_pos hv, weight_eqk m c hm (Nat.lt_trans (M.bits_lt hm hc) (by decide)) k hk, rows_eq m hm, Func_rows_eq m _ hm, ones_eq c (M.bits_lt hm hc), M.pop_up (2 ^ m) 16 c hc (M.pow_le16 hm)]
  exact ⟨rfl, rfl⟩
theorem bal_bothk (n b : Int) (k : Nat) (hk : 17 ≤ k) : ∃ r c, impl_IsBalanced.f n b = some (r, c) ∧ spec_IsBalanced.f k n b = some (r, c) := by
  by_cases hv : M.valid n b = true
  · obtain ⟨m, c, hm, hc, rfl, rfl⟩ := (M.valid_iff _ _).1 hv
    obtain ⟨h1, h2⟩ := bal_val m c hm hc k hk
    exact ⟨_, _, h1, h2⟩
  · unfold spec_IsBalanced.f impl_IsBalanced.f
    rw [is_eq, isFunc_eq, Option.bind_some, Option.bind_some, if_neg hv, if_neg hv]
    exact ⟨_, _, rfl, rfl⟩
theorem adist_loop (n : Nat) (hn : n ≤ 4) (b : Int) (l : List Int) (hlen : l.length ≤ 16) (hl : ∀ i : Nat, -16 ≤ rd l (i : Int) ∧ rd l (i : Int) ≤ 16) (d : Nat) : ∀ (k i : Nat), i + d = l.length → d < k →
    impl_AffineDistance.l0 k (hiN l i) l (l.length : Int) (i : Int) (n : Int) b = some (wrap64 (Int.tdiv (wrap64 (((2 ^ n : Nat) : Int) - hiN l l.length)) 2), 0) := by
  induction d with
  | zero =>
    intro k i hi hk
    obtain ⟨k, rfl⟩ : ∃ m, k = m + 1 := ⟨k - 1, by omega⟩
    obtain rfl : i = l.length := by omega
    simp only [impl_AffineDistance.l0]
    rw [if_neg (by omega), Func_rows_eq n _ hn]; rfl
  | succ d ih =>
    intro k i hi hk
    obtain ⟨k, rfl⟩ : ∃ m, k = m + 1 := ⟨k - 1, by omega⟩
    have hv := hl i
    simp only [impl_AffineDistance.l0]
    rw [if_pos (by omega), if_pos (by omega), if_pos (by omega), M.w64_in (-_) (by omega) (by omega), M.w64_in ((i : Int) + 1) (by omega) (by omega)]
    exact ih k (i + 1) (by omega) (by omega)
theorem dist_val (m c : Nat) (hm : m ≤ 4) (hc : c < 2 ^ 2 ^ m) (k : Nat) (hk : 400 ≤ k) : impl_AffineDistance.f k (m : Int) (c : Int) = some (wrap64 (Int.tdiv (wrap64 (((2 ^ m : Nat) : Int) - hiN (M.sumL (2 ^ m) (M.spc c) (2 ^ m)) (2 ^ m))) 2), 0) ∧ spec_AffineDistance.f k (m : Int) (c : Int) = some (wrap64 (Int.tdiv (wrap64 (((2 ^ m : Nat) : Int) - hiN (M.sumL (2 ^ m) (M.spc c) (2 ^ m)) (2 ^ m))) 2), 0) := by
  have hv : M.valid (m : Int) (c : Int) = true := (M.valid_iff _ _).2 ⟨m, c, hm, hc, rfl, rfl⟩
  have h16 := M.pow_le16 hm
  have hlen := M.sumL_length (2 ^ m) (M.spc c) (2 ^ m)
  have := adist_loop m hm (c : Int) (M.sumL (2 ^ m) (M.spc c) (2 ^ m)) (by omega) (sumL_in _ h16 _ (spc_le c) _) (2 ^ m) k 0 (by omega) (by omega)
  unfold spec_AffineDistance.f impl_AffineDistance.f
  rw [is_eq, isFunc_eq, Option.bind_some, Option.bind_some, if_pos hv, if_pos hv, ispectrum_eq m c hv, Option.bind_some, ends_eqk m c hm (Nat.lt_trans (M.bits_lt hm hc) (by decide)) k hk, Option.bind_some, rows_eq m hm]
  rw [hlen] at this ⊢
  exact ⟨this, rfl⟩
theorem dist_bothk (n b : Int) (k : Nat) (hk : 400 ≤ k) : ∃ r c, impl_AffineDistance.f k n b = some (r, c) ∧ spec_AffineDistance.f k n b = some (r, c) := by
  by_cases hv : M.valid n b = true
  · obtain ⟨m, c, hm, hc, rfl, rfl⟩ := (M.valid_iff _ _).1 hv
    obtain ⟨h1, h2⟩ := dist_val m c hm hc k hk
    exact ⟨_, _, h1, h2⟩
  · unfold spec_AffineDistance.f impl_AffineDistance.f
    rw [is_eq, isFunc_eq, Option.bind_some, Option.bind_some, if_neg hv, if_neg hv]
    exact ⟨_, _, rfl, rfl⟩
/-- What the rows below w tell. -/
def imm (n : Int) (l : List Int) : Nat → Int
  | 0 => n
  | w + 1 => if 0 < w then (if rd l (w : Int) = 0 then imm n l w else mn (imm n l w) (((M.pop 16 w : Nat) : Int) - 1)) else imm n l w
theorem simm_loop (n : Int) (l : List Int) (hlen : l.length ≤ 16) (d : Nat) : ∀ (k w : Nat), w + d = l.length → 0 < w → d + 20 < k →
    spec_ImmunityOf.l0 k l (imm n l w) (w : Int) = some (imm n l l.length, 0) := by
  induction d with
  | zero =>
    intro k r hr h0 hk
    obtain ⟨k, rfl⟩ : ∃ m, k = m + 1 := ⟨k - 1, by omega⟩
    obtain rfl : r = l.length := by omega
    simp only [spec_ImmunityOf.l0]; rw [if_neg (by omega)]
  | succ d ih =>
    intro k r hr h0 hk
    obtain ⟨k, rfl⟩ : ∃ m, k = m + 1 := ⟨k - 1, by omega⟩
    have step := ih k (r + 1) (by omega) (by omega) (by omega)
    have hp := M.pop_le16 r
    simp only [imm] at step
    rw [if_pos h0] at step
    simp only [spec_ImmunityOf.l0]
    rw [if_pos (by omega), if_pos (by omega), M.w64_in ((r : Int) + 1) (by omega) (by omega)]
    by_cases h : rd l (r : Int) = 0
    · rw [if_pos h] at step
      rw [if_pos h]
      exact step
    · rw [if_neg h] at step
      rw [if_neg h, size_eq r (by omega) k (by omega), Option.bind_some, M.w64_in _ (by omega) (by omega)]
      exact step
theorem iimm_loop (n : Int) (l : List Int) (hlen : l.length ≤ 16) (d : Nat) : ∀ (k w : Nat), w + d = l.length → d < k →
    impl_ImmunityOf.l0 k (imm n l w) l (l.length : Int) (w : Int) = some (imm n l l.length, 0) := by
  induction d with
  | zero =>
    intro k r hr hk
    obtain ⟨k, rfl⟩ : ∃ m, k = m + 1 := ⟨k - 1, by omega⟩
    obtain rfl : r = l.length := by omega
    simp only [impl_ImmunityOf.l0]; rw [if_neg (by omega)]
  | succ d ih =>
    intro k r hr hk
    obtain ⟨k, rfl⟩ : ∃ m, k = m + 1 := ⟨k - 1, by omega⟩
    have step := ih k (r + 1) (by omega) (by omega)
    have hp := M.pop_le16 r
    simp only [imm] at step
    simp only [impl_ImmunityOf.l0]
    rw [if_pos (by omega), if_pos (by omega), if_pos (by omega), M.w64_in ((r : Int) + 1) (by omega) (by omega)]
    by_cases h0 : 0 < r
    · rw [if_pos h0] at step
      rw [if_pos (by omega)]
      by_cases h : rd l (r : Int) = 0
      · rw [if_pos h] at step
        rw [if_pos h]
        exact step
      · rw [if_neg h] at step
        rw [if_neg h, ones_eq r (by omega), Option.bind_some, M.w64_in _ (by omega) (by omega)]
        exact step
    · rw [if_neg h0] at step
      rw [if_neg (by omega)]
      exact step
theorem imm_bothk (n b : Int) (k : Nat) (hk : 400 ≤ k) : ∃ r c, impl_ImmunityOf.f k n b = some (r, c) ∧ spec_ImmunityOf.f k n b = some (r, c) := by
  unfold spec_ImmunityOf.f impl_ImmunityOf.f
  rw [is_eq, isFunc_eq]
  simp only [Option.bind_some]
  by_cases hv : M.valid n b = true
  · rw [if_pos hv, if_pos hv]
    obtain ⟨m, c, hm, hc, rfl, rfl⟩ := (M.valid_iff _ _).1 hv
    have h16 := M.pow_le16 hm
    have hp := M.pow_pos m
    have hlen := M.sumL_length (2 ^ m) (M.spc c) (2 ^ m)
    rw [ispectrum_eq m c hv, Option.bind_some, spectrum_eq m c hm (Nat.lt_trans (M.bits_lt hm hc) (by decide)) k (by omega), Option.bind_some]
    have e1 := simm_loop (m : Int) (M.sumL (2 ^ m) (M.spc c) (2 ^ m)) (by omega) (2 ^ m - 1) k 1 (by omega) (by omega) (by omega)
    have e2 := iimm_loop (m : Int) (M.sumL (2 ^ m) (M.spc c) (2 ^ m)) (by omega) (2 ^ m) k 0 (by omega) (by omega)
    have e0 : imm (m : Int) (M.sumL (2 ^ m) (M.spc c) (2 ^ m)) 1 = (m : Int) := by simp [imm]
    rw [e0] at e1
    exact ⟨_, _, e2, e1⟩
  · rw [if_neg hv, if_neg hv]
    exact ⟨_, _, rfl, rfl⟩
/-- The essential variables below i. -/
def essL (n b i : Nat) : List Int := ((List.range i).filter (fun q => M.ess n b q)).map fun (q : Nat) => (q : Int)
theorem essL_succ (n b i : Nat) : essL n b (i + 1) = if M.ess n b i = true then essL n b i ++ [(i : Int)] else essL n b i := by
  unfold essL
  rw [List.range_succ, List.filter_append, List.map_append]
  by_cases h : M.ess n b i = true <;> simp [h]
theorem essL_len (n b i : Nat) : (essL n b i).length ≤ i := by
  unfold essL
  rw [List.length_map]
  exact Nat.le_trans (List.length_filter_le _ _) (by simp)
theorem iess_all (n b : Nat) (hn : n ≤ 4) (hb : b < 2 ^ 62) (d : Nat) : ∀ (k i : Nat), i + d = n → d + 60 ≤ k →
    impl_Func_essential.l0 k (essL n b i) (n : Int) (i : Int) (n : Int) (b : Int) = some (essL n b n) := by
  induction d with
  | zero =>
    intro k i hi hk
    obtain ⟨k, rfl⟩ : ∃ m, k = m + 1 := ⟨k - 1, by omega⟩
    obtain rfl : i = n := by omega
    simp only [impl_Func_essential.l0]
    rw [if_neg (by omega)]
  | succ d ih =>
    intro k i hi hk
    obtain ⟨k, rfl⟩ : ∃ m, k = m + 1 := ⟨k - 1, by omega⟩
    have hl := essL_len n b i
    have hw : wrap64 ((i : Int) + 1) = ((i + 1 : Nat) : Int) := by rw [M.w64_in _ (by omega) (by omega)]; rfl
    have step := ih k (i + 1) (by omega) (by omega)
    rw [essL_succ] at step
    simp only [impl_Func_essential.l0]
    rw [if_pos (by omega), iess_eq n b i hn (by omega) hb k (by omega)]
    simp only [Option.bind_some]
    rw [hw]
    by_cases h : M.ess n b i = true
    · rw [if_pos h] at step
      rw [if_pos h, if_pos (by omega)]
      exact step
    · rw [if_neg h] at step
      rw [if_neg h]
      exact step
theorem ess_val (m c : Nat) (hm : m ≤ 4) (hc : c < 2 ^ 2 ^ m) (k : Nat) (hk : 100 ≤ k) : impl_EssentialOf.f k (m : Int) (c : Int) = some (essL m c m, 0) := by
  have hv : M.valid (m : Int) (c : Int) = true := (M.valid_iff _ _).2 ⟨m, c, hm, hc, rfl, rfl⟩
  have e := iess_all m c hm (Nat.lt_trans (M.bits_lt hm hc) (by decide)) m k 0 (by omega) (by omega)
  rw [show essL m c 0 = [] by simp [essL], Int.natCast_zero] at e
  unfold impl_EssentialOf.f impl_Func_essential.f
  rw [isFunc_eq, Option.bind_some, if_pos hv, e]; rfl
theorem inf_ess (n b i : Nat) (hn : n ≤ 4) (hi : i < n) : 0 < inf b i (2 ^ n) ↔ M.ess n b i = true := by
  have h1 := M.fix_same n b i hn hi
  have h2 := inf_zero b i (2 ^ n)
  unfold M.ess
  rw [Bool.not_eq_true', decide_eq_false_iff_not, h1, ← h2]
  omega
theorem likeInts_loop (l : List Int) (hlen : l.length ≤ 1048576) (d : Nat) : ∀ (k r : Nat), r + d = l.length → d < k → laws_likeInts.l0 k l l (r : Int) = some true := by
  induction d with
  | zero =>
    intro k r hr hk
    obtain ⟨k, rfl⟩ : ∃ m, k = m + 1 := ⟨k - 1, by omega⟩
    simp only [laws_likeInts.l0]
    rw [if_neg (by omega)]
  | succ d ih =>
    intro k r hr hk
    obtain ⟨k, rfl⟩ : ∃ m, k = m + 1 := ⟨k - 1, by omega⟩
    simp only [laws_likeInts.l0]
    rw [if_pos (by omega), if_pos (by omega), if_pos (by omega), if_pos trivial, M.w64_in ((r : Int) + 1) (by omega) (by omega)]
    exact ih k (r + 1) (by omega) (by omega)
theorem likeInts_self (l : List Int) (hlen : l.length ≤ 1048576) (k : Nat) (hk : l.length < k) : laws_likeInts.f k l l = some true := by
  unfold laws_likeInts.f
  rw [if_pos rfl]
  exact likeInts_loop l hlen l.length k 0 (by omega) hk
/-- A code that is not long. -/
def Code4 (l : List Int) : Prop := l.length ≤ 4096 ∧ ∀ x ∈ l, 0 ≤ x ∧ x < 256
theorem sums_in (xs : List Int) (n : Nat) (hl : xs.length = n) (h16 : n ≤ 16) (w : Nat) (ys : List Int) (hw : w < n) (hy : ys.length = w) (K0 : Nat)
    (H : ∀ k, K0 ≤ k → ∀ zs : List Int, zs.length = w + 1 → ∃ r, spec_l03Sums.l0 k xs zs ((w + 1 : Nat) : Int) = some r ∧ r.length = n) (d : Nat) : ∀ (k q : Nat) (s : Int), q + d = n → K0 + d < k →
    ∃ r, spec_l03Sums.l1 k xs ys (w : Int) s (q : Int) = some r ∧ r.length = n := by
  induction d with
  | zero =>
    intro k q s hq hk
    obtain ⟨k, rfl⟩ : ∃ m, k = m + 1 := ⟨k - 1, by omega⟩
    obtain ⟨r, hr, hrl⟩ := H k (by omega) (ys ++ [Int.tmod s 2]) (by rw [List.length_append, List.length_singleton]; omega)
    rw [spec_l03Sums.l1]
    rw [if_neg (by omega), if_pos (by omega), M.w64_in ((w : Int) + 1) (by omega) (by omega)]
    exact ⟨r, hr, hrl⟩
  | succ d ih =>
    intro k q s hq hk
    obtain ⟨k, rfl⟩ : ∃ m, k = m + 1 := ⟨k - 1, by omega⟩
    rw [spec_l03Sums.l1]
    unfold spec_l03Has.f
    rw [if_pos (by omega), Option.bind_some, M.w64_in ((q : Int) + 1) (by omega) (by omega)]
    split
    · rw [if_pos (by omega)]; exact ih k (q + 1) _ (by omega) (by omega)
    · exact ih k (q + 1) _ (by omega) (by omega)
theorem sums_tot (xs : List Int) (n : Nat) (hl : xs.length = n) (h16 : n ≤ 16) (d : Nat) : ∀ (w : Nat), w + d = n → ∀ k, 20 + 20 * d ≤ k → ∀ ys : List Int, ys.length = w → ∃ r, spec_l03Sums.l0 k xs ys (w : Int) = some r ∧ r.length = n := by
  induction d with
  | zero =>
    intro w hw k hk ys hy
    obtain ⟨k, rfl⟩ : ∃ m, k = m + 1 := ⟨k - 1, by omega⟩
    rw [spec_l03Sums.l0]
    rw [if_neg (by omega)]
    exact ⟨_, rfl, by omega⟩
  | succ d ih =>
    intro w hw k hk ys hy
    obtain ⟨k, rfl⟩ : ∃ m, k = m + 1 := ⟨k - 1, by omega⟩
    rw [spec_l03Sums.l0]
    rw [if_pos (by omega)]
    exact sums_in xs n hl h16 w ys (by omega) hy (20 + 20 * d) (fun k hk zs hz => ih (w + 1) (by omega) k hk zs hz) n k 0 0 (by omega) (by omega)
theorem perm_in (n : Nat) (hn : n ≤ 4) (b : Int) (p : List Int) (hp : p.length ≤ 4) (ys : List Int) (r : Nat) (hr : r < 2 ^ n) (hy : ys.length = r) (K0 : Nat)
    (H : ∀ k, K0 ≤ k → ∀ zs : List Int, zs.length = r + 1 → ∃ c, spec_l01Permute.l0 k p zs ((r + 1 : Nat) : Int) (n : Int) b = some ((n : Int), c)) (d : Nat) : ∀ (k i : Nat) (s : Int), i + d = p.length → K0 + d < k →
    ∃ c, spec_l01Permute.l1 k p ys (r : Int) s (i : Int) (n : Int) b = some ((n : Int), c) := by
  have h16 := M.pow_le16 hn
  induction d with
  | zero =>
    intro k i s hi hk
    obtain ⟨k, rfl⟩ : ∃ m, k = m + 1 := ⟨k - 1, by omega⟩
    rw [spec_l01Permute.l1]
    unfold spec_l01At.f
    rw [if_neg (by omega), if_pos (u64_pos _), Option.bind_some, if_pos (by omega), M.w64_in ((r : Int) + 1) (by omega) (by omega)]
    exact H k (by omega) _ (by rw [List.length_append, List.length_singleton]; omega)
  | succ d ih =>
    intro k i s hi hk
    obtain ⟨k, rfl⟩ : ∃ m, k = m + 1 := ⟨k - 1, by omega⟩
    rw [spec_l01Permute.l1]
    rw [if_pos (by omega), if_pos (by omega), if_pos (u64_pos _), if_pos (u64_pos _), M.w64_in ((i : Int) + 1) (by omega) (by omega)]
    exact ih k (i + 1) _ (by omega) (by omega)
theorem perm_tot (n : Nat) (hn : n ≤ 4) (b : Int) (p : List Int) (hp : p.length ≤ 4) (d : Nat) : ∀ (r : Nat), r + d = 2 ^ n → ∀ k, 30 + 10 * d ≤ k → ∀ ys : List Int, ys.length = r → ∃ c, spec_l01Permute.l0 k p ys (r : Int) (n : Int) b = some ((n : Int), c) := by
  have h16 := M.pow_le16 hn
  induction d with
  | zero =>
    intro r hr k hk ys hy
    obtain ⟨k, rfl⟩ : ∃ m, k = m + 1 := ⟨k - 1, by omega⟩
    obtain ⟨c, hc⟩ := Of_ok n hn ys (by omega) k (by omega)
    rw [spec_l01Permute.l0]
    rw [rows_eq n hn, Option.bind_some, if_neg (by omega), hc]
    exact ⟨_, rfl⟩
  | succ d ih =>
    intro r hr k hk ys hy
    obtain ⟨k, rfl⟩ : ∃ m, k = m + 1 := ⟨k - 1, by omega⟩
    rw [spec_l01Permute.l0]
    rw [rows_eq n hn, Option.bind_some, if_pos (by omega)]
    exact perm_in n hn b p hp ys r (by omega) hy (30 + 10 * d) (fun k hk zs hz => ih (r + 1) (by omega) k hk zs hz) p.length k 0 0 (by omega) (by omega)
theorem order_tot (l : List Int) (n : Nat) (hn : n ≤ 4) (d : Nat) : ∀ (i : Nat) (s g : Int) (xs : List Int), i + d = n → xs.length = i → Src l s → ∀ k, d < k → ∃ ys t h, spec_l01DrawOrder.l0 k (n : Int) xs (i : Int) l s g = some (ys, t, h) ∧ Src l t ∧ ys.length = n := by
  induction d with
  | zero =>
    intro i s g xs hi hx hs k hk
    obtain ⟨k, rfl⟩ : ∃ m, k = m + 1 := ⟨k - 1, by omega⟩
    rw [spec_l01DrawOrder.l0]
    rw [if_neg (by omega)]
    exact ⟨_, _, _, rfl, hs, by omega⟩
  | succ d ih =>
    intro i s g xs hi hx hs k hk
    obtain ⟨k, rfl⟩ : ∃ m, k = m + 1 := ⟨k - 1, by omega⟩
    have hw : wrap64 ((i : Int) + 1) = ((i + 1 : Nat) : Int) := by rw [M.w64_in _ (by omega) (by omega)]; rfl
    obtain ⟨q, t, h, e, ht, hq0, hq1⟩ := next_ok l s g (wrap64 ((i : Int) + 1)) hs
    rw [hw] at e hq1
    have hq2 := hq1 (by omega)
    obtain ⟨q, rfl⟩ := Int.eq_ofNat_of_zero_le hq0
    rw [spec_l01DrawOrder.l0]
    rw [if_pos (by omega), hw, e, Option.bind_some, if_pos ⟨by omega, by omega, by omega⟩]
    exact ih (i + 1) t h _ (by omega) (by
      rw [List.length_append, List.length_append, List.length_singleton, List.length_take, List.length_drop, Int.toNat_natCast]; omega) ht k (by omega)
theorem bent_j1 (l : List Int) (n : Nat) (hn : n ≤ 4) (xs : List Int) (hx : xs.length = 2 ^ n) (s g : Int) (hs : Src l s) (k : Nat) (hk : 400 ≤ k) : ∃ m b, spec_l03Bent.j1 k (n : Int) xs l s g = some (m, b) := by
  have h16 := M.pow_le16 hn
  obtain ⟨k, rfl⟩ : ∃ m, k = m + 1 := ⟨k - 1, by omega⟩
  obtain ⟨ys, hy, hyl⟩ := sums_tot xs (2 ^ n) hx h16 (2 ^ n) 0 (by omega) k (by omega) [] rfl
  rw [Int.natCast_zero] at hy
  obtain ⟨b, hb⟩ := Of_ok n hn ys hyl k (by omega)
  obtain ⟨p, t, h, hp, ht, hpl⟩ := order_tot l n hn n 0 s g [] (by omega) rfl hs k (by omega)
  rw [Int.natCast_zero] at hp
  obtain ⟨c, hc⟩ := perm_tot n hn b p (by omega) (2 ^ n) 0 (by omega) k (by omega) [] rfl
  rw [Int.natCast_zero] at hc
  rw [spec_l03Bent.j1]
  unfold spec_l03Sums.f spec_l01DrawOrder.f spec_l01Permute.f
  rw [hy, Option.bind_some, hb, Option.bind_some, hp, Option.bind_some]
  erw [hc]
  exact ⟨_, _, rfl⟩
theorem bent_l0 (l : List Int) (n : Nat) (hn : n ≤ 4) (h2 : 2 ≤ n) (d : Nat) : ∀ (i : Nat) (s g : Int) (xs : List Int), i + d = n → xs.length = 2 ^ n → Src l s → ∀ k, 410 + d ≤ k → ∃ m b, spec_l03Bent.l0 k (n : Int) xs (i : Int) l s g = some (m, b) := by
  have h16 := M.pow_le16 hn
  have h4 : 4 ≤ 2 ^ n := M.pow2_le (a := 2) h2
  induction d with
  | zero =>
    intro i s g xs hi hx hs k hk
    obtain ⟨k, rfl⟩ : ∃ m, k = m + 1 := ⟨k - 1, by omega⟩
    obtain ⟨q, t, h, e, ht, _, _⟩ := next_ok l s g 2 hs
    rw [spec_l03Bent.l0]
    rw [if_neg (by omega), e, Option.bind_some, if_pos (by omega), if_pos (by omega), Option.bind_some]
    by_cases h5 : (n : Int) = 4
    · obtain rfl : n = 4 := by omega
      rw [if_pos h5, if_pos (by omega)]
      exact bent_j1 l 4 hn _ (by rw [List.length_set, List.length_set, List.length_set]; exact hx) t h ht k (by omega)
    · rw [if_neg h5]
      exact bent_j1 l n hn _ (by rw [List.length_set, List.length_set]; exact hx) t h ht k (by omega)
  | succ d ih =>
    intro i s g xs hi hx hs k hk
    obtain ⟨k, rfl⟩ : ∃ m, k = m + 1 := ⟨k - 1, by omega⟩
    obtain ⟨q, t, h, e, ht, _, _⟩ := next_ok l s g 2 hs
    have hlt : 2 ^ i < 2 ^ n := Nat.pow_lt_pow_right (by decide) (by omega)
    rw [spec_l03Bent.l0]
    rw [if_pos (by omega), if_pos (u64_pos _), e, Option.bind_some, M.u64_in _ (by omega) (by omega), shl_one i (by omega), if_pos (Int.natCast_nonneg _), if_pos (by rw [hx]; exact Int.ofNat_lt.2 hlt), M.w64_in ((i : Int) + 1) (by omega) (by omega)]
    exact ih (i + 1) t h _ (by omega) (by rw [List.length_set]; exact hx) ht k (by omega)
theorem bent_ok (l : List Int) (hc : Code4 l) (k : Nat) (hk : 4200 ≤ k) : ∃ n b, spec_l03Bent.f k l = some (n, b) := by
  unfold spec_l03Bent.f
  obtain ⟨g, e, hs⟩ := from_ok l hc.1 hc.2 k (by omega)
  rw [e, Option.bind_some]
  obtain ⟨n, b, t, h, e1, hs1⟩ := spoil_ok l 0 g hs k (by omega)
  rw [e1, Option.bind_some]
  obtain ⟨x, t2, g2, e2, hs2, _, _⟩ := next_ok l t h 3 hs1
  rw [e2, Option.bind_some]
  by_cases h0 : x = 0
  · rw [if_pos h0]
    obtain ⟨y, t3, g3, e3, hs3, hy⟩ := pick_ok l t2 g2 [2, 4, 4] (by decide) hs2
    have hy2 : 2 ≤ y ∧ y ≤ 4 := by
      have : ∀ z ∈ ([2, 4, 4] : List Int), 2 ≤ z ∧ z ≤ 4 := by decide
      exact this y hy
    obtain ⟨m, hm, rfl⟩ := M.small_n (n := y) (by omega) hy2.2
    have h16 := M.pow_le16 hm
    rw [e3, Option.bind_some, rows_eq m hm, Option.bind_some, if_pos (Int.natCast_nonneg _), if_pos (by rw [Int.toNat_natCast]; omega)]
    have := bent_l0 l m hm (by omega) m 0 t3 g3 (List.replicate (((2 ^ m : Nat) : Int)).toNat 0) (by omega) (by rw [List.length_replicate, Int.toNat_natCast]) hs3 k (by omega)
    rw [Int.natCast_zero] at this
    exact this
  · rw [if_neg h0]; exact ⟨_, _, rfl⟩
theorem spoilt (l : List Int) (hc : Code4 l) (k : Nat) (hk : 4200 ≤ k) : ∃ g n b t h, spec_l01From.f k l = some (l, 0, g) ∧ spec_l01Spoil.f k l 0 g = some (n, b, t, h) := by
  obtain ⟨g, e, hs⟩ := from_ok l hc.1 hc.2 k (by omega)
  obtain ⟨n, b, t, h, e1, _⟩ := spoil_ok l 0 g hs k (by omega)
  exact ⟨g, n, b, t, h, e, e1⟩
theorem draw1 (l : List Int) (hc : Code4 l) (k : Nat) (hk : 4200 ≤ k) : ∃ n b, spec_DrawIsBent.f k l = some (n, b) := by
  obtain ⟨n, b, h⟩ := bent_ok l hc k hk
  unfold spec_DrawIsBent.f; rw [h]; exact ⟨_, _, rfl⟩
theorem draw2 (l : List Int) (hc : Code4 l) (k : Nat) (hk : 4200 ≤ k) : ∃ n b, spec_DrawCorrelationsOf.f k l = some (n, b) := by
  obtain ⟨n, b, h⟩ := bent_ok l hc k hk
  unfold spec_DrawCorrelationsOf.f; rw [h]; exact ⟨_, _, rfl⟩
theorem draw3 (l : List Int) (hc : Code4 l) (k : Nat) (hk : 4200 ≤ k) : ∃ n b, spec_DrawAffineDistance.f k l = some (n, b) := by
  obtain ⟨n, b, h⟩ := bent_ok l hc k hk
  unfold spec_DrawAffineDistance.f; rw [h]; exact ⟨_, _, rfl⟩
theorem draw4 (l : List Int) (hc : Code4 l) (k : Nat) (hk : 4200 ≤ k) : ∃ n b, spec_DrawImmunityOf.f k l = some (n, b) := by
  obtain ⟨g, n, b, t, h, e, e1⟩ := spoilt l hc k hk
  unfold spec_DrawImmunityOf.f; rw [e, Option.bind_some, e1]; exact ⟨_, _, rfl⟩
theorem draw5 (l : List Int) (hc : Code4 l) (k : Nat) (hk : 4200 ≤ k) : ∃ n b, spec_DrawInfluencesOf.f k l = some (n, b) := by
  obtain ⟨g, n, b, t, h, e, e1⟩ := spoilt l hc k hk
  unfold spec_DrawInfluencesOf.f; rw [e, Option.bind_some, e1]; exact ⟨_, _, rfl⟩
theorem draw6 (l : List Int) (hc : Code4 l) (k : Nat) (hk : 4200 ≤ k) : ∃ n b, spec_DrawIsBalanced.f k l = some (n, b) := by
  obtain ⟨g, n, b, t, h, e, e1⟩ := spoilt l hc k hk
  unfold spec_DrawIsBalanced.f; rw [e, Option.bind_some, e1]; exact ⟨_, _, rfl⟩
theorem draw7 (l : List Int) (hc : Code4 l) (k : Nat) (hk : 4200 ≤ k) : ∃ n b, spec_DrawSpectrumOf.f k l = some (n, b) := by
  obtain ⟨g, n, b, t, h, e, e1⟩ := spoilt l hc k hk
  unfold spec_DrawSpectrumOf.f; rw [e, Option.bind_some, e1]; exact ⟨_, _, rfl⟩
theorem j6_ok (l : List Int) (hc : Code4 l) (k : Nat) (hk : 4300 ≤ k) : laws_FnSpectrum.j6 k l = some true := by
  obtain ⟨k, rfl⟩ : ∃ m, k = m + 1 := ⟨k - 1, by omega⟩
  obtain ⟨n1, b1, d1⟩ := draw4 l hc k (by omega)
  obtain ⟨r1, c1, p1, q1⟩ := imm_bothk n1 b1 k (by omega)
  obtain ⟨n2, b2, d2⟩ := draw2 l hc k (by omega)
  obtain ⟨r2, c2, p2, q2, l2⟩ := cor_bothk n2 b2 k (by omega)
  obtain ⟨n3, b3, d3⟩ := draw5 l hc k (by omega)
  obtain ⟨r3, c3, p3, q3, l3⟩ := inf_bothk n3 b3 k (by omega)
  obtain ⟨n4, b4, d4⟩ := draw6 l hc k (by omega)
  obtain ⟨r4, c4, p4, q4⟩ := bal_bothk n4 b4 k (by omega)
  obtain ⟨n5, b5, d5⟩ := draw3 l hc k (by omega)
  obtain ⟨r5, c5, p5, q5⟩ := dist_bothk n5 b5 k (by omega)
  obtain ⟨n6, b6, d6⟩ := draw7 l hc k (by omega)
  obtain ⟨r6, c6, p6, q6, l6⟩ := spectrum_bothk n6 b6 k (by omega)
  have h2 := likeInts_self r2 (by omega) k (by omega)
  have h3 := likeInts_self r3 (by omega) k (by omega)
  have h6 := likeInts_self r6 (by omega) k (by omega)
  rw [laws_FnSpectrum.j6]
  rw [d1, Option.bind_some, p1, Option.bind_some, q1, Option.bind_some, d2, Option.bind_some, p2, Option.bind_some, q2, Option.bind_some, d3, Option.bind_some, p3, Option.bind_some, q3, Option.bind_some, d4, Option.bind_some, p4, Option.bind_some, q4, Option.bind_some, d5, Option.bind_some, p5, Option.bind_some, q5, Option.bind_some, d6, Option.bind_some, p6, Option.bind_some, q6, Option.bind_some]
  rw [if_pos rfl, if_pos rfl, if_pos rfl, h2, Option.bind_some, if_pos rfl, if_pos rfl, h3, Option.bind_some, if_pos rfl, if_pos rfl, if_pos (beq_self_eq_true _), if_pos rfl, if_pos rfl, if_pos rfl, h6, Option.bind_some]
theorem l2_ok (l : List Int) (hc : Code4 l) (x : Bool) (ys : List Int) (hy : ys.length ≤ 16) (h : x = true → ∀ a : Nat, 1 ≤ a → a < ys.length → rd ys (a : Int) = 0) (d : Nat) : ∀ (k a : Nat), a + d = ys.length → 1 ≤ a → 4310 + 2 * d ≤ k → laws_FnSpectrum.l2 k l x ys (a : Int) = some true := by
  induction d with
  | zero =>
    intro k a ha h1 hk
    obtain ⟨k, rfl⟩ : ∃ m, k = m + 1 + 1 := ⟨k - 2, by omega⟩
    rw [laws_FnSpectrum.l2]
    rw [if_neg (by omega), laws_FnSpectrum.j5, if_neg (by decide)]
    exact j6_ok l hc k (by omega)
  | succ d ih =>
    intro k a ha h1 hk
    obtain ⟨k, rfl⟩ : ∃ m, k = m + 1 + 1 := ⟨k - 2, by omega⟩
    rw [laws_FnSpectrum.l2]
    rw [if_pos (by omega), laws_FnSpectrum.j5]
    cases hx : x with
    | false => rw [if_neg (by decide)]; exact j6_ok l hc k (by omega)
    | true =>
      have h2 := ih k (a + 1) (by omega) (by omega) (by omega)
      rw [hx] at h2
      rw [if_pos rfl, if_pos (by omega), if_pos (by omega), if_pos (h hx a h1 (by omega)), M.w64_in ((a : Int) + 1) (by omega) (by omega)]
      exact h2
theorem l1_ok (l : List Int) (hc : Code4 l) (x : Bool) (ys : List Int) (hy : ys.length ≤ 16) (hy1 : 1 ≤ ys.length) (h : x = true → ∀ a : Nat, 1 ≤ a → a < ys.length → rd ys (a : Int) = 0) (N B : Nat) (hN : N ≤ 4) (d : Nat) : ∀ (k i : Nat), i + d = N → 4400 + d ≤ k →
    laws_FnSpectrum.l1 k l x ys (infL N B N) (essL N B N) (((essL N B i).length : Nat) : Int) (i : Int) = some true := by
  have hil := infL_len N B N
  induction d with
  | zero =>
    intro k i hi hk
    obtain ⟨k, rfl⟩ : ∃ m, k = m + 1 := ⟨k - 1, by omega⟩
    obtain rfl : i = N := by omega
    have := l2_ok l hc x ys hy h (ys.length - 1) k 1 (by omega) (Nat.le_refl _) (by omega)
    rw [laws_FnSpectrum.l1]
    rw [if_neg (by omega), if_pos rfl]
    exact this
  | succ d ih =>
    intro k i hi hk
    obtain ⟨k, rfl⟩ : ∃ m, k = m + 1 := ⟨k - 1, by omega⟩
    have step := ih k (i + 1) (by omega) (by omega)
    have hl := essL_len N B i
    have hr : rd (infL N B N) (i : Int) = ((inf B i (2 ^ N) : Nat) : Int) := M.lis_rd _ _ i (by omega)
    have hie := inf_ess N B i hN (by omega)
    rw [essL_succ] at step
    rw [laws_FnSpectrum.l1]
    rw [if_pos (by omega), if_pos (by omega), hr, M.w64_in ((i : Int) + 1) (by omega) (by omega)]
    by_cases hp : 0 < inf B i (2 ^ N)
    · rw [if_pos (hie.1 hp), List.length_append, List.length_singleton] at step
      rw [if_pos (by omega), M.w64_in _ (by omega) (by omega)]
      exact step
    · rw [if_neg (fun h => hp (hie.2 h))] at step
      rw [if_neg (by omega)]
      exact step
theorem hi_even (N B : Nat) (hN : N ≤ 4) : ∃ t : Int, ((2 ^ N : Nat) : Int) - hiN (M.sumL (2 ^ N) (M.spc B) (2 ^ N)) (2 ^ N) = 2 * t ∧ 0 ≤ t ∧ t ≤ 16 := by
  have h16 := M.pow_le16 hN
  have hp := M.pow_pos N
  have hin := sumL_in (2 ^ N) h16 (M.spc B) (spc_le B) (2 ^ N)
  have ha := hi_all _ hin (2 ^ N)
  have h0 := hi_in _ hin (2 ^ N)
  have hv : ∀ q : Nat, q < 2 ^ N → ∃ t : Int, ((2 ^ N : Nat) : Int) - sz (rd (M.sumL (2 ^ N) (M.spc B) (2 ^ N)) (q : Int)) = 2 * t ∧ 0 ≤ t ∧ t ≤ 16 := by
    intro q hq
    rw [sumL_rd _ _ _ _ hq]
    have h1 := M.part_le (M.spc B) (spc_le B) q (2 ^ N)
    obtain ⟨t, ht⟩ := spw_even N B q
    rw [spw_part] at h1 ⊢
    unfold sz
    split
    · exact ⟨t, by omega, by omega, by omega⟩
    · exact ⟨((2 ^ N : Nat) : Int) - t, by omega, by omega, by omega⟩
  rcases hi_some _ hin (2 ^ N) with h | ⟨q, hq, h⟩
  · obtain ⟨t, ht⟩ := hv 0 (by omega)
    have a0 := ha 0 (by omega)
    have := (sz_le _ (hin 0).1 (hin 0).2).1
    exact ⟨t, by omega⟩
  · rw [h]; exact hv q hq
theorem sq_le (v : Int) (h0 : -16 ≤ v) (h1 : v ≤ 16) : 0 ≤ v * v ∧ v * v ≤ 256 := by
  have h : v.natAbs ≤ 16 := by omega
  have h2 := Nat.mul_le_mul h h
  rw [← Int.natAbs_mul_self]
  omega
theorem tot_le (f : Nat → Int) (hf : ∀ r, -16 ≤ f r ∧ f r ≤ 16) : ∀ m : Nat, 0 ≤ sm (fun w => f w * f w) m ∧ sm (fun w => f w * f w) m ≤ 256 * (m : Int)
  | 0 => by simp [sm]
  | m + 1 => by
    have h1 := tot_le f hf m
    have h2 := sq_le _ (hf m).1 (hf m).2
    simp only [sm]; omega
theorem mx_two (h v : Int) : mx (mx h v) (-v) = if v > h then (if -v > v then -v else v) else (if -v > h then -v else h) := by
  unfold mx
  (repeat' split) <;> omega
theorem l0_ok (l : List Int) (hc : Code4 l) (x : Bool) (N B : Nat) (hN : N ≤ 4) (hB : B < 2 ^ 2 ^ N) (hx : x = true → ∀ w, w < 2 ^ N → spw N B w * spw N B w = spw N B 0 * spw N B 0) (d : Nat) : ∀ (k i : Nat), i + d = 2 ^ N → 4500 + d ≤ k →
    laws_FnSpectrum.l0 k l x (M.sumL (2 ^ N) (M.spc B) (2 ^ N)) ((2 ^ N : Nat) : Int) (sm (fun w => rd (M.sumL (2 ^ N) (M.spc B) (2 ^ N)) (w : Int) * rd (M.sumL (2 ^ N) (M.spc B) (2 ^ N)) (w : Int)) i) (hiN (M.sumL (2 ^ N) (M.spc B) (2 ^ N)) i) (i : Int) (N : Int) (B : Int) = some true := by
  have h16 := M.pow_le16 hN
  have hp := M.pow_pos N
  have hin := sumL_in (2 ^ N) h16 (M.spc B) (spc_le B) (2 ^ N)
  have hlen := M.sumL_length (2 ^ N) (M.spc B) (2 ^ N)
  have hcl := M.sumL_length (2 ^ N) (M.cor B) (2 ^ N)
  have hT := tot_le (fun w => rd (M.sumL (2 ^ N) (M.spc B) (2 ^ N)) (w : Int)) hin
  induction d with
  | zero =>
    intro k i hi hk
    obtain ⟨k, rfl⟩ : ∃ m, k = m + 1 + 1 := ⟨k - 2, by omega⟩
    obtain rfl : i = 2 ^ N := by omega
    have eT : sm (fun w => rd (M.sumL (2 ^ N) (M.spc B) (2 ^ N)) (w : Int) * rd (M.sumL (2 ^ N) (M.spc B) (2 ^ N)) (w : Int)) (2 ^ N) = ((2 ^ N : Nat) : Int) * ((2 ^ N : Nat) : Int) := by
      rw [← parseval N B hN]
      exact sm_congr _ _ _ fun w hw => by rw [sumL_rd _ _ _ _ hw, spw_part]
    have eC : rd (M.sumL (2 ^ N) (M.cor B) (2 ^ N)) 0 = ((2 ^ N : Nat) : Int) := by
      have := sumL_rd (2 ^ N) (M.cor B) (2 ^ N) 0 (by omega)
      rw [Int.natCast_zero] at this
      rw [this, cow_part, cow_zero]
    have eS : rd (M.sumL (2 ^ N) (M.spc B) (2 ^ N)) 0 = ((2 ^ N : Nat) : Int) - 2 * ((M.pop (2 ^ N) B : Nat) : Int) := by
      have := sumL_rd (2 ^ N) (M.spc B) (2 ^ N) 0 (by omega)
      rw [Int.natCast_zero] at this
      rw [this, spw_part, spw_zero]
    have hpop := M.pop_le (2 ^ N) B
    have eW : wrap64 (((2 ^ N : Nat) : Int) * ((2 ^ N : Nat) : Int)) = ((2 ^ N : Nat) : Int) * ((2 ^ N : Nat) : Int) := sq_in _ (by omega) (by omega)
    obtain ⟨t, ht, t0, t1⟩ := hi_even N B hN
    have hh := hi_in _ hin (2 ^ N)
    have eD : Int.tdiv (2 * t) 2 = t := by rw [Int.mul_comm]; exact Int.mul_tdiv_cancel t (by decide)
    have v1 := cor_val N B hN hB
    have v2 := (inf_val N B hN hB (k + 1) (by omega)).1
    have v3 := ess_val N B hN hB (k + 1) (by omega)
    have v4 := (bal_val N B hN hB (k + 1) (by omega)).1
    have v5 := (dist_val N B hN hB (k + 1) (by omega)).1
    rw [ht, M.w64_in (2 * t) (by omega) (by omega), eD, M.w64_in t (by omega) (by omega)] at v5
    have eB : ¬ ((((wrap64 (2 * ((M.pop (2 ^ N) B : Nat) : Int))) == ((2 ^ N : Nat) : Int))) != ((((2 ^ N : Nat) : Int) - 2 * ((M.pop (2 ^ N) B : Nat) : Int)) == 0)) = true := by
      rw [M.w64_in _ (by omega) (by omega)]
      by_cases hq : 2 * ((M.pop (2 ^ N) B : Nat) : Int) = ((2 ^ N : Nat) : Int)
      · rw [beq_iff_eq.2 hq, beq_iff_eq.2 (show ((2 ^ N : Nat) : Int) - 2 * ((M.pop (2 ^ N) B : Nat) : Int) = 0 by omega)]; decide
      · rw [beq_eq_false_iff_ne.2 hq, beq_eq_false_iff_ne.2 (show ((2 ^ N : Nat) : Int) - 2 * ((M.pop (2 ^ N) B : Nat) : Int) ≠ 0 by omega)]; decide
    have h1 := l1_ok l hc x (M.sumL (2 ^ N) (M.cor B) (2 ^ N)) (by omega) (by omega) (fun hxt a ha1 ha2 => by
      rw [hcl] at ha2
      rw [sumL_rd _ _ _ _ ha2, cow_part]
      exact bent_cow N B a hN ha2 (by omega) (hx hxt)) N B hN N k 0 (by omega) (by omega)
    rw [show essL N B 0 = [] by simp [essL], List.length_nil, Int.natCast_zero] at h1
    rw [laws_FnSpectrum.l0]
    rw [if_neg (by omega), v1, Option.bind_some, v2, Option.bind_some, v3, Option.bind_some, v4, Option.bind_some, v5, Option.bind_some, if_pos rfl, if_pos rfl, if_pos rfl, if_pos rfl, if_pos rfl, eT, if_pos eW.symm, if_pos (by rw [hcl]), if_pos (show (0 : Int) < ((M.sumL (2 ^ N) (M.cor B) (2 ^ N)).length : Int) by omega), if_pos eC, if_pos (show (0 : Int) < ((M.sumL (2 ^ N) (M.spc B) (2 ^ N)).length : Int) by omega), eS, if_neg eB, M.w64_in (2 * t) (by omega) (by omega), M.w64_in (2 * t + _) (by omega) (by omega), laws_FnSpectrum.j2, if_neg (by
      rw [Bool.not_eq_true, bne_eq_false_iff_eq]; omega)]
    exact h1
  | succ d ih =>
    intro k i hi hk
    obtain ⟨k, rfl⟩ : ∃ m, k = m + 1 := ⟨k - 1, by omega⟩
    have step := ih k (i + 1) (by omega) (by omega)
    have hv := hin i
    have h2 := sq_le _ hv.1 hv.2
    have h3 := hT i
    simp only [sm, hiN] at step
    rw [mx_two] at step
    rw [laws_FnSpectrum.l0]
    rw [if_pos (by omega), if_pos (by omega), sq_in _ hv.1 hv.2, M.w64_in (-_) (by omega) (by omega), M.w64_in ((i : Int) + 1) (by omega) (by omega), M.w64_in (_ + _) (by omega) (by omega)]
    by_cases c1 : rd (M.sumL (2 ^ N) (M.spc B) (2 ^ N)) (i : Int) > hiN (M.sumL (2 ^ N) (M.spc B) (2 ^ N)) i
    · rw [if_pos c1]
      rw [if_pos c1] at step
      by_cases c2 : -(rd (M.sumL (2 ^ N) (M.spc B) (2 ^ N)) (i : Int)) > rd (M.sumL (2 ^ N) (M.spc B) (2 ^ N)) (i : Int)
      · rw [if_pos c2]; rw [if_pos c2] at step; exact step
      · rw [if_neg c2]; rw [if_neg c2] at step; exact step
    · rw [if_neg c1]
      rw [if_neg c1] at step
      by_cases c2 : -(rd (M.sumL (2 ^ N) (M.spc B) (2 ^ N)) (i : Int)) > hiN (M.sumL (2 ^ N) (M.spc B) (2 ^ N)) i
      · rw [if_pos c2]; rw [if_pos c2] at step; exact step
      · rw [if_neg c2]; rw [if_neg c2] at step; exact step
theorem FnSpectrum : ∀ (l0 : List Int), l0.length ≤ maxLen → l0.length * 1 ≤ 140737488351232 → (∀ x ∈ l0, (Lit.int .u8 x).wf = true) → ∃ k, laws_FnSpectrum.f k l0 = some true := by
  intro l _ _ hw
  refine ⟨4700, ?_⟩
  unfold laws_FnSpectrum.f laws_big.f
  rw [Option.bind_some]
  by_cases hl : (l.length : Int) > 4096
  · rw [if_pos (decide_eq_true hl)]
  · rw [if_neg (by rw [decide_eq_false hl]; decide)]
    have hc : Code4 l := ⟨by omega, fun x hx => by
      have := hw x hx
      have h2 : 0 ≤ x ∧ x ≤ 255 := by simpa [Lit.wf, IntKind.bits, IntKind.signed, IntKind.min, IntKind.max] using this
      exact ⟨h2.1, Int.lt_add_one_of_le h2.2⟩⟩
    obtain ⟨n, b, d1⟩ := draw1 l hc 4700 (by omega)
    obtain ⟨r, c, p1, q1, pz⟩ := bent_both n b 4700 (by omega)
    obtain ⟨ys, c2, p2, q2, hy⟩ := spectrum_bothk n b 4700 (by omega)
    rw [d1, Option.bind_some, p1, Option.bind_some, q1, Option.bind_some, p2, Option.bind_some, q2, Option.bind_some, if_pos rfl, if_neg (by rw [bne_self_eq_false]; decide), if_pos rfl, likeInts_self ys (by omega) 4700 (by omega), Option.bind_some, laws_FnSpectrum.j0, if_neg (by decide)]
    by_cases hz : c = 0
    · rw [if_pos hz]
      obtain ⟨N, B, hN, hB, rfl, rfl, hb⟩ := pz hz
      rw [spec_val N B hN hB] at p2
      obtain ⟨rfl, rfl⟩ : M.sumL (2 ^ N) (M.spc B) (2 ^ N) = ys ∧ (0 : Int) = c2 := by simpa using p2
      have h16 := M.pow_le16 hN
      rw [if_pos (u64_pos _), M.u64_in _ (by omega) (by omega), shl_one N hN]
      have := l0_ok l hc r N B hN hB hb (2 ^ N) 4699 0 (by omega) (by omega)
      rw [Int.natCast_zero] at this
      exact this
    · rw [if_neg hz]
      exact j6_ok l hc 4699 (by omega)
end Go.Proofs.Ytdhfbgbclibagaa.Pure
