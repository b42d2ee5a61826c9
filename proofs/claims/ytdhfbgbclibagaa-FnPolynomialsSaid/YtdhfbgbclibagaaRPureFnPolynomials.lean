/- The pure statement of the law FnPolynomials: the functions that the program's text comes to answer true at every input. -/
import Derived.Test.YtdhfbgbclibagaaROx2
import Derived.Test.YtdhfbgbclibagaaROx3
import Derived.Test.YtdhfbgbclibagaaROx4
import Derived.Test.YtdhfbgbclibagaaROx5
import Derived.Test.YtdhfbgbclibagaaROx6
import Derived.Test.YtdhfbgbclibagaaROx7
import Derived.Test.YtdhfbgbclibagaaROx8
import Derived.Test.YtdhfbgbclibagaaROx9
import Derived.Test.YtdhfbgbclibagaaROx10
import Derived.Test.YtdhfbgbclibagaaROx11
import Derived.Test.YtdhfbgbclibagaaROx12
import Derived.Test.YtdhfbgbclibagaaROx13
import Derived.Test.YtdhfbgbclibagaaROx14
import Derived.Test.YtdhfbgbclibagaaROx15
import Derived.Test.YtdhfbgbclibagaaROx16
import Derived.Test.YtdhfbgbclibagaaROx17
import Derived.Test.YtdhfbgbclibagaaROx18
import Derived.Test.YtdhfbgbclibagaaRMBase
import Derived.Test.YtdhfbgbclibagaaRMOf
import Derived.Test.YtdhfbgbclibagaaRMSize
import Derived.Test.YtdhfbgbclibagaaRMCnt
import Derived.Test.YtdhfbgbclibagaaRMPoly
import Derived.Test.YtdhfbgbclibagaaRMDigits
import Derived.Test.YtdhfbgbclibagaaRMDraw
import Derived.Test.YtdhfbgbclibagaaRMLin
namespace Go.Proofs.Ytdhfbgbclibagaa.Pure
open Go.RowKit Go.Proofs.Ytdhfbgbclibagaa.P Go.Proofs.YtdhfbgbclibagaaW.PrintWords Go.Proofs.YtdhfbgbclibagaaW.PrintLast Go.Proofs.YtdhfbgbclibagaaW.PrintMore
set_option linter.unusedVariables false
set_option linter.unusedSimpArgs false
theorem like_eqk (n b m c : Int) (k : Nat) (hk : 1 ≤ k) : spec_l03Like.f k n b m c = impl_pairCode.f n b m c := by
  obtain ⟨k, rfl⟩ : ∃ j, k = j + 1 := ⟨k - 1, by omega⟩
  unfold spec_l03Like.f impl_pairCode.f
  rw [is_eq, is_eq]
  simp only [Option.bind_some]
  by_cases h1 : M.valid n b = true
  · rw [if_pos h1]
    simp only [spec_l03Like.j0]
    by_cases h2 : M.valid m c = true
    · simp [h1, h2]
    · simp only [Bool.not_eq_true] at h2
      simp [h1, h2]
  · rw [if_neg h1]
    simp only [spec_l03Like.j0]
    simp [h1]
theorem code_zero (n b m c : Int) : ∃ r, impl_pairCode.f n b m c = some r ∧ (r = 0 → M.valid n b = true ∧ M.valid m c = true ∧ n = m) := by
  unfold impl_pairCode.f
  by_cases h1 : (M.valid n b && M.valid m c) = true
  · rw [if_pos h1]
    by_cases h2 : n = m
    · rw [if_pos h2]; rw [Bool.and_eq_true] at h1; exact ⟨_, rfl, fun _ => ⟨h1.1, h1.2, h2⟩⟩
    · rw [if_neg h2]; exact ⟨_, rfl, fun h => absurd h (by decide)⟩
  · rw [if_neg h1]; exact ⟨_, rfl, fun h => absurd h (by decide)⟩
theorem sum_both (n b m c : Int) (k : Nat) (hk : 1 ≤ k) : ∃ r1 r2 r3, impl_SumOfFuncs.f n b m c = some (r1, r2, r3) ∧ spec_SumOfFuncs.f k n b m c = some (r1, r2, r3) ∧
    (r3 = 0 → ∃ N B C : Nat, N ≤ 4 ∧ B < 2 ^ 2 ^ N ∧ C < 2 ^ 2 ^ N ∧ n = N ∧ b = B ∧ m = N ∧ c = C ∧ r1 = N ∧ r2 = ((B ^^^ C : Nat) : Int)) := by
  obtain ⟨r, hr, hz⟩ := code_zero n b m c
  unfold impl_SumOfFuncs.f spec_SumOfFuncs.f
  rw [like_eqk n b m c k hk, hr, Option.bind_some]
  by_cases h : r = 0
  · rw [if_pos h]
    obtain ⟨h1, h2, rfl⟩ := hz h
    obtain ⟨N, B, hN, hB, rfl, rfl⟩ := (M.valid_iff _ _).1 h1
    obtain ⟨N', C, hN', hC, e, rfl⟩ := (M.valid_iff _ _).1 h2
    obtain rfl : N = N' := by omega
    refine ⟨_, _, _, rfl, rfl, fun _ => ⟨N, B, C, hN, hB, hC, rfl, rfl, rfl, rfl, rfl, ?_⟩⟩
    exact M.xor_nat B C (Nat.lt_trans (M.bits_lt hN hB) (by decide)) (Nat.lt_trans (M.bits_lt hN hC) (by decide))
  · rw [if_neg h]; exact ⟨_, _, _, rfl, rfl, fun h2 => absurd h2 h⟩
theorem prod_both (n b m c : Int) (k : Nat) (hk : 1 ≤ k) : ∃ r1 r2 r3, impl_ProductOfFuncs.f n b m c = some (r1, r2, r3) ∧ spec_ProductOfFuncs.f k n b m c = some (r1, r2, r3) := by
  obtain ⟨r, hr, hz⟩ := code_zero n b m c
  unfold impl_ProductOfFuncs.f spec_ProductOfFuncs.f
  rw [like_eqk n b m c k hk, hr, Option.bind_some]
  by_cases h : r = 0
  · rw [if_pos h]; exact ⟨_, _, _, rfl, rfl⟩
  · rw [if_neg h]; exact ⟨_, _, _, rfl, rfl⟩
theorem prod_val (N B C : Nat) (hN : N ≤ 4) (hB : B < 2 ^ 2 ^ N) (hC : C < 2 ^ 2 ^ N) : impl_ProductOfFuncs.f (N : Int) (B : Int) (N : Int) (C : Int) = some ((N : Int), ((B &&& C : Nat) : Int), 0) ∧ M.valid (N : Int) ((B &&& C : Nat) : Int) = true := by
  have h1 : M.valid (N : Int) (B : Int) = true := (M.valid_iff _ _).2 ⟨N, B, hN, hB, rfl, rfl⟩
  have h2 : M.valid (N : Int) (C : Int) = true := (M.valid_iff _ _).2 ⟨N, C, hN, hC, rfl, rfl⟩
  constructor
  · unfold impl_ProductOfFuncs.f impl_pairCode.f
    rw [if_pos (by rw [h1, h2]; rfl), if_pos rfl, Option.bind_some, if_pos rfl, M.and_nat B C (Nat.lt_trans (M.bits_lt hN hB) (by decide)) (Nat.lt_trans (M.bits_lt hN hC) (by decide))]
  · exact (M.valid_iff _ _).2 ⟨N, _, hN, Nat.lt_of_le_of_lt Nat.and_le_left hB, rfl, rfl⟩
theorem unp_loop (m p : Nat) (h16 : m ≤ 16) (hp : p < 2 ^ 62) (d : Nat) : ∀ (k r : Nat), r + d = m → d < k →
    impl_unpacked.l0 k (p : Int) (M.lis r (M.atN p)) (m : Int) (r : Int) = some (M.lis m (M.atN p)) := by
  induction d with
  | zero =>
    intro k r hr hk
    obtain ⟨k, rfl⟩ : ∃ m, k = m + 1 := ⟨k - 1, by omega⟩
    obtain rfl : r = m := by omega
    simp only [impl_unpacked.l0]; rw [if_neg (by omega)]
  | succ d ih =>
    intro k r hr hk
    obtain ⟨k, rfl⟩ : ∃ m, k = m + 1 := ⟨k - 1, by omega⟩
    have hl := M.lis_length r (M.atN p)
    have step := ih k (r + 1) (by omega) (by omega)
    rw [M.lis_succ] at step
    simp only [impl_unpacked.l0]
    rw [if_pos (by omega), bit_eq p r hp (by omega), Option.bind_some, if_pos (by omega), M.w64_in ((r : Int) + 1) (by omega) (by omega)]
    exact step
theorem poly_val (m c : Nat) (hm : m ≤ 4) (hc : c < 2 ^ 2 ^ m) (k : Nat) (hk : 400 ≤ k) : impl_PolynomialOf.f k (m : Int) (c : Int) = some (cofL m c (2 ^ m), 0) ∧ spec_PolynomialOf.f k (m : Int) (c : Int) = some (cofL m c (2 ^ m), 0) := by
  have hv : M.valid (m : Int) (c : Int) = true := (M.valid_iff _ _).2 ⟨m, c, hm, hc, rfl, rfl⟩
  have hc6 : c < 2 ^ 62 := Nat.lt_trans (M.bits_lt hm hc) (by decide)
  have h16 := M.pow_le16 hm
  have hp6 : M.polN m c < 2 ^ 62 := Nat.lt_trans (M.bits_lt hm (M.polN_lt m c)) (by decide)
  have e : M.lis (2 ^ m) (M.atN (M.polN m c)) = cofL m c (2 ^ m) := M.lis_congr _ _ _ fun r hr => polN_at m c r hr
  have u : impl_unpacked.f k ((M.polN m c : Nat) : Int) ((2 ^ m : Nat) : Int) = some (cofL m c (2 ^ m)) := by
    unfold impl_unpacked.f
    have := unp_loop (2 ^ m) (M.polN m c) h16 hp6 (2 ^ m) k 0 (by omega) (by omega)
    rw [M.lis_zero, Int.natCast_zero] at this
    rw [this, e]
  unfold spec_PolynomialOf.f impl_PolynomialOf.f
  rw [is_eq, isFunc_eq, Option.bind_some, Option.bind_some, if_pos hv, if_pos hv, poly_eq m c hm hc6 k (by omega), ipoly_eq m c hv, Option.bind_some, Option.bind_some, Func_rows_eq m _ hm, Option.bind_some, u, Option.bind_some]
  exact ⟨rfl, rfl⟩
theorem poly_both (n b : Int) (k : Nat) (hk : 400 ≤ k) : ∃ l c, impl_PolynomialOf.f k n b = some (l, c) ∧ spec_PolynomialOf.f k n b = some (l, c) ∧ l.length ≤ 16 := by
  by_cases hv : M.valid n b = true
  · obtain ⟨m, c, hm, hc, rfl, rfl⟩ := (M.valid_iff _ _).1 hv
    obtain ⟨h1, h2⟩ := poly_val m c hm hc k hk
    exact ⟨_, _, h1, h2, by rw [cofL_len]; exact M.pow_le16 hm⟩
  · unfold spec_PolynomialOf.f impl_PolynomialOf.f
    rw [is_eq, isFunc_eq, Option.bind_some, Option.bind_some, if_neg hv, if_neg hv]
    exact ⟨_, _, rfl, rfl, by simp⟩
theorem fop_both (n : Int) (l : List Int) (hlen : l.length ≤ 1048576) (k : Nat) (hk : l.length + 400 ≤ k) : ∃ r1 r2 r3, impl_FuncOfPolynomial.f k n l = some (r1, r2, r3) ∧ spec_FuncOfPolynomial.f k n l = some (r1, r2, r3) := by
  obtain ⟨k, rfl⟩ : ∃ j, k = j + 1 := ⟨k - 1, by omega⟩
  have e : ∃ r, spec_FuncOfPolynomial.f (k + 1) n l = some r ∧ impl_FuncOfPolynomial.f (k + 1) n l = some r := by
    unfold spec_FuncOfPolynomial.f impl_FuncOfPolynomial.f impl_FuncOf.f
    rw [in_eq, isArity_eq]
    simp only [Option.bind_some]
    have hbad : spec_FuncOfPolynomial.j0 (k + 1) n l true = some (0, 0, 2) := by
      simp only [spec_FuncOfPolynomial.j0, if_true]
    by_cases hn : 0 ≤ n ∧ n ≤ 4
    · obtain ⟨m, hm, rfl⟩ := M.small_n hn.1 hn.2
      have h16 := M.pow_le16 hm
      have hd : (decide (0 ≤ (m : Int)) && decide ((m : Int) ≤ 4)) = true := by simp; omega
      rw [if_pos hd, if_pos hd, rows_eq m hm, rowsOf_eq m hm]
      simp only [Option.bind_some]
      by_cases hl : (l.length : Int) = ((2 ^ m : Nat) : Int)
      · have hl' : l.length = 2 ^ m := by omega
        rw [if_pos hl, if_pos hl, sbits_eq l hlen (k + 1) (by omega), idigits_eq l hlen]
        simp only [Option.bind_some]
        by_cases hb : (l.all fun x => decide (0 ≤ x) && decide (x ≤ 1)) = true
        · rw [if_pos hb, hb]
          obtain ⟨h, e, hh⟩ := M.lis_of l (all_digits l hb)
          rw [hl'] at e
          have hc : M.tab (2 ^ m) h < 2 ^ 2 ^ m := M.tab_lt _ _ (fun r _ => hh r)
          have hv : M.valid (m : Int) ((M.tab (2 ^ m) h : Nat) : Int) = true := (M.valid_iff _ _).2 ⟨m, _, hm, hc, rfl, rfl⟩
          have e2 : M.lis (2 ^ m) h = M.lis (2 ^ m) (M.atN (M.tab (2 ^ m) h)) := M.lis_congr _ _ _ fun r hr => (M.tab_at _ _ (fun r _ => hh r) r hr).symm
          rw [e, packed_eq (2 ^ m) h16 h (fun r _ => hh r) _ (by omega)]
          simp only [Option.bind_some, spec_FuncOfPolynomial.j0]
          rw [if_neg (by simp), if_true, ipoly_eq m _ hv, e2, sums_eq m _ hm _ (by omega)]
          simp only [Option.bind_some]
          unfold cofL
          rw [Of_eq m hm _ (fun r _ => M.psum_le _ _ _) _ (by omega)]
          exact ⟨_, rfl, rfl⟩
        · simp only [Bool.not_eq_true] at hb
          rw [hb, if_neg (by simp), show (!false) = true from rfl, hbad]
          exact ⟨_, rfl, rfl⟩
      · rw [if_neg hl, if_neg hl, hbad]
        exact ⟨_, rfl, rfl⟩
    · have hd : ¬ (decide (0 ≤ n) && decide (n ≤ 4)) = true := by simp; omega
      rw [if_neg hd, if_neg hd, hbad]
      exact ⟨_, rfl, rfl⟩
  obtain ⟨⟨r1, r2, r3⟩, h1, h2⟩ := e
  exact ⟨r1, r2, r3, h2, h1⟩
theorem fop_back (m c : Nat) (hm : m ≤ 4) (hc : c < 2 ^ 2 ^ m) (k : Nat) (hk : 400 ≤ k) : impl_FuncOfPolynomial.f k (m : Int) (cofL m c (2 ^ m)) = some ((m : Int), (c : Int), 0) := by
  have h16 := M.pow_le16 hm
  have hd : (decide (0 ≤ (m : Int)) && decide ((m : Int) ≤ 4)) = true := by simp; omega
  have hdig : ((cofL m c (2 ^ m)).all fun x => decide (0 ≤ x) && decide (x ≤ 1)) = true := by
    rw [List.all_eq_true]
    intro x hx
    obtain ⟨q, _, rfl⟩ := List.mem_map.1 hx
    have := M.psum_le c q (2 ^ m)
    simp only [Bool.and_eq_true, decide_eq_true_eq]; omega
  have hlen := cofL_len m c (2 ^ m)
  have hp := M.polN_lt m c
  have hv : M.valid (m : Int) ((M.polN m c : Nat) : Int) = true := (M.valid_iff _ _).2 ⟨m, _, hm, hp, rfl, rfl⟩
  unfold impl_FuncOfPolynomial.f impl_FuncOf.f
  rw [isArity_eq, Option.bind_some, if_pos hd, rowsOf_eq m hm, Option.bind_some, if_pos (by rw [hlen]), idigits_eq _ (by omega), Option.bind_some, if_pos hdig]
  unfold cofL
  rw [packed_eq (2 ^ m) h16 _ (fun q _ => M.psum_le _ _ _) k (by omega), Option.bind_some, Option.bind_some, if_pos rfl]
  have := ipoly_eq m (M.polN m c) hv
  rw [pol_pol m c hm hc] at this
  unfold M.polN at this
  rw [this]; rfl
theorem sdeg_loop (n b : Nat) (hn : n ≤ 4) (d : Nat) : ∀ (k w : Nat), w + d = 2 ^ n → d + 20 < k →
    spec_l03Degree.l0 k (cofL n b (2 ^ n)) (dgr n b w) (w : Int) = some (dgr n b (2 ^ n)) := by
  have h16 := M.pow_le16 hn
  have hlen := cofL_len n b (2 ^ n)
  induction d with
  | zero =>
    intro k r hr hk
    obtain ⟨k, rfl⟩ : ∃ m, k = m + 1 := ⟨k - 1, by omega⟩
    obtain rfl : r = 2 ^ n := by omega
    simp only [spec_l03Degree.l0]; rw [if_neg (by omega)]
  | succ d ih =>
    intro k r hr hk
    obtain ⟨k, rfl⟩ : ∃ m, k = m + 1 := ⟨k - 1, by omega⟩
    have step := ih k (r + 1) (by omega) (by omega)
    have hrd : rd (cofL n b (2 ^ n)) (r : Int) = ((M.psum b r (2 ^ n) : Nat) : Int) := M.lis_rd _ _ r (by omega)
    simp only [dgr] at step
    simp only [spec_l03Degree.l0]
    rw [if_pos (by omega), if_pos (by omega), hrd, M.w64_in ((r : Int) + 1) (by omega) (by omega)]
    by_cases h : M.psum b r (2 ^ n) = 1
    · rw [if_pos h] at step
      rw [if_pos (by omega), size_eq r (by omega) k (by omega), Option.bind_some]
      exact step
    · rw [if_neg h] at step
      rw [if_neg (by omega)]
      exact step
theorem ideg_loop (n b : Nat) (hn : n ≤ 4) (d : Nat) : ∀ (k w : Nat), w + d = 2 ^ n → d < k →
    impl_DegreeOfFunc.l0 k ((M.polN n b : Nat) : Int) (dgr n b w) ((2 ^ n : Nat) : Int) (w : Int) = some (dgr n b (2 ^ n), 0) := by
  have h16 := M.pow_le16 hn
  have hp6 : M.polN n b < 2 ^ 62 := Nat.lt_trans (M.bits_lt hn (M.polN_lt n b)) (by decide)
  induction d with
  | zero =>
    intro k r hr hk
    obtain ⟨k, rfl⟩ : ∃ m, k = m + 1 := ⟨k - 1, by omega⟩
    obtain rfl : r = 2 ^ n := by omega
    simp only [impl_DegreeOfFunc.l0]; rw [if_neg (by omega)]
  | succ d ih =>
    intro k r hr hk
    obtain ⟨k, rfl⟩ : ∃ m, k = m + 1 := ⟨k - 1, by omega⟩
    have step := ih k (r + 1) (by omega) (by omega)
    simp only [dgr] at step
    simp only [impl_DegreeOfFunc.l0]
    rw [if_pos (by omega), bit_eq _ r hp6 (by omega), Option.bind_some, polN_at n b r (by omega), M.w64_in ((r : Int) + 1) (by omega) (by omega)]
    by_cases h : M.psum b r (2 ^ n) = 1
    · rw [if_pos h] at step
      rw [if_pos (by omega), ones_eq r (by omega), Option.bind_some]
      exact step
    · rw [if_neg h] at step
      rw [if_neg (by omega)]
      exact step
theorem deg_val (m c : Nat) (hm : m ≤ 4) (hc : c < 2 ^ 2 ^ m) (k : Nat) (hk : 420 ≤ k) : impl_DegreeOfFunc.f k (m : Int) (c : Int) = some (dgr m c (2 ^ m), 0) ∧ spec_DegreeOfFunc.f k (m : Int) (c : Int) = some (dgr m c (2 ^ m), 0) := by
  have hv : M.valid (m : Int) (c : Int) = true := (M.valid_iff _ _).2 ⟨m, c, hm, hc, rfl, rfl⟩
  have h16 := M.pow_le16 hm
  unfold spec_DegreeOfFunc.f impl_DegreeOfFunc.f spec_l03Degree.f
  rw [is_eq, isFunc_eq, Option.bind_some, Option.bind_some, if_pos hv, if_pos hv]
  rw [poly_eq m c hm (Nat.lt_trans (M.bits_lt hm hc) (by decide)) k (by omega), ipoly_eq m c hv, Option.bind_some, Option.bind_some, Func_rows_eq m _ hm, Option.bind_some]
  have e1 := sdeg_loop m c hm (2 ^ m) k 0 (by omega) (by omega)
  have e2 := ideg_loop m c hm (2 ^ m) k 0 (by omega) (by omega)
  rw [Int.natCast_zero] at e1 e2
  refine ⟨e2, ?_⟩
  erw [e1]; rfl
theorem deg_both (n b : Int) (k : Nat) (hk : 420 ≤ k) : ∃ d c, impl_DegreeOfFunc.f k n b = some (d, c) ∧ spec_DegreeOfFunc.f k n b = some (d, c) := by
  by_cases hv : M.valid n b = true
  · obtain ⟨m, c, hm, hc, rfl, rfl⟩ := (M.valid_iff _ _).1 hv
    obtain ⟨h1, h2⟩ := deg_val m c hm hc k hk
    exact ⟨_, _, h1, h2⟩
  · unfold spec_DegreeOfFunc.f impl_DegreeOfFunc.f
    rw [is_eq, isFunc_eq, Option.bind_some, Option.bind_some, if_neg hv, if_neg hv]
    exact ⟨_, _, rfl, rfl⟩
theorem sder_loop (n b a : Nat) (hn : n ≤ 4) (hb : b < 2 ^ 62) (ha : a < 2 ^ n) (d : Nat) : ∀ (k r : Nat), r + d = 2 ^ n → d + 20 < k →
    spec_DerivativeBy.l0 k (a : Int) (M.lis r (fun r => M.atN b r ^^^ M.atN b (r ^^^ a))) (r : Int) (n : Int) (b : Int) = some ((n : Int), ((M.derN n b a : Nat) : Int), 0) := by
  have h16 := M.pow_le16 hn
  induction d with
  | zero =>
    intro k r hr hk
    obtain ⟨k, rfl⟩ : ∃ m, k = m + 1 := ⟨k - 1, by omega⟩
    obtain rfl : r = 2 ^ n := by omega
    simp only [spec_DerivativeBy.l0]
    rw [rows_eq n hn, Option.bind_some, if_neg (by omega), Of_eq n hn _ (fun r _ => M.der_le _ _ _) k (by omega)]; rfl
  | succ d ih =>
    intro k r hr hk
    obtain ⟨k, rfl⟩ : ∃ m, k = m + 1 := ⟨k - 1, by omega⟩
    have hl := M.lis_length r (fun r => M.atN b r ^^^ M.atN b (r ^^^ a))
    have hx16 : r ^^^ a < 2 ^ n := Nat.xor_lt_two_pow (by omega) ha
    have h1 := M.atN_le b r
    have h2 := M.atN_le b (r ^^^ a)
    have e : Int.tmod (wrap64 (((M.atN b r : Nat) : Int) + ((M.atN b (r ^^^ a) : Nat) : Int))) 2 = ((M.atN b r ^^^ M.atN b (r ^^^ a) : Nat) : Int) := by
      rw [M.xor_digit _ _ h1 h2, M.w64_in _ (by omega) (by omega), ← Int.natCast_add]; rfl
    have step := ih k (r + 1) (by omega) (by omega)
    rw [M.lis_succ] at step
    simp only [spec_DerivativeBy.l0]
    rw [rows_eq n hn, Option.bind_some, if_pos (by omega), at_eq (n : Int) b r hb (by omega), Option.bind_some, M.xor_nat r a (by omega) (by omega), at_eq (n : Int) b _ hb (by omega), Option.bind_some, if_pos (by omega), e, M.w64_in ((r : Int) + 1) (by omega) (by omega)]
    exact step
theorem der_both (n b a : Int) (k : Nat) (hk : 100 ≤ k) : ∃ r1 r2 r3, impl_DerivativeBy.f n b a = some (r1, r2, r3) ∧ spec_DerivativeBy.f k n b a = some (r1, r2, r3) ∧
    (r3 = 0 → ∃ N B A : Nat, N ≤ 4 ∧ B < 2 ^ 2 ^ N ∧ A < 2 ^ N ∧ n = N ∧ b = B ∧ r1 = N ∧ r2 = ((M.derN N B A : Nat) : Int)) := by
  unfold spec_DerivativeBy.f impl_DerivativeBy.f
  rw [is_eq]
  simp only [Option.bind_some]
  by_cases hv : M.valid n b = true
  · rw [if_pos hv, if_pos hv]
    obtain ⟨m, c, hm, hc, rfl, rfl⟩ := (M.valid_iff _ _).1 hv
    have h16 := M.pow_le16 hm
    have h1p := M.pow_pos m
    rw [rows_eq m hm, Option.bind_some, M.w64_in _ (by omega) (by omega), in_eq, Option.bind_some]
    simp only [Int.toNat_natCast]
    by_cases ha : 0 ≤ a ∧ a < ((2 ^ m : Nat) : Int)
    · rw [if_pos ha, if_pos (by simp only [Bool.and_eq_true, decide_eq_true_eq]; omega)]
      obtain ⟨d, rfl⟩ := Int.eq_ofNat_of_zero_le ha.1
      have e1 := sder_loop m c d hm (Nat.lt_trans (M.bits_lt hm hc) (by decide)) (by omega) (2 ^ m) k 0 (by omega) (by omega)
      rw [M.lis_zero, Int.natCast_zero] at e1
      exact ⟨_, _, _, rfl, e1, fun _ => ⟨m, c, d, hm, hc, by omega, rfl, rfl, rfl, rfl⟩⟩
    · rw [if_neg ha, if_neg (by simp only [Bool.and_eq_true, decide_eq_true_eq]; omega)]
      exact ⟨_, _, _, rfl, rfl, fun h => absurd h (by decide)⟩
  · rw [if_neg hv, if_neg hv]
    exact ⟨_, _, _, rfl, rfl, fun h => absurd h (by decide)⟩
/-- The coefficients where those below w are already seen. -/
def stg (p w q : Nat) : Nat := if q < w then M.lowC p q else M.atN p q
theorem lis_get (m : Nat) (h : Nat → Nat) (i : Nat) (hi : i < (M.lis m h).length) : (M.lis m h)[i] = ((h i : Nat) : Int) := by
  simp [M.lis]
theorem stg_set (m p w : Nat) (hw : M.pop 16 w > 1) : (M.lis m (stg p w)).set w 0 = M.lis m (stg p (w + 1)) := by
  apply List.ext_getElem
  · rw [List.length_set, M.lis_length, M.lis_length]
  · intro i h1 h2
    rw [List.getElem_set, lis_get, lis_get]
    by_cases e : w = i
    · subst e
      rw [if_pos rfl]
      unfold stg M.lowC
      rw [if_pos (by omega), if_pos hw]; rfl
    · rw [if_neg e]
      unfold stg
      by_cases h : i < w
      · rw [if_pos h, if_pos (by omega)]
      · rw [if_neg h, if_neg (by omega)]
theorem stg_keep (m p w : Nat) (hw : ¬ M.pop 16 w > 1) : M.lis m (stg p w) = M.lis m (stg p (w + 1)) := by
  refine M.lis_congr _ _ _ fun q hq => ?_
  unfold stg
  by_cases e : q = w
  · subst e
    rw [if_neg (by omega), if_pos (by omega)]
    unfold M.lowC
    rw [if_neg hw]
  · by_cases h : q < w
    · rw [if_pos h, if_pos (by omega)]
    · rw [if_neg h, if_neg (by omega)]
theorem aff_loop (n b : Nat) (hn : n ≤ 4) (d : Nat) : ∀ (k w : Nat), w + d = 2 ^ n → d + 370 < k →
    spec_AffinePart.l0 k (M.lis (2 ^ n) (stg (M.polN n b) w)) (w : Int) (n : Int) (b : Int) = some ((n : Int), ((M.affN n b : Nat) : Int), 0) := by
  have h16 := M.pow_le16 hn
  induction d with
  | zero =>
    intro k w hr hk
    obtain ⟨k, rfl⟩ : ∃ m, k = m + 1 := ⟨k - 1, by omega⟩
    obtain rfl : w = 2 ^ n := by omega
    have hl := M.lis_length (2 ^ n) (stg (M.polN n b) (2 ^ n))
    have e : M.lis (2 ^ n) (stg (M.polN n b) (2 ^ n)) = M.lis (2 ^ n) (M.atN (M.tab (2 ^ n) (M.lowC (M.polN n b)))) := M.lis_congr _ _ _ fun q hq => by
      rw [M.tab_at _ _ (fun _ _ => M.lowC_le _ _) q hq]
      unfold stg; rw [if_pos hq]
    simp only [spec_AffinePart.l0]
    rw [if_neg (by omega), e, sums_eq n _ hn k (by omega), Option.bind_some]
    unfold cofL
    rw [Of_eq n hn _ (fun r _ => M.psum_le _ _ _) k (by omega)]; rfl
  | succ d ih =>
    intro k w hr hk
    obtain ⟨k, rfl⟩ : ∃ m, k = m + 1 := ⟨k - 1, by omega⟩
    have hl := M.lis_length (2 ^ n) (stg (M.polN n b) w)
    have step := ih k (w + 1) (by omega) (by omega)
    simp only [spec_AffinePart.l0]
    rw [if_pos (by omega), size_eq w (by omega) k (by omega), Option.bind_some, M.w64_in ((w : Int) + 1) (by omega) (by omega)]
    by_cases h : M.pop 16 w > 1
    · rw [if_pos (by omega), if_pos (by omega), Int.toNat_natCast, stg_set _ _ _ h]
      exact step
    · rw [if_neg (by omega), stg_keep _ _ _ h]
      exact step
theorem aff_both (n b : Int) (k : Nat) (hk : 420 ≤ k) : ∃ r1 r2 r3, impl_AffinePart.f n b = some (r1, r2, r3) ∧ spec_AffinePart.f k n b = some (r1, r2, r3) ∧
    (r3 = 0 → ∃ N B : Nat, N ≤ 4 ∧ B < 2 ^ 2 ^ N ∧ n = N ∧ b = B ∧ r1 = N ∧ r2 = ((M.affN N B : Nat) : Int)) := by
  unfold spec_AffinePart.f impl_AffinePart.f
  rw [is_eq]
  simp only [Option.bind_some]
  by_cases hv : M.valid n b = true
  · rw [if_pos hv, if_pos hv]
    obtain ⟨m, c, hm, hc, rfl, rfl⟩ := (M.valid_iff _ _).1 hv
    have h16 := M.pow_le16 hm
    have hz : cofL m c (2 ^ m) = M.lis (2 ^ m) (stg (M.polN m c) 0) := M.lis_congr _ _ _ fun q hq => by
      unfold stg; rw [if_neg (by omega), polN_at m c q hq]
    rw [poly_eq m c hm (Nat.lt_trans (M.bits_lt hm hc) (by decide)) k (by omega), Option.bind_some, hz]
    have e1 := aff_loop m c hm (2 ^ m) k 0 (by omega) (by omega)
    rw [Int.natCast_zero] at e1
    exact ⟨_, _, _, rfl, e1, fun _ => ⟨m, c, hm, hc, rfl, rfl, rfl, rfl⟩⟩
  · rw [if_neg hv, if_neg hv]
    exact ⟨_, _, _, rfl, rfl, fun h => absurd h (by decide)⟩
theorem likeInts_loop (l : List Int) (hlen : l.length ≤ 1048576) (d : Nat) : ∀ (k r : Nat), r + d = l.length → d < k → laws_likeInts.l0 k l l (r : Int) = some true := by
  induction d with
  | zero =>
    intro k r hr hk
    obtain ⟨k, rfl⟩ : ∃ m, k = m + 1 := ⟨k - 1, by omega⟩
    simp only [laws_likeInts.l0]
    rw [if_neg (by omega)]
  | succ d ih =>
    intro k r hr hk
    obtain ⟨k, rfl⟩ : ∃ m, k = m + 1 := ⟨k - 1, by omega⟩
    simp only [laws_likeInts.l0]
    rw [if_pos (by omega), if_pos (by omega), if_pos (by omega), if_pos trivial, M.w64_in ((r : Int) + 1) (by omega) (by omega)]
    exact ih k (r + 1) (by omega) (by omega)
theorem likeInts_self (l : List Int) (hlen : l.length ≤ 1048576) (k : Nat) (hk : l.length < k) : laws_likeInts.f k l l = some true := by
  unfold laws_likeInts.f
  rw [if_pos rfl]
  exact likeInts_loop l hlen l.length k 0 (by omega) hk
/-- A code that is not long. -/
def Code4 (l : List Int) : Prop := l.length ≤ 4096 ∧ ∀ x ∈ l, 0 ≤ x ∧ x < 256
theorem two_ok (l : List Int) (hc : Code4 l) (k : Nat) (hk : 4200 ≤ k) : ∃ n b m c, spec_l03Two.f k l = some (n, b, m, c) := by
  unfold spec_l03Two.f
  obtain ⟨g, e, hs⟩ := from_ok l hc.1 hc.2 k (by omega)
  rw [e, Option.bind_some]
  obtain ⟨n, b, t1, g1, hn, e1, hs1⟩ := draw_ok l 0 g hs k (by omega)
  rw [e1, Option.bind_some]
  obtain ⟨b2, t2, g2, e2, hs2⟩ := drawOf_ok n hn l t1 g1 hs1 k (by omega)
  rw [e2, Option.bind_some]
  obtain ⟨x, t3, g3, e3, hs3, _, _⟩ := next_ok l t2 g2 16 hs2
  rw [e3, Option.bind_some]
  by_cases h0 : x = 0
  · rw [if_pos h0]
    obtain ⟨n4, b4, t4, g4, hn4, e4, hs4⟩ := draw_ok l t3 g3 hs3 k (by omega)
    rw [e4, Option.bind_some]
    obtain ⟨n5, b5, t5, g5, e5, hs5⟩ := bad_ok l t4 g4 (n : Int) b hs4
    rw [e5, Option.bind_some]
    obtain ⟨n6, b6, t6, g6, e6, hs6⟩ := bad_ok l t5 g5 (n4 : Int) b4 hs5
    rw [e6]; exact ⟨_, _, _, _, rfl⟩
  · rw [if_neg h0]
    obtain ⟨n5, b5, t5, g5, e5, hs5⟩ := bad_ok l t3 g3 (n : Int) b hs3
    by_cases h1 : x = 1
    · rw [if_pos h1, e5, Option.bind_some]
      obtain ⟨n6, b6, t6, g6, e6, hs6⟩ := bad_ok l t5 g5 (n : Int) b hs5
      rw [e6]; exact ⟨_, _, _, _, rfl⟩
    · rw [if_neg h1, e5, Option.bind_some]
      obtain ⟨n6, b6, t6, g6, e6, hs6⟩ := bad_ok l t5 g5 (n : Int) b2 hs5
      rw [e6]; exact ⟨_, _, _, _, rfl⟩
theorem drawSum_ok (l : List Int) (hc : Code4 l) (k : Nat) (hk : 4200 ≤ k) : ∃ n b m c, spec_DrawSumOfFuncs.f k l = some (n, b, m, c) := by
  obtain ⟨n, b, m, c, h⟩ := two_ok l hc k hk
  unfold spec_DrawSumOfFuncs.f
  rw [h]; exact ⟨_, _, _, _, rfl⟩
theorem drawProd_ok (l : List Int) (hc : Code4 l) (k : Nat) (hk : 4200 ≤ k) : ∃ n b m c, spec_DrawProductOfFuncs.f k l = some (n, b, m, c) := by
  obtain ⟨n, b, m, c, h⟩ := two_ok l hc k hk
  unfold spec_DrawProductOfFuncs.f
  rw [h]; exact ⟨_, _, _, _, rfl⟩
theorem spoilt (l : List Int) (hc : Code4 l) (k : Nat) (hk : 4200 ≤ k) : ∃ g n b t h, spec_l01From.f k l = some (l, 0, g) ∧ spec_l01Spoil.f k l 0 g = some (n, b, t, h) := by
  obtain ⟨g, e, hs⟩ := from_ok l hc.1 hc.2 k (by omega)
  obtain ⟨n, b, t, h, e1, _⟩ := spoil_ok l 0 g hs k (by omega)
  exact ⟨g, n, b, t, h, e, e1⟩
theorem drawAff_ok (l : List Int) (hc : Code4 l) (k : Nat) (hk : 4200 ≤ k) : ∃ n b, spec_DrawAffinePart.f k l = some (n, b) := by
  obtain ⟨g, n, b, t, h, e, e1⟩ := spoilt l hc k hk
  unfold spec_DrawAffinePart.f
  rw [e, Option.bind_some, e1]; exact ⟨_, _, rfl⟩
theorem drawPol_ok (l : List Int) (hc : Code4 l) (k : Nat) (hk : 4200 ≤ k) : ∃ n b, spec_DrawPolynomialOf.f k l = some (n, b) := by
  obtain ⟨g, n, b, t, h, e, e1⟩ := spoilt l hc k hk
  unfold spec_DrawPolynomialOf.f
  rw [e, Option.bind_some, e1]; exact ⟨_, _, rfl⟩
theorem drawDeg_ok (l : List Int) (hc : Code4 l) (k : Nat) (hk : 4200 ≤ k) : ∃ n b, spec_DrawDegreeOfFunc.f k l = some (n, b) := by
  obtain ⟨g, n, b, t, h, e, e1⟩ := spoilt l hc k hk
  unfold spec_DrawDegreeOfFunc.f
  rw [e, Option.bind_some, e1]; exact ⟨_, _, rfl⟩
theorem near_ok (l : List Int) (s h a : Int) (hs : Src l s) : ∃ x t g, spec_l01Near.f l s h a = some (x, t, g) ∧ Src l t := by
  unfold spec_l01Near.f
  obtain ⟨x, t, g, e, ht, _, _⟩ := next_ok l s h 14 hs
  rw [e, Option.bind_some]
  by_cases h0 : x = 0
  · rw [if_pos h0]
    obtain ⟨y, t1, g1, e1, ht1, _⟩ := pick_ok l t g [-1, wrap64 (a + 1), 1099511627776, -4611686018427387904] (by simp) ht
    rw [e1]; exact ⟨_, _, _, rfl, ht1⟩
  · rw [if_neg h0]
    obtain ⟨y, t1, g1, e1, ht1, _, _⟩ := next_ok l t g (wrap64 (a + 1)) ht
    rw [e1]; exact ⟨_, _, _, rfl, ht1⟩
theorem drawDer_ok (l : List Int) (hc : Code4 l) (k : Nat) (hk : 4200 ≤ k) : ∃ n b a, spec_DrawDerivativeBy.f k l = some (n, b, a) := by
  unfold spec_DrawDerivativeBy.f
  obtain ⟨g, e, hs⟩ := from_ok l hc.1 hc.2 k (by omega)
  rw [e, Option.bind_some]
  obtain ⟨n, b, t1, g1, hn, e1, hs1⟩ := draw_ok l 0 g hs k (by omega)
  rw [e1, Option.bind_some, rows_eq n hn, Option.bind_some]
  obtain ⟨a, t2, g2, e2, hs2⟩ := near_ok l t1 g1 (wrap64 (((2 ^ n : Nat) : Int) - 1)) hs1
  rw [e2, Option.bind_some]
  obtain ⟨n3, b3, t3, g3, e3, hs3⟩ := bad_ok l t2 g2 (n : Int) b hs2
  rw [e3]; exact ⟨_, _, _, rfl⟩
theorem drawFunc_loop (n : Nat) (hn : n ≤ 4) (l : List Int) (s h b m : Int) (hs : Src l s) (d : Nat) : ∀ (k r : Nat) (xs : List Int), r + d = 2 ^ n → xs.length = r → d < k →
    ∃ q ys, spec_DrawFuncOf.l0 k m xs (r : Int) l s h (n : Int) b = some (q, ys) ∧ ys.length ≤ 17 := by
  have h16 := M.pow_le16 hn
  have hp := M.pow_pos n
  induction d with
  | zero =>
    intro k r xs hr hl hk
    obtain ⟨k, rfl⟩ : ∃ m, k = m + 1 := ⟨k - 1, by omega⟩
    obtain ⟨x, t, g, e, ht, _, _⟩ := next_ok l s h 16 hs
    simp only [spec_DrawFuncOf.l0]
    rw [rows_eq n hn, Option.bind_some, if_neg (by omega), e, Option.bind_some]
    by_cases h0 : x = 0
    · rw [if_pos h0]
      obtain ⟨y, t1, g1, e1, ht1, _⟩ := pick_ok l t g [-1, 5, wrap64 (m + 1)] (by simp) ht
      rw [e1]; exact ⟨_, _, rfl, by omega⟩
    · rw [if_neg h0]
      by_cases h1 : x = 1
      · rw [if_pos h1]
        obtain ⟨y, t1, g1, e1, ht1, _⟩ := pick_ok l t g [2, -1] (by simp) ht
        rw [e1, Option.bind_some, if_pos (by omega)]; exact ⟨_, _, rfl, by rw [List.length_set]; omega⟩
      · rw [if_neg h1]
        by_cases h2 : x = 2
        · rw [if_pos h2, if_pos (by omega)]; exact ⟨_, _, rfl, by rw [List.length_append, List.length_singleton]; omega⟩
        · rw [if_neg h2]; exact ⟨_, _, rfl, by omega⟩
  | succ d ih =>
    intro k r xs hr hl hk
    obtain ⟨k, rfl⟩ : ∃ m, k = m + 1 := ⟨k - 1, by omega⟩
    simp only [spec_DrawFuncOf.l0]
    unfold spec_l01At.f
    rw [rows_eq n hn, Option.bind_some, if_pos (by omega), if_pos (u64_pos _), Option.bind_some, if_pos (by omega), M.w64_in ((r : Int) + 1) (by omega) (by omega)]
    exact ih k (r + 1) _ (by omega) (by rw [List.length_append, List.length_singleton]; omega) (by omega)
theorem drawFop_ok (l : List Int) (hc : Code4 l) (k : Nat) (hk : 4200 ≤ k) : ∃ n xs, spec_DrawFuncOfPolynomial.f k l = some (n, xs) ∧ xs.length ≤ 17 := by
  unfold spec_DrawFuncOfPolynomial.f spec_DrawFuncOf.f
  obtain ⟨g, e, hs⟩ := from_ok l hc.1 hc.2 k (by omega)
  rw [e, Option.bind_some]
  obtain ⟨n, b, t1, g1, hn, e1, hs1⟩ := draw_ok l 0 g hs k (by omega)
  have h16 := M.pow_le16 hn
  rw [e1, Option.bind_some]
  obtain ⟨q, ys, e2, hy⟩ := drawFunc_loop n hn l t1 g1 b (n : Int) hs1 (2 ^ n) k 0 [] (by omega) rfl (by omega)
  rw [Int.natCast_zero] at e2
  erw [e2]; exact ⟨_, _, rfl, hy⟩
theorem same2 (a b : Int) : (a == a && (b == b)) = true := by simp
theorem differ2 (a b : Int) : ¬ (!(a == a) || (!(b == b))) = true := by simp
theorem j7_ok (l : List Int) (hc : Code4 l) (k : Nat) (hk : 4300 ≤ k) : laws_FnPolynomials.j7 k l = some true := by
  obtain ⟨k, rfl⟩ : ∃ m, k = m + 1 := ⟨k - 1, by omega⟩
  obtain ⟨n1, b1, d1⟩ := drawPol_ok l hc k (by omega)
  obtain ⟨xs, c1, p1, p2, pl⟩ := poly_both n1 b1 k (by omega)
  obtain ⟨n2, ys, d2, dl⟩ := drawFop_ok l hc k (by omega)
  obtain ⟨r1, r2, r3, q1, q2⟩ := fop_both n2 ys (by omega) k (by omega)
  obtain ⟨n3, b3, n4, b4, d3⟩ := drawProd_ok l hc k (by omega)
  obtain ⟨s1, s2, s3, t1, t2⟩ := prod_both n3 b3 n4 b4 k (by omega)
  obtain ⟨n5, b5, d4⟩ := drawDeg_ok l hc k (by omega)
  obtain ⟨u1, u2, v1, v2⟩ := deg_both n5 b5 k (by omega)
  have hs := likeInts_self xs (by omega) k (by omega)
  rw [laws_FnPolynomials.j7]
  rw [d1, Option.bind_some, p1, Option.bind_some, p2, Option.bind_some, d2, Option.bind_some, q1, Option.bind_some, q2, Option.bind_some, d3, Option.bind_some, t1, Option.bind_some, t2, Option.bind_some, d4, Option.bind_some, v1, Option.bind_some, v2, Option.bind_some]
  rw [if_pos rfl, hs, Option.bind_some, if_pos rfl, if_pos rfl, if_pos (same2 _ _), if_pos rfl, if_pos (same2 _ _), if_pos rfl]
  simp
theorem j5_ok (l : List Int) (hc : Code4 l) (k : Nat) (hk : 4400 ≤ k) : laws_FnPolynomials.j5 k l = some true := by
  obtain ⟨k, rfl⟩ : ∃ m, k = m + 1 + 1 := ⟨k - 2, by omega⟩
  obtain ⟨n1, b1, d1⟩ := drawAff_ok l hc (k + 1) (by omega)
  obtain ⟨r1, r2, r3, p1, p2, pz⟩ := aff_both n1 b1 (k + 1) (by omega)
  rw [laws_FnPolynomials.j5]
  rw [d1, Option.bind_some, p1, Option.bind_some, p2, Option.bind_some, if_pos rfl, laws_FnPolynomials.j6, if_neg (differ2 _ _)]
  have h7 := j7_ok l hc k (by omega)
  by_cases hz : r3 = 0
  · rw [if_pos hz]
    obtain ⟨N, B, hN, hB, rfl, rfl, rfl, rfl⟩ := pz hz
    obtain ⟨e1, _⟩ := deg_val N (M.affN N B) hN (aff_lt N B) k (by omega)
    obtain ⟨e2, _⟩ := deg_val N B hN hB k (by omega)
    rw [e1, Option.bind_some, e2, Option.bind_some, if_pos rfl, if_pos rfl, if_neg (by have := aff_dgr N B hN; exact Int.not_lt.2 this)]
    by_cases hd : dgr N B (2 ^ N) < 2
    · rw [if_pos hd, aff_self N B hN hB hd, if_neg (differ2 _ _)]; exact h7
    · rw [if_neg hd]; exact h7
  · rw [if_neg hz]; exact h7
theorem der_lt (N B A : Nat) : M.derN N B A < 2 ^ 2 ^ N := M.tab_lt _ _ (fun _ _ => M.der_le _ _ _)
theorem j3_ok (l : List Int) (hc : Code4 l) (k : Nat) (hk : 4500 ≤ k) : laws_FnPolynomials.j3 k l = some true := by
  obtain ⟨k, rfl⟩ : ∃ m, k = m + 1 + 1 := ⟨k - 2, by omega⟩
  obtain ⟨n1, b1, a1, d1⟩ := drawDer_ok l hc (k + 1) (by omega)
  obtain ⟨r1, r2, r3, p1, p2, pz⟩ := der_both n1 b1 a1 (k + 1) (by omega)
  rw [laws_FnPolynomials.j3]
  rw [d1, Option.bind_some, p1, Option.bind_some, p2, Option.bind_some, if_pos rfl, laws_FnPolynomials.j4, if_neg (differ2 _ _)]
  have h5 := j5_ok l hc k (by omega)
  by_cases hz : r3 = 0
  · rw [if_pos hz]
    obtain ⟨N, B, A, hN, hB, hA, rfl, rfl, rfl, rfl⟩ := pz hz
    obtain ⟨e1, _⟩ := deg_val N B hN hB k (by omega)
    obtain ⟨e2, _⟩ := deg_val N (M.derN N B A) hN (der_lt N B A) k (by omega)
    rw [e1, Option.bind_some, e2, Option.bind_some, if_pos rfl, if_pos rfl]
    rcases dgr_der N B A hN hB hA with h | h
    · rw [h, if_neg (by decide)]; exact h5
    · by_cases h0 : dgr N (M.derN N B A) (2 ^ N) > 0
      · rw [if_pos h0, if_neg (Int.not_le.2 h)]; exact h5
      · rw [if_neg h0]; exact h5
  · rw [if_neg hz]; exact h5
theorem l0_ok (l : List Int) (hc : Code4 l) (N B C : Nat) (hN : N ≤ 4) (hB : B < 2 ^ 2 ^ N) (hC : C < 2 ^ 2 ^ N) (d : Nat) : ∀ (k r : Nat), r + d = 2 ^ N → 4600 + d ≤ k →
    laws_FnPolynomials.l0 k l (cofL N B (2 ^ N)) (cofL N C (2 ^ N)) (cofL N (B ^^^ C) (2 ^ N)) (r : Int) (N : Int) (B : Int) (N : Int) (C : Int) (N : Int) ((B ^^^ C : Nat) : Int) = some true := by
  have h16 := M.pow_le16 hN
  have l1 := cofL_len N B (2 ^ N)
  have l2 := cofL_len N C (2 ^ N)
  have l3 := cofL_len N (B ^^^ C) (2 ^ N)
  have hx : B ^^^ C < 2 ^ 2 ^ N := Nat.xor_lt_two_pow hB hC
  have v1 := fun k hk => (deg_val N B hN hB k hk).1
  have v2 := fun k hk => (deg_val N C hN hC k hk).1
  have v3 := fun k hk => (deg_val N (B ^^^ C) hN hx k hk).1
  clear hB hC hx
  induction d with
  | zero =>
    intro k r hr hk
    obtain ⟨k, rfl⟩ : ∃ m, k = m + 1 := ⟨k - 1, by omega⟩
    have h3 := j3_ok l hc k (by omega)
    rw [laws_FnPolynomials.l0]
    rw [if_neg (by omega), v1 k (by omega), Option.bind_some, v2 k (by omega), Option.bind_some, v3 k (by omega), Option.bind_some, if_pos rfl, if_pos rfl, if_pos rfl]
    rcases dgr_sum N B C with h | h
    · rw [if_neg (Int.not_lt.2 h)]; exact h3
    · by_cases h0 : dgr N (B ^^^ C) (2 ^ N) > dgr N B (2 ^ N)
      · rw [if_pos h0, if_neg (Int.not_lt.2 h)]; exact h3
      · rw [if_neg h0]; exact h3
  | succ d ih =>
    intro k r hr hk
    obtain ⟨k, rfl⟩ : ∃ m, k = m + 1 := ⟨k - 1, by omega⟩
    have g1 : rd (cofL N B (2 ^ N)) (r : Int) = ((M.psum B r (2 ^ N) : Nat) : Int) := M.lis_rd _ _ r (by omega)
    have g2 : rd (cofL N C (2 ^ N)) (r : Int) = ((M.psum C r (2 ^ N) : Nat) : Int) := M.lis_rd _ _ r (by omega)
    have g3 : rd (cofL N (B ^^^ C) (2 ^ N)) (r : Int) = ((M.psum (B ^^^ C) r (2 ^ N) : Nat) : Int) := M.lis_rd _ _ r (by omega)
    have q1 := M.psum_le B r (2 ^ N)
    have q2 := M.psum_le C r (2 ^ N)
    have e : Int.tmod (wrap64 (((M.psum B r (2 ^ N) : Nat) : Int) + ((M.psum C r (2 ^ N) : Nat) : Int))) 2 = ((M.psum (B ^^^ C) r (2 ^ N) : Nat) : Int) := by
      rw [psum_xor, M.xor_digit _ _ q1 q2, M.w64_in _ (by omega) (by omega), ← Int.natCast_add]; rfl
    have step := ih k (r + 1) (by omega) (by omega)
    rw [laws_FnPolynomials.l0]
    rw [if_pos (by omega), if_pos (by omega), if_pos (by omega), if_pos (by omega), g1, g2, g3, if_pos e, M.w64_in ((r : Int) + 1) (by omega) (by omega)]
    exact step
theorem FnPolynomials : ∀ (l0 : List Int), l0.length ≤ maxLen → l0.length * 1 ≤ 140737488351232 → (∀ x ∈ l0, (Lit.int .u8 x).wf = true) → ∃ k, laws_FnPolynomials.f k l0 = some true := by
  intro l _ _ hw
  refine ⟨4700, ?_⟩
  unfold laws_FnPolynomials.f laws_big.f
  rw [Option.bind_some]
  by_cases hl : (l.length : Int) > 4096
  · rw [if_pos (decide_eq_true hl)]
  · rw [if_neg (by rw [decide_eq_false hl]; decide)]
    have hc : Code4 l := ⟨by omega, fun x hx => by
      have := hw x hx
      have h2 : 0 ≤ x ∧ x ≤ 255 := by simpa [Lit.wf, IntKind.bits, IntKind.signed, IntKind.min, IntKind.max] using this
      exact ⟨h2.1, Int.lt_add_one_of_le h2.2⟩⟩
    obtain ⟨n, b, m, c, d1⟩ := drawSum_ok l hc 4700 (by omega)
    obtain ⟨r1, r2, r3, p1, p2, pz⟩ := sum_both n b m c 4700 (by omega)
    rw [d1, Option.bind_some, p1, Option.bind_some, p2, Option.bind_some, if_pos rfl, laws_FnPolynomials.j0, if_neg (differ2 _ _)]
    by_cases hz : r3 = 0
    · rw [if_pos hz]
      obtain ⟨N, B, C, hN, hB, hC, rfl, rfl, rfl, rfl, rfl, rfl⟩ := pz hz
      have hx : B ^^^ C < 2 ^ 2 ^ N := Nat.xor_lt_two_pow hB hC
      obtain ⟨f1, _⟩ := poly_val N B hN hB 4699 (by omega)
      obtain ⟨f2, _⟩ := poly_val N C hN hC 4699 (by omega)
      obtain ⟨f3, _⟩ := poly_val N (B ^^^ C) hN hx 4699 (by omega)
      have f4 := fop_back N B hN hB 4699 (by omega)
      obtain ⟨f5, f6⟩ := prod_val N B C hN hB hC
      have h16 := M.pow_le16 hN
      rw [f1, Option.bind_some, f2, Option.bind_some, f3, Option.bind_some, f4, Option.bind_some, f5, Option.bind_some, if_pos rfl, if_pos rfl, if_pos rfl, if_pos rfl, if_pos rfl, if_neg (differ2 _ _)]
      rw [if_pos (by rw [cofL_len, cofL_len]), if_pos (by rw [cofL_len, cofL_len]), isFunc_eq, Option.bind_some, f6, laws_FnPolynomials.j1, if_neg (by decide)]
      have := l0_ok l hc N B C hN hB hC (2 ^ N) 4698 0 (by omega) (by omega)
      rw [Int.natCast_zero] at this
      exact this
    · rw [if_neg hz]
      exact j3_ok l hc 4699 (by omega)
end Go.Proofs.Ytdhfbgbclibagaa.Pure
