/- The draws: whatever the code is, they come to an end and give a function of at most four variables where they should. -/
import Derived.Test.YtdhfbgbclibagaaROx0
import Derived.Test.YtdhfbgbclibagaaROx1
import Derived.Test.YtdhfbgbclibagaaROx2
import Derived.Test.YtdhfbgbclibagaaROx3
import Derived.Test.YtdhfbgbclibagaaROx4
import Derived.Test.YtdhfbgbclibagaaROx10
import Derived.Test.YtdhfbgbclibagaaROx11
import Derived.Test.YtdhfbgbclibagaaROx12
import Derived.Test.YtdhfbgbclibagaaROx13
import Derived.Test.YtdhfbgbclibagaaROx16
import Derived.Test.YtdhfbgbclibagaaRMBase
import Derived.Test.YtdhfbgbclibagaaRMFix
import Derived.Test.YtdhfbgbclibagaaRMDual
namespace Go.Proofs.Ytdhfbgbclibagaa.Pure
open Go.RowKit Go.Proofs.Ytdhfbgbclibagaa.P Go.Proofs.YtdhfbgbclibagaaW.PrintWords Go.Proofs.YtdhfbgbclibagaaW.PrintLast Go.Proofs.YtdhfbgbclibagaaW.PrintMore
set_option linter.unusedVariables false
set_option linter.unusedSimpArgs false
/-- The state of a source of which the code is not longer than 4096. -/
def Src (l : List Int) (s : Int) : Prop := 0 ≤ s ∧ l.length ≤ 4096 ∧ ∀ x ∈ l, 0 ≤ x ∧ x < 256
theorem and_range (x : Int) : ∃ a : Nat, Go.bits .and .u64 ((IntKind.u64.wrap x) / 8589934592) 16777215 = (a : Int) ∧ a < 16777216 := by
  have h0 : 0 ≤ IntKind.u64.wrap x ∧ IntKind.u64.wrap x < 18446744073709551616 := by
    simp [IntKind.wrap, IntKind.bits, IntKind.signed]; omega
  obtain ⟨n, hn⟩ := Int.eq_ofNat_of_zero_le h0.1
  have hn2 : n < 18446744073709551616 := by omega
  rw [hn, show ((n : Int) / 8589934592) = ((n / 8589934592 : Nat) : Int) from rfl, show (16777215 : Int) = ((16777215 : Nat) : Int) from rfl]
  refine ⟨n / 8589934592 &&& 16777215, ?_, ?_⟩
  · exact (bits_nat .u64 63 (by decide) (fun n h0 h1 => M.u64_in n h0 (by omega)) _ _ (by omega) (by decide)).1
  · exact Nat.lt_of_le_of_lt Nat.and_le_right (by decide)
theorem u64_pos (x : Int) : 0 ≤ IntKind.u64.wrap x := by simp [IntKind.wrap, IntKind.bits, IntKind.signed]; omega
theorem tmod_in (x a : Int) (h0 : 0 ≤ x) (ha : 1 ≤ a) : 0 ≤ Int.tmod x a ∧ Int.tmod x a < a := by
  rw [Int.tmod_eq_emod_of_nonneg h0]
  exact ⟨Int.emod_nonneg _ (by omega), Int.emod_lt_of_pos _ (by omega)⟩
theorem next_ok (l : List Int) (s h a : Int) (hs : Src l s) : ∃ x t g, spec_l01Next.f l s h a = some (x, t, g) ∧ Src l t ∧ 0 ≤ x ∧ (1 ≤ a → x < a) := by
  obtain ⟨h0, hl, hx⟩ := hs
  unfold spec_l01Next.f
  by_cases h1 : a < 1
  · rw [if_pos h1]; exact ⟨_, _, _, rfl, ⟨h0, hl, hx⟩, Int.le_refl 0, fun h => by omega⟩
  · rw [if_neg h1]
    obtain ⟨c, hc, hc2⟩ := and_range ((IntKind.u64.wrap (h * 6364136223846793005)) + 1442695040888963407)
    rw [hc]
    have hw : wrap64 ((c : Nat) : Int) = ((c : Nat) : Int) := M.w64_in _ (by omega) (by omega)
    by_cases h2 : s < (l.length : Int)
    · rw [if_pos h2, if_pos h0, if_neg (by omega)]
      have hr : 0 ≤ rd l s ∧ rd l s < 256 := by
        unfold rd
        rw [List.getD_eq_getElem?_getD, List.getElem?_eq_getElem (show s.toNat < l.length by omega), Option.getD_some]
        exact hx _ (List.getElem_mem _)
      have e1 : wrap64 (rd l s) = rd l s := M.w64_in _ (by omega) (by omega)
      have e2 : wrap64 (((c : Nat) : Int) + rd l s) = ((c : Nat) : Int) + rd l s := M.w64_in _ (by omega) (by omega)
      have e3 : wrap64 (s + 1) = s + 1 := M.w64_in _ (by omega) (by omega)
      rw [e1, hw, e2, e3]
      have := tmod_in (((c : Nat) : Int) + rd l s) a (by omega) (by omega)
      exact ⟨_, _, _, rfl, ⟨by omega, hl, hx⟩, this.1, fun _ => this.2⟩
    · rw [if_neg h2, if_neg (by omega), hw]
      have := tmod_in ((c : Nat) : Int) a (by omega) (by omega)
      exact ⟨_, _, _, rfl, ⟨h0, hl, hx⟩, this.1, fun _ => this.2⟩
theorem pick_ok (l : List Int) (s h : Int) (m : List Int) (hm : 1 ≤ m.length) (hs : Src l s) : ∃ x t g, spec_l01Pick.f l s h m = some (x, t, g) ∧ Src l t ∧ x ∈ m := by
  obtain ⟨x, t, g, e, ht, hx0, hx1⟩ := next_ok l s h (m.length : Int) hs
  have hx2 := hx1 (by omega)
  unfold spec_l01Pick.f
  rw [e]
  simp only [Option.bind_some]
  rw [if_pos hx0, if_pos hx2]
  refine ⟨_, _, _, rfl, ht, ?_⟩
  unfold rd
  rw [List.getD_eq_getElem?_getD, List.getElem?_eq_getElem (show x.toNat < m.length by omega), Option.getD_some]
  exact List.getElem_mem _
theorem from_loop (l : List Int) (hl : l.length ≤ 4096) (d : Nat) : ∀ (k r : Nat) (h : Int), r + d = l.length → d < k → ∃ g, spec_l01From.l0 k l (r : Int) l 0 h = some (l, 0, g) := by
  induction d with
  | zero =>
    intro k r h hr hk
    obtain ⟨k, rfl⟩ : ∃ m, k = m + 1 := ⟨k - 1, by omega⟩
    simp only [spec_l01From.l0]
    rw [if_neg (by omega)]
    exact ⟨_, rfl⟩
  | succ d ih =>
    intro k r h hr hk
    obtain ⟨k, rfl⟩ : ∃ m, k = m + 1 := ⟨k - 1, by omega⟩
    simp only [spec_l01From.l0]
    rw [if_pos (by omega), if_pos (by omega), if_pos (by omega), M.w64_in ((r : Int) + 1) (by omega) (by omega)]
    exact ih k (r + 1) _ (by omega) (by omega)
theorem from_ok (l : List Int) (hl : l.length ≤ 4096) (hx : ∀ x ∈ l, 0 ≤ x ∧ x < 256) (k : Nat) (hk : 4097 ≤ k) : ∃ g, spec_l01From.f k l = some (l, 0, g) ∧ Src l 0 := by
  unfold spec_l01From.f
  obtain ⟨g, hg⟩ := from_loop l hl l.length k 0 _ (by omega) (by omega)
  exact ⟨g, hg, Int.le_refl 0, hl, hx⟩
/-- The function with some values: whatever the values are. -/
theorem Of_tot (n : Nat) (hn : n ≤ 4) (l : List Int) (hl : l.length = 2 ^ n) (d : Nat) : ∀ (k r : Nat) (acc : Int), r + d = 2 ^ n → d < k → ∃ b, spec_l01Of.l0 k (n : Int) l (r : Int) (n : Int) acc = some ((n : Int), b) := by
  have h16 := M.pow_le16 hn
  induction d with
  | zero =>
    intro k r acc hr hk
    obtain ⟨k, rfl⟩ : ∃ m, k = m + 1 := ⟨k - 1, by omega⟩
    simp only [spec_l01Of.l0]; rw [rows_eq n hn]; simp only [Option.bind_some]
    rw [if_neg (by omega)]
    exact ⟨_, rfl⟩
  | succ d ih =>
    intro k r acc hr hk
    obtain ⟨k, rfl⟩ : ∃ m, k = m + 1 := ⟨k - 1, by omega⟩
    simp only [spec_l01Of.l0]; rw [rows_eq n hn]; simp only [Option.bind_some]
    rw [if_pos (by omega), if_pos (by omega), if_pos (by omega), M.u64_in _ (by omega) (by omega), if_pos (by omega), M.w64_in ((r : Int) + 1) (by omega) (by omega)]
    exact ih k (r + 1) _ (by omega) (by omega)
theorem Of_ok (n : Nat) (hn : n ≤ 4) (l : List Int) (hl : l.length = 2 ^ n) (k : Nat) (hk : 17 ≤ k) : ∃ b, spec_l01Of.f k (n : Int) l = some ((n : Int), b) := by
  have h16 := M.pow_le16 hn
  unfold spec_l01Of.f
  exact Of_tot n hn l hl (2 ^ n) k 0 _ (by omega) (by omega)
theorem weight_tot (b : Int) (d : Nat) : ∀ (k r : Nat) (acc : Int), r + d = 16 → d < k → ∃ c, spec_l01Weight.l0 k acc (r : Int) 4 b = some c := by
  have e4 : spec_l01Rows.f 4 = some 16 := rows_eq 4 (by omega)
  induction d with
  | zero =>
    intro k r acc hr hk
    obtain ⟨k, rfl⟩ : ∃ m, k = m + 1 := ⟨k - 1, by omega⟩
    simp only [spec_l01Weight.l0]; rw [e4]; simp only [Option.bind_some]
    rw [if_neg (by omega)]
    exact ⟨_, rfl⟩
  | succ d ih =>
    intro k r acc hr hk
    obtain ⟨k, rfl⟩ : ∃ m, k = m + 1 := ⟨k - 1, by omega⟩
    simp only [spec_l01Weight.l0]; rw [e4]; simp only [Option.bind_some]
    rw [if_pos (by omega)]
    unfold spec_l01At.f
    rw [M.u64_in _ (by omega) (by omega), if_pos (by omega)]
    simp only [Option.bind_some]
    rw [M.w64_in ((r : Int) + 1) (by omega) (by omega)]
    exact ih k (r + 1) _ (by omega) (by omega)
theorem weight_ok (b : Int) (k : Nat) (hk : 17 ≤ k) : ∃ c, spec_l01Weight.f k 4 b = some c := by
  unfold spec_l01Weight.f
  exact weight_tot b 16 k 0 0 (by omega) (by omega)
theorem proj_tot (n i : Nat) (hn : n ≤ 4) (hi : i ≤ 4) (d : Nat) : ∀ (k r : Nat) (l : List Int), r + d = 2 ^ n → l.length = r → d + 20 < k → ∃ b, spec_l01Projection.l0 k (n : Int) (i : Int) l (r : Int) = some ((n : Int), b) := by
  have h16 := M.pow_le16 hn
  induction d with
  | zero =>
    intro k r l hr hl hk
    obtain ⟨k, rfl⟩ : ∃ m, k = m + 1 := ⟨k - 1, by omega⟩
    obtain ⟨b, hb⟩ := Of_ok n hn l (by omega) k (by omega)
    simp only [spec_l01Projection.l0]; rw [rows_eq n hn]; simp only [Option.bind_some]
    rw [if_neg (by omega), hb]
    exact ⟨_, rfl⟩
  | succ d ih =>
    intro k r l hr hl hk
    obtain ⟨k, rfl⟩ : ∃ m, k = m + 1 := ⟨k - 1, by omega⟩
    simp only [spec_l01Projection.l0]; rw [rows_eq n hn]; simp only [Option.bind_some]
    rw [if_pos (by omega), M.u64_in _ (by omega) (by omega), if_pos (by omega), if_pos (by omega), M.w64_in ((r : Int) + 1) (by omega) (by omega)]
    exact ih k (r + 1) _ (by omega) (by simp; omega) (by omega)
theorem proj_ok (n i : Nat) (hn : n ≤ 4) (hi : i ≤ 4) (k : Nat) (hk : 60 ≤ k) : ∃ b, spec_l01Projection.f k (n : Int) (i : Int) = some ((n : Int), b) := by
  have h16 := M.pow_le16 hn
  unfold spec_l01Projection.f
  exact proj_tot n i hn hi (2 ^ n) k 0 [] (by omega) rfl (by omega)
theorem known_read : ∀ i : Nat, i < 14 → ∃ n b t, (spec_l01Known.f.bind fun l => spec_l01Read.f 60 (rdOf ByteArray.empty l (i : Int))) = some (n, b, t) := by
  have h : ∀ i : Nat, i < 14 → ((spec_l01Known.f.bind fun l => spec_l01Read.f 60 (rdOf ByteArray.empty l (i : Int))).isSome) = true := by decide +kernel
  intro i hi
  obtain ⟨⟨n, b, t⟩, e⟩ := Option.isSome_iff_exists.1 (h i hi)
  exact ⟨n, b, t, e⟩
theorem read_up (s : ByteArray) (r : Int × Int × Bool) (h : spec_l01Read.f 60 s = some r) (d : Nat) : spec_l01Read.f (60 + d) s = some r := by
  induction d with
  | zero => exact h
  | succ d ih => exact spec_l01Read.mono s (60 + d) r ih
theorem drawOf_l0 (n : Nat) (hn : n ≤ 4) (s : List Int) (t g mask one : Int) (d : Nat) : ∀ (k r : Nat) (l : List Int), r + d = 2 ^ n → l.length = r → d + 60 < k →
    ∃ b, spec_l01DrawOf.l0 k (n : Int) mask l one (r : Int) s t g = some ((n : Int), b, t, g) := by
  have h16 := M.pow_le16 hn
  induction d with
  | zero =>
    intro k r l hr hl hk
    obtain ⟨k, rfl⟩ : ∃ m, k = m + 1 := ⟨k - 1, by omega⟩
    obtain ⟨b, hb⟩ := Of_ok n hn l (by omega) k (by omega)
    simp only [spec_l01DrawOf.l0]; rw [rows_eq n hn]; simp only [Option.bind_some]
    rw [if_neg (by omega), hb]
    exact ⟨_, rfl⟩
  | succ d ih =>
    intro k r l hr hl hk
    obtain ⟨k, rfl⟩ : ∃ m, k = m + 1 := ⟨k - 1, by omega⟩
    obtain ⟨c, hc⟩ := weight_ok (Go.bits .and .i64 (r : Int) mask) k (by omega)
    simp only [spec_l01DrawOf.l0]; rw [rows_eq n hn]; simp only [Option.bind_some]
    rw [if_pos (by omega), hc]
    simp only [Option.bind_some]
    rw [if_pos (by omega), M.w64_in ((r : Int) + 1) (by omega) (by omega)]
    exact ih k (r + 1) _ (by omega) (by simp; omega) (by omega)
theorem drawOf_l1 (n : Nat) (hn : n ≤ 4) (s : List Int) (t g u v : Int) (d : Nat) : ∀ (k r : Nat) (l : List Int), r + d = 2 ^ n → l.length = r → d + 60 < k →
    ∃ b, spec_l01DrawOf.l1 k (n : Int) l u v (r : Int) s t g = some ((n : Int), b, t, g) := by
  have h16 := M.pow_le16 hn
  induction d with
  | zero =>
    intro k r l hr hl hk
    obtain ⟨k, rfl⟩ : ∃ m, k = m + 1 := ⟨k - 1, by omega⟩
    obtain ⟨b, hb⟩ := Of_ok n hn l (by omega) k (by omega)
    simp only [spec_l01DrawOf.l1]; rw [rows_eq n hn]; simp only [Option.bind_some]
    rw [if_neg (by omega), hb]
    exact ⟨_, rfl⟩
  | succ d ih =>
    intro k r l hr hl hk
    obtain ⟨k, rfl⟩ : ∃ m, k = m + 1 := ⟨k - 1, by omega⟩
    have s1 := fun x : Int => ih k (r + 1) (l ++ [x]) (by omega) (by simp; omega) (by omega)
    simp only [spec_l01DrawOf.l1]; rw [rows_eq n hn]; simp only [Option.bind_some]
    rw [if_pos (by omega), M.w64_in ((r : Int) + 1) (by omega) (by omega), if_pos (show l.length < 17592186044416 by omega), if_pos (show l.length < 17592186044416 by omega)]
    split
    · exact s1 1
    · split
      · exact s1 1
      · exact s1 0
theorem drawOf_ok (n : Nat) (hn : n ≤ 4) (l : List Int) (s h : Int) (hs : Src l s) (k : Nat) (hk : 200 ≤ k) : ∃ b t g, spec_l01DrawOf.f k l s h (n : Int) = some ((n : Int), b, t, g) ∧ Src l t := by
  have h16 := M.pow_le16 hn
  have hp := M.pow_pos n
  obtain ⟨Q, hall, hq, hq1⟩ : ∃ Q : Nat, spec_l01All.f (n : Int) = some ((Q - 1 : Nat) : Int) ∧ Q ≤ 65536 ∧ 1 ≤ Q := ⟨2 ^ 2 ^ n, all_eq n hn, pow2_16 hn, M.pow_pos (2 ^ n)⟩
  unfold spec_l01DrawOf.f
  rw [hall]
  rw [Option.bind_some]
  obtain ⟨b0, s1, g1, e1, hs1, hb0, hb1⟩ := next_ok l s h (wrap64 (((Q - 1 : Nat) : Int) + 1)) hs
  rw [M.w64_in (((Q - 1 : Nat) : Int) + 1) (by omega) (by omega)] at e1 hb1 ⊢
  rw [e1]
  rw [Option.bind_some]
  obtain ⟨c, s2, g2, e2, hs2, hc0, hc1⟩ := next_ok l s1 g1 8 hs1
  rw [e2]
  rw [Option.bind_some]
  by_cases h0 : c = 0
  · rw [if_pos h0]
    by_cases hn0 : (n : Int) > 0
    · rw [if_pos hn0]
      obtain ⟨i, s3, g3, e3, hs3, hi0, hi1⟩ := next_ok l s2 g2 (n : Int) hs2
      obtain ⟨i, rfl⟩ := Int.eq_ofNat_of_zero_le hi0
      have hi2 := hi1 (by omega)
      obtain ⟨b, hb⟩ := proj_ok n i hn (by omega) k (by omega)
      rw [e3]; rw [Option.bind_some]
      rw [hb]; exact ⟨_, _, _, rfl, hs3⟩
    · rw [if_neg hn0]; exact ⟨_, _, _, rfl, hs2⟩
  · rw [if_neg h0]
    by_cases h1 : c = 1
    · rw [if_pos h1]
      obtain ⟨i, s3, g3, e3, hs3, hi0, hi1⟩ := next_ok l s2 g2 2 hs2
      rw [e3]; rw [Option.bind_some]
      unfold spec_l01Constant.f
      rw [hall]; exact ⟨_, _, _, rfl, hs3⟩
    · rw [if_neg h1]
      by_cases h2 : c = 2
      · rw [if_pos h2, rows_eq n hn]; rw [Option.bind_some]
        obtain ⟨i, s3, g3, e3, hs3, _, _⟩ := next_ok l s2 g2 ((2 ^ n : Nat) : Int) hs2
        rw [e3]; rw [Option.bind_some]
        obtain ⟨j, s4, g4, e4, hs4, _, _⟩ := next_ok l s3 g3 2 hs3
        rw [e4]; rw [Option.bind_some]
        obtain ⟨b, hb⟩ := drawOf_l0 n hn l s4 g4 i j (2 ^ n) k 0 [] (by omega) rfl (by omega)
        exact ⟨b, s4, g4, hb, hs4⟩
      · rw [if_neg h2]
        by_cases h3 : c = 3
        · rw [if_pos h3, rows_eq n hn]; rw [Option.bind_some]
          obtain ⟨i, s3, g3, e3, hs3, _, _⟩ := next_ok l s2 g2 ((2 ^ n : Nat) : Int) hs2
          rw [e3]; rw [Option.bind_some, Option.bind_some]
          obtain ⟨j, s4, g4, e4, hs4, _, _⟩ := next_ok l s3 g3 ((2 ^ n : Nat) : Int) hs3
          rw [e4]; rw [Option.bind_some]
          obtain ⟨b, hb⟩ := drawOf_l1 n hn l s4 g4 i j (2 ^ n) k 0 [] (by omega) rfl (by omega)
          exact ⟨b, s4, g4, hb, hs4⟩
        · rw [if_neg h3]
          by_cases h4 : c = 4
          · rw [if_pos h4]
            obtain ⟨L, hL, hlen⟩ : ∃ L, spec_l01Known.f = some L ∧ L.length = 14 := ⟨_, rfl, rfl⟩
            rw [hL]
            rw [Option.bind_some]
            obtain ⟨i, s3, g3, e3, hs3, hi0, hi1⟩ := next_ok l s2 g2 (L.length : Int) hs2
            obtain ⟨i, rfl⟩ := Int.eq_ofNat_of_zero_le hi0
            have hi2 := hi1 (by omega)
            obtain ⟨n1, b1, t1, hr⟩ := known_read i (by omega)
            rw [hL, Option.bind_some] at hr
            have hr2 := read_up _ _ hr (k - 60)
            rw [show 60 + (k - 60) = k by omega] at hr2
            rw [e3]; rw [Option.bind_some]
            rw [if_pos (by omega), if_pos (by omega), hr2]
            rw [Option.bind_some]
            by_cases h5 : n1 = (n : Int)
            · rw [if_pos h5, h5]; exact ⟨_, _, _, rfl, hs3⟩
            · rw [if_neg h5]; exact ⟨_, _, _, rfl, hs3⟩
          · rw [if_neg h4]
            by_cases h5 : c = 5
            · rw [if_pos h5]
              by_cases hn0 : (n : Int) > 0
              · rw [if_pos hn0]
                obtain ⟨b0, rfl⟩ := Int.eq_ofNat_of_zero_le hb0
                have hb2 := hb1 (by omega)
                have ef := fix_eq n b0 (n - 1) 0 hn (by omega) (by omega) (by omega) k (by omega)
                have hm : n - 1 ≤ 4 := by omega
                have h8 := M.pow_le16 hm
                have ed := dual_eq (n - 1) (M.fixN n b0 (n - 1) 0) hm (Nat.lt_trans (M.bits_lt hm (M.tab_lt (2 ^ (n - 1)) (fun r => M.atN b0 (M.ins r (n - 1) 0)) (fun _ _ => M.atN_le _ _))) (by decide)) k (by omega)
                have en : wrap64 ((n : Int) - 1) = ((n - 1 : Nat) : Int) := by rw [M.w64_in _ (by omega) (by omega)]; omega
                rw [en]
                have e0 : (0 : Int) = ((0 : Nat) : Int) := rfl
                rw [Int.natCast_zero] at ef
                rw [ef]; rw [Option.bind_some]
                rw [ed]; rw [Option.bind_some]
                rw [rows_eq (n - 1) hm]; rw [Option.bind_some]
                rw [if_pos (u64_pos _)]
                exact ⟨_, _, _, rfl, hs2⟩
              · rw [if_neg hn0]; exact ⟨_, _, _, rfl, hs2⟩
            · rw [if_neg h5]; exact ⟨_, _, _, rfl, hs2⟩
theorem draw_ok (l : List Int) (s h : Int) (hs : Src l s) (k : Nat) (hk : 200 ≤ k) : ∃ (n : Nat) (b t g : Int), n ≤ 4 ∧ spec_l01Draw.f k l s h = some ((n : Int), b, t, g) ∧ Src l t := by
  unfold spec_l01Draw.f
  obtain ⟨x, t, g, e, ht, hx⟩ := pick_ok l s h [0, 1, 1, 2, 2, 2, 3, 3, 3, 4, 4] (by decide) hs
  have hx2 : 0 ≤ x ∧ x ≤ 4 := by
    have : ∀ y ∈ ([0, 1, 1, 2, 2, 2, 3, 3, 3, 4, 4] : List Int), 0 ≤ y ∧ y ≤ 4 := by decide
    exact this x hx
  obtain ⟨n, hn, rfl⟩ := M.small_n hx2.1 hx2.2
  obtain ⟨b, t1, g1, e1, ht1⟩ := drawOf_ok n hn l t g ht k hk
  rw [e]; simp only [Option.bind_some]
  rw [e1]; exact ⟨n, _, _, _, hn, rfl, ht1⟩
theorem all_tot (n : Int) : ∃ x, spec_l01All.f n = some x := by
  unfold spec_l01All.f spec_l01Rows.f
  have h0 : ∀ x : Int, 0 ≤ IntKind.u64.wrap x := fun x => by simp [IntKind.wrap, IntKind.bits, IntKind.signed]; omega
  rw [if_pos (h0 _)]; simp only [Option.bind_some]
  rw [if_pos (h0 _)]; exact ⟨_, rfl⟩
theorem bad_ok (l : List Int) (s h n b : Int) (hs : Src l s) : ∃ m c t g, spec_l01Bad.f l s h n b = some (m, c, t, g) ∧ Src l t := by
  unfold spec_l01Bad.f
  obtain ⟨x, t, g, e, ht, _, _⟩ := next_ok l s h 50 hs
  rw [e]; simp only [Option.bind_some]
  by_cases h0 : x = 0
  · rw [if_pos h0]
    obtain ⟨y, t1, g1, e1, ht1, _⟩ := pick_ok l t g [-1, 5, 1099511627776] (by decide) ht
    rw [e1]; exact ⟨_, _, _, _, rfl, ht1⟩
  · rw [if_neg h0]
    by_cases h1 : x = 1
    · rw [if_pos h1]
      obtain ⟨y, hy⟩ := all_tot n
      rw [hy]; simp only [Option.bind_some]
      obtain ⟨z, t1, g1, e1, ht1, _⟩ := pick_ok l t g [-1, wrap64 (y + 1), 1099511627776] (by simp) ht
      rw [e1]; exact ⟨_, _, _, _, rfl, ht1⟩
    · rw [if_neg h1]; exact ⟨_, _, _, _, rfl, ht⟩
theorem spoil_ok (l : List Int) (s h : Int) (hs : Src l s) (k : Nat) (hk : 200 ≤ k) : ∃ m c t g, spec_l01Spoil.f k l s h = some (m, c, t, g) ∧ Src l t := by
  unfold spec_l01Spoil.f
  obtain ⟨n, b, t, g, _, e, ht⟩ := draw_ok l s h hs k hk
  rw [e]; simp only [Option.bind_some]
  obtain ⟨m, c, t1, g1, e1, ht1⟩ := bad_ok l t g n b ht
  rw [e1]; exact ⟨_, _, _, _, rfl, ht1⟩
end Go.Proofs.Ytdhfbgbclibagaa.Pure
