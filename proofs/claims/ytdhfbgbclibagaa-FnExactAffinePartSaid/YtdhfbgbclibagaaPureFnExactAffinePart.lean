/- The pure statement of the law FnExactAffinePart: the functions that the program's text comes to answer true at every input. -/
import Derived.Test.YtdhfbgbclibagaaPx1
import Derived.Test.YtdhfbgbclibagaaPx2
import Derived.Test.YtdhfbgbclibagaaPx7
import Derived.Test.YtdhfbgbclibagaaPx8
import Derived.Test.YtdhfbgbclibagaaPx13
import Derived.Test.YtdhfbgbclibagaaPx21
import Derived.Test.YtdhfbgbclibagaaLBase
import Derived.Test.YtdhfbgbclibagaaLOf
import Derived.Test.YtdhfbgbclibagaaLSize
import Derived.Test.YtdhfbgbclibagaaLPoly
namespace Go.Proofs.Ytdhfbgbclibagaa.Pure
open Go.RowKit Go.Proofs.Ytdhfbgbclibagaa.P Go.Proofs.YtdhfbgbclibagaaW.PrintWords Go.Proofs.YtdhfbgbclibagaaW.PrintLast Go.Proofs.YtdhfbgbclibagaaW.PrintMore
set_option linter.unusedVariables false
set_option linter.unusedSimpArgs false
/-- The coefficients where those below w are already seen. -/
def stg (p w q : Nat) : Nat := if q < w then M.lowC p q else M.atN p q
theorem lis_get (m : Nat) (h : Nat → Nat) (i : Nat) (hi : i < (M.lis m h).length) : (M.lis m h)[i] = ((h i : Nat) : Int) := by
  simp [M.lis]
theorem stg_set (m p w : Nat) (hw : M.pop 16 w > 1) : (M.lis m (stg p w)).set w 0 = M.lis m (stg p (w + 1)) := by
  apply List.ext_getElem
  · rw [List.length_set, M.lis_length, M.lis_length]
  · intro i h1 h2
    rw [List.getElem_set, lis_get, lis_get]
    by_cases e : w = i
    · subst e
      rw [if_pos rfl]
      unfold stg M.lowC
      rw [if_pos (by omega), if_pos hw]; rfl
    · rw [if_neg e]
      unfold stg
      by_cases h : i < w
      · rw [if_pos h, if_pos (by omega)]
      · rw [if_neg h, if_neg (by omega)]
theorem stg_keep (m p w : Nat) (hw : ¬ M.pop 16 w > 1) : M.lis m (stg p w) = M.lis m (stg p (w + 1)) := by
  refine M.lis_congr _ _ _ fun q hq => ?_
  unfold stg
  by_cases e : q = w
  · subst e
    rw [if_neg (by omega), if_pos (by omega)]
    unfold M.lowC
    rw [if_neg hw]
  · by_cases h : q < w
    · rw [if_pos h, if_pos (by omega)]
    · rw [if_neg h, if_neg (by omega)]
theorem aff_loop (n b : Nat) (hn : n ≤ 4) (d : Nat) : ∀ (k w : Nat), w + d = 2 ^ n → d + 370 < k →
    spec_AffinePart.l0 k (M.lis (2 ^ n) (stg (M.polN n b) w)) (w : Int) (n : Int) (b : Int) = some ((n : Int), ((M.affN n b : Nat) : Int), 0) := by
  have h16 := M.pow_le16 hn
  induction d with
  | zero =>
    intro k w hr hk
    obtain ⟨k, rfl⟩ : ∃ m, k = m + 1 := ⟨k - 1, by omega⟩
    obtain rfl : w = 2 ^ n := by omega
    have hl := M.lis_length (2 ^ n) (stg (M.polN n b) (2 ^ n))
    have e : M.lis (2 ^ n) (stg (M.polN n b) (2 ^ n)) = M.lis (2 ^ n) (M.atN (M.tab (2 ^ n) (M.lowC (M.polN n b)))) := M.lis_congr _ _ _ fun q hq => by
      rw [M.tab_at _ _ (fun _ _ => M.lowC_le _ _) q hq]
      unfold stg; rw [if_pos hq]
    simp only [spec_AffinePart.l0]
    rw [if_neg (by omega), e, sums_eq n _ hn k (by omega), Option.bind_some]
    unfold cofL
    rw [Of_eq n hn _ (fun r _ => M.psum_le _ _ _) k (by omega)]; rfl
  | succ d ih =>
    intro k w hr hk
    obtain ⟨k, rfl⟩ : ∃ m, k = m + 1 := ⟨k - 1, by omega⟩
    have hl := M.lis_length (2 ^ n) (stg (M.polN n b) w)
    have step := ih k (w + 1) (by omega) (by omega)
    simp only [spec_AffinePart.l0]
    rw [if_pos (by omega), size_eq w (by omega) k (by omega), Option.bind_some, M.w64_in ((w : Int) + 1) (by omega) (by omega)]
    by_cases h : M.pop 16 w > 1
    · rw [if_pos (by omega), if_pos (by omega), Int.toNat_natCast, stg_set _ _ _ h]
      exact step
    · rw [if_neg (by omega), stg_keep _ _ _ h]
      exact step
theorem FnExactAffinePart : ∀ (a0_0 : Int) (a0_1 : Int), (Lit.int .i64 a0_0).wf = true → (Lit.int .i64 a0_1).wf = true → ∃ k, laws_FnExactAffinePart.f k a0_0 a0_1 = some true := by
  intro n b _ _
  have e : ∃ r, spec_AffinePart.f 400 n b = some r ∧ impl_AffinePart.f n b = some r := by
    unfold spec_AffinePart.f impl_AffinePart.f
    rw [is_eq]
    simp only [Option.bind_some]
    by_cases hv : M.valid n b = true
    · rw [if_pos hv, if_pos hv]
      obtain ⟨m, c, hm, hc, rfl, rfl⟩ := (M.valid_iff _ _).1 hv
      have h16 := M.pow_le16 hm
      have hz : cofL m c (2 ^ m) = M.lis (2 ^ m) (stg (M.polN m c) 0) := M.lis_congr _ _ _ fun q hq => by
        unfold stg; rw [if_neg (by omega), polN_at m c q hq]
      rw [poly_eq m c hm (Nat.lt_trans (M.bits_lt hm hc) (by decide)) 400 (by omega), Option.bind_some, hz]
      have e1 := aff_loop m c hm (2 ^ m) 400 0 (by omega) (by omega)
      rw [Int.natCast_zero] at e1
      exact ⟨_, e1, rfl⟩
    · rw [if_neg hv, if_neg hv]
      exact ⟨_, rfl, rfl⟩
  obtain ⟨⟨r1, r2, r3⟩, h1, h2⟩ := e
  refine ⟨400, ?_⟩
  unfold laws_FnExactAffinePart.f laws_toFunc.f
  simp only [Option.bind_some]
  rw [h1, h2]
  simp [laws_eqFunc.f]

end Go.Proofs.Ytdhfbgbclibagaa.Pure
