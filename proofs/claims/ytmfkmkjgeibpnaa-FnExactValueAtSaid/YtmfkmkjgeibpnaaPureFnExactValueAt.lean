/- The pure statement of the law FnExactValueAt: the functions that the program's text comes to answer true at every input. -/
import Derived.Test.YtmfkmkjgeibpnaaPx2
import Derived.Test.YtmfkmkjgeibpnaaPx4
import Derived.Test.YtmfkmkjgeibpnaaPx5
import Derived.Test.YtmfkmkjgeibpnaaPx8
import Derived.Test.YtmfkmkjgeibpnaaLBase
import Derived.Test.YtmfkmkjgeibpnaaLLists
import Derived.Test.YtmfkmkjgeibpnaaLDigits
namespace Go.Proofs.Ytmfkmkjgeibpnaa.Pure
open Go.RowKit Go.Proofs.Ytmfkmkjgeibpnaa.P Go.Proofs.YtmfkmkjgeibpnaaW.PrintWords Go.Proofs.YtmfkmkjgeibpnaaW.PrintLast Go.Proofs.YtmfkmkjgeibpnaaW.PrintMore
set_option linter.unusedVariables false
set_option linter.unusedSimpArgs false
theorem row_loop (m : Nat) (h16 : m ≤ 16) (h : Nat → Nat) (hh : ∀ r, r < m → h r ≤ 1) (d : Nat) : ∀ (k r : Nat), r + d = m → d < k →
    spec_l01Row.l0 k (M.lis m h) ((M.tab r h : Nat) : Int) (r : Int) = some ((M.tab m h : Nat) : Int) := by
  induction d with
  | zero =>
    intro k r hr hk
    obtain ⟨k, rfl⟩ : ∃ m, k = m + 1 := ⟨k - 1, by omega⟩
    obtain rfl : r = m := by omega
    simp only [spec_l01Row.l0]
    rw [if_neg (by rw [M.lis_length]; omega)]
  | succ d ih =>
    intro k r hr hk
    obtain ⟨k, rfl⟩ : ∃ m, k = m + 1 := ⟨k - 1, by omega⟩
    have hlt : r < m := by omega
    have h1 := hh r hlt
    have h2 := M.tab_lt r h (fun q hq => hh q (by omega))
    have h3 : 2 ^ r ≤ 2 ^ 15 := M.pow2_le (by omega)
    have h4 : h r * 2 ^ r ≤ 2 ^ 15 := Nat.le_trans (Nat.mul_le_mul_right _ h1) (by omega)
    simp only [spec_l01Row.l0]
    rw [if_pos (by rw [M.lis_length]; omega), if_pos (by omega), M.u64_in _ (by omega) (by omega), if_pos (by omega), M.lis_rd _ _ _ hlt, M.shl_nat (h r) r (by omega) (by omega), M.w64_in ((r : Int) + 1) (by omega) (by omega), M.w64_in _ (by omega) (by omega)]
    have := ih k (r + 1) (by omega) (by omega)
    rw [M.tab_succ, Int.natCast_add] at this
    exact this
theorem value_both (n b : Int) (l : List Int) (hlen : l.length ≤ 1048576) : ∃ r, spec_ValueAt.f 1048700 n b l = some r ∧ impl_ValueAt.f 1048700 n b l = some r := by
  unfold spec_ValueAt.f impl_ValueAt.f
  rw [is_eq, isFunc_eq]
  simp only [Option.bind_some]
  by_cases hv : M.valid n b = true
  · rw [if_pos hv, if_pos hv]
    obtain ⟨m, c, hm, hc, rfl, rfl⟩ := (M.valid_iff _ _).1 hv
    have hc6 : c < 2 ^ 62 := Nat.lt_trans (M.bits_lt hm hc) (by decide)
    by_cases hl : (l.length : Int) = (m : Int)
    · have hl' : l.length = m := by omega
      rw [if_pos hl, if_pos hl, sbits_eq l hlen _ (by omega), idigits_eq l hlen]
      simp only [Option.bind_some, spec_ValueAt.j0, impl_ValueAt.j0]
      by_cases hb : (l.all fun x => decide (0 ≤ x) && decide (x ≤ 1)) = true
      · rw [hb, if_neg (by simp), if_neg (by simp)]
        obtain ⟨h, e, hh⟩ := M.lis_of l (all_digits l hb)
        rw [hl'] at e
        have hp : spec_l01Row.f 1048699 (M.lis m h) = some ((M.tab m h : Nat) : Int) := row_loop m (by omega) h (fun r _ => hh r) m 1048699 0 (by omega) (by omega)
        have ht := M.tab_lt m h (fun r _ => hh r)
        have h16 := M.pow_le16 hm
        rw [e, hp, packed_eq m (by omega) h (fun r _ => hh r) _ (by omega)]
        simp only [Option.bind_some]
        rw [at_eq (m : Int) c _ hc6 (by omega), Func_at_eq (m : Int) c _ hc6 (by omega)]
        exact ⟨_, rfl, rfl⟩
      · simp only [Bool.not_eq_true] at hb
        rw [hb, if_pos (by simp), if_pos (by simp)]
        exact ⟨_, rfl, rfl⟩
    · rw [if_neg hl, if_neg hl]
      simp only [spec_ValueAt.j0, impl_ValueAt.j0]
      exact ⟨_, rfl, rfl⟩
  · rw [if_neg hv, if_neg hv]
    exact ⟨_, rfl, rfl⟩
theorem FnExactValueAt : ∀ (a0_0 : Int) (a0_1 : Int) (l1 : List Int), (Lit.int .i64 a0_0).wf = true → (Lit.int .i64 a0_1).wf = true → l1.length ≤ maxLen → l1.length * 8 ≤ 140737488351232 → (∀ x ∈ l1, (Lit.int .i64 x).wf = true) → ∃ k, laws_FnExactValueAt.f k a0_0 a0_1 l1 = some true := by
  intro n b l _ _ _ _ _
  refine ⟨1048700, ?_⟩
  unfold laws_FnExactValueAt.f laws_toFunc.f
  by_cases hl : (l.length : Int) > 1048576
  · rw [if_pos hl]
  · have hlen : l.length ≤ 1048576 := by omega
    obtain ⟨⟨r1, r2⟩, h1, h2⟩ := value_both n b l hlen
    rw [if_neg hl, toL_eq l hlen _ (by omega)]
    simp only [Option.bind_some]
    rw [h1, h2]
    simp only [Option.bind_some, if_true, bne_self_eq_false]
    simp only [laws_FnExactValueAt.j0]
    rw [if_neg (by simp), toL_eq l hlen _ (by omega)]
    simp only [Option.bind_some]
    rw [eqL_self l hlen _ (by omega)]
    rfl

end Go.Proofs.Ytmfkmkjgeibpnaa.Pure
