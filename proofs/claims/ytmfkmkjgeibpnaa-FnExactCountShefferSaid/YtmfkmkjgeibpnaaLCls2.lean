/- Functions that are such, counted; the classes of a list of one function. -/
import Derived.Test.YtmfkmkjgeibpnaaPx0
import Derived.Test.YtmfkmkjgeibpnaaPx1
import Derived.Test.YtmfkmkjgeibpnaaPx2
import Derived.Test.YtmfkmkjgeibpnaaPx18
import Derived.Test.YtmfkmkjgeibpnaaPx20
import Derived.Test.YtmfkmkjgeibpnaaPx23
import Derived.Test.YtmfkmkjgeibpnaaPx24
import Derived.Test.YtmfkmkjgeibpnaaPx25
import Derived.Test.YtmfkmkjgeibpnaaCls
import Derived.Test.YtmfkmkjgeibpnaaLBase
import Derived.Test.YtmfkmkjgeibpnaaLClass
namespace Go.Proofs.Ytmfkmkjgeibpnaa.Pure
open Go.RowKit Go.Proofs.Ytmfkmkjgeibpnaa.P Go.Proofs.YtmfkmkjgeibpnaaW.PrintWords Go.Proofs.YtmfkmkjgeibpnaaW.PrintLast Go.Proofs.YtmfkmkjgeibpnaaW.PrintMore
set_option linter.unusedVariables false
set_option linter.unusedSimpArgs false
def cntP (p : Nat → Bool) (m : Nat) : Nat := ((List.range m).filter p).length
theorem cntP_le (p : Nat → Bool) (m : Nat) : cntP p m ≤ m := by
  unfold cntP
  exact Nat.le_trans (List.length_filter_le _ _) (by simp)
theorem cntP_true (p : Nat → Bool) (m : Nat) (h : p m = true) : cntP p (m + 1) = cntP p m + 1 := by simp [cntP, List.range_succ, h]
theorem cntP_false (p : Nat → Bool) (m : Nat) (h : p m = false) : cntP p (m + 1) = cntP p m := by simp [cntP, List.range_succ, h]
theorem cntP_congr (p q : Nat → Bool) (m : Nat) (h : ∀ b, b < m → p b = q b) : cntP p m = cntP q m := by
  unfold cntP
  rw [List.filter_congr (fun b hb => h b (List.mem_range.1 hb))]
theorem fnsThat_cnt (n : Int) (p : Nat → Bool) (m : Nat) : (fnsThat n p m).length = cntP p m := by unfold fnsThat cntP; rw [List.length_map]
theorem scount_loop (n c : Nat) (hn : n ≤ 4) (hc : c ≤ 4) (d : Nat) : ∀ (k b : Nat), b + d = 2 ^ 2 ^ n → d + 210 ≤ k →
    spec_CountInClass.l0 k (n : Int) (c : Int) ((cntP (fun b => M.cls n b c) b : Nat) : Int) (b : Int) = some (((cntP (fun b => M.cls n b c) (2 ^ 2 ^ n) : Nat) : Int), 0) := by
  have h16 := pow2_16 hn
  have hp := M.pow_pos (2 ^ n)
  induction d with
  | zero =>
    intro k b hb hk
    obtain ⟨k, rfl⟩ : ∃ m, k = m + 1 := ⟨k - 1, by omega⟩
    simp only [spec_CountInClass.l0]
    rw [all_eq n hn, Option.bind_some, if_neg (by omega), show b = 2 ^ 2 ^ n from by omega]
  | succ d ih =>
    intro k b hb hk
    obtain ⟨k, rfl⟩ : ∃ m, k = m + 1 := ⟨k - 1, by omega⟩
    have hb6 : b < 2 ^ 62 := Nat.lt_of_lt_of_le (show b < 65536 by omega) (by decide)
    simp only [spec_CountInClass.l0]
    rw [all_eq n hn, Option.bind_some, if_pos (by omega), sin_eq n b c hn hb6 hc k (by omega), Option.bind_some, M.w64_in ((b : Int) + 1) (by omega) (by omega)]
    have hle := cntP_le (fun b => M.cls n b c) b
    have step := ih k (b + 1) (by omega) (by omega)
    cases hq : M.cls n b c with
    | true =>
      rw [cntP_true (fun b => M.cls n b c) b hq] at step
      rw [if_pos rfl, M.w64_in _ (by omega) (by omega)]
      exact step
    | false =>
      rw [cntP_false (fun b => M.cls n b c) b hq] at step
      rw [if_neg (by decide)]
      exact step
end Go.Proofs.Ytmfkmkjgeibpnaa.Pure
