/- The laws' own functions on lists of functions: copies, comparison, size; the codes of lists. -/
import Derived.Test.YtmfkmkjgeibpnaaPx0
import Derived.Test.YtmfkmkjgeibpnaaPx1
import Derived.Test.YtmfkmkjgeibpnaaPx2
import Derived.Test.YtmfkmkjgeibpnaaPx14
import Derived.Test.YtmfkmkjgeibpnaaPx15
import Derived.Test.YtmfkmkjgeibpnaaPx16
import Derived.Test.YtmfkmkjgeibpnaaLBase
namespace Go.Proofs.Ytmfkmkjgeibpnaa.Pure
open Go.RowKit Go.Proofs.Ytmfkmkjgeibpnaa.P Go.Proofs.YtmfkmkjgeibpnaaW.PrintWords Go.Proofs.YtmfkmkjgeibpnaaW.PrintLast Go.Proofs.YtmfkmkjgeibpnaaW.PrintMore
set_option linter.unusedVariables false
set_option linter.unusedSimpArgs false
def conv (l : List S23) : List S27 := l.map fun x => ⟨x.f0, x.f1⟩
theorem conv_length (l : List S23) : (conv l).length = l.length := by simp [conv]
theorem rdC_get (l : List S23) (i : Nat) (hi : i < l.length) : rd_T23 l (i : Int) = l[i] := by
  unfold rd_T23
  rw [Int.toNat_natCast, List.getD_eq_getElem?_getD, List.getElem?_eq_getElem hi]
  rfl
theorem toF_loop (l : List S23) (hlen : l.length ≤ 1048576) (d : Nat) : ∀ (k r : Nat), r + d = l.length → d < k →
    laws_toFuncS.l0 k l ((conv l).take r ++ List.replicate d z27) (r : Int) = some (conv l) := by
  induction d with
  | zero =>
    intro k r hr hk
    obtain ⟨k, rfl⟩ : ∃ m, k = m + 1 := ⟨k - 1, by omega⟩
    simp only [laws_toFuncS.l0]
    rw [if_neg (by omega), List.take_of_length_le (by rw [conv_length]; omega)]
    simp
  | succ d ih =>
    intro k r hr hk
    obtain ⟨k, rfl⟩ : ∃ m, k = m + 1 := ⟨k - 1, by omega⟩
    have hlt : r < l.length := by omega
    simp only [laws_toFuncS.l0]
    rw [if_pos (by omega), if_pos (by omega), rdC_get l r hlt]
    unfold laws_toFunc.f
    rw [Option.bind_some, if_pos (by simp [conv_length]; omega), M.w64_in ((r : Int) + 1) (by omega) (by omega)]
    have e : ((conv l).take r ++ List.replicate (d + 1) z27).set ((r : Int)).toNat (⟨l[r].f0, l[r].f1⟩ : S27) = (conv l).take (r + 1) ++ List.replicate d z27 := by
      have hl : ((conv l).take r).length = r := by simp [conv_length]; omega
      rw [Int.toNat_natCast, List.set_append_right _ _ (by omega), hl, Nat.sub_self, List.replicate_succ, List.set_cons_zero, List.take_succ_eq_append_getElem (by rw [conv_length]; omega), List.append_assoc]
      congr 1
      simp [conv]
    rw [e]
    exact ih k (r + 1) (by omega) (by omega)
theorem toF_eq (l : List S23) (hlen : l.length ≤ 1048576) (k : Nat) (hk : l.length < k) : laws_toFuncS.f k l = some (conv l) := by
  unfold laws_toFuncS.f
  rw [if_pos (by omega), if_pos (by omega)]
  have := toF_loop l hlen l.length k 0 (by omega) hk
  simpa using this
theorem rdF_get (l : List S27) (i : Nat) (hi : i < l.length) : rd_T27 l (i : Int) = l[i] := by
  unfold rd_T27
  rw [Int.toNat_natCast, List.getD_eq_getElem?_getD, List.getElem?_eq_getElem hi]
  rfl
theorem eqF_loop (l : List S27) (hlen : l.length ≤ 1048576) (d : Nat) : ∀ (k r : Nat), r + d = l.length → d < k → laws_eqFuncS.l0 k l l (r : Int) = some true := by
  induction d with
  | zero =>
    intro k r hr hk
    obtain ⟨k, rfl⟩ : ∃ m, k = m + 1 := ⟨k - 1, by omega⟩
    simp only [laws_eqFuncS.l0]
    rw [if_neg (by omega)]
  | succ d ih =>
    intro k r hr hk
    obtain ⟨k, rfl⟩ : ∃ m, k = m + 1 := ⟨k - 1, by omega⟩
    simp only [laws_eqFuncS.l0]
    rw [if_pos (by omega), if_pos (by omega), if_pos (by omega)]
    unfold laws_eqFunc.f
    rw [if_pos rfl, if_pos rfl, Option.bind_some, if_pos rfl, M.w64_in ((r : Int) + 1) (by omega) (by omega)]
    exact ih k (r + 1) (by omega) (by omega)
theorem eqF_self (l : List S27) (hlen : l.length ≤ 1048576) (k : Nat) (hk : l.length < k) : laws_eqFuncS.f k l l = some true := by
  unfold laws_eqFuncS.f
  rw [if_pos rfl]
  exact eqF_loop l hlen l.length k 0 (by omega) hk
def allV (l : List S27) : Bool := l.all fun x => M.valid x.f0 x.f1
theorem szF_eq (l : List S23) (h : l.length ≤ 9223372036854775807) : laws_szFuncS.f l 1048576 = some (if l.length ≤ 1048576 then ((1048576 - l.length : Nat) : Int) else -1) := by
  unfold laws_szFuncS.f
  rw [M.w64_in _ (by omega) (by omega)]
  by_cases hl : l.length ≤ 1048576
  · rw [if_neg (by omega), if_pos hl]
    congr 1
    omega
  · rw [if_pos (by omega), if_neg hl]
end Go.Proofs.Ytmfkmkjgeibpnaa.Pure
