/- The laws' own functions on lists of functions: copies, comparison, size; the codes of lists. -/
import Derived.Test.YtdlnjbaldfdnpaaPx0
import Derived.Test.YtdlnjbaldfdnpaaPx1
import Derived.Test.YtdlnjbaldfdnpaaPx2
import Derived.Test.YtdlnjbaldfdnpaaPx5
import Derived.Test.YtdlnjbaldfdnpaaPx11
import Derived.Test.YtdlnjbaldfdnpaaPx13
import Derived.Test.YtdlnjbaldfdnpaaLBase
namespace Go.Proofs.Ytdlnjbaldfdnpaa.Pure
open Go.RowKit Go.Proofs.Ytdlnjbaldfdnpaa.P Go.Proofs.YtdlnjbaldfdnpaaW.PrintWords Go.Proofs.YtdlnjbaldfdnpaaW.PrintLast Go.Proofs.YtdlnjbaldfdnpaaW.PrintMore
set_option linter.unusedVariables false
set_option linter.unusedSimpArgs false
def conv (l : List S48) : List S49 := l.map fun x => ⟨x.f0, x.f1⟩
theorem conv_length (l : List S48) : (conv l).length = l.length := by simp [conv]
theorem rdC_get (l : List S48) (i : Nat) (hi : i < l.length) : rd_T48 l (i : Int) = l[i] := by
  unfold rd_T48
  rw [Int.toNat_natCast, List.getD_eq_getElem?_getD, List.getElem?_eq_getElem hi]
  rfl
theorem toF_loop (l : List S48) (hlen : l.length ≤ 1048576) (d : Nat) : ∀ (k r : Nat), r + d = l.length → d < k →
    laws_toFuncS.l0 k l ((conv l).take r ++ List.replicate d z49) (r : Int) = some (conv l) := by
  induction d with
  | zero =>
    intro k r hr hk
    obtain ⟨k, rfl⟩ : ∃ m, k = m + 1 := ⟨k - 1, by omega⟩
    simp only [laws_toFuncS.l0]
    rw [if_neg (by omega), List.take_of_length_le (by rw [conv_length]; omega)]
    simp
  | succ d ih =>
    intro k r hr hk
    obtain ⟨k, rfl⟩ : ∃ m, k = m + 1 := ⟨k - 1, by omega⟩
    have hlt : r < l.length := by omega
    simp only [laws_toFuncS.l0]
    rw [if_pos (by omega), if_pos (by omega), rdC_get l r hlt]
    unfold laws_toFunc.f
    rw [Option.bind_some, if_pos (by simp [conv_length]; omega), M.w64_in ((r : Int) + 1) (by omega) (by omega)]
    have e : ((conv l).take r ++ List.replicate (d + 1) z49).set ((r : Int)).toNat (⟨l[r].f0, l[r].f1⟩ : S49) = (conv l).take (r + 1) ++ List.replicate d z49 := by
      have hl : ((conv l).take r).length = r := by simp [conv_length]; omega
      rw [Int.toNat_natCast, List.set_append_right _ _ (by omega), hl, Nat.sub_self, List.replicate_succ, List.set_cons_zero, List.take_succ_eq_append_getElem (by rw [conv_length]; omega), List.append_assoc]
      congr 1
      simp [conv]
    rw [e]
    exact ih k (r + 1) (by omega) (by omega)
theorem toF_eq (l : List S48) (hlen : l.length ≤ 1048576) (k : Nat) (hk : l.length < k) : laws_toFuncS.f k l = some (conv l) := by
  unfold laws_toFuncS.f
  rw [if_pos (by omega), if_pos (by omega)]
  have := toF_loop l hlen l.length k 0 (by omega) hk
  simpa using this
theorem rdF_get (l : List S49) (i : Nat) (hi : i < l.length) : rd_T49 l (i : Int) = l[i] := by
  unfold rd_T49
  rw [Int.toNat_natCast, List.getD_eq_getElem?_getD, List.getElem?_eq_getElem hi]
  rfl
theorem eqF_loop (l : List S49) (hlen : l.length ≤ 1048576) (d : Nat) : ∀ (k r : Nat), r + d = l.length → d < k → laws_eqFuncS.l0 k l l (r : Int) = some true := by
  induction d with
  | zero =>
    intro k r hr hk
    obtain ⟨k, rfl⟩ : ∃ m, k = m + 1 := ⟨k - 1, by omega⟩
    simp only [laws_eqFuncS.l0]
    rw [if_neg (by omega)]
  | succ d ih =>
    intro k r hr hk
    obtain ⟨k, rfl⟩ : ∃ m, k = m + 1 := ⟨k - 1, by omega⟩
    simp only [laws_eqFuncS.l0]
    rw [if_pos (by omega), if_pos (by omega), if_pos (by omega)]
    unfold laws_eqFunc.f
    rw [if_pos rfl, if_pos rfl, Option.bind_some, if_pos rfl, M.w64_in ((r : Int) + 1) (by omega) (by omega)]
    exact ih k (r + 1) (by omega) (by omega)
theorem eqF_self (l : List S49) (hlen : l.length ≤ 1048576) (k : Nat) (hk : l.length < k) : laws_eqFuncS.f k l l = some true := by
  unfold laws_eqFuncS.f
  rw [if_pos rfl]
  exact eqF_loop l hlen l.length k 0 (by omega) hk
def allV (l : List S49) : Bool := l.all fun x => M.valid x.f0 x.f1
theorem szF_eq (l : List S48) (h : l.length ≤ 9223372036854775807) : laws_szFuncS.f l 1048576 = some (if l.length ≤ 1048576 then ((1048576 - l.length : Nat) : Int) else -1) := by
  unfold laws_szFuncS.f
  rw [M.w64_in _ (by omega) (by omega)]
  by_cases hl : l.length ≤ 1048576
  · rw [if_neg (by omega), if_pos hl]
    congr 1
    omega
  · rw [if_pos (by omega), if_neg hl]
theorem s2code_loop (l : List S49) (hlen : l.length ≤ 1048576) (d : Nat) : ∀ (k r : Nat), r + d = l.length → d < k →
    spec_l02Code.l0 k l (r : Int) = some (if (l.drop r).all (fun x => M.valid x.f0 x.f1) = true then (if l.length > 8 then 2 else 0) else 1) := by
  induction d with
  | zero =>
    intro k r hr hk
    obtain ⟨k, rfl⟩ : ∃ m, k = m + 1 := ⟨k - 1, by omega⟩
    simp only [spec_l02Code.l0]
    rw [if_neg (by omega), List.drop_of_length_le (by omega), List.all_nil]
    by_cases h : l.length > 8
    · have h2 : (l.length : Int) > 8 := by omega
      rw [if_pos h2, if_pos rfl, if_pos h]
    · have h2 : ¬ (l.length : Int) > 8 := by omega
      rw [if_neg h2, if_pos rfl, if_neg h]
  | succ d ih =>
    intro k r hr hk
    obtain ⟨k, rfl⟩ : ∃ m, k = m + 1 := ⟨k - 1, by omega⟩
    have hlt : r < l.length := by omega
    simp only [spec_l02Code.l0]
    rw [if_pos (by omega), if_pos (by omega), rdF_get l r hlt, is_eq, Option.bind_some, List.drop_eq_getElem_cons hlt, List.all_cons, M.w64_in ((r : Int) + 1) (by omega) (by omega)]
    by_cases hv : M.valid l[r].f0 l[r].f1 = true
    · rw [if_pos hv, hv, Bool.true_and]
      exact ih k (r + 1) (by omega) (by omega)
    · rw [if_neg hv, if_neg (by simp only [Bool.and_eq_true]; exact fun h => hv h.1)]
theorem s2code_eq (l : List S49) (hlen : l.length ≤ 1048576) (k : Nat) (hk : l.length < k) : spec_l02Code.f k l = some (if allV l = true then (if l.length > 8 then 2 else 0) else 1) := by
  unfold spec_l02Code.f
  exact s2code_loop l hlen l.length k 0 (by omega) hk
theorem areF_eq (l : List S49) (hlen : l.length ≤ 1048576) : impl_areFuncs.f l = some (allV l) := by
  unfold impl_areFuncs.f
  rw [if_pos (by omega)]
  rfl
theorem icode_eq (l : List S49) (hlen : l.length ≤ 1048576) : impl_listCode.f l = some (if allV l = true then (if l.length > 8 then 2 else 0) else 1) := by
  unfold impl_listCode.f
  rw [areF_eq l hlen, Option.bind_some]
  by_cases hv : allV l = true
  · rw [if_pos hv, if_pos hv]
    by_cases h : l.length > 8
    · rw [if_pos (by omega), if_pos h]
    · rw [if_neg (by omega), if_neg h]
  · rw [if_neg hv, if_neg hv]
theorem whole_eq (l : List S49) (h : l.length ≤ 8) : spec_l02Whole.f l = some ((2 ^ l.length - 1 : Nat) : Int) := by
  have hp : 2 ^ l.length ≤ 2 ^ 8 := M.pow2_le h
  have h1 := M.pow_pos l.length
  unfold spec_l02Whole.f
  rw [M.u64_in _ (by omega) (by omega), if_pos (by omega), show (1 : Int) = ((1 : Nat) : Int) from rfl, M.shl_nat 1 _ (by omega) (by omega), Nat.one_mul, M.w64_in _ (by omega) (by omega)]
  congr 1
  omega
/-- The marks put into a list of functions. -/
def marksF (n : Nat) : List S49 := (List.range n).map fun j => ⟨((1 + 2 * j : Nat) : Int), ((2 + 2 * j : Nat) : Int)⟩
theorem marksF_length (n : Nat) : (marksF n).length = n := by simp [marksF]
theorem marksF_rd (n r : Nat) (hr : r < n) : rd_T49 (marksF n) (r : Int) = ⟨((1 + 2 * r : Nat) : Int), ((2 + 2 * r : Nat) : Int)⟩ := by
  rw [rdF_get _ r (by rw [marksF_length]; exact hr)]
  simp [marksF]
theorem markF_loop (l : List S49) (hlen : l.length ≤ 1048576) (d : Nat) : ∀ (k r : Nat), r + d = l.length → d < k →
    laws_markFuncS.l0 k (marksF r ++ l.drop r) ((1 + 2 * r : Nat) : Int) (r : Int) = some (((1 + 2 * l.length : Nat) : Int), marksF l.length) := by
  induction d with
  | zero =>
    intro k r hr hk
    obtain ⟨k, rfl⟩ : ∃ m, k = m + 1 := ⟨k - 1, by omega⟩
    obtain rfl : r = l.length := by omega
    simp only [laws_markFuncS.l0]
    rw [if_neg (by simp [marksF_length])]
    simp
  | succ d ih =>
    intro k r hr hk
    obtain ⟨k, rfl⟩ : ∃ m, k = m + 1 := ⟨k - 1, by omega⟩
    have hlt : r < l.length := by omega
    have hL : (marksF r ++ l.drop r).length = l.length := by simp [marksF_length]; omega
    simp only [laws_markFuncS.l0]
    generalize hv : (rd_T49 (marksF r ++ l.drop r) (r : Int)).f1 = v
    have e1 : (marksF r ++ l.drop r).set ((r : Int)).toNat (⟨((1 + 2 * r : Nat) : Int), ((2 + 2 * r : Nat) : Int)⟩ : S49) = marksF (r + 1) ++ l.drop (r + 1) := by
      rw [Int.toNat_natCast, List.set_append_right _ _ (by rw [marksF_length]; omega), marksF_length, Nat.sub_self, List.drop_eq_getElem_cons hlt, List.set_cons_zero]
      unfold marksF
      rw [List.range_succ, List.map_append, List.append_assoc]
      rfl
    rw [if_pos (by rw [hL]; omega), if_pos (by omega), Option.bind_some, rdF_get _ r (by rw [List.length_set, hL]; exact hlt), List.set_set]
    simp only [Int.toNat_natCast, List.getElem_set_self]
    rw [M.w64_in (((1 + 2 * r : Nat) : Int) + 1) (by omega) (by omega), show ((1 + 2 * r : Nat) : Int) + 1 = ((2 + 2 * r : Nat) : Int) from by omega]
    rw [Int.toNat_natCast] at e1
    rw [e1, M.w64_in ((r : Int) + 1) (by omega) (by omega), M.w64_in _ (by omega) (by omega), show ((2 + 2 * r : Nat) : Int) + 1 = ((1 + 2 * (r + 1) : Nat) : Int) from by omega]
    exact ih k (r + 1) (by omega) (by omega)
theorem markF_eq (l : List S49) (hlen : l.length ≤ 1048576) (k : Nat) (hk : l.length < k) : laws_markFuncS.f k l 1 = some (((1 + 2 * l.length : Nat) : Int), marksF l.length) := by
  unfold laws_markFuncS.f
  have := markF_loop l hlen l.length k 0 (by omega) hk
  simpa [marksF] using this
theorem heldF_loop (n : Nat) (hlen : n ≤ 1048576) (d : Nat) : ∀ (k r : Nat), r + d = n → d < k →
    laws_heldFuncS.l0 k (marksF n) ((1 + 2 * r : Nat) : Int) (r : Int) = some (((1 + 2 * n : Nat) : Int)) := by
  induction d with
  | zero =>
    intro k r hr hk
    obtain ⟨k, rfl⟩ : ∃ m, k = m + 1 := ⟨k - 1, by omega⟩
    obtain rfl : r = n := by omega
    simp only [laws_heldFuncS.l0]
    rw [if_neg (by simp [marksF_length])]
  | succ d ih =>
    intro k r hr hk
    obtain ⟨k, rfl⟩ : ∃ m, k = m + 1 := ⟨k - 1, by omega⟩
    simp only [laws_heldFuncS.l0]
    rw [if_pos (by simp [marksF_length]; omega), if_pos (by omega), marksF_rd n r (by omega), M.w64_in (((1 + 2 * r : Nat) : Int) + 1) (by omega) (by omega), show ((1 + 2 * r : Nat) : Int) + 1 = ((2 + 2 * r : Nat) : Int) from by omega, if_pos rfl, if_pos rfl, M.w64_in ((r : Int) + 1) (by omega) (by omega), M.w64_in _ (by omega) (by omega), show ((2 + 2 * r : Nat) : Int) + 1 = ((1 + 2 * (r + 1) : Nat) : Int) from by omega]
    exact ih k (r + 1) (by omega) (by omega)
theorem heldF_eq (n : Nat) (hlen : n ≤ 1048576) (k : Nat) (hk : n < k) : laws_heldFuncS.f k (marksF n) 1 = some (((1 + 2 * n : Nat) : Int)) := by
  unfold laws_heldFuncS.f
  exact heldF_loop n hlen n k 0 (by omega) hk
end Go.Proofs.Ytdlnjbaldfdnpaa.Pure
