/- The laws' own functions on lists of strings: copies, comparison, size, marks. -/
import Derived.Test.YtdlnjbaldfdnpaaPx0
import Derived.Test.YtdlnjbaldfdnpaaPx1
import Derived.Test.YtdlnjbaldfdnpaaPx20
import Derived.Test.YtdlnjbaldfdnpaaPx21
import Derived.Test.YtdlnjbaldfdnpaaPx22
import Derived.Test.YtdlnjbaldfdnpaaLBase
namespace Go.Proofs.Ytdlnjbaldfdnpaa.Pure
open Go.RowKit Go.Proofs.Ytdlnjbaldfdnpaa.P Go.Proofs.YtdlnjbaldfdnpaaW.PrintWords Go.Proofs.YtdlnjbaldfdnpaaW.PrintLast Go.Proofs.YtdlnjbaldfdnpaaW.PrintMore
set_option linter.unusedVariables false
set_option linter.unusedSimpArgs false
theorem rdStr_get (l : List ByteArray) (i : Nat) (hi : i < l.length) : rdOf ByteArray.empty l (i : Int) = l[i] := by
  unfold rdOf
  rw [Int.toNat_natCast, List.getD_eq_getElem?_getD, List.getElem?_eq_getElem hi]
  rfl
theorem eqS_loop (l : List ByteArray) (hlen : l.length ≤ 1048576) (d : Nat) : ∀ (k r : Nat), r + d = l.length → d < k → laws_eqStringS.l0 k l l (r : Int) = some true := by
  induction d with
  | zero =>
    intro k r hr hk
    obtain ⟨k, rfl⟩ : ∃ m, k = m + 1 := ⟨k - 1, by omega⟩
    simp only [laws_eqStringS.l0]
    rw [if_neg (by omega)]
  | succ d ih =>
    intro k r hr hk
    obtain ⟨k, rfl⟩ : ∃ m, k = m + 1 := ⟨k - 1, by omega⟩
    simp only [laws_eqStringS.l0]
    rw [if_pos (show (r : Int) < (l.length : Int) by omega), if_pos (show 0 ≤ (r : Int) by omega), if_pos (show (r : Int) < (l.length : Int) by omega), if_pos trivial, M.w64_in ((r : Int) + 1) (by omega) (by omega)]
    exact ih k (r + 1) (by omega) (by omega)
theorem eqS_self (l : List ByteArray) (hlen : l.length ≤ 1048576) (k : Nat) (hk : l.length < k) : laws_eqStringS.f k l l = some true := by
  unfold laws_eqStringS.f
  rw [if_pos rfl]
  exact eqS_loop l hlen l.length k 0 (by omega) hk
theorem toS_loop (l : List ByteArray) (hlen : l.length ≤ 1048576) (d : Nat) : ∀ (k r : Nat), r + d = l.length → d < k →
    laws_toStringS.l0 k l (l.take r ++ List.replicate d (⟨#[]⟩ : ByteArray)) (r : Int) = some l := by
  induction d with
  | zero =>
    intro k r hr hk
    obtain ⟨k, rfl⟩ : ∃ m, k = m + 1 := ⟨k - 1, by omega⟩
    simp only [laws_toStringS.l0]
    rw [if_neg (by omega), List.take_of_length_le (by omega)]
    simp
  | succ d ih =>
    intro k r hr hk
    obtain ⟨k, rfl⟩ : ∃ m, k = m + 1 := ⟨k - 1, by omega⟩
    have hlt : r < l.length := by omega
    simp only [laws_toStringS.l0]
    rw [if_pos (by omega), if_pos (by omega), if_pos (by simp; omega), rdStr_get l r hlt, M.w64_in ((r : Int) + 1) (by omega) (by omega)]
    have e : (l.take r ++ List.replicate (d + 1) (⟨#[]⟩ : ByteArray)).set ((r : Int)).toNat l[r] = l.take (r + 1) ++ List.replicate d (⟨#[]⟩ : ByteArray) := by
      have hl : (l.take r).length = r := by simp; omega
      rw [Int.toNat_natCast, List.set_append_right _ _ (by omega), hl, Nat.sub_self, List.replicate_succ, List.set_cons_zero, List.take_succ_eq_append_getElem hlt, List.append_assoc]
      rfl
    rw [e]
    exact ih k (r + 1) (by omega) (by omega)
theorem toS_eq (l : List ByteArray) (hlen : l.length ≤ 1048576) (k : Nat) (hk : l.length < k) : laws_toStringS.f k l = some l := by
  unfold laws_toStringS.f
  rw [if_pos (by omega), if_pos (by omega)]
  have := toS_loop l hlen l.length k 0 (by omega) hk
  simpa using this
theorem szS_loop (l : List ByteArray) (hlen : l.length ≤ 1048576) (hs : ∀ x ∈ l, x.size ≤ 140737488351232) (d : Nat) : ∀ (k r left : Nat), r + d = l.length → d < k → left ≤ 1048576 → ∃ v, laws_szStringS.l0 k l (left : Int) (r : Int) = some v := by
  induction d with
  | zero =>
    intro k r left hr hk hl
    obtain ⟨k, rfl⟩ : ∃ m, k = m + 1 := ⟨k - 1, by omega⟩
    simp only [laws_szStringS.l0]
    rw [if_neg (by omega)]
    exact ⟨_, rfl⟩
  | succ d ih =>
    intro k r left hr hk hl
    obtain ⟨k, rfl⟩ : ∃ m, k = m + 1 := ⟨k - 1, by omega⟩
    have hlt : r < l.length := by omega
    have hx := hs l[r] (List.getElem_mem hlt)
    simp only [laws_szStringS.l0]
    rw [if_pos (by omega), if_pos (by omega), rdStr_get l r hlt]
    generalize l[r].size = z at *
    rw [M.w64_in ((left : Int) - (z : Int)) (by omega) (by omega), M.w64_in ((r : Int) + 1) (by omega) (by omega)]
    by_cases h : (left : Int) - (z : Int) < 0
    · rw [if_pos h]
      exact ⟨_, rfl⟩
    · rw [if_neg h, show (left : Int) - (z : Int) = ((left - z : Nat) : Int) from by omega]
      exact ih k (r + 1) (left - z) (by omega) (by omega) (by omega)
theorem szS_eq (l : List ByteArray) (h : l.length ≤ 9223372036854775807) (hs : ∀ x ∈ l, x.size ≤ 140737488351232) (k : Nat) (hk : 1048577 ≤ k) :
    (l.length ≤ 1048576 ∧ ∃ v, laws_szStringS.f k l 1048576 = some v) ∨ laws_szStringS.f k l 1048576 = some (-1) := by
  unfold laws_szStringS.f
  rw [M.w64_in _ (by omega) (by omega)]
  by_cases hl : l.length ≤ 1048576
  · left
    rw [if_neg (by omega), show (1048576 : Int) - (l.length : Int) = ((1048576 - l.length : Nat) : Int) from by omega]
    exact ⟨hl, szS_loop l hl hs l.length k 0 (1048576 - l.length) (by omega) (by omega) (by omega)⟩
  · right
    rw [if_pos (by omega)]
/-- The text of a small mark. -/
def mt (i : Nat) : ByteArray := (⟨#[109]⟩ : ByteArray) ++ (strOfNums [48 + (i : Int)] ++ ⟨#[]⟩)
theorem mt_eq (i : Nat) (h0 : 0 < i) (h9 : i < 10) (k : Nat) (hk : 3 ≤ k) : laws_markText.f k (i : Int) = some (mt i) := by
  obtain ⟨k, rfl⟩ : ∃ m, k = m + 1 + 1 := ⟨k - 2, by omega⟩
  unfold laws_markText.f
  rw [if_neg (by omega)]
  simp only [laws_markText.l0]
  have e1 : Int.tmod (i : Int) 10 = (i : Int) := by rw [Int.tmod_eq_emod_of_nonneg (by omega)]; omega
  have e2 : Int.tdiv (i : Int) 10 = 0 := by rw [Int.tdiv_eq_ediv_of_nonneg (by omega)]; omega
  rw [if_pos (by omega), Option.bind_some, e1, e2, M.w64_in (48 + (i : Int)) (by omega) (by omega), M.w64_in 0 (by omega) (by omega), show (48 + (i : Int)) % 256 = 48 + (i : Int) from by omega, if_pos (by rw [strOfNums_size]; show 1 + 0 ≤ 9223372036854775807; decide), if_neg (by decide), if_pos (by rw [ByteArray.size_append, strOfNums_size]; show 1 + (1 + 0) ≤ 9223372036854775807; decide)]
  rfl
def marksS (n : Nat) : List ByteArray := (List.range n).map fun j => mt (1 + j)
theorem marksS_length (n : Nat) : (marksS n).length = n := by simp [marksS]
theorem marksS_succ (n : Nat) : marksS (n + 1) = marksS n ++ [mt (1 + n)] := by simp [marksS, List.range_succ]
theorem markS_loop (l : List ByteArray) (hlen : l.length ≤ 8) (d : Nat) : ∀ (k r : Nat), r + d = l.length → d + 4 < k →
    laws_markStringS.l0 k (marksS r ++ l.drop r) ((1 + r : Nat) : Int) (r : Int) = some (((1 + l.length : Nat) : Int), marksS l.length) := by
  induction d with
  | zero =>
    intro k r hr hk
    obtain ⟨k, rfl⟩ : ∃ m, k = m + 1 := ⟨k - 1, by omega⟩
    obtain rfl : r = l.length := by omega
    simp only [laws_markStringS.l0]
    rw [if_neg (by simp [marksS_length])]
    simp
  | succ d ih =>
    intro k r hr hk
    obtain ⟨k, rfl⟩ : ∃ m, k = m + 1 := ⟨k - 1, by omega⟩
    have hlt : r < l.length := by omega
    have hL : (marksS r ++ l.drop r).length = l.length := by simp [marksS_length]; omega
    simp only [laws_markStringS.l0]
    rw [if_pos (by rw [hL]; omega), mt_eq (1 + r) (by omega) (by omega) k (by omega), Option.bind_some, if_pos (by omega), M.w64_in ((r : Int) + 1) (by omega) (by omega), M.w64_in _ (by omega) (by omega)]
    have e1 : (marksS r ++ l.drop r).set ((r : Int)).toNat (mt (1 + r)) = marksS (r + 1) ++ l.drop (r + 1) := by
      rw [Int.toNat_natCast, List.set_append_right _ _ (by rw [marksS_length]; omega), marksS_length, Nat.sub_self, List.drop_eq_getElem_cons hlt, List.set_cons_zero, marksS_succ, List.append_assoc]
      rfl
    rw [e1]
    exact ih k (r + 1) (by omega) (by omega)
theorem markS_eq (l : List ByteArray) (hlen : l.length ≤ 8) (k : Nat) (hk : 20 ≤ k) : laws_markStringS.f k l 1 = some (((1 + l.length : Nat) : Int), marksS l.length) := by
  unfold laws_markStringS.f
  have := markS_loop l hlen l.length k 0 (by omega) (by omega)
  simpa [marksS] using this
theorem heldS_loop (n : Nat) (hlen : n ≤ 8) (d : Nat) : ∀ (k r : Nat), r + d = n → d + 4 < k →
    laws_heldStringS.l0 k (marksS n) ((1 + r : Nat) : Int) (r : Int) = some (((1 + n : Nat) : Int)) := by
  induction d with
  | zero =>
    intro k r hr hk
    obtain ⟨k, rfl⟩ : ∃ m, k = m + 1 := ⟨k - 1, by omega⟩
    obtain rfl : r = n := by omega
    simp only [laws_heldStringS.l0]
    rw [if_neg (by simp [marksS_length])]
  | succ d ih =>
    intro k r hr hk
    obtain ⟨k, rfl⟩ : ∃ m, k = m + 1 := ⟨k - 1, by omega⟩
    have hrd : rdOf ByteArray.empty (marksS n) (r : Int) = mt (1 + r) := by
      rw [rdStr_get _ r (by rw [marksS_length]; omega)]
      simp [marksS]
    simp only [laws_heldStringS.l0]
    rw [if_pos (by simp [marksS_length]; omega), if_pos (by omega), mt_eq (1 + r) (by omega) (by omega) k (by omega), Option.bind_some, hrd, if_pos rfl, M.w64_in ((r : Int) + 1) (by omega) (by omega), M.w64_in _ (by omega) (by omega)]
    exact ih k (r + 1) (by omega) (by omega)
theorem heldS_eq (n : Nat) (hlen : n ≤ 8) (k : Nat) (hk : 20 ≤ k) : laws_heldStringS.f k (marksS n) 1 = some (((1 + n : Nat) : Int)) := by
  unfold laws_heldStringS.f
  exact heldS_loop n hlen n k 0 (by omega) (by omega)
end Go.Proofs.Ytdlnjbaldfdnpaa.Pure
