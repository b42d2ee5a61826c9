/- The laws' own functions on lists of numbers: copies, comparison, marks. -/
import Derived.Test.YtmfkmkjgeibpnaaPx0
import Derived.Test.YtmfkmkjgeibpnaaPx1
import Derived.Test.YtmfkmkjgeibpnaaPx4
import Derived.Test.YtmfkmkjgeibpnaaPx6
import Derived.Test.YtmfkmkjgeibpnaaLBase
namespace Go.Proofs.Ytmfkmkjgeibpnaa.Pure
open Go.RowKit Go.Proofs.Ytmfkmkjgeibpnaa.P Go.Proofs.YtmfkmkjgeibpnaaW.PrintWords Go.Proofs.YtmfkmkjgeibpnaaW.PrintLast Go.Proofs.YtmfkmkjgeibpnaaW.PrintMore
set_option linter.unusedVariables false
set_option linter.unusedSimpArgs false
theorem eqL_loop (l m : List Int) (hl : l.length = m.length) (hlen : l.length ≤ 1048576) (d : Nat) : ∀ (k r : Nat), r + d = l.length → d < k →
    laws_eqInt64S.l0 k l m (r : Int) = some (decide (∀ j, j < l.length → r ≤ j → rd l j = rd m j)) := by
  induction d with
  | zero =>
    intro k r hr hk
    obtain ⟨k, rfl⟩ : ∃ m, k = m + 1 := ⟨k - 1, by omega⟩
    simp only [laws_eqInt64S.l0]
    rw [if_neg (by omega), decide_eq_true (fun j h1 h2 => by omega)]
  | succ d ih =>
    intro k r hr hk
    obtain ⟨k, rfl⟩ : ∃ m, k = m + 1 := ⟨k - 1, by omega⟩
    simp only [laws_eqInt64S.l0]
    rw [if_pos (by omega), if_pos (by omega), if_pos (by omega)]
    by_cases e : rd l (r : Int) = rd m (r : Int)
    · rw [if_pos e, M.w64_in ((r : Int) + 1) (by omega) (by omega)]
      refine (ih k (r + 1) (by omega) (by omega)).trans ?_
      congr 1
      apply decide_eq_decide.2
      constructor
      · intro h q h1 h2
        by_cases eq : q = r
        · rw [eq]; exact e
        · exact h q h1 (by omega)
      · intro h q h1 h2
        exact h q h1 (by omega)
    · rw [if_neg e, decide_eq_false (fun h => e (h r (by omega) (Nat.le_refl _)))]
/-- A list is equal to itself. -/
theorem eqL_self (l : List Int) (hlen : l.length ≤ 1048576) (k : Nat) (hk : l.length < k) : laws_eqInt64S.f k l l = some true := by
  unfold laws_eqInt64S.f
  rw [if_pos rfl]
  refine (eqL_loop l l rfl hlen l.length k 0 (by omega) hk).trans ?_
  rw [decide_eq_true (fun _ _ _ => rfl)]
theorem toL_loop (l : List Int) (hlen : l.length ≤ 1048576) (d : Nat) : ∀ (k r : Nat), r + d = l.length → d < k →
    laws_toInt64S.l0 k l (l.take r ++ List.replicate d 0) (r : Int) = some l := by
  induction d with
  | zero =>
    intro k r hr hk
    obtain ⟨k, rfl⟩ : ∃ m, k = m + 1 := ⟨k - 1, by omega⟩
    simp only [laws_toInt64S.l0]
    rw [if_neg (by omega), List.take_of_length_le (by omega)]
    simp
  | succ d ih =>
    intro k r hr hk
    obtain ⟨k, rfl⟩ : ∃ m, k = m + 1 := ⟨k - 1, by omega⟩
    simp only [laws_toInt64S.l0]
    rw [if_pos (by omega), if_pos (by omega), if_pos (by simp; omega), M.w64_in ((r : Int) + 1) (by omega) (by omega)]
    have e : (l.take r ++ List.replicate (d + 1) 0).set ((r : Int)).toNat (rd l (r : Int)) = l.take (r + 1) ++ List.replicate d 0 := by
      have hl : (l.take r).length = r := by simp; omega
      rw [Int.toNat_natCast, List.set_append_right _ _ (by omega), hl, Nat.sub_self, List.replicate_succ, List.set_cons_zero, List.take_succ_eq_append_getElem (by omega), List.append_assoc]
      congr 1
      simp [rd, List.getD_eq_getElem?_getD, List.getElem?_eq_getElem (show r < l.length by omega)]
    rw [e]
    exact ih k (r + 1) (by omega) (by omega)
theorem toL_eq (l : List Int) (hlen : l.length ≤ 1048576) (k : Nat) (hk : l.length < k) : laws_toInt64S.f k l = some l := by
  unfold laws_toInt64S.f
  rw [if_pos (by omega), if_pos (by omega)]
  have := toL_loop l hlen l.length k 0 (by omega) hk
  simpa using this
/-- The marks put into a list. -/
def marks (k : Nat) : Nat → List Int
  | 0 => []
  | n + 1 => (k : Int) :: marks (k + 1) n
theorem marks_length : ∀ (n k : Nat), (marks k n).length = n
  | 0, _ => rfl
  | n + 1, k => by simp [marks, marks_length n]
theorem marks_snoc : ∀ (n k : Nat), marks k (n + 1) = marks k n ++ [((k + n : Nat) : Int)]
  | 0, k => by simp [marks]
  | n + 1, k => by
    show (k : Int) :: marks (k + 1) (n + 1) = _
    rw [marks_snoc n (k + 1)]
    simp only [marks, List.cons_append]
    congr 3
    omega
theorem marks_rd : ∀ (n k j : Nat), j < n → rd (marks k n) (j : Int) = ((k + j : Nat) : Int)
  | n + 1, k, 0, _ => by simp [rd, marks]
  | n + 1, k, j + 1, h => by
    have := marks_rd n (k + 1) j (by omega)
    unfold rd at this ⊢
    rw [Int.toNat_natCast] at this ⊢
    simp only [marks, List.getD_cons_succ]
    rw [this]; congr 1; omega
theorem mark_loop (l : List Int) (hlen : l.length ≤ 1048576) (d : Nat) : ∀ (k r : Nat), r + d = l.length → d < k →
    laws_markInt64S.l0 k (marks 1 r ++ l.drop r) ((1 + r : Nat) : Int) (r : Int) = some (((1 + l.length : Nat) : Int), marks 1 l.length) := by
  induction d with
  | zero =>
    intro k r hr hk
    obtain ⟨k, rfl⟩ : ∃ m, k = m + 1 := ⟨k - 1, by omega⟩
    obtain rfl : r = l.length := by omega
    simp only [laws_markInt64S.l0]
    rw [if_neg (by simp [marks_length])]
    simp
  | succ d ih =>
    intro k r hr hk
    obtain ⟨k, rfl⟩ : ∃ m, k = m + 1 := ⟨k - 1, by omega⟩
    simp only [laws_markInt64S.l0]
    rw [if_pos (by simp [marks_length]; omega), if_pos (by omega), M.w64_in ((r : Int) + 1) (by omega) (by omega), M.w64_in _ (by omega) (by omega)]
    have e : (marks 1 r ++ l.drop r).set ((r : Int)).toNat ((1 + r : Nat) : Int) = marks 1 (r + 1) ++ l.drop (r + 1) := by
      rw [Int.toNat_natCast, List.set_append_right _ _ (by rw [marks_length]; omega), marks_length, Nat.sub_self, List.drop_eq_getElem_cons (show r < l.length by omega), List.set_cons_zero, marks_snoc]
      simp
    rw [e]
    exact ih k (r + 1) (by omega) (by omega)
theorem mark_eq (l : List Int) (hlen : l.length ≤ 1048576) (k : Nat) (hk : l.length < k) : laws_markInt64S.f k l 1 = some (((1 + l.length : Nat) : Int), marks 1 l.length) := by
  unfold laws_markInt64S.f
  exact mark_loop l hlen l.length k 0 (by omega) hk
theorem held_loop (n : Nat) (hlen : n ≤ 1048576) (d : Nat) : ∀ (k r : Nat), r + d = n → d < k →
    laws_heldInt64S.l0 k (marks 1 n) ((1 + r : Nat) : Int) (r : Int) = some (((1 + n : Nat) : Int)) := by
  induction d with
  | zero =>
    intro k r hr hk
    obtain ⟨k, rfl⟩ : ∃ m, k = m + 1 := ⟨k - 1, by omega⟩
    obtain rfl : r = n := by omega
    simp only [laws_heldInt64S.l0]
    rw [if_neg (by simp [marks_length])]
  | succ d ih =>
    intro k r hr hk
    obtain ⟨k, rfl⟩ : ∃ m, k = m + 1 := ⟨k - 1, by omega⟩
    simp only [laws_heldInt64S.l0]
    rw [if_pos (by simp [marks_length]; omega), if_pos (by omega), if_pos (marks_rd n 1 r (by omega)), M.w64_in ((r : Int) + 1) (by omega) (by omega), M.w64_in _ (by omega) (by omega)]
    exact ih k (r + 1) (by omega) (by omega)
theorem held_eq (n : Nat) (hlen : n ≤ 1048576) (k : Nat) (hk : n < k) : laws_heldInt64S.f k (marks 1 n) 1 = some (((1 + n : Nat) : Int)) := by
  unfold laws_heldInt64S.f
  exact held_loop n hlen n k 0 (by omega) hk
end Go.Proofs.Ytmfkmkjgeibpnaa.Pure
