/- Orders of variables, as the reference and the program ask for them; a function with its variables in another order. -/
import Derived.Test.YtmfkmkjgeibpnaaPx0
import Derived.Test.YtmfkmkjgeibpnaaPx1
import Derived.Test.YtmfkmkjgeibpnaaPx2
import Derived.Test.YtmfkmkjgeibpnaaPx3
import Derived.Test.YtmfkmkjgeibpnaaPx12
import Derived.Test.YtmfkmkjgeibpnaaPx13
import Derived.Test.YtmfkmkjgeibpnaaLBase
import Derived.Test.YtmfkmkjgeibpnaaLOf
namespace Go.Proofs.Ytmfkmkjgeibpnaa.Pure
open Go.RowKit Go.Proofs.Ytmfkmkjgeibpnaa.P Go.Proofs.YtmfkmkjgeibpnaaW.PrintWords Go.Proofs.YtmfkmkjgeibpnaaW.PrintLast Go.Proofs.YtmfkmkjgeibpnaaW.PrintMore
set_option linter.unusedVariables false
set_option linter.unusedSimpArgs false
theorem pig (n : Nat) : ∀ l : List Int, l.Nodup → (∀ x ∈ l, 0 ≤ x ∧ x < (n : Int)) → l.length ≤ n ∧ (l.length = n → ∀ i : Nat, i < n → (i : Int) ∈ l) := by
  induction n with
  | zero =>
    intro l _ hr
    cases l with
    | nil => exact ⟨Nat.le_refl _, fun _ i hi => by omega⟩
    | cons a t =>
      have := hr a (List.mem_cons_self)
      omega
  | succ n ih =>
    intro l hn hr
    by_cases h : (n : Int) ∈ l
    · have h1 : (l.erase (n : Int)).Nodup := hn.erase _
      have h2 : ∀ x ∈ l.erase (n : Int), 0 ≤ x ∧ x < (n : Int) := by
        intro x hx
        have hm := (List.Nodup.mem_erase_iff hn).1 hx
        have := hr x hm.2
        have := hm.1
        omega
      obtain ⟨h3, h4⟩ := ih _ h1 h2
      rw [List.length_erase_of_mem h] at h3 h4
      have hp := List.length_pos_of_mem h
      refine ⟨by omega, fun hl i hi => ?_⟩
      by_cases e : i = n
      · rw [e]; exact h
      · exact List.mem_of_mem_erase (h4 (by omega) i (by omega))
    · have h2 : ∀ x ∈ l, 0 ≤ x ∧ x < (n : Int) := by
        intro x hx
        have := hr x hx
        have hne : x ≠ (n : Int) := fun e => h (e ▸ hx)
        omega
      obtain ⟨h3, _⟩ := ih l hn h2
      exact ⟨by omega, fun hl => by omega⟩
theorem cov (n : Nat) : ∀ l : List Int, l.length = n → (∀ i : Nat, i < n → (i : Int) ∈ l) → l.Nodup ∧ ∀ x ∈ l, 0 ≤ x ∧ x < (n : Int) := by
  induction n with
  | zero =>
    intro l hl _
    obtain rfl := List.eq_nil_of_length_eq_zero hl
    exact ⟨List.nodup_nil, fun x hx => absurd hx (by simp)⟩
  | succ n ih =>
    intro l hl hc
    have h := hc n (by omega)
    obtain ⟨h1, h2⟩ := ih (l.erase (n : Int)) (by rw [List.length_erase_of_mem h]; omega) (fun i hi => (List.mem_erase_of_ne (by omega)).2 (hc i (by omega)))
    have hp := List.perm_cons_erase h
    refine ⟨hp.nodup_iff.2 (List.nodup_cons.2 ⟨fun hm => ?_, h1⟩), fun x hx => ?_⟩
    · have := h2 _ hm
      omega
    · rcases List.mem_cons.1 (hp.mem_iff.1 hx) with e | hm
      · omega
      · have := h2 x hm
        omega
/-- The list holds the numbers below n, each once. -/
def ordOK (l : List Int) (n : Nat) : Prop := l.length = n ∧ ∀ i : Nat, i < n → (i : Int) ∈ l
theorem index_loop (l : List Int) (v : Int) (hlen : l.length ≤ 1048576) (d : Nat) : ∀ (k r : Nat), r + d = l.length → d < k →
    ∃ q, slices_Index_int64_int64.l0 k l v (l.length : Int) (r : Int) = some q ∧ (q ≥ 0 ↔ v ∈ l.drop r) := by
  induction d with
  | zero =>
    intro k r hr hk
    obtain ⟨k, rfl⟩ : ∃ m, k = m + 1 := ⟨k - 1, by omega⟩
    simp only [slices_Index_int64_int64.l0]
    rw [if_neg (by omega), List.drop_of_length_le (by omega)]
    exact ⟨-1, rfl, by simp⟩
  | succ d ih =>
    intro k r hr hk
    obtain ⟨k, rfl⟩ : ∃ m, k = m + 1 := ⟨k - 1, by omega⟩
    have hlt : r < l.length := by omega
    have hg : rd l (r : Int) = l[r] := by unfold rd; rw [Int.toNat_natCast, List.getD_eq_getElem?_getD, List.getElem?_eq_getElem hlt]; rfl
    simp only [slices_Index_int64_int64.l0]
    rw [if_pos (by omega), if_pos (by omega), if_pos (by omega), hg, List.drop_eq_getElem_cons hlt]
    by_cases e : v = l[r]
    · rw [if_pos e]
      exact ⟨_, rfl, ⟨fun _ => by rw [e]; exact List.mem_cons_self, fun _ => by omega⟩⟩
    · rw [if_neg e, M.w64_in ((r : Int) + 1) (by omega) (by omega)]
      obtain ⟨q, h1, h2⟩ := ih k (r + 1) (by omega) (by omega)
      exact ⟨q, h1, h2.trans ⟨fun h => List.mem_cons_of_mem _ h, fun h => (List.mem_cons.1 h).resolve_left e⟩⟩
theorem contains_eq (l : List Int) (v : Int) (hlen : l.length ≤ 1048576) (k : Nat) (hk : l.length < k) : ∃ x : Bool, slices_Contains_int64_int64.f k l v = some x ∧ (x = true ↔ v ∈ l) := by
  unfold slices_Contains_int64_int64.f slices_Index_int64_int64.f
  obtain ⟨q, h1, h2⟩ := index_loop l v hlen l.length k 0 (by omega) hk
  rw [Int.natCast_zero] at h1
  rw [h1, Option.bind_some]
  exact ⟨_, rfl, by rw [decide_eq_true_eq]; exact h2⟩
theorem iorder_loop (l : List Int) (hlen : l.length ≤ 1048576) (n : Nat) (hn : n ≤ 4) (d : Nat) : ∀ (k i : Nat), i + d = n → l.length + d + 1 < k → (∀ j : Nat, j < i → (j : Int) ∈ l) →
    ∃ x : Bool, impl_isOrder.l0 k l (n : Int) (n : Int) (i : Int) = some x ∧ (x = true ↔ ordOK l n) := by
  induction d with
  | zero =>
    intro k i hi hk hlow
    obtain ⟨k, rfl⟩ : ∃ m, k = m + 1 := ⟨k - 1, by omega⟩
    obtain rfl : i = n := by omega
    simp only [impl_isOrder.l0]
    rw [if_neg (by omega)]
    refine ⟨_, rfl, ?_⟩
    rw [beq_iff_eq]
    exact ⟨fun h => ⟨by omega, hlow⟩, fun h => by have := h.1; omega⟩
  | succ d ih =>
    intro k i hi hk hlow
    obtain ⟨k, rfl⟩ : ∃ m, k = m + 1 := ⟨k - 1, by omega⟩
    simp only [impl_isOrder.l0]
    rw [if_pos (by omega)]
    obtain ⟨x, h1, h2⟩ := contains_eq l (i : Int) hlen k (by omega)
    rw [h1, Option.bind_some]
    cases x with
    | true =>
      rw [if_pos rfl, M.w64_in ((i : Int) + 1) (by omega) (by omega)]
      refine ih k (i + 1) (by omega) (by omega) fun j hj => ?_
      by_cases e : j = i
      · rw [e]; exact h2.1 rfl
      · exact hlow j (by omega)
    | false =>
      rw [if_neg (by decide)]
      refine ⟨false, rfl, ⟨fun h => absurd h (by decide), fun h => ?_⟩⟩
      exact absurd (h2.2 (h.2 i (by omega))) (by decide)
theorem iorder_eq (l : List Int) (hlen : l.length ≤ 1048576) (n : Nat) (hn : n ≤ 4) (k : Nat) (hk : l.length + 10 ≤ k) : ∃ x : Bool, impl_isOrder.f k l (n : Int) = some x ∧ (x = true ↔ ordOK l n) := by
  unfold impl_isOrder.f
  exact iorder_loop l hlen n hn n k 0 (by omega) (by omega) (fun j hj => by omega)
theorem ord_iff (l : List Int) (n : Nat) : ((l.Nodup ∧ ∀ x ∈ l, 0 ≤ x ∧ x < (n : Int)) ∧ l.length = n) ↔ ordOK l n := by
  constructor
  · intro h
    exact ⟨h.2, (pig n l h.1.1 h.1.2).2 h.2⟩
  · intro h
    exact ⟨cov n l h.1 h.2, h.1⟩
theorem sorder_loop (l : List Int) (hlen : l.length ≤ 1048576) (n : Nat) (hn : n ≤ 4) (d : Nat) : ∀ (k r : Nat) (seen : List Bool), r + d = l.length → d < k → seen.length = n → (l.take r).Nodup → (∀ x ∈ l.take r, 0 ≤ x ∧ x < (n : Int)) →
    (∀ i : Nat, i < n → (seen.getD i false = true ↔ (i : Int) ∈ l.take r)) →
    ∃ x : Bool, spec_l01Order.l0 k l (n : Int) seen (r : Int) = some x ∧ (x = true ↔ ordOK l n) := by
  induction d with
  | zero =>
    intro k r seen hr hk hs hnd hrg hsn
    obtain ⟨k, rfl⟩ : ∃ m, k = m + 1 := ⟨k - 1, by omega⟩
    simp only [spec_l01Order.l0]
    rw [if_neg (by omega)]
    rw [List.take_of_length_le (by omega)] at hnd hrg
    refine ⟨_, rfl, ?_⟩
    rw [beq_iff_eq, ← ord_iff]
    exact ⟨fun h => ⟨⟨hnd, hrg⟩, by omega⟩, fun h => by have := h.2; omega⟩
  | succ d ih =>
    intro k r seen hr hk hs hnd hrg hsn
    obtain ⟨k, rfl⟩ : ∃ m, k = m + 1 := ⟨k - 1, by omega⟩
    have hlt : r < l.length := by omega
    have hg : rd l (r : Int) = l[r] := by unfold rd; rw [Int.toNat_natCast, List.getD_eq_getElem?_getD, List.getElem?_eq_getElem hlt]; rfl
    have hmem : l[r] ∈ l := List.getElem_mem hlt
    simp only [spec_l01Order.l0]
    rw [if_pos (by omega), if_pos (by omega), hg, in_eq, Option.bind_some, M.w64_in ((n : Int) - 1) (by omega) (by omega)]
    generalize hx : l[r] = x at *
    by_cases hin : 0 ≤ x ∧ x < (n : Int)
    · rw [if_pos (by simp; omega), if_pos hin.1, if_pos (by omega)]
      obtain ⟨i, rfl⟩ := Int.eq_ofNat_of_zero_le hin.1
      have hi : i < n := by omega
      have hrd : rdOf false seen (i : Int) = seen.getD i false := by unfold rdOf; rw [Int.toNat_natCast]
      have htake : l.take (r + 1) = l.take r ++ [(i : Int)] := by rw [List.take_succ_eq_append_getElem hlt, hx]
      rw [hrd, Int.toNat_natCast]
      by_cases hsi : seen.getD i false = true
      · rw [if_pos hsi]
        refine ⟨false, rfl, ⟨fun h => absurd h (by decide), fun h => ?_⟩⟩
        have h2 := ((ord_iff l n).2 h).1.1
        have hsub := List.Sublist.nodup (List.take_sublist (r + 1) l) h2
        rw [htake, List.nodup_append] at hsub
        exact absurd rfl (hsub.2.2 _ ((hsn i hi).1 hsi) _ (List.mem_singleton.2 rfl))
      · rw [if_neg hsi, M.w64_in ((r : Int) + 1) (by omega) (by omega)]
        have hni : (i : Int) ∉ l.take r := fun h => hsi ((hsn i hi).2 h)
        refine ih k (r + 1) (seen.set i true) (by omega) (by omega) (by rw [List.length_set]; exact hs) ?_ ?_ ?_
        · rw [htake, List.nodup_append]
          refine ⟨hnd, by simp, fun a ha b hb => ?_⟩
          rw [List.mem_singleton] at hb
          intro e
          exact hni (hb ▸ e ▸ ha)
        · intro y hy
          rw [htake, List.mem_append, List.mem_singleton] at hy
          rcases hy with hy | hy
          · exact hrg y hy
          · rw [hy]; exact hin
        · intro j hj
          rw [htake, List.mem_append, List.mem_singleton, List.getD_eq_getElem?_getD, List.getElem?_set]
          by_cases e : i = j
          · subst e
            rw [if_pos rfl, if_pos (by omega)]
            exact ⟨fun _ => Or.inr rfl, fun _ => rfl⟩
          · rw [if_neg e, ← List.getD_eq_getElem?_getD, hsn j hj]
            exact ⟨fun h => Or.inl h, fun h => h.resolve_right (by omega)⟩
    · rw [if_neg (by simp; omega)]
      refine ⟨false, rfl, ⟨fun h => absurd h (by decide), fun h => ?_⟩⟩
      exact absurd (((ord_iff l n).2 h).1.2 x hmem) hin
theorem sorder_eq (l : List Int) (hlen : l.length ≤ 1048576) (n : Nat) (hn : n ≤ 4) (k : Nat) (hk : l.length + 10 ≤ k) : ∃ x : Bool, spec_l01Order.f k l (n : Int) = some x ∧ (x = true ↔ ordOK l n) := by
  unfold spec_l01Order.f
  rw [if_pos (by omega), if_pos (by omega)]
  refine sorder_loop l hlen n hn l.length k 0 (List.replicate n false) (by omega) (by omega) (by simp) (by simp) (fun x hx => absurd hx (by simp)) (fun i hi => ?_)
  rw [List.getD_eq_getElem?_getD, List.getElem?_replicate, if_pos hi]
  simp
theorem sperm_loop (n b : Nat) (hn : n ≤ 4) (hb : b < 2 ^ 62) (l : List Int) (hl : l.length ≤ 4) (hx : ∀ x ∈ l, 0 ≤ x ∧ x ≤ 4) (d : Nat) : ∀ (k r : Nat), r + d = 2 ^ n → d * 8 + 30 ≤ k →
    spec_l01Permute.l0 k l (M.lis r (fun r => M.atN b (prow l r))) (r : Int) (n : Int) (b : Int) = some ((n : Int), ((M.tab (2 ^ n) (fun r => M.atN b (prow l r)) : Nat) : Int)) := by
  have h16 := M.pow_le16 hn
  induction d with
  | zero =>
    intro k r hr hk
    obtain ⟨k, rfl⟩ : ∃ m, k = m + 1 := ⟨k - 1, by omega⟩
    obtain rfl : r = 2 ^ n := by omega
    simp only [spec_l01Permute.l0]
    rw [rows_eq n hn, Option.bind_some, if_neg (by omega), Of_eq n hn _ (fun r _ => M.atN_le _ _) k (by omega)]
    rfl
  | succ d ih =>
    intro k r hr hk
    obtain ⟨k, rfl⟩ : ∃ m, k = m + 1 := ⟨k - 1, by omega⟩
    have hlt : r < 2 ^ n := by omega
    have IH := fun k hk => ih k (r + 1) (by omega) hk
    clear ih
    simp only [spec_l01Permute.l0]
    rw [rows_eq n hn, Option.bind_some, if_pos (by omega)]
    have inner : ∀ (e k j : Nat), j + e = l.length → d * 8 + 31 + e ≤ k → spec_l01Permute.l1 k l (M.lis r (fun r => M.atN b (prow l r))) (r : Int) ((prow (l.take j) r : Nat) : Int) (j : Int) (n : Int) (b : Int) = some ((n : Int), ((M.tab (2 ^ n) (fun r => M.atN b (prow l r)) : Nat) : Int)) := by
      intro e
      induction e with
      | zero =>
        intro k j hj hk
        obtain ⟨k, rfl⟩ : ∃ m, k = m + 1 := ⟨k - 1, by omega⟩
        have hp := prow_lt l r
        have hp2 : 2 ^ l.length ≤ 2 ^ 4 := M.pow2_le hl
        simp only [spec_l01Permute.l1]
        rw [if_neg (by omega), List.take_of_length_le (by omega), at_eq (n : Int) b _ hb (by omega), Option.bind_some, if_pos (by rw [M.lis_length]; omega), M.w64_in ((r : Int) + 1) (by omega) (by omega)]
        have := IH k (by omega)
        rw [M.lis_succ] at this
        exact this
      | succ e ihe =>
        intro k j hj hk
        obtain ⟨k, rfl⟩ : ∃ m, k = m + 1 := ⟨k - 1, by omega⟩
        have hjl : j < l.length := by omega
        have hg : rd l (j : Int) = l[j] := by unfold rd; rw [Int.toNat_natCast, List.getD_eq_getElem?_getD, List.getElem?_eq_getElem hjl]; rfl
        have h1 := hx l[j] (List.getElem_mem hjl)
        have step := ihe k (j + 1) (by omega) (by omega)
        clear ihe IH
        have hp := prow_lt (l.take j) r
        rw [List.length_take, Nat.min_eq_left (by omega)] at hp
        have h2 : 2 ^ j ≤ 2 ^ 3 := M.pow2_le (by omega)
        have ht : prow (l.take (j + 1)) r = prow (l.take j) r + M.atN r l[j].toNat * 2 ^ j := by
          unfold prow
          rw [List.take_succ_eq_append_getElem hjl, List.map_append, List.map_singleton, M.num_snoc, List.length_map, List.length_take, Nat.min_eq_left (by omega)]
        rw [ht] at step
        generalize hv : l[j] = v at *
        obtain ⟨v, rfl⟩ := Int.eq_ofNat_of_zero_le h1.1
        have h3 := M.atN_le r v
        have h5 : M.atN r v * 2 ^ j ≤ 2 ^ 3 := Nat.le_trans (Nat.mul_le_mul_right _ h3) (by omega)
        rw [Int.toNat_natCast] at step
        simp only [spec_l01Permute.l1]
        rw [if_pos (by omega), if_pos (by omega), hg, M.u64_in _ (by omega) (by omega), if_pos (by omega), M.u64_in _ (by omega) (by omega), if_pos (by omega), M.bit_nat r v (by omega) (by omega), M.shl_nat _ j (by omega) (by omega), ← Int.natCast_add, M.w64_in _ (by omega) (by omega), M.w64_in ((j : Int) + 1) (by omega) (by omega)]
        exact step
    exact inner l.length k 0 (by omega) (by omega)
theorem sperm_eq (n b : Nat) (hn : n ≤ 4) (hb : b < 2 ^ 62) (l : List Int) (hl : l.length ≤ 4) (hx : ∀ x ∈ l, 0 ≤ x ∧ x ≤ 4) (k : Nat) (hk : 200 ≤ k) :
    spec_l01Permute.f k (n : Int) (b : Int) l = some ((n : Int), ((M.tab (2 ^ n) (fun r => M.atN b (prow l r)) : Nat) : Int)) := by
  have h16 := M.pow_le16 hn
  unfold spec_l01Permute.f
  exact sperm_loop n b hn hb l hl hx (2 ^ n) k 0 (by omega) (by omega)
end Go.Proofs.Ytmfkmkjgeibpnaa.Pure
