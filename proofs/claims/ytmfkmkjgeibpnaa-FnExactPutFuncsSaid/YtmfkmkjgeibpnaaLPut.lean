/- Functions put into a function, as the reference makes it. -/
import Derived.Test.YtmfkmkjgeibpnaaPx0
import Derived.Test.YtmfkmkjgeibpnaaPx1
import Derived.Test.YtmfkmkjgeibpnaaPx2
import Derived.Test.YtmfkmkjgeibpnaaPx3
import Derived.Test.YtmfkmkjgeibpnaaPx14
import Derived.Test.YtmfkmkjgeibpnaaPx15
import Derived.Test.YtmfkmkjgeibpnaaPx16
import Derived.Test.YtmfkmkjgeibpnaaLBase
import Derived.Test.YtmfkmkjgeibpnaaLOf
import Derived.Test.YtmfkmkjgeibpnaaLFuncs
namespace Go.Proofs.Ytmfkmkjgeibpnaa.Pure
open Go.RowKit Go.Proofs.Ytmfkmkjgeibpnaa.P Go.Proofs.YtmfkmkjgeibpnaaW.PrintWords Go.Proofs.YtmfkmkjgeibpnaaW.PrintLast Go.Proofs.YtmfkmkjgeibpnaaW.PrintMore
set_option linter.unusedVariables false
set_option linter.unusedSimpArgs false
theorem s1code_loop (l : List S27) (hlen : l.length ≤ 1048576) (d : Nat) : ∀ (k r : Nat), r + d = l.length → d < k →
    spec_l01Code.l0 k l (r : Int) = some (if (l.drop r).all (fun x => M.valid x.f0 x.f1) = true then 0 else 1) := by
  induction d with
  | zero =>
    intro k r hr hk
    obtain ⟨k, rfl⟩ : ∃ m, k = m + 1 := ⟨k - 1, by omega⟩
    simp only [spec_l01Code.l0]
    rw [if_neg (by omega), List.drop_of_length_le (by omega), List.all_nil, if_pos rfl]
  | succ d ih =>
    intro k r hr hk
    obtain ⟨k, rfl⟩ : ∃ m, k = m + 1 := ⟨k - 1, by omega⟩
    have hlt : r < l.length := by omega
    simp only [spec_l01Code.l0]
    rw [if_pos (by omega), if_pos (by omega), rdF_get l r hlt, is_eq, Option.bind_some, List.drop_eq_getElem_cons hlt, List.all_cons, M.w64_in ((r : Int) + 1) (by omega) (by omega)]
    by_cases hv : M.valid l[r].f0 l[r].f1 = true
    · rw [if_pos hv, hv, Bool.true_and]
      exact ih k (r + 1) (by omega) (by omega)
    · rw [if_neg hv, if_neg (by simp only [Bool.and_eq_true]; exact fun h => hv h.1)]
theorem s1code_eq (l : List S27) (hlen : l.length ≤ 1048576) (k : Nat) (hk : l.length < k) : spec_l01Code.f k l = some (if allV l = true then 0 else 1) := by
  unfold spec_l01Code.f
  exact s1code_loop l hlen l.length k 0 (by omega) hk
theorem sput_loop (n b m : Nat) (hb : b < 2 ^ 62) (hm : m ≤ 4) (l : List S27) (hl : l.length ≤ 4) (hx : ∀ x ∈ l, 0 ≤ x.f1 ∧ x.f1 < 65536) (d : Nat) : ∀ (k r : Nat), r + d = 2 ^ m → d * 8 + 30 ≤ k →
    spec_l01Put.l0 k l (m : Int) (M.lis r (fun r => M.atN b (grow l r))) (r : Int) (n : Int) (b : Int) = some ((m : Int), ((M.tab (2 ^ m) (fun r => M.atN b (grow l r)) : Nat) : Int)) := by
  have h16 := M.pow_le16 hm
  induction d with
  | zero =>
    intro k r hr hk
    obtain ⟨k, rfl⟩ : ∃ m, k = m + 1 := ⟨k - 1, by omega⟩
    obtain rfl : r = 2 ^ m := by omega
    simp only [spec_l01Put.l0]
    rw [rows_eq m hm, Option.bind_some, if_neg (by omega), Of_eq m hm _ (fun r _ => M.atN_le _ _) k (by omega)]
    rfl
  | succ d ih =>
    intro k r hr hk
    obtain ⟨k, rfl⟩ : ∃ m, k = m + 1 := ⟨k - 1, by omega⟩
    have hlt : r < 2 ^ m := by omega
    have IH := fun k hk => ih k (r + 1) (by omega) hk
    clear ih
    simp only [spec_l01Put.l0]
    rw [rows_eq m hm, Option.bind_some, if_pos (by omega)]
    have inner : ∀ (e k j : Nat), j + e = l.length → d * 8 + 31 + e ≤ k → spec_l01Put.l1 k l (m : Int) (M.lis r (fun r => M.atN b (grow l r))) (r : Int) ((grow (l.take j) r : Nat) : Int) (j : Int) (n : Int) (b : Int) = some ((m : Int), ((M.tab (2 ^ m) (fun r => M.atN b (grow l r)) : Nat) : Int)) := by
      intro e
      induction e with
      | zero =>
        intro k j hj hk
        obtain ⟨k, rfl⟩ : ∃ m, k = m + 1 := ⟨k - 1, by omega⟩
        have hp := grow_lt l r
        have hp2 : 2 ^ l.length ≤ 2 ^ 4 := M.pow2_le hl
        simp only [spec_l01Put.l1]
        rw [if_neg (by omega), List.take_of_length_le (by omega), at_eq (n : Int) b _ hb (by omega), Option.bind_some, if_pos (by rw [M.lis_length]; omega), M.w64_in ((r : Int) + 1) (by omega) (by omega)]
        have := IH k (by omega)
        rw [M.lis_succ] at this
        exact this
      | succ e ihe =>
        intro k j hj hk
        obtain ⟨k, rfl⟩ : ∃ m, k = m + 1 := ⟨k - 1, by omega⟩
        have hjl : j < l.length := by omega
        have h1 := hx l[j] (List.getElem_mem hjl)
        have step := ihe k (j + 1) (by omega) (by omega)
        clear ihe IH
        have hp := grow_lt (l.take j) r
        rw [List.length_take, Nat.min_eq_left (by omega)] at hp
        have h2 : 2 ^ j ≤ 2 ^ 3 := M.pow2_le (by omega)
        have ht : grow (l.take (j + 1)) r = grow (l.take j) r + M.atN l[j].f1.toNat r * 2 ^ j := by
          unfold grow
          rw [List.take_succ_eq_append_getElem hjl, List.map_append, List.map_singleton, M.num_snoc, List.length_map, List.length_take, Nat.min_eq_left (by omega)]
        rw [ht] at step
        simp only [spec_l01Put.l1]
        rw [if_pos (by omega), if_pos (by omega), rdF_get l j hjl]
        obtain ⟨v, hv⟩ := Int.eq_ofNat_of_zero_le h1.1
        rw [hv] at step h1 ⊢
        have h3 := M.atN_le v r
        have h5 : M.atN v r * 2 ^ j ≤ 2 ^ 3 := Nat.le_trans (Nat.mul_le_mul_right _ h3) (by omega)
        rw [Int.toNat_natCast] at step
        rw [at_eq _ v r (Nat.lt_trans (show v < 65536 by omega) (by decide)) (by omega), Option.bind_some, M.u64_in _ (by omega) (by omega), if_pos (by omega), M.shl_nat _ j (by omega) (by omega), ← Int.natCast_add, M.w64_in _ (by omega) (by omega), M.w64_in ((j : Int) + 1) (by omega) (by omega)]
        exact step
    exact inner l.length k 0 (by omega) (by omega)
theorem ssame_loop (l : List S27) (hl : l.length ≤ 4) (h0 : 0 < l.length) (n b : Int) (d : Nat) : ∀ (k r : Nat), r + d = l.length →
    spec_PutFuncs.l0 (k + d + 1) l (r : Int) n b = if (l.drop r).all (fun x => x.f0 == (rd_T27 l 0).f0) = true then (spec_l01Put.f k n b l).bind fun q => some (q.1, q.2, 0) else some (0, 0, 2) := by
  induction d with
  | zero =>
    intro k r hr
    rw [Nat.add_zero]
    simp only [spec_PutFuncs.l0]
    rw [if_neg (by omega), List.drop_of_length_le (by omega), List.all_nil, if_pos rfl]
  | succ d ih =>
    intro k r hr
    have hlt : r < l.length := by omega
    have IH := ih k (r + 1) (by omega)
    clear ih
    obtain ⟨q, hq⟩ : ∃ q, k + d + 1 = q := ⟨_, rfl⟩
    rw [show k + (d + 1) + 1 = q + 1 from by omega]
    rw [hq] at IH
    simp only [spec_PutFuncs.l0]
    rw [if_pos (by omega), if_pos (by omega), if_pos (by omega), rdF_get l r hlt, M.w64_in ((r : Int) + 1) (by omega) (by omega), List.drop_eq_getElem_cons hlt, List.all_cons]
    by_cases e : l[r].f0 = (rd_T27 l 0).f0
    · rw [if_pos e, show (l[r].f0 == (rd_T27 l 0).f0) = true from by simpa using e, Bool.true_and]
      exact IH
    · rw [if_neg e, show (l[r].f0 == (rd_T27 l 0).f0) = false from by simpa using e, Bool.false_and, if_neg (by decide)]
theorem sameAr_eq (l : List S27) (h0 : 0 < l.length) : sameAr l = (l.drop 1).all (fun x => x.f0 == (rd_T27 l 0).f0) := by
  have e : sameAr l = l.all (fun x => x.f0 == (rd_T27 l 0).f0) := by
    unfold sameAr pairsOf
    rw [List.any_map, Bool.eq_iff_iff]
    simp
  rw [e]
  cases l with
  | nil => exact absurd h0 (by simp)
  | cons a t =>
    have h : (rd_T27 (a :: t) 0).f0 = a.f0 := rfl
    simp [h]
end Go.Proofs.Ytmfkmkjgeibpnaa.Pure
