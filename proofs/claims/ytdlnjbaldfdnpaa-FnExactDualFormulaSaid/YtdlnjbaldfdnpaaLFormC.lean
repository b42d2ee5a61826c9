/- Formulas as trees: their texts put together; which texts are formulas; formulas put in. -/
import Derived.Test.YtdlnjbaldfdnpaaPx0
import Derived.Test.YtdlnjbaldfdnpaaPx1
import Derived.Test.YtdlnjbaldfdnpaaPx4
import Derived.Test.YtdlnjbaldfdnpaaPx5
import Derived.Test.YtdlnjbaldfdnpaaPx15
import Derived.Test.YtdlnjbaldfdnpaaPx21
import Derived.Test.YtdlnjbaldfdnpaaPx23
import Derived.Test.YtdlnjbaldfdnpaaPx24
import Derived.Test.YtdlnjbaldfdnpaaLBase
import Derived.Test.YtdlnjbaldfdnpaaLBytes
import Derived.Test.YtdlnjbaldfdnpaaLForm
import Derived.Test.YtdlnjbaldfdnpaaLFormB
namespace Go.Proofs.Ytdlnjbaldfdnpaa.Pure
open Go.RowKit Go.Proofs.Ytdlnjbaldfdnpaa.P Go.Proofs.YtdlnjbaldfdnpaaW.PrintWords Go.Proofs.YtdlnjbaldfdnpaaW.PrintLast Go.Proofs.YtdlnjbaldfdnpaaW.PrintMore
set_option linter.unusedVariables false
set_option linter.unusedSimpArgs false
theorem sapp (xs ys : List Int) : strOfNums xs ++ strOfNums ys = strOfNums (xs ++ ys) := by
  apply ByteArray.ext
  rw [ByteArray.data_append]
  simp [strOfNums]
mutual
theorem ftxt_str : ∀ t : Tree, ftxt t = strOfNums (txt t)
  | ⟨c, ps⟩ => by
    simp only [ftxt, txt]
    rw [ftxtL_str ps [c]]
    rfl
theorem ftxtL_str : ∀ (ts : List Tree) (xs : List Int), ftxtL ts (strOfNums xs) = strOfNums (xs ++ txtL ts)
  | [], xs => by simp [ftxtL, txtL]
  | t :: ts, xs => by
    simp only [ftxtL, txtL]
    rw [ftxt_str t, sapp, ftxtL_str ts, List.append_assoc]
end
theorem flen_txt (t : Tree) : flen t = (txt t).length := by
  have h := ftxt_size t
  rw [ftxt_str, strOfNums_size] at h
  exact h.symm
/-- Is the text a formula? -/
def isFm (s : ByteArray) : Bool := spec_l05Is.f 600 s == some true
theorem isFm_both (s : ByteArray) (k : Nat) (hk : 600 ≤ k) : spec_l05Is.f k s = some (isFm s) ∧ impl_IsFormula.f k s = some (isFm s) ∧ (isFm s = true → s.size ≤ 60) := by
  have h1 := parse_both s 600 k (by omega) hk
  have h2 := parse_both s k k hk hk
  unfold isFm impl_IsFormula.f
  rcases h1 with ⟨a1, c, ps, a2⟩ | ⟨t, _, _, hs, a1, a2⟩
  · rcases h2 with ⟨b1, _, _, b2⟩ | ⟨t, _, _, _, b1, b2⟩
    · rw [a1, b1, a2]
      exact ⟨rfl, rfl, fun h => absurd h (by decide)⟩
    · rw [a2] at b2
      have := Option.some.inj b2
      simp only [Prod.mk.injEq] at this
      exact absurd this.2.2 (by decide)
  · rcases h2 with ⟨b1, _, _, b2⟩ | ⟨t, _, _, _, b1, b2⟩
    · rw [a2] at b2
      have := Option.some.inj b2
      simp only [Prod.mk.injEq] at this
      exact absurd this.2.2 (by decide)
    · rw [a1, b1, a2]
      exact ⟨rfl, rfl, fun _ => hs⟩
theorem lett_asked : ∀ c : Nat, c < 256 → lett (c : Int) = (if 97 ≤ c ∧ c ≤ 100 then ((c - 97 : Nat) : Int) else -1) := by decide +kernel
theorem sput_form_loop (a0 : ByteArray) (l : List ByteArray) (h4 : l.length = 4) (hx : ∀ x ∈ l, x.size ≤ 1048576) (ha : a0.size ≤ 1048576) (d : Nat) : ∀ (k i : Nat), i + d = a0.size → d < k →
    spec_PutFormulas.l1 k a0 l (putN a0 l i) (i : Int) = impl_limited.f (putN a0 l a0.size) := by
  induction d with
  | zero =>
    intro k i hi hk
    obtain ⟨k, rfl⟩ : ∃ m, k = m + 1 := ⟨k - 1, by omega⟩
    obtain rfl : i = a0.size := by omega
    simp only [spec_PutFormulas.l1]
    rw [if_neg (by omega)]
    unfold spec_l05Told.f impl_limited.f
    split <;> rfl
  | succ d ih =>
    intro k i hi hk
    obtain ⟨k, rfl⟩ : ∃ m, k = m + 1 := ⟨k - 1, by omega⟩
    have step := ih k (i + 1) (by omega) (by omega)
    have hlt : i < a0.size := by omega
    have hr := bt_range a0 (i : Int)
    have hz1 := putN_size a0 l hx h4 (i + 1)
    have hz2 : (putN a0 l (i + 1)).size ≤ 9223372036854775807 := by omega
    have hps : putN a0 l (i + 1) = pstep a0 l (putN a0 l i) i := rfl
    rw [hps] at step hz2
    unfold pstep at step hz2
    clear hps hz1 ih
    obtain ⟨c, hc⟩ := Int.eq_ofNat_of_zero_le hr.1
    have hle := lett_asked c (by omega)
    simp only [spec_PutFormulas.l1]
    rw [if_pos (show (i : Int) < (a0.size : Int) by omega), if_pos (show 0 ≤ (i : Int) by omega), M.w64_in ((i : Int) + 1) (by omega) (by omega), hc]
    rw [hc, hle] at step hz2
    have hcut : a0.extract ((i : Int)).toNat ((i : Int) + 1).toNat = a0.extract i (i + 1) := rfl
    by_cases h97 : 97 ≤ c ∧ c ≤ 100
    · rw [if_pos h97, if_pos (show ((c - 97 : Nat) : Int) ≥ 0 by omega)] at step hz2
      rw [ByteArray.size_append] at hz2
      rw [if_pos (show (c : Int) ≥ 97 by omega), if_pos (show (c : Int) ≤ 100 by omega), show ((c : Int) - 97) % 256 = ((c - 97 : Nat) : Int) from by omega, if_pos (show 0 ≤ ((c - 97 : Nat) : Int) by omega), if_pos (show ((c - 97 : Nat) : Int) < (l.length : Int) by omega), if_pos hz2]
      exact step
    · rw [if_neg h97, if_neg (show ¬ (-1 : Int) ≥ 0 by decide)] at step hz2
      rw [ByteArray.size_append] at hz2
      by_cases h1 : (c : Int) ≥ 97
      · rw [if_pos h1, if_neg (show ¬ (c : Int) ≤ 100 by omega), if_pos (show (i : Int) ≤ (i : Int) + 1 by omega), if_pos (show (i : Int) + 1 ≤ (a0.size : Int) by omega), hcut, if_pos hz2]
        exact step
      · rw [if_neg h1, if_pos (show (i : Int) ≤ (i : Int) + 1 by omega), if_pos (show (i : Int) + 1 ≤ (a0.size : Int) by omega), hcut, if_pos hz2]
        exact step
theorem sput_ask_loop (a0 : ByteArray) (l : List ByteArray) (hlen : l.length ≤ 1048576) (d : Nat) : ∀ (k r : Nat), r + d = l.length → 600 ≤ k →
    spec_PutFormulas.l0 (k + d + 1) a0 l (r : Int) = if (l.drop r).all isFm = true then (if (l.length : Int) = 4 then spec_PutFormulas.l1 k a0 l (⟨#[]⟩ : ByteArray) 0 else some ((⟨#[]⟩ : ByteArray), 2)) else some ((⟨#[]⟩ : ByteArray), 6) := by
  induction d with
  | zero =>
    intro k r hr hk
    rw [Nat.add_zero]
    simp only [spec_PutFormulas.l0]
    rw [if_neg (show ¬ (r : Int) < (l.length : Int) by omega), List.drop_of_length_le (by omega), List.all_nil, if_pos rfl]
  | succ d ih =>
    intro k r hr hk
    have step := ih k (r + 1) (by omega) hk
    clear ih
    have hlt : r < l.length := by omega
    obtain ⟨q, hq⟩ : ∃ q, k + d + 1 = q := ⟨_, rfl⟩
    rw [show k + (d + 1) + 1 = q + 1 from by omega]
    rw [hq] at step
    have hrd : rdOf ByteArray.empty l (r : Int) = l[r] := by
      unfold rdOf
      rw [Int.toNat_natCast, List.getD_eq_getElem?_getD, List.getElem?_eq_getElem hlt]
      rfl
    simp only [spec_PutFormulas.l0]
    rw [if_pos (show (r : Int) < (l.length : Int) by omega), if_pos (show 0 ≤ (r : Int) by omega), hrd, (isFm_both l[r] q (by omega)).1, Option.bind_some, List.drop_eq_getElem_cons hlt, List.all_cons, M.w64_in ((r : Int) + 1) (by omega) (by omega)]
    cases hf : isFm l[r] with
    | true => rw [if_pos rfl, Bool.true_and]; exact step
    | false => rw [if_neg (by decide), Bool.false_and, if_neg (by decide)]
end Go.Proofs.Ytdlnjbaldfdnpaa.Pure
