/- The pure statement of the law FnExactNamedFunc: the functions that the program's text comes to answer true at every input. -/
import Derived.Test.YtmfkmkjgeibpnaaPx2
import Derived.Test.YtmfkmkjgeibpnaaPx3
import Derived.Test.YtmfkmkjgeibpnaaPx5
import Derived.Test.YtmfkmkjgeibpnaaPx17
import Derived.Test.YtmfkmkjgeibpnaaPx18
import Derived.Test.YtmfkmkjgeibpnaaPx19
import Derived.Test.YtmfkmkjgeibpnaaLBase
import Derived.Test.YtmfkmkjgeibpnaaLOf
import Derived.Test.YtmfkmkjgeibpnaaLText
import Derived.Test.YtmfkmkjgeibpnaaLParse
namespace Go.Proofs.Ytmfkmkjgeibpnaa.Pure
open Go.RowKit Go.Proofs.Ytmfkmkjgeibpnaa.P Go.Proofs.YtmfkmkjgeibpnaaW.PrintWords Go.Proofs.YtmfkmkjgeibpnaaW.PrintLast Go.Proofs.YtmfkmkjgeibpnaaW.PrintMore
set_option linter.unusedVariables false
set_option linter.unusedSimpArgs false
theorem named_loops (x0 : ByteArray) (x4 x5 : List ByteArray) (x9 : List S98) (hl4 : x4.length = x9.length) (hl5 : x5.length = x9.length) (hlen : x9.length ≤ 20)
    (h4 : ∀ j : Nat, j < x9.length → rdOf ByteArray.empty x4 (j : Int) = (rd_T98 x9 (j : Int)).f0) (h5 : ∀ j : Nat, j < x9.length → rdOf ByteArray.empty x5 (j : Int) = (rd_T98 x9 (j : Int)).f1)
    (ht : ∀ j : Nat, j < x9.length → IsText (rd_T98 x9 (j : Int)).f1) (d : Nat) : ∀ (k r : Nat), r + d = x9.length → d + 101 ≤ k →
    ∃ n b c, (spec_NamedFunc.l0 k x0 x4 x5 (r : Int) = some (n, b, 0) ∧ impl_namedFunc.l0 k x0 x9 (x9.length : Int) (r : Int) = some (n, b, true) ∧ c = 0) ∨ (spec_NamedFunc.l0 k x0 x4 x5 (r : Int) = some (0, 0, 4) ∧ impl_namedFunc.l0 k x0 x9 (x9.length : Int) (r : Int) = some (0, 0, false) ∧ n = 0 ∧ b = 0 ∧ c = 4) := by
  induction d with
  | zero =>
    intro k r hr hk
    obtain ⟨k, rfl⟩ : ∃ m, k = m + 1 := ⟨k - 1, by omega⟩
    simp only [spec_NamedFunc.l0, impl_namedFunc.l0]
    rw [if_neg (by omega), if_neg (by omega)]
    exact ⟨0, 0, 4, Or.inr ⟨rfl, rfl, rfl, rfl, rfl⟩⟩
  | succ d ih =>
    intro k r hr hk
    obtain ⟨k, rfl⟩ : ∃ m, k = m + 1 := ⟨k - 1, by omega⟩
    simp only [spec_NamedFunc.l0, impl_namedFunc.l0]
    rw [if_pos (show (r : Int) < (x4.length : Int) by omega), if_pos (show 0 ≤ (r : Int) by omega), if_pos (show (r : Int) < (x9.length : Int) by omega), if_pos (show 0 ≤ (r : Int) by omega), if_pos (show (r : Int) < (x9.length : Int) by omega), h4 r (by omega)]
    by_cases e : (rd_T98 x9 (r : Int)).f0.toList = x0.toList
    · rw [if_pos e, if_pos e, if_pos (show (r : Int) < (x5.length : Int) by omega), h5 r (by omega)]
      obtain ⟨n, b, hn, hb, hx⟩ := ht r (by omega)
      rw [hx, sread_yes n b hn hb k (by omega), iread_yes n b hn hb k (by omega)]
      exact ⟨n, b, 0, Or.inl ⟨rfl, rfl, rfl⟩⟩
    · rw [if_neg e, if_neg e, M.w64_in ((r : Int) + 1) (by omega) (by omega)]
      exact ih k (r + 1) (by omega) (by omega)
theorem named_both (x0 : ByteArray) (x4 x5 : List ByteArray) (x9 : List S98) (hl4 : x4.length = x9.length) (hl5 : x5.length = x9.length) (hlen : x9.length ≤ 20)
    (h4 : ∀ j : Nat, j < x9.length → rdOf ByteArray.empty x4 (j : Int) = (rd_T98 x9 (j : Int)).f0) (h5 : ∀ j : Nat, j < x9.length → rdOf ByteArray.empty x5 (j : Int) = (rd_T98 x9 (j : Int)).f1)
    (ht : ∀ j : Nat, j < x9.length → IsText (rd_T98 x9 (j : Int)).f1) (d : Nat) (k r : Nat) (hr : r + d = x9.length) (hk : d + 101 ≤ k) :
    ∃ q, spec_NamedFunc.l0 k x0 x4 x5 (r : Int) = some q ∧ ((impl_namedFunc.l0 k x0 x9 (x9.length : Int) (r : Int)).bind fun bt443 => (if bt443.2.2 = true then (some (bt443.1, bt443.2.1, 0)) else (some (0, 0, 4)))) = some q := by
  obtain ⟨n, b, c, h | h⟩ := named_loops x0 x4 x5 x9 hl4 hl5 hlen h4 h5 ht d k r hr hk
  · obtain ⟨h1, h2, _⟩ := h
    exact ⟨_, h1, by rw [h2]; rfl⟩
  · obtain ⟨h1, h2, _⟩ := h
    exact ⟨_, h1, by rw [h2]; rfl⟩
theorem FnExactNamedFunc : ∀ (a0 : ByteArray), a0.size ≤ 140737488351232 → ∃ k, laws_FnExactNamedFunc.f k a0 = some true := by
  intro s _
  by_cases hlen : s.size ≤ 1048576
  · have e : ∃ r, spec_NamedFunc.f 200 s = some r ∧ impl_NamedFunc.f 200 s = some r := by
      unfold spec_NamedFunc.f impl_NamedFunc.f impl_namedFunc.f spec_l01Names.f spec_l01Known.f impl_names.f
      simp only [Option.bind_some]
      refine named_both s _ _ _ rfl rfl (by decide) ?_ ?_ ?_ 14 200 0 rfl (by omega)
      · intro j hj
        have hj : j < 14 := hj
        have : j = 0 ∨ j = 1 ∨ j = 2 ∨ j = 3 ∨ j = 4 ∨ j = 5 ∨ j = 6 ∨ j = 7 ∨ j = 8 ∨ j = 9 ∨ j = 10 ∨ j = 11 ∨ j = 12 ∨ j = 13 := by omega
        rcases this with rfl | rfl | rfl | rfl | rfl | rfl | rfl | rfl | rfl | rfl | rfl | rfl | rfl | rfl <;> rfl
      · intro j hj
        have hj : j < 14 := hj
        have : j = 0 ∨ j = 1 ∨ j = 2 ∨ j = 3 ∨ j = 4 ∨ j = 5 ∨ j = 6 ∨ j = 7 ∨ j = 8 ∨ j = 9 ∨ j = 10 ∨ j = 11 ∨ j = 12 ∨ j = 13 := by omega
        rcases this with rfl | rfl | rfl | rfl | rfl | rfl | rfl | rfl | rfl | rfl | rfl | rfl | rfl | rfl <;> rfl
      · intro j hj
        have hj : j < 14 := hj
        have : j = 0 ∨ j = 1 ∨ j = 2 ∨ j = 3 ∨ j = 4 ∨ j = 5 ∨ j = 6 ∨ j = 7 ∨ j = 8 ∨ j = 9 ∨ j = 10 ∨ j = 11 ∨ j = 12 ∨ j = 13 := by omega
        rcases this with rfl | rfl | rfl | rfl | rfl | rfl | rfl | rfl | rfl | rfl | rfl | rfl | rfl | rfl
        · exact ⟨0, 0, by decide, by decide, rfl⟩
        · exact ⟨0, 1, by decide, by decide, rfl⟩
        · exact ⟨1, 2, by decide, by decide, rfl⟩
        · exact ⟨1, 1, by decide, by decide, rfl⟩
        · exact ⟨2, 8, by decide, by decide, rfl⟩
        · exact ⟨2, 14, by decide, by decide, rfl⟩
        · exact ⟨2, 6, by decide, by decide, rfl⟩
        · exact ⟨2, 7, by decide, by decide, rfl⟩
        · exact ⟨2, 1, by decide, by decide, rfl⟩
        · exact ⟨2, 9, by decide, by decide, rfl⟩
        · exact ⟨2, 13, by decide, by decide, rfl⟩
        · exact ⟨3, 232, by decide, by decide, rfl⟩
        · exact ⟨3, 150, by decide, by decide, rfl⟩
        · exact ⟨3, 216, by decide, by decide, rfl⟩
    obtain ⟨⟨r1, r2, r3⟩, h1, h2⟩ := e
    refine ⟨200, ?_⟩
    unfold laws_FnExactNamedFunc.f laws_eqFunc.f
    rw [if_neg (by omega), h1, h2]
    simp
  · refine ⟨0, ?_⟩
    unfold laws_FnExactNamedFunc.f
    rw [if_pos (by omega)]

end Go.Proofs.Ytmfkmkjgeibpnaa.Pure
