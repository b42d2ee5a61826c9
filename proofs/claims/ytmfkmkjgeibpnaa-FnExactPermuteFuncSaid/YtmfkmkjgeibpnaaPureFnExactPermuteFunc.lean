/- The pure statement of the law FnExactPermuteFunc: the functions that the program's text comes to answer true at every input. -/
import Derived.Test.YtmfkmkjgeibpnaaPx2
import Derived.Test.YtmfkmkjgeibpnaaPx3
import Derived.Test.YtmfkmkjgeibpnaaPx4
import Derived.Test.YtmfkmkjgeibpnaaPx12
import Derived.Test.YtmfkmkjgeibpnaaPx13
import Derived.Test.YtmfkmkjgeibpnaaLBase
import Derived.Test.YtmfkmkjgeibpnaaLOf
import Derived.Test.YtmfkmkjgeibpnaaLLists
import Derived.Test.YtmfkmkjgeibpnaaLPerm
namespace Go.Proofs.Ytmfkmkjgeibpnaa.Pure
open Go.RowKit Go.Proofs.Ytmfkmkjgeibpnaa.P Go.Proofs.YtmfkmkjgeibpnaaW.PrintWords Go.Proofs.YtmfkmkjgeibpnaaW.PrintLast Go.Proofs.YtmfkmkjgeibpnaaW.PrintMore
set_option linter.unusedVariables false
set_option linter.unusedSimpArgs false
theorem FnExactPermuteFunc : ∀ (a0_0 : Int) (a0_1 : Int) (l1 : List Int), (Lit.int .i64 a0_0).wf = true → (Lit.int .i64 a0_1).wf = true → l1.length ≤ maxLen → l1.length * 8 ≤ 140737488351232 → (∀ x ∈ l1, (Lit.int .i64 x).wf = true) → ∃ k, laws_FnExactPermuteFunc.f k a0_0 a0_1 l1 = some true := by
  intro n b l _ _ _ _ _
  by_cases hlen : l.length ≤ 1048576
  · have e : ∃ r, spec_PermuteFunc.f 1049000 n b l = some r ∧ impl_PermuteFunc.f 1049000 n b l = some r := by
      unfold spec_PermuteFunc.f impl_PermuteFunc.f
      rw [is_eq]
      simp only [Option.bind_some]
      by_cases hv : M.valid n b = true
      · rw [if_pos hv, if_pos hv]
        obtain ⟨m, b, hm, hb, rfl, rfl⟩ := (M.valid_iff _ _).1 hv
        have hb6 : b < 2 ^ 62 := Nat.lt_trans (M.bits_lt hm hb) (by decide)
        obtain ⟨x, h1, h2⟩ := sorder_eq l hlen m hm 1049000 (by omega)
        obtain ⟨y, h3, h4⟩ := iorder_eq l hlen m hm 1049000 (by omega)
        rw [h1, h3]
        simp only [Option.bind_some]
        obtain rfl : x = y := by rw [Bool.eq_iff_iff, h2, h4]
        cases x with
        | true =>
          have ho := h2.1 rfl
          have hr := ((ord_iff l m).2 ho).1.2
          have hx : ∀ x ∈ l, 0 ≤ x ∧ x ≤ 4 := fun x hx => by have := hr x hx; omega
          have hl4 : l.length ≤ 4 := by have := ho.1; omega
          rw [if_pos rfl, if_pos rfl, if_pos ⟨hl4, hx⟩, sperm_eq m b hm hb6 l hl4 hx 1049000 (by omega)]
          exact ⟨_, rfl, rfl⟩
        | false =>
          rw [if_neg (by decide), if_neg (by decide)]
          exact ⟨_, rfl, rfl⟩
      · rw [if_neg hv, if_neg hv]
        exact ⟨_, rfl, rfl⟩
    obtain ⟨⟨r1, r2, r3⟩, h1, h2⟩ := e
    refine ⟨1049000, ?_⟩
    unfold laws_FnExactPermuteFunc.f laws_toFunc.f laws_eqFunc.f
    rw [if_neg (by omega), toL_eq l hlen 1049000 (by omega)]
    simp only [Option.bind_some]
    rw [h1, h2]
    simp only [Option.bind_some, if_true, bne_self_eq_false]
    obtain ⟨k, hk⟩ : ∃ k, 1049000 = k + 1 := ⟨1048999, rfl⟩
    rw [hk]
    simp only [laws_FnExactPermuteFunc.j0]
    rw [if_neg (by decide), toL_eq l hlen k (by omega), Option.bind_some, eqL_self l hlen k (by omega), Option.bind_some, if_pos rfl]
  · refine ⟨0, ?_⟩
    unfold laws_FnExactPermuteFunc.f
    rw [if_pos (by omega)]

end Go.Proofs.Ytmfkmkjgeibpnaa.Pure
