/- The pure statement of the law FnExactPutFuncs: the functions that the program's text comes to answer true at every input. -/
import Derived.Test.YtmfkmkjgeibpnaaPx2
import Derived.Test.YtmfkmkjgeibpnaaPx3
import Derived.Test.YtmfkmkjgeibpnaaPx7
import Derived.Test.YtmfkmkjgeibpnaaPx14
import Derived.Test.YtmfkmkjgeibpnaaPx15
import Derived.Test.YtmfkmkjgeibpnaaPx16
import Derived.Test.YtmfkmkjgeibpnaaLBase
import Derived.Test.YtmfkmkjgeibpnaaLOf
import Derived.Test.YtmfkmkjgeibpnaaLFuncs
import Derived.Test.YtmfkmkjgeibpnaaLPut
namespace Go.Proofs.Ytmfkmkjgeibpnaa.Pure
open Go.RowKit Go.Proofs.Ytmfkmkjgeibpnaa.P Go.Proofs.YtmfkmkjgeibpnaaW.PrintWords Go.Proofs.YtmfkmkjgeibpnaaW.PrintLast Go.Proofs.YtmfkmkjgeibpnaaW.PrintMore
set_option linter.unusedVariables false
set_option linter.unusedSimpArgs false
theorem FnExactPutFuncs : ∀ (a0_0 : Int) (a0_1 : Int) (l1 : List (S23)), (Lit.int .i64 a0_0).wf = true → (Lit.int .i64 a0_1).wf = true → l1.length ≤ maxLen → l1.length * 16 ≤ 140737488351232 → ∃ k, laws_FnExactPutFuncs.f k a0_0 a0_1 l1 = some true := by
  intro n b l _ _ hm _
  by_cases hlen : l.length ≤ 1048576
  · have hc : (conv l).length ≤ 1048576 := by rw [conv_length]; exact hlen
    have hk : (conv l).length < 1049000 := by omega
    generalize hg : conv l = g at *
    have e : ∃ r, spec_PutFuncs.f 1049000 n b g = some r ∧ impl_PutFuncs.f n b g = some r := by
      unfold spec_PutFuncs.f impl_PutFuncs.f
      rw [is_eq, if_pos (by omega), s1code_eq g hc 1049000 hk]
      simp only [Option.bind_some]
      obtain ⟨k, hk1⟩ : ∃ k, 1049000 = k + 1 + 1 := ⟨1048998, rfl⟩
      rw [hk1]
      by_cases hv : M.valid n b = true
      · rw [if_pos hv, if_pos hv]
        simp only [spec_PutFuncs.j0]
        by_cases ha : allV g = true
        · rw [if_pos (show (g.all fun x => M.valid x.f0 x.f1) = true from ha), if_pos ha, if_neg (by decide)]
          obtain ⟨a, b, han, hb, rfl, rfl⟩ := (M.valid_iff _ _).1 hv
          by_cases h0 : (a : Int) = 0
          · rw [if_pos h0, if_pos h0]
            simp only [spec_PutFuncs.j1, if_true]
            exact ⟨_, rfl, rfl⟩
          · rw [if_neg h0, if_neg h0]
            simp only [spec_PutFuncs.j1]
            by_cases hl : (g.length : Int) = (a : Int)
            · have hl4 : g.length ≤ 4 := by omega
              have hpos : 0 < g.length := by omega
              rw [if_pos hl, if_neg (by simpa using hl)]
              obtain ⟨k, hk2⟩ : ∃ q, k = q + (g.length - 1) + 1 := ⟨k - (g.length - 1) - 1, by omega⟩
              have hs := ssame_loop g hl4 hpos (a : Int) (b : Int) (g.length - 1) k 1 (by omega)
              rw [← hk2, Int.natCast_one] at hs
              rw [hs, sameAr_eq g hpos]
              by_cases hsame : ((g.drop 1).all fun x => x.f0 == (rd_T27 g 0).f0) = true
              · rw [if_pos hsame, if_pos hsame]
                have hall := List.all_eq_true.1 ha
                have h0v : M.valid (rd_T27 g 0).f0 (rd_T27 g 0).f1 = true := by
                  have := rdF_get g 0 hpos
                  rw [Int.natCast_zero] at this
                  rw [this]
                  exact hall _ (List.getElem_mem hpos)
                obtain ⟨m, c, hm4, _, h0a, _⟩ := (M.valid_iff _ _).1 h0v
                have hx : ∀ x ∈ g, 0 ≤ x.f1 ∧ x.f1 < 65536 := by
                  intro x hx
                  obtain ⟨u, v, hu, hv, _, e1⟩ := (M.valid_iff _ _).1 (hall x hx)
                  have := M.bits_lt hu hv
                  rw [e1]
                  omega
                have hb6 : b < 2 ^ 62 := Nat.lt_trans (M.bits_lt han hb) (by decide)
                have h16 := M.pow_le16 hm4
                unfold impl_Func_put.f spec_l01Put.f
                have hc1 : M.valid (a : Int) (b : Int) = true ∧ 0 ≤ (rd_T27 g 0).f0 ∧ (rd_T27 g 0).f0 ≤ 4 ∧ g.length ≤ 4 ∧ (∀ x ∈ g, 0 ≤ x.f1 ∧ x.f1 < 65536) := ⟨hv, by rw [h0a]; omega, by rw [h0a]; omega, hl4, hx⟩
                have hc2 : 0 < (g.length : Int) := by omega
                rw [if_pos hc1, if_pos hc2, h0a]
                have := sput_loop a b m hb6 hm4 g hl4 hx (2 ^ m) k 0 (by omega) (by omega)
                rw [Int.natCast_zero] at this
                rw [show (([] : List Int)) = M.lis 0 (fun r => M.atN b (grow g r)) from rfl, this, Int.toNat_natCast, Int.toNat_natCast]
                exact ⟨_, rfl, rfl⟩
              · rw [if_neg hsame, if_neg hsame]
                exact ⟨_, rfl, rfl⟩
            · rw [if_neg hl, if_pos (by simpa using hl)]
              exact ⟨_, rfl, rfl⟩
        · rw [if_neg (show ¬ (g.all fun x => M.valid x.f0 x.f1) = true from ha), if_neg ha, if_pos (by decide)]
          exact ⟨_, rfl, rfl⟩
      · rw [if_neg hv, if_neg hv]
        simp only [spec_PutFuncs.j0, if_true]
        exact ⟨_, rfl, rfl⟩
    obtain ⟨⟨r1, r2, r3⟩, h1, h2⟩ := e
    refine ⟨1049000, ?_⟩
    unfold laws_FnExactPutFuncs.f laws_toFunc.f laws_eqFunc.f
    rw [szF_eq l (by unfold maxLen at hm; omega), if_pos hlen, Option.bind_some, if_neg (by omega), toF_eq l hlen 1049000 (by omega), hg]
    simp only [Option.bind_some]
    rw [h1, h2]
    simp only [Option.bind_some, bne_self_eq_false, if_true]
    obtain ⟨k, hk⟩ : ∃ k, 1049000 = k + 1 := ⟨1048999, rfl⟩
    rw [hk]
    simp only [laws_FnExactPutFuncs.j0]
    rw [if_neg (by decide), toF_eq l hlen k (by omega), hg, Option.bind_some, eqF_self g hc k (by omega), Option.bind_some, if_pos rfl]
  · refine ⟨0, ?_⟩
    unfold laws_FnExactPutFuncs.f
    rw [szF_eq l (by unfold maxLen at hm; omega), if_neg hlen, Option.bind_some, if_pos (by decide)]

end Go.Proofs.Ytmfkmkjgeibpnaa.Pure
