/- The pure statement of the law FnExactPutFormulas: the functions that the program's text comes to answer true at every input. -/
import Derived.Test.YtdlnjbaldfdnpaaPx4
import Derived.Test.YtdlnjbaldfdnpaaPx5
import Derived.Test.YtdlnjbaldfdnpaaPx15
import Derived.Test.YtdlnjbaldfdnpaaPx16
import Derived.Test.YtdlnjbaldfdnpaaPx20
import Derived.Test.YtdlnjbaldfdnpaaPx22
import Derived.Test.YtdlnjbaldfdnpaaPx23
import Derived.Test.YtdlnjbaldfdnpaaLBase
import Derived.Test.YtdlnjbaldfdnpaaLForm
import Derived.Test.YtdlnjbaldfdnpaaLFormB
import Derived.Test.YtdlnjbaldfdnpaaLFormC
import Derived.Test.YtdlnjbaldfdnpaaLStrs
namespace Go.Proofs.Ytdlnjbaldfdnpaa.Pure
open Go.RowKit Go.Proofs.Ytdlnjbaldfdnpaa.P Go.Proofs.YtdlnjbaldfdnpaaW.PrintWords Go.Proofs.YtdlnjbaldfdnpaaW.PrintLast Go.Proofs.YtdlnjbaldfdnpaaW.PrintMore
set_option linter.unusedVariables false
set_option linter.unusedSimpArgs false
theorem FnExactPutFormulas : ∀ (a0 : ByteArray) (l1 : List ByteArray), a0.size ≤ 140737488351232 → l1.length ≤ maxLen → l1.length * 16 ≤ 140737488351232 → (∀ x ∈ l1, x.size ≤ 140737488351232) → ∃ k, laws_FnExactPutFormulas.f k a0 l1 = some true := by
  intro s l _ hm _ hsz
  by_cases hlen : s.size ≤ 1048576
  · refine ⟨3000000, ?_⟩
    unfold laws_FnExactPutFormulas.f
    rw [if_neg (by omega)]
    rcases szS_eq l (by unfold maxLen at hm; omega) hsz 3000000 (by omega) with ⟨hll, v, hv⟩ | hv
    · rw [hv, Option.bind_some]
      by_cases hv0 : v < 0
      · rw [if_pos hv0]
      · rw [if_neg hv0, toS_eq l hll 3000000 (by omega)]
        have e : ∃ r, spec_PutFormulas.f 3000000 s l = some r ∧ impl_PutFormulas.f 3000000 s l = some r := by
          unfold spec_PutFormulas.f impl_PutFormulas.f
          have hb := isFm_both s 3000000 (by omega)
          rw [hb.1, hb.2.1]
          simp only [Option.bind_some]
          cases hf : isFm s with
          | false =>
            rw [if_neg (by decide), if_neg (by decide)]
            exact ⟨_, rfl, rfl⟩
          | true =>
            rw [if_pos rfl, if_pos rfl]
            have hq : ∀ x, impl_IsFormula.f 3000000 x = some (isFm x) := fun x => (isFm_both x 3000000 (by omega)).2.1
            have hisF : ∀ x, isF 3000000 x = isFm x := fun x => by unfold isF; rw [hq x]; cases isFm x <;> rfl
            have hc : l.length ≤ 1048576 ∧ (∀ x ∈ l, (impl_IsFormula.f 3000000 x).isSome = true) := ⟨hll, fun x _ => by rw [hq x]; rfl⟩
            rw [if_pos hc]
            have hs := sput_ask_loop s l hll l.length (3000000 - l.length - 1) 0 (by omega) (by omega)
            rw [show 3000000 - l.length - 1 + l.length + 1 = 3000000 from by omega, Int.natCast_zero, List.drop_zero] at hs
            rw [hs]
            by_cases hall : l.all isFm = true
            · have hany : ¬ (l.any fun x => !(isF 3000000 x)) = true := by
                intro h
                obtain ⟨x, hx, h⟩ := List.any_eq_true.1 h
                rw [hisF x, List.all_eq_true.1 hall x hx] at h
                exact absurd h (by decide)
              rw [if_pos hall, if_neg hany]
              by_cases h4 : l.length = 4
              · have hx : ∀ x ∈ l, x.size ≤ 1048576 := fun x hx => by
                  have := (isFm_both x 3000000 (by omega)).2.2 (List.all_eq_true.1 hall x hx)
                  omega
                have h4i : (l.length : Int) = 4 := by omega
                rw [if_pos h4i, if_pos h4, if_pos ⟨hlen, hx⟩]
                have := sput_form_loop s l h4 hx hlen s.size (3000000 - l.length - 1) 0 (by omega) (by omega)
                rw [Int.natCast_zero, show putN s l 0 = (⟨#[]⟩ : ByteArray) from rfl] at this
                rw [this]
                unfold impl_limited.f
                split
                · exact ⟨_, rfl, rfl⟩
                · exact ⟨_, rfl, rfl⟩
              · have h4i : ¬ (l.length : Int) = 4 := by omega
                rw [if_neg h4i, if_neg h4]
                exact ⟨_, rfl, rfl⟩
            · have hany : (l.any fun x => !(isF 3000000 x)) = true := by
                rw [List.any_eq_true]
                simp only [Bool.not_eq_true] at hall
                obtain ⟨x, hx, h⟩ := List.all_eq_false.1 hall
                refine ⟨x, hx, ?_⟩
                rw [hisF x]
                simpa using h
              rw [if_neg hall, if_pos hany]
              exact ⟨_, rfl, rfl⟩
        obtain ⟨⟨r1, r2⟩, h1, h2⟩ := e
        simp only [Option.bind_some]
        rw [h1, h2]
        simp only [Option.bind_some, if_true, bne_self_eq_false]
        obtain ⟨k, hk⟩ : ∃ k, 3000000 = k + 1 := ⟨2999999, rfl⟩
        rw [hk]
        simp only [laws_FnExactPutFormulas.j0]
        rw [if_neg (by decide), toS_eq l hll k (by omega), Option.bind_some, eqS_self l hll k (by omega), Option.bind_some, if_pos rfl]
    · rw [hv, Option.bind_some, if_pos (by decide)]
  · refine ⟨0, ?_⟩
    unfold laws_FnExactPutFormulas.f
    rw [if_pos (by omega)]

end Go.Proofs.Ytdlnjbaldfdnpaa.Pure
