/- The pure statement of the law FnExactPartsOfFormula: the functions that the program's text comes to answer true at every input. -/
import Derived.Test.YtdlnjbaldfdnpaaPx4
import Derived.Test.YtdlnjbaldfdnpaaPx5
import Derived.Test.YtdlnjbaldfdnpaaPx15
import Derived.Test.YtdlnjbaldfdnpaaPx18
import Derived.Test.YtdlnjbaldfdnpaaPx20
import Derived.Test.YtdlnjbaldfdnpaaPx21
import Derived.Test.YtdlnjbaldfdnpaaLBase
import Derived.Test.YtdlnjbaldfdnpaaLForm
import Derived.Test.YtdlnjbaldfdnpaaLFormB
import Derived.Test.YtdlnjbaldfdnpaaLFormC
import Derived.Test.YtdlnjbaldfdnpaaLStrs
namespace Go.Proofs.Ytdlnjbaldfdnpaa.Pure
open Go.RowKit Go.Proofs.Ytdlnjbaldfdnpaa.P Go.Proofs.YtdlnjbaldfdnpaaW.PrintWords Go.Proofs.YtdlnjbaldfdnpaaW.PrintLast Go.Proofs.YtdlnjbaldfdnpaaW.PrintMore
set_option linter.unusedVariables false
set_option linter.unusedSimpArgs false
theorem FnExactPartsOfFormula : ∀ (a0 : ByteArray), a0.size ≤ 140737488351232 → ∃ k, laws_FnExactPartsOfFormula.f k a0 = some true := by
  intro s _
  by_cases hlen : s.size ≤ 1048576
  · have e : ∃ l c, spec_PartsOfFormula.f 1000 s = some (l, c) ∧ (∀ k, 600 ≤ k → impl_PartsOfFormula.f k s = some (l, c)) ∧ l.length ≤ 8 := by
      rcases parse_both s 1000 600 (by omega) (by omega) with ⟨h1, _, _, h2⟩ | ⟨t, hw, hb, h60, h1, h2⟩
      · refine ⟨[], 6, ?_, ?_, by simp⟩
        · unfold spec_PartsOfFormula.f
          rw [h1]
          rfl
        · intro k hk
          unfold impl_PartsOfFormula.f
          rcases parse_both s 1000 k (by omega) hk with ⟨_, _, _, h3⟩ | ⟨_, _, _, _, h3, _⟩
          · rw [h3]; rfl
          · rw [h1] at h3; exact absurd (Option.some.inj h3) (by decide)
      · have hl : (txt t).length ≤ 60 := by rw [← hb, bs_length]; exact h60
        have hpl := plc_le t.f0
        have hwl := ((WF_eq t).1 hw).1
        refine ⟨t.f1.map str, 0, ?_, ?_, by simp; omega⟩
        · unfold spec_PartsOfFormula.f
          rw [h1, Option.bind_some, if_pos rfl, str_eq s t hw hb, parts_eq t hw (by omega) 1000 (by omega)]
          rfl
        · intro k hk
          unfold impl_PartsOfFormula.f
          rcases parse_both s 1000 k (by omega) hk with ⟨h3, _⟩ | ⟨t2, hw2, hb2, _, _, h3⟩
          · rw [h1] at h3; exact absurd (Option.some.inj h3) (by decide)
          · have e2 : t2.f1.map ftxt = t.f1.map str := by
              have hk2 := parts_eq t hw (by omega) 1000 (by omega)
              have hl2 : (txt t2).length ≤ 60 := by rw [← hb2, bs_length]; exact h60
              have hk3 := parts_eq t2 hw2 (by omega) 1000 (by omega)
              rw [← str_eq s t hw hb] at hk2
              rw [← str_eq s t2 hw2 hb2, hk2] at hk3
              rw [Option.some.inj hk3]
              exact List.map_congr_left fun x _ => ftxt_str x
            have hl2 : (txt t2).length ≤ 60 := by rw [← hb2, bs_length]; exact h60
            rw [h3, Option.bind_some]
            simp only [if_true, tree_eta]
            rw [if_pos (by rw [flen_txt]; omega), e2]
    obtain ⟨l, c, h1, h2, hl⟩ := e
    refine ⟨1000, ?_⟩
    unfold laws_FnExactPartsOfFormula.f
    rw [if_neg (by omega), h1, h2 1000 (by omega)]
    simp only [Option.bind_some]
    rw [eqS_self l (by omega) 1000 (by omega)]
    simp only [Option.bind_some, if_true, bne_self_eq_false]
    obtain ⟨k, hk⟩ : ∃ k, 1000 = k + 1 + 1 := ⟨998, rfl⟩
    rw [hk]
    simp only [laws_FnExactPartsOfFormula.j0]
    rw [if_neg (by decide), markS_eq l (by omega) (k + 1) (by omega)]
    simp only [Option.bind_some]
    rw [heldS_eq _ (by omega) (k + 1) (by omega), Option.bind_some, if_neg (by omega), if_pos rfl, h2 (k + 1) (by omega), Option.bind_some, eqS_self l (by omega) (k + 1) (by omega), Option.bind_some, if_pos rfl]
    simp only [laws_FnExactPartsOfFormula.j1, bne_self_eq_false]
    rw [if_neg (by decide), heldS_eq _ (by omega) k (by omega), Option.bind_some, if_neg (by omega), if_pos rfl]
  · refine ⟨0, ?_⟩
    unfold laws_FnExactPartsOfFormula.f
    rw [if_pos (by omega)]

end Go.Proofs.Ytdlnjbaldfdnpaa.Pure
