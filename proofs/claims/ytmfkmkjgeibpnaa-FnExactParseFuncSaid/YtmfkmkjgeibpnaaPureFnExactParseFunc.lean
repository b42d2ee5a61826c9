/- The pure statement of the law FnExactParseFunc: the functions that the program's text comes to answer true at every input. -/
import Derived.Test.YtmfkmkjgeibpnaaPx2
import Derived.Test.YtmfkmkjgeibpnaaPx3
import Derived.Test.YtmfkmkjgeibpnaaPx5
import Derived.Test.YtmfkmkjgeibpnaaPx17
import Derived.Test.YtmfkmkjgeibpnaaPx18
import Derived.Test.YtmfkmkjgeibpnaaLBase
import Derived.Test.YtmfkmkjgeibpnaaLOf
import Derived.Test.YtmfkmkjgeibpnaaLText
import Derived.Test.YtmfkmkjgeibpnaaLParse
namespace Go.Proofs.Ytmfkmkjgeibpnaa.Pure
open Go.RowKit Go.Proofs.Ytmfkmkjgeibpnaa.P Go.Proofs.YtmfkmkjgeibpnaaW.PrintWords Go.Proofs.YtmfkmkjgeibpnaaW.PrintLast Go.Proofs.YtmfkmkjgeibpnaaW.PrintMore
set_option linter.unusedVariables false
set_option linter.unusedSimpArgs false
theorem FnExactParseFunc : ∀ (a0 : ByteArray), a0.size ≤ 140737488351232 → ∃ k, laws_FnExactParseFunc.f k a0 = some true := by
  intro s _
  by_cases hlen : s.size ≤ 1048576
  · have e : ∃ r, spec_ParseFunc.f 200 s = some r ∧ impl_ParseFunc.f 200 s = some r := by
      unfold spec_ParseFunc.f impl_ParseFunc.f
      by_cases ht : IsText s
      · obtain ⟨n, b, hn, hb, rfl⟩ := ht
        rw [sread_yes n b hn hb 200 (by omega), iread_yes n b hn hb 200 (by omega)]
        exact ⟨_, rfl, rfl⟩
      · rw [sread_no s hlen ht 200 (by omega), iread_no s hlen ht 200 (by omega)]
        exact ⟨_, rfl, rfl⟩
    obtain ⟨⟨r1, r2, r3⟩, h1, h2⟩ := e
    refine ⟨200, ?_⟩
    unfold laws_FnExactParseFunc.f laws_eqFunc.f
    rw [if_neg (by omega), h1, h2]
    simp
  · refine ⟨0, ?_⟩
    unfold laws_FnExactParseFunc.f
    rw [if_pos (by omega)]

end Go.Proofs.Ytmfkmkjgeibpnaa.Pure
