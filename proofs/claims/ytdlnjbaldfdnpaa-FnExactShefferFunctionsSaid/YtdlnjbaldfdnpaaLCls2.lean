/- Functions that are such, counted; the classes of a list of one function. -/
import Derived.Test.YtdlnjbaldfdnpaaPx0
import Derived.Test.YtdlnjbaldfdnpaaPx1
import Derived.Test.YtdlnjbaldfdnpaaPx7
import Derived.Test.YtdlnjbaldfdnpaaPx10
import Derived.Test.YtdlnjbaldfdnpaaCls
import Derived.Test.YtdlnjbaldfdnpaaLBase
import Derived.Test.YtdlnjbaldfdnpaaLClass
namespace Go.Proofs.Ytdlnjbaldfdnpaa.Pure
open Go.RowKit Go.Proofs.Ytdlnjbaldfdnpaa.P Go.Proofs.YtdlnjbaldfdnpaaW.PrintWords Go.Proofs.YtdlnjbaldfdnpaaW.PrintLast Go.Proofs.YtdlnjbaldfdnpaaW.PrintMore
set_option linter.unusedVariables false
set_option linter.unusedSimpArgs false
def cntP (p : Nat → Bool) (m : Nat) : Nat := ((List.range m).filter p).length
theorem cntP_le (p : Nat → Bool) (m : Nat) : cntP p m ≤ m := by
  unfold cntP
  exact Nat.le_trans (List.length_filter_le _ _) (by simp)
theorem cntP_true (p : Nat → Bool) (m : Nat) (h : p m = true) : cntP p (m + 1) = cntP p m + 1 := by simp [cntP, List.range_succ, h]
theorem cntP_false (p : Nat → Bool) (m : Nat) (h : p m = false) : cntP p (m + 1) = cntP p m := by simp [cntP, List.range_succ, h]
theorem cntP_congr (p q : Nat → Bool) (m : Nat) (h : ∀ b, b < m → p b = q b) : cntP p m = cntP q m := by
  unfold cntP
  rw [List.filter_congr (fun b hb => h b (List.mem_range.1 hb))]
end Go.Proofs.Ytdlnjbaldfdnpaa.Pure
