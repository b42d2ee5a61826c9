/-
  No cell of these rows narrows 'for every input' (looked for: loops, veiled, ifaces, maps, wideKeys, modest, calm, conditions, laid).
  DERIVED. THE GIVEN ROWS OF THIS SEAT. 12 by the template 'for every input the law returns true; each argument reads behind the call as it read before'; 0 by the template 'total and deterministic' (their statements: YtdlnjbaldfdnpaaTotals.lean).
  GIVEN WITH THE SEED: the statements are not yours to turn. If you find one false, say at which input.
  Laid BY PROGRAM, IN A SANDBOX (cutbox-rows.mjs): the forced cells as the released guide's own fill.sh prints them over the translation 4ea25bc2e955213b… (all of the seat's roots in one cut). By AI agents, Wed Nov 11 2026. No macro, syntax, notation, axiom, sorry.
-/
import Derived.Test.YtdlnjbaldfdnpaaChecked
import GoSem.Claim
import GoSem.ClaimJoined
import GoSem.ClaimMapViews
import Derived.JoinedTies
import Derived.KernelRfl
namespace Go.Proofs.Ytdlnjbaldfdnpaa
/- THE CELL 'sum', in the pinned program and in every row, IS THE sha256 OF THE DUMP (.gsa) THAT YtdlnjbaldfdnpaaProg.lean LOADS. Nothing in Lean hashes anything: it is a label: what it is worth is what the hold of that sum in a sandbox is worth. -/
noncomputable def Try.pinned : Pinned := { name := "ytdlnjbaldfdnpaa", sum := "4ea25bc2e955213bbbeaad7036577290b6b8a2df978c34f5e6752a19d1b669a8", checked := Try.checked }
namespace Rows
def none {H : Type} : Left H := { results := [], args := [] }

/-- 'laws.FnExactShefferFunctions': WHATEVER THE INPUT: true; the input reads as it did. -/
def fnExactShefferFunctionsSpec : ChangeSpec := { name := "fnExactShefferFunctions", fn := fun _ => fun
  | [d] => { results := [.lit (.bool true)], args := [d] }
  | _ => none }
def fnExactShefferFunctionsRow : OpenClaim := { program := "ytdlnjbaldfdnpaa", sum := "4ea25bc2e955213bbbeaad7036577290b6b8a2df978c34f5e6752a19d1b669a8", func := "loop.example/g01323/laws.FnExactShefferFunctions", spec := "fnExactShefferFunctions", unfollowed := true, recurses := true, apart := false }
def FnExactShefferFunctionsSaid : Prop := fnExactShefferFunctionsRow.holds Try.pinned (OpenSpec.ofChange fnExactShefferFunctionsSpec)

/-- ITS FALSE NEIGHBOUR: 'it returns false'. Refute it at one input. -/
def fnExactShefferFunctionsWrong : ChangeSpec := { name := "fnExactShefferFunctions", fn := fun _ => fun
  | [d] => { results := [.lit (.bool false)], args := [d] }
  | _ => none }
def FnExactShefferFunctionsWrongFalsely : Prop := fnExactShefferFunctionsRow.holds Try.pinned (OpenSpec.ofChange fnExactShefferFunctionsWrong)

/-- 'laws.FnExactIsComplete': WHATEVER THE INPUT: true; the input reads as it did. -/
def fnExactIsCompleteSpec : ChangeSpec := { name := "fnExactIsComplete", fn := fun _ => fun
  | [d] => { results := [.lit (.bool true)], args := [d] }
  | _ => none }
def fnExactIsCompleteRow : OpenClaim := { program := "ytdlnjbaldfdnpaa", sum := "4ea25bc2e955213bbbeaad7036577290b6b8a2df978c34f5e6752a19d1b669a8", func := "loop.example/g01323/laws.FnExactIsComplete", spec := "fnExactIsComplete", unfollowed := true, recurses := true, apart := false }
def FnExactIsCompleteSaid : Prop := fnExactIsCompleteRow.holds Try.pinned (OpenSpec.ofChange fnExactIsCompleteSpec)

/-- ITS FALSE NEIGHBOUR: 'it returns false'. Refute it at one input. -/
def fnExactIsCompleteWrong : ChangeSpec := { name := "fnExactIsComplete", fn := fun _ => fun
  | [d] => { results := [.lit (.bool false)], args := [d] }
  | _ => none }
def FnExactIsCompleteWrongFalsely : Prop := fnExactIsCompleteRow.holds Try.pinned (OpenSpec.ofChange fnExactIsCompleteWrong)

/-- 'laws.FnExactDualFormula': WHATEVER THE INPUT: true; the input reads as it did. -/
def fnExactDualFormulaSpec : ChangeSpec := { name := "fnExactDualFormula", fn := fun _ => fun
  | [d] => { results := [.lit (.bool true)], args := [d] }
  | _ => none }
def fnExactDualFormulaRow : OpenClaim := { program := "ytdlnjbaldfdnpaa", sum := "4ea25bc2e955213bbbeaad7036577290b6b8a2df978c34f5e6752a19d1b669a8", func := "loop.example/g01323/laws.FnExactDualFormula", spec := "fnExactDualFormula", inPlace := ["internal/bytealg.IndexByteString", "internal/abi.NoEscape", "internal/bytealg.MakeNoZero"], recurses := true, apart := false }
def FnExactDualFormulaSaid : Prop := fnExactDualFormulaRow.holds Try.pinned (OpenSpec.ofChange fnExactDualFormulaSpec)

/-- ITS FALSE NEIGHBOUR: 'it returns false'. Refute it at one input. -/
def fnExactDualFormulaWrong : ChangeSpec := { name := "fnExactDualFormula", fn := fun _ => fun
  | [d] => { results := [.lit (.bool false)], args := [d] }
  | _ => none }
def FnExactDualFormulaWrongFalsely : Prop := fnExactDualFormulaRow.holds Try.pinned (OpenSpec.ofChange fnExactDualFormulaWrong)

/-- 'laws.FnExactIsFormula': WHATEVER THE INPUT: true; the input reads as it did. -/
def fnExactIsFormulaSpec : ChangeSpec := { name := "fnExactIsFormula", fn := fun _ => fun
  | [d] => { results := [.lit (.bool true)], args := [d] }
  | _ => none }
def fnExactIsFormulaRow : OpenClaim := { program := "ytdlnjbaldfdnpaa", sum := "4ea25bc2e955213bbbeaad7036577290b6b8a2df978c34f5e6752a19d1b669a8", func := "loop.example/g01323/laws.FnExactIsFormula", spec := "fnExactIsFormula", inPlace := ["internal/bytealg.IndexByteString"], recurses := true, apart := false }
def FnExactIsFormulaSaid : Prop := fnExactIsFormulaRow.holds Try.pinned (OpenSpec.ofChange fnExactIsFormulaSpec)

/-- ITS FALSE NEIGHBOUR: 'it returns false'. Refute it at one input. -/
def fnExactIsFormulaWrong : ChangeSpec := { name := "fnExactIsFormula", fn := fun _ => fun
  | [d] => { results := [.lit (.bool false)], args := [d] }
  | _ => none }
def FnExactIsFormulaWrongFalsely : Prop := fnExactIsFormulaRow.holds Try.pinned (OpenSpec.ofChange fnExactIsFormulaWrong)

/-- 'laws.FnExactSizeOfFormula': WHATEVER THE INPUT: true; the input reads as it did. -/
def fnExactSizeOfFormulaSpec : ChangeSpec := { name := "fnExactSizeOfFormula", fn := fun _ => fun
  | [d] => { results := [.lit (.bool true)], args := [d] }
  | _ => none }
def fnExactSizeOfFormulaRow : OpenClaim := { program := "ytdlnjbaldfdnpaa", sum := "4ea25bc2e955213bbbeaad7036577290b6b8a2df978c34f5e6752a19d1b669a8", func := "loop.example/g01323/laws.FnExactSizeOfFormula", spec := "fnExactSizeOfFormula", inPlace := ["internal/bytealg.IndexByteString"], recurses := true, apart := false }
def FnExactSizeOfFormulaSaid : Prop := fnExactSizeOfFormulaRow.holds Try.pinned (OpenSpec.ofChange fnExactSizeOfFormulaSpec)

/-- ITS FALSE NEIGHBOUR: 'it returns false'. Refute it at one input. -/
def fnExactSizeOfFormulaWrong : ChangeSpec := { name := "fnExactSizeOfFormula", fn := fun _ => fun
  | [d] => { results := [.lit (.bool false)], args := [d] }
  | _ => none }
def FnExactSizeOfFormulaWrongFalsely : Prop := fnExactSizeOfFormulaRow.holds Try.pinned (OpenSpec.ofChange fnExactSizeOfFormulaWrong)

/-- 'laws.FnExactDepthOfFormula': WHATEVER THE INPUT: true; the input reads as it did. -/
def fnExactDepthOfFormulaSpec : ChangeSpec := { name := "fnExactDepthOfFormula", fn := fun _ => fun
  | [d] => { results := [.lit (.bool true)], args := [d] }
  | _ => none }
def fnExactDepthOfFormulaRow : OpenClaim := { program := "ytdlnjbaldfdnpaa", sum := "4ea25bc2e955213bbbeaad7036577290b6b8a2df978c34f5e6752a19d1b669a8", func := "loop.example/g01323/laws.FnExactDepthOfFormula", spec := "fnExactDepthOfFormula", inPlace := ["internal/bytealg.IndexByteString"], recurses := true, apart := false }
def FnExactDepthOfFormulaSaid : Prop := fnExactDepthOfFormulaRow.holds Try.pinned (OpenSpec.ofChange fnExactDepthOfFormulaSpec)

/-- ITS FALSE NEIGHBOUR: 'it returns false'. Refute it at one input. -/
def fnExactDepthOfFormulaWrong : ChangeSpec := { name := "fnExactDepthOfFormula", fn := fun _ => fun
  | [d] => { results := [.lit (.bool false)], args := [d] }
  | _ => none }
def FnExactDepthOfFormulaWrongFalsely : Prop := fnExactDepthOfFormulaRow.holds Try.pinned (OpenSpec.ofChange fnExactDepthOfFormulaWrong)

/-- 'laws.FnExactPartsOfFormula': WHATEVER THE INPUT: true; the input reads as it did. -/
def fnExactPartsOfFormulaSpec : ChangeSpec := { name := "fnExactPartsOfFormula", fn := fun _ => fun
  | [d] => { results := [.lit (.bool true)], args := [d] }
  | _ => none }
def fnExactPartsOfFormulaRow : OpenClaim := { program := "ytdlnjbaldfdnpaa", sum := "4ea25bc2e955213bbbeaad7036577290b6b8a2df978c34f5e6752a19d1b669a8", func := "loop.example/g01323/laws.FnExactPartsOfFormula", spec := "fnExactPartsOfFormula", inPlace := ["internal/bytealg.IndexByteString"], recurses := true, apart := false }
def FnExactPartsOfFormulaSaid : Prop := fnExactPartsOfFormulaRow.holds Try.pinned (OpenSpec.ofChange fnExactPartsOfFormulaSpec)

/-- ITS FALSE NEIGHBOUR: 'it returns false'. Refute it at one input. -/
def fnExactPartsOfFormulaWrong : ChangeSpec := { name := "fnExactPartsOfFormula", fn := fun _ => fun
  | [d] => { results := [.lit (.bool false)], args := [d] }
  | _ => none }
def FnExactPartsOfFormulaWrongFalsely : Prop := fnExactPartsOfFormulaRow.holds Try.pinned (OpenSpec.ofChange fnExactPartsOfFormulaWrong)

/-- 'laws.FnExactPutFormulas': WHATEVER THE INPUT: true; the input reads as it did. -/
def fnExactPutFormulasSpec : ChangeSpec := { name := "fnExactPutFormulas", fn := fun _ => fun
  | [d1, d2] => { results := [.lit (.bool true)], args := [d1, d2] }
  | _ => none }
def fnExactPutFormulasRow : OpenClaim := { program := "ytdlnjbaldfdnpaa", sum := "4ea25bc2e955213bbbeaad7036577290b6b8a2df978c34f5e6752a19d1b669a8", func := "loop.example/g01323/laws.FnExactPutFormulas", spec := "fnExactPutFormulas", inPlace := ["internal/bytealg.IndexByteString"], unfollowed := true, recurses := true, apart := false }
def FnExactPutFormulasSaid : Prop := fnExactPutFormulasRow.holds Try.pinned (OpenSpec.ofChange fnExactPutFormulasSpec)

/-- ITS FALSE NEIGHBOUR: 'it returns false'. Refute it at one input. -/
def fnExactPutFormulasWrong : ChangeSpec := { name := "fnExactPutFormulas", fn := fun _ => fun
  | [d1, d2] => { results := [.lit (.bool false)], args := [d1, d2] }
  | _ => none }
def FnExactPutFormulasWrongFalsely : Prop := fnExactPutFormulasRow.holds Try.pinned (OpenSpec.ofChange fnExactPutFormulasWrong)

/-- 'laws.FnExactDerivativeBy': WHATEVER THE INPUT: true; the input reads as it did. -/
def fnExactDerivativeBySpec : ChangeSpec := { name := "fnExactDerivativeBy", fn := fun _ => fun
  | [d1, d2] => { results := [.lit (.bool true)], args := [d1, d2] }
  | _ => none }
def fnExactDerivativeByRow : OpenClaim := { program := "ytdlnjbaldfdnpaa", sum := "4ea25bc2e955213bbbeaad7036577290b6b8a2df978c34f5e6752a19d1b669a8", func := "loop.example/g01323/laws.FnExactDerivativeBy", spec := "fnExactDerivativeBy", unfollowed := true, recurses := true, apart := false }
def FnExactDerivativeBySaid : Prop := fnExactDerivativeByRow.holds Try.pinned (OpenSpec.ofChange fnExactDerivativeBySpec)

/-- ITS FALSE NEIGHBOUR: 'it returns false'. Refute it at one input. -/
def fnExactDerivativeByWrong : ChangeSpec := { name := "fnExactDerivativeBy", fn := fun _ => fun
  | [d1, d2] => { results := [.lit (.bool false)], args := [d1, d2] }
  | _ => none }
def FnExactDerivativeByWrongFalsely : Prop := fnExactDerivativeByRow.holds Try.pinned (OpenSpec.ofChange fnExactDerivativeByWrong)

/-- 'laws.FnExactProductOfFuncs': WHATEVER THE INPUT: true; the input reads as it did. -/
def fnExactProductOfFuncsSpec : ChangeSpec := { name := "fnExactProductOfFuncs", fn := fun _ => fun
  | [d1, d2] => { results := [.lit (.bool true)], args := [d1, d2] }
  | _ => none }
def fnExactProductOfFuncsRow : OpenClaim := { program := "ytdlnjbaldfdnpaa", sum := "4ea25bc2e955213bbbeaad7036577290b6b8a2df978c34f5e6752a19d1b669a8", func := "loop.example/g01323/laws.FnExactProductOfFuncs", spec := "fnExactProductOfFuncs", unfollowed := true, recurses := true, apart := false }
def FnExactProductOfFuncsSaid : Prop := fnExactProductOfFuncsRow.holds Try.pinned (OpenSpec.ofChange fnExactProductOfFuncsSpec)

/-- ITS FALSE NEIGHBOUR: 'it returns false'. Refute it at one input. -/
def fnExactProductOfFuncsWrong : ChangeSpec := { name := "fnExactProductOfFuncs", fn := fun _ => fun
  | [d1, d2] => { results := [.lit (.bool false)], args := [d1, d2] }
  | _ => none }
def FnExactProductOfFuncsWrongFalsely : Prop := fnExactProductOfFuncsRow.holds Try.pinned (OpenSpec.ofChange fnExactProductOfFuncsWrong)

/-- 'laws.FnExactSumOfFuncs': WHATEVER THE INPUT: true; the input reads as it did. -/
def fnExactSumOfFuncsSpec : ChangeSpec := { name := "fnExactSumOfFuncs", fn := fun _ => fun
  | [d1, d2] => { results := [.lit (.bool true)], args := [d1, d2] }
  | _ => none }
def fnExactSumOfFuncsRow : OpenClaim := { program := "ytdlnjbaldfdnpaa", sum := "4ea25bc2e955213bbbeaad7036577290b6b8a2df978c34f5e6752a19d1b669a8", func := "loop.example/g01323/laws.FnExactSumOfFuncs", spec := "fnExactSumOfFuncs", unfollowed := true, recurses := true, apart := false }
def FnExactSumOfFuncsSaid : Prop := fnExactSumOfFuncsRow.holds Try.pinned (OpenSpec.ofChange fnExactSumOfFuncsSpec)

/-- ITS FALSE NEIGHBOUR: 'it returns false'. Refute it at one input. -/
def fnExactSumOfFuncsWrong : ChangeSpec := { name := "fnExactSumOfFuncs", fn := fun _ => fun
  | [d1, d2] => { results := [.lit (.bool false)], args := [d1, d2] }
  | _ => none }
def FnExactSumOfFuncsWrongFalsely : Prop := fnExactSumOfFuncsRow.holds Try.pinned (OpenSpec.ofChange fnExactSumOfFuncsWrong)

/-- 'laws.FnExactIsBalanced': WHATEVER THE INPUT: true; the input reads as it did. -/
def fnExactIsBalancedSpec : ChangeSpec := { name := "fnExactIsBalanced", fn := fun _ => fun
  | [d] => { results := [.lit (.bool true)], args := [d] }
  | _ => none }
def fnExactIsBalancedRow : OpenClaim := { program := "ytdlnjbaldfdnpaa", sum := "4ea25bc2e955213bbbeaad7036577290b6b8a2df978c34f5e6752a19d1b669a8", func := "loop.example/g01323/laws.FnExactIsBalanced", spec := "fnExactIsBalanced", apart := false }
def FnExactIsBalancedSaid : Prop := fnExactIsBalancedRow.holds Try.pinned (OpenSpec.ofChange fnExactIsBalancedSpec)

/-- ITS FALSE NEIGHBOUR: 'it returns false'. Refute it at one input. -/
def fnExactIsBalancedWrong : ChangeSpec := { name := "fnExactIsBalanced", fn := fun _ => fun
  | [d] => { results := [.lit (.bool false)], args := [d] }
  | _ => none }
def FnExactIsBalancedWrongFalsely : Prop := fnExactIsBalancedRow.holds Try.pinned (OpenSpec.ofChange fnExactIsBalancedWrong)

/- THE SECOND FORM. 'bulk': how many values and letters a reading holds, each counted each time it is reached (what is shared counts as often as it is met; a slice's spare places count too). A statement '..UptoSaid' is the law's where the arguments, and the package variables that the reading takes, are together of bulk at most 1048576: NARROWER than '..Said'. Prove '..Said' where nothing that the law and all that it calls make is longer than what came in: it says more and counts as full. Else prove '..UptoSaid'. A law counts once. -/
mutual
def uptoBulk {H : Type} : DataW H → Nat
  | .lit (.string bytes) => bytes.length + 1
  | .lit _ => 1
  | .nil => 1
  | .ptr d => uptoBulk d + 1
  | .slice elems spare => uptoBulkAll elems + uptoBulkAll spare + 1
  | .agg parts => uptoBulkAll parts + 1
  | .iface _ d => uptoBulk d + 1
  | .map entries => uptoBulkEntries entries + 1
  | .held _ => 1
def uptoBulkAll {H : Type} : List (DataW H) → Nat
  | [] => 0
  | d :: r => uptoBulk d + uptoBulkAll r
def uptoBulkEntries {H : Type} : List (Lit × DataW H) → Nat
  | [] => 0
  | x :: r => uptoBulkEntry x + uptoBulkEntries r
def uptoBulkEntry {H : Type} : Lit × DataW H → Nat
  | (.string bytes, d) => bytes.length + uptoBulk d + 1
  | (_, d) => uptoBulk d + 1
 end
def uptoSmall : (H : Type) → List (DataW H) → Bool := fun _ ds => decide (uptoBulkAll ds ≤ 1048576)
def OpenSpec.upto (s : _root_.Go.ChangeSpec) : _root_.Go.OpenSpec := { _root_.Go.OpenSpec.ofChange s with cond := some uptoSmall }

/-- 'laws.FnExactShefferFunctions', WHERE WHAT IT READS IS OF BULK AT MOST 1048576: true; the input reads as it did. -/
def fnExactShefferFunctionsUptoRow : OpenClaim := { program := "ytdlnjbaldfdnpaa", sum := "4ea25bc2e955213bbbeaad7036577290b6b8a2df978c34f5e6752a19d1b669a8", func := "loop.example/g01323/laws.FnExactShefferFunctions", spec := "fnExactShefferFunctions", unfollowed := true, recurses := true, apart := false, narrowed := true }
def FnExactShefferFunctionsUptoSaid : Prop := fnExactShefferFunctionsUptoRow.holds Try.pinned (OpenSpec.upto fnExactShefferFunctionsSpec)

/-- 'laws.FnExactIsComplete', WHERE WHAT IT READS IS OF BULK AT MOST 1048576: true; the input reads as it did. -/
def fnExactIsCompleteUptoRow : OpenClaim := { program := "ytdlnjbaldfdnpaa", sum := "4ea25bc2e955213bbbeaad7036577290b6b8a2df978c34f5e6752a19d1b669a8", func := "loop.example/g01323/laws.FnExactIsComplete", spec := "fnExactIsComplete", unfollowed := true, recurses := true, apart := false, narrowed := true }
def FnExactIsCompleteUptoSaid : Prop := fnExactIsCompleteUptoRow.holds Try.pinned (OpenSpec.upto fnExactIsCompleteSpec)

/-- 'laws.FnExactDualFormula', WHERE WHAT IT READS IS OF BULK AT MOST 1048576: true; the input reads as it did. -/
def fnExactDualFormulaUptoRow : OpenClaim := { program := "ytdlnjbaldfdnpaa", sum := "4ea25bc2e955213bbbeaad7036577290b6b8a2df978c34f5e6752a19d1b669a8", func := "loop.example/g01323/laws.FnExactDualFormula", spec := "fnExactDualFormula", inPlace := ["internal/bytealg.IndexByteString", "internal/abi.NoEscape", "internal/bytealg.MakeNoZero"], recurses := true, apart := false, narrowed := true }
def FnExactDualFormulaUptoSaid : Prop := fnExactDualFormulaUptoRow.holds Try.pinned (OpenSpec.upto fnExactDualFormulaSpec)

/-- 'laws.FnExactIsFormula', WHERE WHAT IT READS IS OF BULK AT MOST 1048576: true; the input reads as it did. -/
def fnExactIsFormulaUptoRow : OpenClaim := { program := "ytdlnjbaldfdnpaa", sum := "4ea25bc2e955213bbbeaad7036577290b6b8a2df978c34f5e6752a19d1b669a8", func := "loop.example/g01323/laws.FnExactIsFormula", spec := "fnExactIsFormula", inPlace := ["internal/bytealg.IndexByteString"], recurses := true, apart := false, narrowed := true }
def FnExactIsFormulaUptoSaid : Prop := fnExactIsFormulaUptoRow.holds Try.pinned (OpenSpec.upto fnExactIsFormulaSpec)

/-- 'laws.FnExactSizeOfFormula', WHERE WHAT IT READS IS OF BULK AT MOST 1048576: true; the input reads as it did. -/
def fnExactSizeOfFormulaUptoRow : OpenClaim := { program := "ytdlnjbaldfdnpaa", sum := "4ea25bc2e955213bbbeaad7036577290b6b8a2df978c34f5e6752a19d1b669a8", func := "loop.example/g01323/laws.FnExactSizeOfFormula", spec := "fnExactSizeOfFormula", inPlace := ["internal/bytealg.IndexByteString"], recurses := true, apart := false, narrowed := true }
def FnExactSizeOfFormulaUptoSaid : Prop := fnExactSizeOfFormulaUptoRow.holds Try.pinned (OpenSpec.upto fnExactSizeOfFormulaSpec)

/-- 'laws.FnExactDepthOfFormula', WHERE WHAT IT READS IS OF BULK AT MOST 1048576: true; the input reads as it did. -/
def fnExactDepthOfFormulaUptoRow : OpenClaim := { program := "ytdlnjbaldfdnpaa", sum := "4ea25bc2e955213bbbeaad7036577290b6b8a2df978c34f5e6752a19d1b669a8", func := "loop.example/g01323/laws.FnExactDepthOfFormula", spec := "fnExactDepthOfFormula", inPlace := ["internal/bytealg.IndexByteString"], recurses := true, apart := false, narrowed := true }
def FnExactDepthOfFormulaUptoSaid : Prop := fnExactDepthOfFormulaUptoRow.holds Try.pinned (OpenSpec.upto fnExactDepthOfFormulaSpec)

/-- 'laws.FnExactPartsOfFormula', WHERE WHAT IT READS IS OF BULK AT MOST 1048576: true; the input reads as it did. -/
def fnExactPartsOfFormulaUptoRow : OpenClaim := { program := "ytdlnjbaldfdnpaa", sum := "4ea25bc2e955213bbbeaad7036577290b6b8a2df978c34f5e6752a19d1b669a8", func := "loop.example/g01323/laws.FnExactPartsOfFormula", spec := "fnExactPartsOfFormula", inPlace := ["internal/bytealg.IndexByteString"], recurses := true, apart := false, narrowed := true }
def FnExactPartsOfFormulaUptoSaid : Prop := fnExactPartsOfFormulaUptoRow.holds Try.pinned (OpenSpec.upto fnExactPartsOfFormulaSpec)

/-- 'laws.FnExactPutFormulas', WHERE WHAT IT READS IS OF BULK AT MOST 1048576: true; the input reads as it did. -/
def fnExactPutFormulasUptoRow : OpenClaim := { program := "ytdlnjbaldfdnpaa", sum := "4ea25bc2e955213bbbeaad7036577290b6b8a2df978c34f5e6752a19d1b669a8", func := "loop.example/g01323/laws.FnExactPutFormulas", spec := "fnExactPutFormulas", inPlace := ["internal/bytealg.IndexByteString"], unfollowed := true, recurses := true, apart := false, narrowed := true }
def FnExactPutFormulasUptoSaid : Prop := fnExactPutFormulasUptoRow.holds Try.pinned (OpenSpec.upto fnExactPutFormulasSpec)

/-- 'laws.FnExactDerivativeBy', WHERE WHAT IT READS IS OF BULK AT MOST 1048576: true; the input reads as it did. -/
def fnExactDerivativeByUptoRow : OpenClaim := { program := "ytdlnjbaldfdnpaa", sum := "4ea25bc2e955213bbbeaad7036577290b6b8a2df978c34f5e6752a19d1b669a8", func := "loop.example/g01323/laws.FnExactDerivativeBy", spec := "fnExactDerivativeBy", unfollowed := true, recurses := true, apart := false, narrowed := true }
def FnExactDerivativeByUptoSaid : Prop := fnExactDerivativeByUptoRow.holds Try.pinned (OpenSpec.upto fnExactDerivativeBySpec)

/-- 'laws.FnExactProductOfFuncs', WHERE WHAT IT READS IS OF BULK AT MOST 1048576: true; the input reads as it did. -/
def fnExactProductOfFuncsUptoRow : OpenClaim := { program := "ytdlnjbaldfdnpaa", sum := "4ea25bc2e955213bbbeaad7036577290b6b8a2df978c34f5e6752a19d1b669a8", func := "loop.example/g01323/laws.FnExactProductOfFuncs", spec := "fnExactProductOfFuncs", unfollowed := true, recurses := true, apart := false, narrowed := true }
def FnExactProductOfFuncsUptoSaid : Prop := fnExactProductOfFuncsUptoRow.holds Try.pinned (OpenSpec.upto fnExactProductOfFuncsSpec)

/-- 'laws.FnExactSumOfFuncs', WHERE WHAT IT READS IS OF BULK AT MOST 1048576: true; the input reads as it did. -/
def fnExactSumOfFuncsUptoRow : OpenClaim := { program := "ytdlnjbaldfdnpaa", sum := "4ea25bc2e955213bbbeaad7036577290b6b8a2df978c34f5e6752a19d1b669a8", func := "loop.example/g01323/laws.FnExactSumOfFuncs", spec := "fnExactSumOfFuncs", unfollowed := true, recurses := true, apart := false, narrowed := true }
def FnExactSumOfFuncsUptoSaid : Prop := fnExactSumOfFuncsUptoRow.holds Try.pinned (OpenSpec.upto fnExactSumOfFuncsSpec)

/-- 'laws.FnExactIsBalanced', WHERE WHAT IT READS IS OF BULK AT MOST 1048576: true; the input reads as it did. -/
def fnExactIsBalancedUptoRow : OpenClaim := { program := "ytdlnjbaldfdnpaa", sum := "4ea25bc2e955213bbbeaad7036577290b6b8a2df978c34f5e6752a19d1b669a8", func := "loop.example/g01323/laws.FnExactIsBalanced", spec := "fnExactIsBalanced", apart := false, narrowed := true }
def FnExactIsBalancedUptoSaid : Prop := fnExactIsBalancedUptoRow.holds Try.pinned (OpenSpec.upto fnExactIsBalancedSpec)

end Rows
end Go.Proofs.Ytdlnjbaldfdnpaa
