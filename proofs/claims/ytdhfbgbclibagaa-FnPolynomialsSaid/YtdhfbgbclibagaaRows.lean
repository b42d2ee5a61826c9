/-
  No cell of these rows narrows 'for every input' (looked for: loops, veiled, ifaces, maps, wideKeys, modest, calm, conditions, laid).
  DERIVED. THE GIVEN ROWS OF THIS SEAT. 12 by the template 'for every input the law returns true; each argument reads behind the call as it read before'; 0 by the template 'total and deterministic' (their statements: YtdhfbgbclibagaaTotals.lean).
  GIVEN WITH THE SEED: the statements are not yours to turn. If you find one false, say at which input.
  Laid BY PROGRAM, IN A SANDBOX (cutbox-rows.mjs): the forced cells as the released guide's own fill.sh prints them over the translation 113fc1d08104bccb… (all of the seat's roots in one cut). By AI agents, Wed Nov 11 2026. No macro, syntax, notation, axiom, sorry.
-/
import Derived.Test.YtdhfbgbclibagaaChecked
import GoSem.Claim
import GoSem.ClaimJoined
import GoSem.ClaimMapViews
import Derived.JoinedTies
import Derived.KernelRfl
namespace Go.Proofs.Ytdhfbgbclibagaa
/- THE CELL 'sum', in the pinned program and in every row, IS THE sha256 OF THE DUMP (.gsa) THAT YtdhfbgbclibagaaProg.lean LOADS. Nothing in Lean hashes anything: it is a label: what it is worth is what the hold of that sum in a sandbox is worth. -/
noncomputable def Try.pinned : Pinned := { name := "ytdhfbgbclibagaa", sum := "113fc1d08104bccb9c31b4eb4f16463aaa7023d49b22280283e5e76715d1be9d", checked := Try.checked }
namespace Rows
def none {H : Type} : Left H := { results := [], args := [] }

/-- 'laws.FnExactCorrelationsOf': WHATEVER THE INPUT: true; the input reads as it did. -/
def fnExactCorrelationsOfSpec : ChangeSpec := { name := "fnExactCorrelationsOf", fn := fun _ => fun
  | [d] => { results := [.lit (.bool true)], args := [d] }
  | _ => none }
def fnExactCorrelationsOfRow : OpenClaim := { program := "ytdhfbgbclibagaa", sum := "113fc1d08104bccb9c31b4eb4f16463aaa7023d49b22280283e5e76715d1be9d", func := "loop.example/g01323/laws.FnExactCorrelationsOf", spec := "fnExactCorrelationsOf", unfollowed := true, recurses := true, apart := false }
def FnExactCorrelationsOfSaid : Prop := fnExactCorrelationsOfRow.holds Try.pinned (OpenSpec.ofChange fnExactCorrelationsOfSpec)

/-- ITS FALSE NEIGHBOUR: 'it returns false'. Refute it at one input. -/
def fnExactCorrelationsOfWrong : ChangeSpec := { name := "fnExactCorrelationsOf", fn := fun _ => fun
  | [d] => { results := [.lit (.bool false)], args := [d] }
  | _ => none }
def FnExactCorrelationsOfWrongFalsely : Prop := fnExactCorrelationsOfRow.holds Try.pinned (OpenSpec.ofChange fnExactCorrelationsOfWrong)

/-- 'laws.FnExactInfluencesOf': WHATEVER THE INPUT: true; the input reads as it did. -/
def fnExactInfluencesOfSpec : ChangeSpec := { name := "fnExactInfluencesOf", fn := fun _ => fun
  | [d] => { results := [.lit (.bool true)], args := [d] }
  | _ => none }
def fnExactInfluencesOfRow : OpenClaim := { program := "ytdhfbgbclibagaa", sum := "113fc1d08104bccb9c31b4eb4f16463aaa7023d49b22280283e5e76715d1be9d", func := "loop.example/g01323/laws.FnExactInfluencesOf", spec := "fnExactInfluencesOf", apart := false }
def FnExactInfluencesOfSaid : Prop := fnExactInfluencesOfRow.holds Try.pinned (OpenSpec.ofChange fnExactInfluencesOfSpec)

/-- ITS FALSE NEIGHBOUR: 'it returns false'. Refute it at one input. -/
def fnExactInfluencesOfWrong : ChangeSpec := { name := "fnExactInfluencesOf", fn := fun _ => fun
  | [d] => { results := [.lit (.bool false)], args := [d] }
  | _ => none }
def FnExactInfluencesOfWrongFalsely : Prop := fnExactInfluencesOfRow.holds Try.pinned (OpenSpec.ofChange fnExactInfluencesOfWrong)

/-- 'laws.FnExactPolynomialOf': WHATEVER THE INPUT: true; the input reads as it did. -/
def fnExactPolynomialOfSpec : ChangeSpec := { name := "fnExactPolynomialOf", fn := fun _ => fun
  | [d] => { results := [.lit (.bool true)], args := [d] }
  | _ => none }
def fnExactPolynomialOfRow : OpenClaim := { program := "ytdhfbgbclibagaa", sum := "113fc1d08104bccb9c31b4eb4f16463aaa7023d49b22280283e5e76715d1be9d", func := "loop.example/g01323/laws.FnExactPolynomialOf", spec := "fnExactPolynomialOf", unfollowed := true, recurses := true, apart := false }
def FnExactPolynomialOfSaid : Prop := fnExactPolynomialOfRow.holds Try.pinned (OpenSpec.ofChange fnExactPolynomialOfSpec)

/-- ITS FALSE NEIGHBOUR: 'it returns false'. Refute it at one input. -/
def fnExactPolynomialOfWrong : ChangeSpec := { name := "fnExactPolynomialOf", fn := fun _ => fun
  | [d] => { results := [.lit (.bool false)], args := [d] }
  | _ => none }
def FnExactPolynomialOfWrongFalsely : Prop := fnExactPolynomialOfRow.holds Try.pinned (OpenSpec.ofChange fnExactPolynomialOfWrong)

/-- 'laws.FnExactImmunityOf': WHATEVER THE INPUT: true; the input reads as it did. -/
def fnExactImmunityOfSpec : ChangeSpec := { name := "fnExactImmunityOf", fn := fun _ => fun
  | [d] => { results := [.lit (.bool true)], args := [d] }
  | _ => none }
def fnExactImmunityOfRow : OpenClaim := { program := "ytdhfbgbclibagaa", sum := "113fc1d08104bccb9c31b4eb4f16463aaa7023d49b22280283e5e76715d1be9d", func := "loop.example/g01323/laws.FnExactImmunityOf", spec := "fnExactImmunityOf", unfollowed := true, recurses := true, apart := false }
def FnExactImmunityOfSaid : Prop := fnExactImmunityOfRow.holds Try.pinned (OpenSpec.ofChange fnExactImmunityOfSpec)

/-- ITS FALSE NEIGHBOUR: 'it returns false'. Refute it at one input. -/
def fnExactImmunityOfWrong : ChangeSpec := { name := "fnExactImmunityOf", fn := fun _ => fun
  | [d] => { results := [.lit (.bool false)], args := [d] }
  | _ => none }
def FnExactImmunityOfWrongFalsely : Prop := fnExactImmunityOfRow.holds Try.pinned (OpenSpec.ofChange fnExactImmunityOfWrong)

/-- 'laws.FnExactAffineDistance': WHATEVER THE INPUT: true; the input reads as it did. -/
def fnExactAffineDistanceSpec : ChangeSpec := { name := "fnExactAffineDistance", fn := fun _ => fun
  | [d] => { results := [.lit (.bool true)], args := [d] }
  | _ => none }
def fnExactAffineDistanceRow : OpenClaim := { program := "ytdhfbgbclibagaa", sum := "113fc1d08104bccb9c31b4eb4f16463aaa7023d49b22280283e5e76715d1be9d", func := "loop.example/g01323/laws.FnExactAffineDistance", spec := "fnExactAffineDistance", unfollowed := true, recurses := true, apart := false }
def FnExactAffineDistanceSaid : Prop := fnExactAffineDistanceRow.holds Try.pinned (OpenSpec.ofChange fnExactAffineDistanceSpec)

/-- ITS FALSE NEIGHBOUR: 'it returns false'. Refute it at one input. -/
def fnExactAffineDistanceWrong : ChangeSpec := { name := "fnExactAffineDistance", fn := fun _ => fun
  | [d] => { results := [.lit (.bool false)], args := [d] }
  | _ => none }
def FnExactAffineDistanceWrongFalsely : Prop := fnExactAffineDistanceRow.holds Try.pinned (OpenSpec.ofChange fnExactAffineDistanceWrong)

/-- 'laws.FnExactIsBent': WHATEVER THE INPUT: true; the input reads as it did. -/
def fnExactIsBentSpec : ChangeSpec := { name := "fnExactIsBent", fn := fun _ => fun
  | [d] => { results := [.lit (.bool true)], args := [d] }
  | _ => none }
def fnExactIsBentRow : OpenClaim := { program := "ytdhfbgbclibagaa", sum := "113fc1d08104bccb9c31b4eb4f16463aaa7023d49b22280283e5e76715d1be9d", func := "loop.example/g01323/laws.FnExactIsBent", spec := "fnExactIsBent", unfollowed := true, recurses := true, apart := false }
def FnExactIsBentSaid : Prop := fnExactIsBentRow.holds Try.pinned (OpenSpec.ofChange fnExactIsBentSpec)

/-- ITS FALSE NEIGHBOUR: 'it returns false'. Refute it at one input. -/
def fnExactIsBentWrong : ChangeSpec := { name := "fnExactIsBent", fn := fun _ => fun
  | [d] => { results := [.lit (.bool false)], args := [d] }
  | _ => none }
def FnExactIsBentWrongFalsely : Prop := fnExactIsBentRow.holds Try.pinned (OpenSpec.ofChange fnExactIsBentWrong)

/-- 'laws.FnExactFuncOfPolynomial': WHATEVER THE INPUT: true; the input reads as it did. -/
def fnExactFuncOfPolynomialSpec : ChangeSpec := { name := "fnExactFuncOfPolynomial", fn := fun _ => fun
  | [d1, d2] => { results := [.lit (.bool true)], args := [d1, d2] }
  | _ => none }
def fnExactFuncOfPolynomialRow : OpenClaim := { program := "ytdhfbgbclibagaa", sum := "113fc1d08104bccb9c31b4eb4f16463aaa7023d49b22280283e5e76715d1be9d", func := "loop.example/g01323/laws.FnExactFuncOfPolynomial", spec := "fnExactFuncOfPolynomial", unfollowed := true, recurses := true, apart := false }
def FnExactFuncOfPolynomialSaid : Prop := fnExactFuncOfPolynomialRow.holds Try.pinned (OpenSpec.ofChange fnExactFuncOfPolynomialSpec)

/-- ITS FALSE NEIGHBOUR: 'it returns false'. Refute it at one input. -/
def fnExactFuncOfPolynomialWrong : ChangeSpec := { name := "fnExactFuncOfPolynomial", fn := fun _ => fun
  | [d1, d2] => { results := [.lit (.bool false)], args := [d1, d2] }
  | _ => none }
def FnExactFuncOfPolynomialWrongFalsely : Prop := fnExactFuncOfPolynomialRow.holds Try.pinned (OpenSpec.ofChange fnExactFuncOfPolynomialWrong)

/-- 'laws.FnExactSpectrumOf': WHATEVER THE INPUT: true; the input reads as it did. -/
def fnExactSpectrumOfSpec : ChangeSpec := { name := "fnExactSpectrumOf", fn := fun _ => fun
  | [d] => { results := [.lit (.bool true)], args := [d] }
  | _ => none }
def fnExactSpectrumOfRow : OpenClaim := { program := "ytdhfbgbclibagaa", sum := "113fc1d08104bccb9c31b4eb4f16463aaa7023d49b22280283e5e76715d1be9d", func := "loop.example/g01323/laws.FnExactSpectrumOf", spec := "fnExactSpectrumOf", unfollowed := true, recurses := true, apart := false }
def FnExactSpectrumOfSaid : Prop := fnExactSpectrumOfRow.holds Try.pinned (OpenSpec.ofChange fnExactSpectrumOfSpec)

/-- ITS FALSE NEIGHBOUR: 'it returns false'. Refute it at one input. -/
def fnExactSpectrumOfWrong : ChangeSpec := { name := "fnExactSpectrumOf", fn := fun _ => fun
  | [d] => { results := [.lit (.bool false)], args := [d] }
  | _ => none }
def FnExactSpectrumOfWrongFalsely : Prop := fnExactSpectrumOfRow.holds Try.pinned (OpenSpec.ofChange fnExactSpectrumOfWrong)

/-- 'laws.FnExactDegreeOfFunc': WHATEVER THE INPUT: true; the input reads as it did. -/
def fnExactDegreeOfFuncSpec : ChangeSpec := { name := "fnExactDegreeOfFunc", fn := fun _ => fun
  | [d] => { results := [.lit (.bool true)], args := [d] }
  | _ => none }
def fnExactDegreeOfFuncRow : OpenClaim := { program := "ytdhfbgbclibagaa", sum := "113fc1d08104bccb9c31b4eb4f16463aaa7023d49b22280283e5e76715d1be9d", func := "loop.example/g01323/laws.FnExactDegreeOfFunc", spec := "fnExactDegreeOfFunc", unfollowed := true, recurses := true, apart := false }
def FnExactDegreeOfFuncSaid : Prop := fnExactDegreeOfFuncRow.holds Try.pinned (OpenSpec.ofChange fnExactDegreeOfFuncSpec)

/-- ITS FALSE NEIGHBOUR: 'it returns false'. Refute it at one input. -/
def fnExactDegreeOfFuncWrong : ChangeSpec := { name := "fnExactDegreeOfFunc", fn := fun _ => fun
  | [d] => { results := [.lit (.bool false)], args := [d] }
  | _ => none }
def FnExactDegreeOfFuncWrongFalsely : Prop := fnExactDegreeOfFuncRow.holds Try.pinned (OpenSpec.ofChange fnExactDegreeOfFuncWrong)

/-- 'laws.FnExactAffinePart': WHATEVER THE INPUT: true; the input reads as it did. -/
def fnExactAffinePartSpec : ChangeSpec := { name := "fnExactAffinePart", fn := fun _ => fun
  | [d] => { results := [.lit (.bool true)], args := [d] }
  | _ => none }
def fnExactAffinePartRow : OpenClaim := { program := "ytdhfbgbclibagaa", sum := "113fc1d08104bccb9c31b4eb4f16463aaa7023d49b22280283e5e76715d1be9d", func := "loop.example/g01323/laws.FnExactAffinePart", spec := "fnExactAffinePart", unfollowed := true, recurses := true, apart := false }
def FnExactAffinePartSaid : Prop := fnExactAffinePartRow.holds Try.pinned (OpenSpec.ofChange fnExactAffinePartSpec)

/-- ITS FALSE NEIGHBOUR: 'it returns false'. Refute it at one input. -/
def fnExactAffinePartWrong : ChangeSpec := { name := "fnExactAffinePart", fn := fun _ => fun
  | [d] => { results := [.lit (.bool false)], args := [d] }
  | _ => none }
def FnExactAffinePartWrongFalsely : Prop := fnExactAffinePartRow.holds Try.pinned (OpenSpec.ofChange fnExactAffinePartWrong)

/-- 'laws.FnSpectrum': WHATEVER THE INPUT: true; the input reads as it did. -/
def fnSpectrumSpec : ChangeSpec := { name := "fnSpectrum", fn := fun _ => fun
  | [d] => { results := [.lit (.bool true)], args := [d] }
  | _ => none }
def fnSpectrumRow : OpenClaim := { program := "ytdhfbgbclibagaa", sum := "113fc1d08104bccb9c31b4eb4f16463aaa7023d49b22280283e5e76715d1be9d", func := "loop.example/g01323/laws.FnSpectrum", spec := "fnSpectrum", unfollowed := true, recurses := true, apart := false }
def FnSpectrumSaid : Prop := fnSpectrumRow.holds Try.pinned (OpenSpec.ofChange fnSpectrumSpec)

/-- ITS FALSE NEIGHBOUR: 'it returns false'. Refute it at one input. -/
def fnSpectrumWrong : ChangeSpec := { name := "fnSpectrum", fn := fun _ => fun
  | [d] => { results := [.lit (.bool false)], args := [d] }
  | _ => none }
def FnSpectrumWrongFalsely : Prop := fnSpectrumRow.holds Try.pinned (OpenSpec.ofChange fnSpectrumWrong)

/-- 'laws.FnPolynomials': WHATEVER THE INPUT: true; the input reads as it did. -/
def fnPolynomialsSpec : ChangeSpec := { name := "fnPolynomials", fn := fun _ => fun
  | [d] => { results := [.lit (.bool true)], args := [d] }
  | _ => none }
def fnPolynomialsRow : OpenClaim := { program := "ytdhfbgbclibagaa", sum := "113fc1d08104bccb9c31b4eb4f16463aaa7023d49b22280283e5e76715d1be9d", func := "loop.example/g01323/laws.FnPolynomials", spec := "fnPolynomials", unfollowed := true, recurses := true, apart := false }
def FnPolynomialsSaid : Prop := fnPolynomialsRow.holds Try.pinned (OpenSpec.ofChange fnPolynomialsSpec)

/-- ITS FALSE NEIGHBOUR: 'it returns false'. Refute it at one input. -/
def fnPolynomialsWrong : ChangeSpec := { name := "fnPolynomials", fn := fun _ => fun
  | [d] => { results := [.lit (.bool false)], args := [d] }
  | _ => none }
def FnPolynomialsWrongFalsely : Prop := fnPolynomialsRow.holds Try.pinned (OpenSpec.ofChange fnPolynomialsWrong)

/- THE SECOND FORM. 'bulk': how many values and letters a reading holds, each counted each time it is reached (what is shared counts as often as it is met; a slice's spare places count too). A statement '..UptoSaid' is the law's where the arguments, and the package variables that the reading takes, are together of bulk at most 1048576: NARROWER than '..Said'. Prove '..Said' where nothing that the law and all that it calls make is longer than what came in: it says more and counts as full. Else prove '..UptoSaid'. A law counts once. -/
mutual
def uptoBulk {H : Type} : DataW H → Nat
  | .lit (.string bytes) => bytes.length + 1
  | .lit _ => 1
  | .nil => 1
  | .ptr d => uptoBulk d + 1
  | .slice elems spare => uptoBulkAll elems + uptoBulkAll spare + 1
  | .agg parts => uptoBulkAll parts + 1
  | .iface _ d => uptoBulk d + 1
  | .map entries => uptoBulkEntries entries + 1
  | .held _ => 1
def uptoBulkAll {H : Type} : List (DataW H) → Nat
  | [] => 0
  | d :: r => uptoBulk d + uptoBulkAll r
def uptoBulkEntries {H : Type} : List (Lit × DataW H) → Nat
  | [] => 0
  | x :: r => uptoBulkEntry x + uptoBulkEntries r
def uptoBulkEntry {H : Type} : Lit × DataW H → Nat
  | (.string bytes, d) => bytes.length + uptoBulk d + 1
  | (_, d) => uptoBulk d + 1
 end
def uptoSmall : (H : Type) → List (DataW H) → Bool := fun _ ds => decide (uptoBulkAll ds ≤ 1048576)
def OpenSpec.upto (s : _root_.Go.ChangeSpec) : _root_.Go.OpenSpec := { _root_.Go.OpenSpec.ofChange s with cond := some uptoSmall }

/-- 'laws.FnExactCorrelationsOf', WHERE WHAT IT READS IS OF BULK AT MOST 1048576: true; the input reads as it did. -/
def fnExactCorrelationsOfUptoRow : OpenClaim := { program := "ytdhfbgbclibagaa", sum := "113fc1d08104bccb9c31b4eb4f16463aaa7023d49b22280283e5e76715d1be9d", func := "loop.example/g01323/laws.FnExactCorrelationsOf", spec := "fnExactCorrelationsOf", unfollowed := true, recurses := true, apart := false, narrowed := true }
def FnExactCorrelationsOfUptoSaid : Prop := fnExactCorrelationsOfUptoRow.holds Try.pinned (OpenSpec.upto fnExactCorrelationsOfSpec)

/-- 'laws.FnExactInfluencesOf', WHERE WHAT IT READS IS OF BULK AT MOST 1048576: true; the input reads as it did. -/
def fnExactInfluencesOfUptoRow : OpenClaim := { program := "ytdhfbgbclibagaa", sum := "113fc1d08104bccb9c31b4eb4f16463aaa7023d49b22280283e5e76715d1be9d", func := "loop.example/g01323/laws.FnExactInfluencesOf", spec := "fnExactInfluencesOf", apart := false, narrowed := true }
def FnExactInfluencesOfUptoSaid : Prop := fnExactInfluencesOfUptoRow.holds Try.pinned (OpenSpec.upto fnExactInfluencesOfSpec)

/-- 'laws.FnExactPolynomialOf', WHERE WHAT IT READS IS OF BULK AT MOST 1048576: true; the input reads as it did. -/
def fnExactPolynomialOfUptoRow : OpenClaim := { program := "ytdhfbgbclibagaa", sum := "113fc1d08104bccb9c31b4eb4f16463aaa7023d49b22280283e5e76715d1be9d", func := "loop.example/g01323/laws.FnExactPolynomialOf", spec := "fnExactPolynomialOf", unfollowed := true, recurses := true, apart := false, narrowed := true }
def FnExactPolynomialOfUptoSaid : Prop := fnExactPolynomialOfUptoRow.holds Try.pinned (OpenSpec.upto fnExactPolynomialOfSpec)

/-- 'laws.FnExactImmunityOf', WHERE WHAT IT READS IS OF BULK AT MOST 1048576: true; the input reads as it did. -/
def fnExactImmunityOfUptoRow : OpenClaim := { program := "ytdhfbgbclibagaa", sum := "113fc1d08104bccb9c31b4eb4f16463aaa7023d49b22280283e5e76715d1be9d", func := "loop.example/g01323/laws.FnExactImmunityOf", spec := "fnExactImmunityOf", unfollowed := true, recurses := true, apart := false, narrowed := true }
def FnExactImmunityOfUptoSaid : Prop := fnExactImmunityOfUptoRow.holds Try.pinned (OpenSpec.upto fnExactImmunityOfSpec)

/-- 'laws.FnExactAffineDistance', WHERE WHAT IT READS IS OF BULK AT MOST 1048576: true; the input reads as it did. -/
def fnExactAffineDistanceUptoRow : OpenClaim := { program := "ytdhfbgbclibagaa", sum := "113fc1d08104bccb9c31b4eb4f16463aaa7023d49b22280283e5e76715d1be9d", func := "loop.example/g01323/laws.FnExactAffineDistance", spec := "fnExactAffineDistance", unfollowed := true, recurses := true, apart := false, narrowed := true }
def FnExactAffineDistanceUptoSaid : Prop := fnExactAffineDistanceUptoRow.holds Try.pinned (OpenSpec.upto fnExactAffineDistanceSpec)

/-- 'laws.FnExactIsBent', WHERE WHAT IT READS IS OF BULK AT MOST 1048576: true; the input reads as it did. -/
def fnExactIsBentUptoRow : OpenClaim := { program := "ytdhfbgbclibagaa", sum := "113fc1d08104bccb9c31b4eb4f16463aaa7023d49b22280283e5e76715d1be9d", func := "loop.example/g01323/laws.FnExactIsBent", spec := "fnExactIsBent", unfollowed := true, recurses := true, apart := false, narrowed := true }
def FnExactIsBentUptoSaid : Prop := fnExactIsBentUptoRow.holds Try.pinned (OpenSpec.upto fnExactIsBentSpec)

/-- 'laws.FnExactFuncOfPolynomial', WHERE WHAT IT READS IS OF BULK AT MOST 1048576: true; the input reads as it did. -/
def fnExactFuncOfPolynomialUptoRow : OpenClaim := { program := "ytdhfbgbclibagaa", sum := "113fc1d08104bccb9c31b4eb4f16463aaa7023d49b22280283e5e76715d1be9d", func := "loop.example/g01323/laws.FnExactFuncOfPolynomial", spec := "fnExactFuncOfPolynomial", unfollowed := true, recurses := true, apart := false, narrowed := true }
def FnExactFuncOfPolynomialUptoSaid : Prop := fnExactFuncOfPolynomialUptoRow.holds Try.pinned (OpenSpec.upto fnExactFuncOfPolynomialSpec)

/-- 'laws.FnExactSpectrumOf', WHERE WHAT IT READS IS OF BULK AT MOST 1048576: true; the input reads as it did. -/
def fnExactSpectrumOfUptoRow : OpenClaim := { program := "ytdhfbgbclibagaa", sum := "113fc1d08104bccb9c31b4eb4f16463aaa7023d49b22280283e5e76715d1be9d", func := "loop.example/g01323/laws.FnExactSpectrumOf", spec := "fnExactSpectrumOf", unfollowed := true, recurses := true, apart := false, narrowed := true }
def FnExactSpectrumOfUptoSaid : Prop := fnExactSpectrumOfUptoRow.holds Try.pinned (OpenSpec.upto fnExactSpectrumOfSpec)

/-- 'laws.FnExactDegreeOfFunc', WHERE WHAT IT READS IS OF BULK AT MOST 1048576: true; the input reads as it did. -/
def fnExactDegreeOfFuncUptoRow : OpenClaim := { program := "ytdhfbgbclibagaa", sum := "113fc1d08104bccb9c31b4eb4f16463aaa7023d49b22280283e5e76715d1be9d", func := "loop.example/g01323/laws.FnExactDegreeOfFunc", spec := "fnExactDegreeOfFunc", unfollowed := true, recurses := true, apart := false, narrowed := true }
def FnExactDegreeOfFuncUptoSaid : Prop := fnExactDegreeOfFuncUptoRow.holds Try.pinned (OpenSpec.upto fnExactDegreeOfFuncSpec)

/-- 'laws.FnExactAffinePart', WHERE WHAT IT READS IS OF BULK AT MOST 1048576: true; the input reads as it did. -/
def fnExactAffinePartUptoRow : OpenClaim := { program := "ytdhfbgbclibagaa", sum := "113fc1d08104bccb9c31b4eb4f16463aaa7023d49b22280283e5e76715d1be9d", func := "loop.example/g01323/laws.FnExactAffinePart", spec := "fnExactAffinePart", unfollowed := true, recurses := true, apart := false, narrowed := true }
def FnExactAffinePartUptoSaid : Prop := fnExactAffinePartUptoRow.holds Try.pinned (OpenSpec.upto fnExactAffinePartSpec)

/-- 'laws.FnSpectrum', WHERE WHAT IT READS IS OF BULK AT MOST 1048576: true; the input reads as it did. -/
def fnSpectrumUptoRow : OpenClaim := { program := "ytdhfbgbclibagaa", sum := "113fc1d08104bccb9c31b4eb4f16463aaa7023d49b22280283e5e76715d1be9d", func := "loop.example/g01323/laws.FnSpectrum", spec := "fnSpectrum", unfollowed := true, recurses := true, apart := false, narrowed := true }
def FnSpectrumUptoSaid : Prop := fnSpectrumUptoRow.holds Try.pinned (OpenSpec.upto fnSpectrumSpec)

/-- 'laws.FnPolynomials', WHERE WHAT IT READS IS OF BULK AT MOST 1048576: true; the input reads as it did. -/
def fnPolynomialsUptoRow : OpenClaim := { program := "ytdhfbgbclibagaa", sum := "113fc1d08104bccb9c31b4eb4f16463aaa7023d49b22280283e5e76715d1be9d", func := "loop.example/g01323/laws.FnPolynomials", spec := "fnPolynomials", unfollowed := true, recurses := true, apart := false, narrowed := true }
def FnPolynomialsUptoSaid : Prop := fnPolynomialsUptoRow.holds Try.pinned (OpenSpec.upto fnPolynomialsSpec)

end Rows
end Go.Proofs.Ytdhfbgbclibagaa
