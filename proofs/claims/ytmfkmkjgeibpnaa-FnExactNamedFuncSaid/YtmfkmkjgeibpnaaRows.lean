/-
  No cell of these rows narrows 'for every input' (looked for: loops, veiled, ifaces, maps, wideKeys, modest, calm, conditions, laid).
  DERIVED. THE GIVEN ROWS OF THIS SEAT. 12 by the template 'for every input the law returns true; each argument reads behind the call as it read before'; 0 by the template 'total and deterministic' (their statements: YtmfkmkjgeibpnaaTotals.lean).
  GIVEN WITH THE SEED: the statements are not yours to turn. If you find one false, say at which input.
  Laid BY PROGRAM, IN A SANDBOX (cutbox-rows.mjs): the forced cells as the released guide's own fill.sh prints them over the translation 620afe1bd802856b… (all of the seat's roots in one cut). By AI agents, Wed Nov 11 2026. No macro, syntax, notation, axiom, sorry.
-/
import Derived.Test.YtmfkmkjgeibpnaaChecked
import GoSem.Claim
import GoSem.ClaimJoined
import GoSem.ClaimMapViews
import Derived.JoinedTies
import Derived.KernelRfl
namespace Go.Proofs.Ytmfkmkjgeibpnaa
/- THE CELL 'sum', in the pinned program and in every row, IS THE sha256 OF THE DUMP (.gsa) THAT YtmfkmkjgeibpnaaProg.lean LOADS. Nothing in Lean hashes anything: it is a label: what it is worth is what the hold of that sum in a sandbox is worth. -/
noncomputable def Try.pinned : Pinned := { name := "ytmfkmkjgeibpnaa", sum := "620afe1bd802856bdf5b0ef69bffe0b3b2dad6a8f17a65a7e802363a3cfbf1b8", checked := Try.checked }
namespace Rows
def none {H : Type} : Left H := { results := [], args := [] }

/-- 'laws.FnExactValueAt': WHATEVER THE INPUT: true; the input reads as it did. -/
def fnExactValueAtSpec : ChangeSpec := { name := "fnExactValueAt", fn := fun _ => fun
  | [d1, d2] => { results := [.lit (.bool true)], args := [d1, d2] }
  | _ => none }
def fnExactValueAtRow : OpenClaim := { program := "ytmfkmkjgeibpnaa", sum := "620afe1bd802856bdf5b0ef69bffe0b3b2dad6a8f17a65a7e802363a3cfbf1b8", func := "loop.example/g01323/laws.FnExactValueAt", spec := "fnExactValueAt", unfollowed := true, recurses := true, apart := false }
def FnExactValueAtSaid : Prop := fnExactValueAtRow.holds Try.pinned (OpenSpec.ofChange fnExactValueAtSpec)

/-- ITS FALSE NEIGHBOUR: 'it returns false'. Refute it at one input. -/
def fnExactValueAtWrong : ChangeSpec := { name := "fnExactValueAt", fn := fun _ => fun
  | [d1, d2] => { results := [.lit (.bool false)], args := [d1, d2] }
  | _ => none }
def FnExactValueAtWrongFalsely : Prop := fnExactValueAtRow.holds Try.pinned (OpenSpec.ofChange fnExactValueAtWrong)

/-- 'laws.FnExactFixVariable': WHATEVER THE INPUT: true; the input reads as it did. -/
def fnExactFixVariableSpec : ChangeSpec := { name := "fnExactFixVariable", fn := fun _ => fun
  | [d1, d2, d3] => { results := [.lit (.bool true)], args := [d1, d2, d3] }
  | _ => none }
def fnExactFixVariableRow : OpenClaim := { program := "ytmfkmkjgeibpnaa", sum := "620afe1bd802856bdf5b0ef69bffe0b3b2dad6a8f17a65a7e802363a3cfbf1b8", func := "loop.example/g01323/laws.FnExactFixVariable", spec := "fnExactFixVariable", unfollowed := true, recurses := true, apart := false }
def FnExactFixVariableSaid : Prop := fnExactFixVariableRow.holds Try.pinned (OpenSpec.ofChange fnExactFixVariableSpec)

/-- ITS FALSE NEIGHBOUR: 'it returns false'. Refute it at one input. -/
def fnExactFixVariableWrong : ChangeSpec := { name := "fnExactFixVariable", fn := fun _ => fun
  | [d1, d2, d3] => { results := [.lit (.bool false)], args := [d1, d2, d3] }
  | _ => none }
def FnExactFixVariableWrongFalsely : Prop := fnExactFixVariableRow.holds Try.pinned (OpenSpec.ofChange fnExactFixVariableWrong)

/-- 'laws.FnExactCoreOf': WHATEVER THE INPUT: true; the input reads as it did. -/
def fnExactCoreOfSpec : ChangeSpec := { name := "fnExactCoreOf", fn := fun _ => fun
  | [d] => { results := [.lit (.bool true)], args := [d] }
  | _ => none }
def fnExactCoreOfRow : OpenClaim := { program := "ytmfkmkjgeibpnaa", sum := "620afe1bd802856bdf5b0ef69bffe0b3b2dad6a8f17a65a7e802363a3cfbf1b8", func := "loop.example/g01323/laws.FnExactCoreOf", spec := "fnExactCoreOf", unfollowed := true, recurses := true, apart := false }
def FnExactCoreOfSaid : Prop := fnExactCoreOfRow.holds Try.pinned (OpenSpec.ofChange fnExactCoreOfSpec)

/-- ITS FALSE NEIGHBOUR: 'it returns false'. Refute it at one input. -/
def fnExactCoreOfWrong : ChangeSpec := { name := "fnExactCoreOf", fn := fun _ => fun
  | [d] => { results := [.lit (.bool false)], args := [d] }
  | _ => none }
def FnExactCoreOfWrongFalsely : Prop := fnExactCoreOfRow.holds Try.pinned (OpenSpec.ofChange fnExactCoreOfWrong)

/-- 'laws.FnExactPermuteFunc': WHATEVER THE INPUT: true; the input reads as it did. -/
def fnExactPermuteFuncSpec : ChangeSpec := { name := "fnExactPermuteFunc", fn := fun _ => fun
  | [d1, d2] => { results := [.lit (.bool true)], args := [d1, d2] }
  | _ => none }
def fnExactPermuteFuncRow : OpenClaim := { program := "ytmfkmkjgeibpnaa", sum := "620afe1bd802856bdf5b0ef69bffe0b3b2dad6a8f17a65a7e802363a3cfbf1b8", func := "loop.example/g01323/laws.FnExactPermuteFunc", spec := "fnExactPermuteFunc", unfollowed := true, recurses := true, apart := false }
def FnExactPermuteFuncSaid : Prop := fnExactPermuteFuncRow.holds Try.pinned (OpenSpec.ofChange fnExactPermuteFuncSpec)

/-- ITS FALSE NEIGHBOUR: 'it returns false'. Refute it at one input. -/
def fnExactPermuteFuncWrong : ChangeSpec := { name := "fnExactPermuteFunc", fn := fun _ => fun
  | [d1, d2] => { results := [.lit (.bool false)], args := [d1, d2] }
  | _ => none }
def FnExactPermuteFuncWrongFalsely : Prop := fnExactPermuteFuncRow.holds Try.pinned (OpenSpec.ofChange fnExactPermuteFuncWrong)

/-- 'laws.FnExactPutFuncs': WHATEVER THE INPUT: true; the input reads as it did. -/
def fnExactPutFuncsSpec : ChangeSpec := { name := "fnExactPutFuncs", fn := fun _ => fun
  | [d1, d2] => { results := [.lit (.bool true)], args := [d1, d2] }
  | _ => none }
def fnExactPutFuncsRow : OpenClaim := { program := "ytmfkmkjgeibpnaa", sum := "620afe1bd802856bdf5b0ef69bffe0b3b2dad6a8f17a65a7e802363a3cfbf1b8", func := "loop.example/g01323/laws.FnExactPutFuncs", spec := "fnExactPutFuncs", unfollowed := true, recurses := true, apart := false }
def FnExactPutFuncsSaid : Prop := fnExactPutFuncsRow.holds Try.pinned (OpenSpec.ofChange fnExactPutFuncsSpec)

/-- ITS FALSE NEIGHBOUR: 'it returns false'. Refute it at one input. -/
def fnExactPutFuncsWrong : ChangeSpec := { name := "fnExactPutFuncs", fn := fun _ => fun
  | [d1, d2] => { results := [.lit (.bool false)], args := [d1, d2] }
  | _ => none }
def FnExactPutFuncsWrongFalsely : Prop := fnExactPutFuncsRow.holds Try.pinned (OpenSpec.ofChange fnExactPutFuncsWrong)

/-- 'laws.FnExactParseFunc': WHATEVER THE INPUT: true; the input reads as it did. -/
def fnExactParseFuncSpec : ChangeSpec := { name := "fnExactParseFunc", fn := fun _ => fun
  | [d] => { results := [.lit (.bool true)], args := [d] }
  | _ => none }
def fnExactParseFuncRow : OpenClaim := { program := "ytmfkmkjgeibpnaa", sum := "620afe1bd802856bdf5b0ef69bffe0b3b2dad6a8f17a65a7e802363a3cfbf1b8", func := "loop.example/g01323/laws.FnExactParseFunc", spec := "fnExactParseFunc", inPlace := ["internal/bytealg.IndexByteString", "internal/bytealg.IndexString"], named := ["internal/bytealg.MaxLen"], apart := false }
def FnExactParseFuncSaid : Prop := fnExactParseFuncRow.holds Try.pinned (OpenSpec.ofChange fnExactParseFuncSpec)

/-- ITS FALSE NEIGHBOUR: 'it returns false'. Refute it at one input. -/
def fnExactParseFuncWrong : ChangeSpec := { name := "fnExactParseFunc", fn := fun _ => fun
  | [d] => { results := [.lit (.bool false)], args := [d] }
  | _ => none }
def FnExactParseFuncWrongFalsely : Prop := fnExactParseFuncRow.holds Try.pinned (OpenSpec.ofChange fnExactParseFuncWrong)

/-- 'laws.FnExactNamedFunc': WHATEVER THE INPUT: true; the input reads as it did. -/
def fnExactNamedFuncSpec : ChangeSpec := { name := "fnExactNamedFunc", fn := fun _ => fun
  | [d] => { results := [.lit (.bool true)], args := [d] }
  | _ => none }
def fnExactNamedFuncRow : OpenClaim := { program := "ytmfkmkjgeibpnaa", sum := "620afe1bd802856bdf5b0ef69bffe0b3b2dad6a8f17a65a7e802363a3cfbf1b8", func := "loop.example/g01323/laws.FnExactNamedFunc", spec := "fnExactNamedFunc", inPlace := ["internal/bytealg.IndexByteString", "internal/bytealg.IndexString"], named := ["internal/bytealg.MaxLen"], apart := false }
def FnExactNamedFuncSaid : Prop := fnExactNamedFuncRow.holds Try.pinned (OpenSpec.ofChange fnExactNamedFuncSpec)

/-- ITS FALSE NEIGHBOUR: 'it returns false'. Refute it at one input. -/
def fnExactNamedFuncWrong : ChangeSpec := { name := "fnExactNamedFunc", fn := fun _ => fun
  | [d] => { results := [.lit (.bool false)], args := [d] }
  | _ => none }
def FnExactNamedFuncWrongFalsely : Prop := fnExactNamedFuncRow.holds Try.pinned (OpenSpec.ofChange fnExactNamedFuncWrong)

/-- 'laws.FnExactIsInClass': WHATEVER THE INPUT: true; the input reads as it did. -/
def fnExactIsInClassSpec : ChangeSpec := { name := "fnExactIsInClass", fn := fun _ => fun
  | [d1, d2] => { results := [.lit (.bool true)], args := [d1, d2] }
  | _ => none }
def fnExactIsInClassRow : OpenClaim := { program := "ytmfkmkjgeibpnaa", sum := "620afe1bd802856bdf5b0ef69bffe0b3b2dad6a8f17a65a7e802363a3cfbf1b8", func := "loop.example/g01323/laws.FnExactIsInClass", spec := "fnExactIsInClass", unfollowed := true, recurses := true, apart := false }
def FnExactIsInClassSaid : Prop := fnExactIsInClassRow.holds Try.pinned (OpenSpec.ofChange fnExactIsInClassSpec)

/-- ITS FALSE NEIGHBOUR: 'it returns false'. Refute it at one input. -/
def fnExactIsInClassWrong : ChangeSpec := { name := "fnExactIsInClass", fn := fun _ => fun
  | [d1, d2] => { results := [.lit (.bool false)], args := [d1, d2] }
  | _ => none }
def FnExactIsInClassWrongFalsely : Prop := fnExactIsInClassRow.holds Try.pinned (OpenSpec.ofChange fnExactIsInClassWrong)

/-- 'laws.FnExactClassRow': WHATEVER THE INPUT: true; the input reads as it did. -/
def fnExactClassRowSpec : ChangeSpec := { name := "fnExactClassRow", fn := fun _ => fun
  | [d] => { results := [.lit (.bool true)], args := [d] }
  | _ => none }
def fnExactClassRowRow : OpenClaim := { program := "ytmfkmkjgeibpnaa", sum := "620afe1bd802856bdf5b0ef69bffe0b3b2dad6a8f17a65a7e802363a3cfbf1b8", func := "loop.example/g01323/laws.FnExactClassRow", spec := "fnExactClassRow", unfollowed := true, recurses := true, apart := false }
def FnExactClassRowSaid : Prop := fnExactClassRowRow.holds Try.pinned (OpenSpec.ofChange fnExactClassRowSpec)

/-- ITS FALSE NEIGHBOUR: 'it returns false'. Refute it at one input. -/
def fnExactClassRowWrong : ChangeSpec := { name := "fnExactClassRow", fn := fun _ => fun
  | [d] => { results := [.lit (.bool false)], args := [d] }
  | _ => none }
def FnExactClassRowWrongFalsely : Prop := fnExactClassRowRow.holds Try.pinned (OpenSpec.ofChange fnExactClassRowWrong)

/-- 'laws.FnExactCountInClass': WHATEVER THE INPUT: true; the input reads as it did. -/
def fnExactCountInClassSpec : ChangeSpec := { name := "fnExactCountInClass", fn := fun _ => fun
  | [d1, d2] => { results := [.lit (.bool true)], args := [d1, d2] }
  | _ => none }
def fnExactCountInClassRow : OpenClaim := { program := "ytmfkmkjgeibpnaa", sum := "620afe1bd802856bdf5b0ef69bffe0b3b2dad6a8f17a65a7e802363a3cfbf1b8", func := "loop.example/g01323/laws.FnExactCountInClass", spec := "fnExactCountInClass", unfollowed := true, recurses := true, apart := false }
def FnExactCountInClassSaid : Prop := fnExactCountInClassRow.holds Try.pinned (OpenSpec.ofChange fnExactCountInClassSpec)

/-- ITS FALSE NEIGHBOUR: 'it returns false'. Refute it at one input. -/
def fnExactCountInClassWrong : ChangeSpec := { name := "fnExactCountInClass", fn := fun _ => fun
  | [d1, d2] => { results := [.lit (.bool false)], args := [d1, d2] }
  | _ => none }
def FnExactCountInClassWrongFalsely : Prop := fnExactCountInClassRow.holds Try.pinned (OpenSpec.ofChange fnExactCountInClassWrong)

/-- 'laws.FnExactIsSheffer': WHATEVER THE INPUT: true; the input reads as it did. -/
def fnExactIsShefferSpec : ChangeSpec := { name := "fnExactIsSheffer", fn := fun _ => fun
  | [d] => { results := [.lit (.bool true)], args := [d] }
  | _ => none }
def fnExactIsShefferRow : OpenClaim := { program := "ytmfkmkjgeibpnaa", sum := "620afe1bd802856bdf5b0ef69bffe0b3b2dad6a8f17a65a7e802363a3cfbf1b8", func := "loop.example/g01323/laws.FnExactIsSheffer", spec := "fnExactIsSheffer", unfollowed := true, recurses := true, apart := false }
def FnExactIsShefferSaid : Prop := fnExactIsShefferRow.holds Try.pinned (OpenSpec.ofChange fnExactIsShefferSpec)

/-- ITS FALSE NEIGHBOUR: 'it returns false'. Refute it at one input. -/
def fnExactIsShefferWrong : ChangeSpec := { name := "fnExactIsSheffer", fn := fun _ => fun
  | [d] => { results := [.lit (.bool false)], args := [d] }
  | _ => none }
def FnExactIsShefferWrongFalsely : Prop := fnExactIsShefferRow.holds Try.pinned (OpenSpec.ofChange fnExactIsShefferWrong)

/-- 'laws.FnExactCountSheffer': WHATEVER THE INPUT: true; the input reads as it did. -/
def fnExactCountShefferSpec : ChangeSpec := { name := "fnExactCountSheffer", fn := fun _ => fun
  | [d] => { results := [.lit (.bool true)], args := [d] }
  | _ => none }
def fnExactCountShefferRow : OpenClaim := { program := "ytmfkmkjgeibpnaa", sum := "620afe1bd802856bdf5b0ef69bffe0b3b2dad6a8f17a65a7e802363a3cfbf1b8", func := "loop.example/g01323/laws.FnExactCountSheffer", spec := "fnExactCountSheffer", unfollowed := true, recurses := true, apart := false }
def FnExactCountShefferSaid : Prop := fnExactCountShefferRow.holds Try.pinned (OpenSpec.ofChange fnExactCountShefferSpec)

/-- ITS FALSE NEIGHBOUR: 'it returns false'. Refute it at one input. -/
def fnExactCountShefferWrong : ChangeSpec := { name := "fnExactCountSheffer", fn := fun _ => fun
  | [d] => { results := [.lit (.bool false)], args := [d] }
  | _ => none }
def FnExactCountShefferWrongFalsely : Prop := fnExactCountShefferRow.holds Try.pinned (OpenSpec.ofChange fnExactCountShefferWrong)

/- THE SECOND FORM. 'bulk': how many values and letters a reading holds, each counted each time it is reached (what is shared counts as often as it is met; a slice's spare places count too). A statement '..UptoSaid' is the law's where the arguments, and the package variables that the reading takes, are together of bulk at most 1048576: NARROWER than '..Said'. Prove '..Said' where nothing that the law and all that it calls make is longer than what came in: it says more and counts as full. Else prove '..UptoSaid'. A law counts once. -/
mutual
def uptoBulk {H : Type} : DataW H → Nat
  | .lit (.string bytes) => bytes.length + 1
  | .lit _ => 1
  | .nil => 1
  | .ptr d => uptoBulk d + 1
  | .slice elems spare => uptoBulkAll elems + uptoBulkAll spare + 1
  | .agg parts => uptoBulkAll parts + 1
  | .iface _ d => uptoBulk d + 1
  | .map entries => uptoBulkEntries entries + 1
  | .held _ => 1
def uptoBulkAll {H : Type} : List (DataW H) → Nat
  | [] => 0
  | d :: r => uptoBulk d + uptoBulkAll r
def uptoBulkEntries {H : Type} : List (Lit × DataW H) → Nat
  | [] => 0
  | x :: r => uptoBulkEntry x + uptoBulkEntries r
def uptoBulkEntry {H : Type} : Lit × DataW H → Nat
  | (.string bytes, d) => bytes.length + uptoBulk d + 1
  | (_, d) => uptoBulk d + 1
 end
def uptoSmall : (H : Type) → List (DataW H) → Bool := fun _ ds => decide (uptoBulkAll ds ≤ 1048576)
def OpenSpec.upto (s : _root_.Go.ChangeSpec) : _root_.Go.OpenSpec := { _root_.Go.OpenSpec.ofChange s with cond := some uptoSmall }

/-- 'laws.FnExactValueAt', WHERE WHAT IT READS IS OF BULK AT MOST 1048576: true; the input reads as it did. -/
def fnExactValueAtUptoRow : OpenClaim := { program := "ytmfkmkjgeibpnaa", sum := "620afe1bd802856bdf5b0ef69bffe0b3b2dad6a8f17a65a7e802363a3cfbf1b8", func := "loop.example/g01323/laws.FnExactValueAt", spec := "fnExactValueAt", unfollowed := true, recurses := true, apart := false, narrowed := true }
def FnExactValueAtUptoSaid : Prop := fnExactValueAtUptoRow.holds Try.pinned (OpenSpec.upto fnExactValueAtSpec)

/-- 'laws.FnExactFixVariable', WHERE WHAT IT READS IS OF BULK AT MOST 1048576: true; the input reads as it did. -/
def fnExactFixVariableUptoRow : OpenClaim := { program := "ytmfkmkjgeibpnaa", sum := "620afe1bd802856bdf5b0ef69bffe0b3b2dad6a8f17a65a7e802363a3cfbf1b8", func := "loop.example/g01323/laws.FnExactFixVariable", spec := "fnExactFixVariable", unfollowed := true, recurses := true, apart := false, narrowed := true }
def FnExactFixVariableUptoSaid : Prop := fnExactFixVariableUptoRow.holds Try.pinned (OpenSpec.upto fnExactFixVariableSpec)

/-- 'laws.FnExactCoreOf', WHERE WHAT IT READS IS OF BULK AT MOST 1048576: true; the input reads as it did. -/
def fnExactCoreOfUptoRow : OpenClaim := { program := "ytmfkmkjgeibpnaa", sum := "620afe1bd802856bdf5b0ef69bffe0b3b2dad6a8f17a65a7e802363a3cfbf1b8", func := "loop.example/g01323/laws.FnExactCoreOf", spec := "fnExactCoreOf", unfollowed := true, recurses := true, apart := false, narrowed := true }
def FnExactCoreOfUptoSaid : Prop := fnExactCoreOfUptoRow.holds Try.pinned (OpenSpec.upto fnExactCoreOfSpec)

/-- 'laws.FnExactPermuteFunc', WHERE WHAT IT READS IS OF BULK AT MOST 1048576: true; the input reads as it did. -/
def fnExactPermuteFuncUptoRow : OpenClaim := { program := "ytmfkmkjgeibpnaa", sum := "620afe1bd802856bdf5b0ef69bffe0b3b2dad6a8f17a65a7e802363a3cfbf1b8", func := "loop.example/g01323/laws.FnExactPermuteFunc", spec := "fnExactPermuteFunc", unfollowed := true, recurses := true, apart := false, narrowed := true }
def FnExactPermuteFuncUptoSaid : Prop := fnExactPermuteFuncUptoRow.holds Try.pinned (OpenSpec.upto fnExactPermuteFuncSpec)

/-- 'laws.FnExactPutFuncs', WHERE WHAT IT READS IS OF BULK AT MOST 1048576: true; the input reads as it did. -/
def fnExactPutFuncsUptoRow : OpenClaim := { program := "ytmfkmkjgeibpnaa", sum := "620afe1bd802856bdf5b0ef69bffe0b3b2dad6a8f17a65a7e802363a3cfbf1b8", func := "loop.example/g01323/laws.FnExactPutFuncs", spec := "fnExactPutFuncs", unfollowed := true, recurses := true, apart := false, narrowed := true }
def FnExactPutFuncsUptoSaid : Prop := fnExactPutFuncsUptoRow.holds Try.pinned (OpenSpec.upto fnExactPutFuncsSpec)

/-- 'laws.FnExactParseFunc', WHERE WHAT IT READS IS OF BULK AT MOST 1048576: true; the input reads as it did. -/
def fnExactParseFuncUptoRow : OpenClaim := { program := "ytmfkmkjgeibpnaa", sum := "620afe1bd802856bdf5b0ef69bffe0b3b2dad6a8f17a65a7e802363a3cfbf1b8", func := "loop.example/g01323/laws.FnExactParseFunc", spec := "fnExactParseFunc", inPlace := ["internal/bytealg.IndexByteString", "internal/bytealg.IndexString"], named := ["internal/bytealg.MaxLen"], apart := false, narrowed := true }
def FnExactParseFuncUptoSaid : Prop := fnExactParseFuncUptoRow.holds Try.pinned (OpenSpec.upto fnExactParseFuncSpec)

/-- 'laws.FnExactNamedFunc', WHERE WHAT IT READS IS OF BULK AT MOST 1048576: true; the input reads as it did. -/
def fnExactNamedFuncUptoRow : OpenClaim := { program := "ytmfkmkjgeibpnaa", sum := "620afe1bd802856bdf5b0ef69bffe0b3b2dad6a8f17a65a7e802363a3cfbf1b8", func := "loop.example/g01323/laws.FnExactNamedFunc", spec := "fnExactNamedFunc", inPlace := ["internal/bytealg.IndexByteString", "internal/bytealg.IndexString"], named := ["internal/bytealg.MaxLen"], apart := false, narrowed := true }
def FnExactNamedFuncUptoSaid : Prop := fnExactNamedFuncUptoRow.holds Try.pinned (OpenSpec.upto fnExactNamedFuncSpec)

/-- 'laws.FnExactIsInClass', WHERE WHAT IT READS IS OF BULK AT MOST 1048576: true; the input reads as it did. -/
def fnExactIsInClassUptoRow : OpenClaim := { program := "ytmfkmkjgeibpnaa", sum := "620afe1bd802856bdf5b0ef69bffe0b3b2dad6a8f17a65a7e802363a3cfbf1b8", func := "loop.example/g01323/laws.FnExactIsInClass", spec := "fnExactIsInClass", unfollowed := true, recurses := true, apart := false, narrowed := true }
def FnExactIsInClassUptoSaid : Prop := fnExactIsInClassUptoRow.holds Try.pinned (OpenSpec.upto fnExactIsInClassSpec)

/-- 'laws.FnExactClassRow', WHERE WHAT IT READS IS OF BULK AT MOST 1048576: true; the input reads as it did. -/
def fnExactClassRowUptoRow : OpenClaim := { program := "ytmfkmkjgeibpnaa", sum := "620afe1bd802856bdf5b0ef69bffe0b3b2dad6a8f17a65a7e802363a3cfbf1b8", func := "loop.example/g01323/laws.FnExactClassRow", spec := "fnExactClassRow", unfollowed := true, recurses := true, apart := false, narrowed := true }
def FnExactClassRowUptoSaid : Prop := fnExactClassRowUptoRow.holds Try.pinned (OpenSpec.upto fnExactClassRowSpec)

/-- 'laws.FnExactCountInClass', WHERE WHAT IT READS IS OF BULK AT MOST 1048576: true; the input reads as it did. -/
def fnExactCountInClassUptoRow : OpenClaim := { program := "ytmfkmkjgeibpnaa", sum := "620afe1bd802856bdf5b0ef69bffe0b3b2dad6a8f17a65a7e802363a3cfbf1b8", func := "loop.example/g01323/laws.FnExactCountInClass", spec := "fnExactCountInClass", unfollowed := true, recurses := true, apart := false, narrowed := true }
def FnExactCountInClassUptoSaid : Prop := fnExactCountInClassUptoRow.holds Try.pinned (OpenSpec.upto fnExactCountInClassSpec)

/-- 'laws.FnExactIsSheffer', WHERE WHAT IT READS IS OF BULK AT MOST 1048576: true; the input reads as it did. -/
def fnExactIsShefferUptoRow : OpenClaim := { program := "ytmfkmkjgeibpnaa", sum := "620afe1bd802856bdf5b0ef69bffe0b3b2dad6a8f17a65a7e802363a3cfbf1b8", func := "loop.example/g01323/laws.FnExactIsSheffer", spec := "fnExactIsSheffer", unfollowed := true, recurses := true, apart := false, narrowed := true }
def FnExactIsShefferUptoSaid : Prop := fnExactIsShefferUptoRow.holds Try.pinned (OpenSpec.upto fnExactIsShefferSpec)

/-- 'laws.FnExactCountSheffer', WHERE WHAT IT READS IS OF BULK AT MOST 1048576: true; the input reads as it did. -/
def fnExactCountShefferUptoRow : OpenClaim := { program := "ytmfkmkjgeibpnaa", sum := "620afe1bd802856bdf5b0ef69bffe0b3b2dad6a8f17a65a7e802363a3cfbf1b8", func := "loop.example/g01323/laws.FnExactCountSheffer", spec := "fnExactCountSheffer", unfollowed := true, recurses := true, apart := false, narrowed := true }
def FnExactCountShefferUptoSaid : Prop := fnExactCountShefferUptoRow.holds Try.pinned (OpenSpec.upto fnExactCountShefferSpec)

end Rows
end Go.Proofs.Ytmfkmkjgeibpnaa
