/-
  No cell of these rows narrows 'for every input' (looked for: loops, veiled, ifaces, maps, wideKeys, modest, calm, conditions, laid).
  DERIVED. THE GIVEN ROWS OF THIS SEAT. 12 by the template 'for every input the law returns true; each argument reads behind the call as it read before'; 0 by the template 'total and deterministic' (their statements: YtapceiflmkmoeaaTotals.lean).
  GIVEN WITH THE SEED: the statements are not yours to turn. If you find one false, say at which input.
  Laid BY PROGRAM, IN A SANDBOX (cutbox-rows.mjs): the forced cells as the released guide's own fill.sh prints them over the translation da8b112dfe833e47… (all of the seat's roots in one cut). By AI agents, Wed Nov 11 2026. No macro, syntax, notation, axiom, sorry.
-/
import Derived.Test.YtapceiflmkmoeaaChecked
import GoSem.Claim
import GoSem.ClaimJoined
import GoSem.ClaimMapViews
import Derived.JoinedTies
import Derived.KernelRfl
namespace Go.Proofs.Ytapceiflmkmoeaa
/- THE CELL 'sum', in the pinned program and in every row, IS THE sha256 OF THE DUMP (.gsa) THAT YtapceiflmkmoeaaProg.lean LOADS. Nothing in Lean hashes anything: it is a label: what it is worth is what the hold of that sum in a sandbox is worth. -/
noncomputable def Try.pinned : Pinned := { name := "ytapceiflmkmoeaa", sum := "da8b112dfe833e47dd274db69a0d7e1eccfb79f68925f90f0398922903edd849", checked := Try.checked }
namespace Rows
def none {H : Type} : Left H := { results := [], args := [] }

/-- 'laws.FnExactConstants': WHATEVER THE INPUT: true; the input reads as it did. -/
def fnExactConstantsSpec : ChangeSpec := { name := "fnExactConstants", fn := fun _ => fun
  | [] => { results := [.lit (.bool true)], args := [] }
  | _ => none }
def fnExactConstantsRow : OpenClaim := { program := "ytapceiflmkmoeaa", sum := "da8b112dfe833e47dd274db69a0d7e1eccfb79f68925f90f0398922903edd849", func := "loop.example/g01323/laws.FnExactConstants", spec := "fnExactConstants", apart := false }
def FnExactConstantsSaid : Prop := fnExactConstantsRow.holds Try.pinned (OpenSpec.ofChange fnExactConstantsSpec)

/-- ITS FALSE NEIGHBOUR: 'it returns false'. Refute it at one input. -/
def fnExactConstantsWrong : ChangeSpec := { name := "fnExactConstants", fn := fun _ => fun
  | [] => { results := [.lit (.bool false)], args := [] }
  | _ => none }
def FnExactConstantsWrongFalsely : Prop := fnExactConstantsRow.holds Try.pinned (OpenSpec.ofChange fnExactConstantsWrong)

/-- 'laws.FnExactIsFunc': WHATEVER THE INPUT: true; the input reads as it did. -/
def fnExactIsFuncSpec : ChangeSpec := { name := "fnExactIsFunc", fn := fun _ => fun
  | [d] => { results := [.lit (.bool true)], args := [d] }
  | _ => none }
def fnExactIsFuncRow : OpenClaim := { program := "ytapceiflmkmoeaa", sum := "da8b112dfe833e47dd274db69a0d7e1eccfb79f68925f90f0398922903edd849", func := "loop.example/g01323/laws.FnExactIsFunc", spec := "fnExactIsFunc", apart := false }
def FnExactIsFuncSaid : Prop := fnExactIsFuncRow.holds Try.pinned (OpenSpec.ofChange fnExactIsFuncSpec)

/-- ITS FALSE NEIGHBOUR: 'it returns false'. Refute it at one input. -/
def fnExactIsFuncWrong : ChangeSpec := { name := "fnExactIsFunc", fn := fun _ => fun
  | [d] => { results := [.lit (.bool false)], args := [d] }
  | _ => none }
def FnExactIsFuncWrongFalsely : Prop := fnExactIsFuncRow.holds Try.pinned (OpenSpec.ofChange fnExactIsFuncWrong)

/-- 'laws.FnExactConstantOf': WHATEVER THE INPUT: true; the input reads as it did. -/
def fnExactConstantOfSpec : ChangeSpec := { name := "fnExactConstantOf", fn := fun _ => fun
  | [d1, d2] => { results := [.lit (.bool true)], args := [d1, d2] }
  | _ => none }
def fnExactConstantOfRow : OpenClaim := { program := "ytapceiflmkmoeaa", sum := "da8b112dfe833e47dd274db69a0d7e1eccfb79f68925f90f0398922903edd849", func := "loop.example/g01323/laws.FnExactConstantOf", spec := "fnExactConstantOf", apart := false }
def FnExactConstantOfSaid : Prop := fnExactConstantOfRow.holds Try.pinned (OpenSpec.ofChange fnExactConstantOfSpec)

/-- ITS FALSE NEIGHBOUR: 'it returns false'. Refute it at one input. -/
def fnExactConstantOfWrong : ChangeSpec := { name := "fnExactConstantOf", fn := fun _ => fun
  | [d1, d2] => { results := [.lit (.bool false)], args := [d1, d2] }
  | _ => none }
def FnExactConstantOfWrongFalsely : Prop := fnExactConstantOfRow.holds Try.pinned (OpenSpec.ofChange fnExactConstantOfWrong)

/-- 'laws.FnExactNegateFunc': WHATEVER THE INPUT: true; the input reads as it did. -/
def fnExactNegateFuncSpec : ChangeSpec := { name := "fnExactNegateFunc", fn := fun _ => fun
  | [d] => { results := [.lit (.bool true)], args := [d] }
  | _ => none }
def fnExactNegateFuncRow : OpenClaim := { program := "ytapceiflmkmoeaa", sum := "da8b112dfe833e47dd274db69a0d7e1eccfb79f68925f90f0398922903edd849", func := "loop.example/g01323/laws.FnExactNegateFunc", spec := "fnExactNegateFunc", apart := false }
def FnExactNegateFuncSaid : Prop := fnExactNegateFuncRow.holds Try.pinned (OpenSpec.ofChange fnExactNegateFuncSpec)

/-- ITS FALSE NEIGHBOUR: 'it returns false'. Refute it at one input. -/
def fnExactNegateFuncWrong : ChangeSpec := { name := "fnExactNegateFunc", fn := fun _ => fun
  | [d] => { results := [.lit (.bool false)], args := [d] }
  | _ => none }
def FnExactNegateFuncWrongFalsely : Prop := fnExactNegateFuncRow.holds Try.pinned (OpenSpec.ofChange fnExactNegateFuncWrong)

/-- 'laws.FnExactWidenFunc': WHATEVER THE INPUT: true; the input reads as it did. -/
def fnExactWidenFuncSpec : ChangeSpec := { name := "fnExactWidenFunc", fn := fun _ => fun
  | [d] => { results := [.lit (.bool true)], args := [d] }
  | _ => none }
def fnExactWidenFuncRow : OpenClaim := { program := "ytapceiflmkmoeaa", sum := "da8b112dfe833e47dd274db69a0d7e1eccfb79f68925f90f0398922903edd849", func := "loop.example/g01323/laws.FnExactWidenFunc", spec := "fnExactWidenFunc", apart := false }
def FnExactWidenFuncSaid : Prop := fnExactWidenFuncRow.holds Try.pinned (OpenSpec.ofChange fnExactWidenFuncSpec)

/-- ITS FALSE NEIGHBOUR: 'it returns false'. Refute it at one input. -/
def fnExactWidenFuncWrong : ChangeSpec := { name := "fnExactWidenFunc", fn := fun _ => fun
  | [d] => { results := [.lit (.bool false)], args := [d] }
  | _ => none }
def FnExactWidenFuncWrongFalsely : Prop := fnExactWidenFuncRow.holds Try.pinned (OpenSpec.ofChange fnExactWidenFuncWrong)

/-- 'laws.FnExactProjectionOf': WHATEVER THE INPUT: true; the input reads as it did. -/
def fnExactProjectionOfSpec : ChangeSpec := { name := "fnExactProjectionOf", fn := fun _ => fun
  | [d1, d2] => { results := [.lit (.bool true)], args := [d1, d2] }
  | _ => none }
def fnExactProjectionOfRow : OpenClaim := { program := "ytapceiflmkmoeaa", sum := "da8b112dfe833e47dd274db69a0d7e1eccfb79f68925f90f0398922903edd849", func := "loop.example/g01323/laws.FnExactProjectionOf", spec := "fnExactProjectionOf", unfollowed := true, recurses := true, apart := false }
def FnExactProjectionOfSaid : Prop := fnExactProjectionOfRow.holds Try.pinned (OpenSpec.ofChange fnExactProjectionOfSpec)

/-- ITS FALSE NEIGHBOUR: 'it returns false'. Refute it at one input. -/
def fnExactProjectionOfWrong : ChangeSpec := { name := "fnExactProjectionOf", fn := fun _ => fun
  | [d1, d2] => { results := [.lit (.bool false)], args := [d1, d2] }
  | _ => none }
def FnExactProjectionOfWrongFalsely : Prop := fnExactProjectionOfRow.holds Try.pinned (OpenSpec.ofChange fnExactProjectionOfWrong)

/-- 'laws.FnExactFuncText': WHATEVER THE INPUT: true; the input reads as it did. -/
def fnExactFuncTextSpec : ChangeSpec := { name := "fnExactFuncText", fn := fun _ => fun
  | [d] => { results := [.lit (.bool true)], args := [d] }
  | _ => none }
def fnExactFuncTextRow : OpenClaim := { program := "ytapceiflmkmoeaa", sum := "da8b112dfe833e47dd274db69a0d7e1eccfb79f68925f90f0398922903edd849", func := "loop.example/g01323/laws.FnExactFuncText", spec := "fnExactFuncText", recurses := true, apart := false }
def FnExactFuncTextSaid : Prop := fnExactFuncTextRow.holds Try.pinned (OpenSpec.ofChange fnExactFuncTextSpec)

/-- ITS FALSE NEIGHBOUR: 'it returns false'. Refute it at one input. -/
def fnExactFuncTextWrong : ChangeSpec := { name := "fnExactFuncText", fn := fun _ => fun
  | [d] => { results := [.lit (.bool false)], args := [d] }
  | _ => none }
def FnExactFuncTextWrongFalsely : Prop := fnExactFuncTextRow.holds Try.pinned (OpenSpec.ofChange fnExactFuncTextWrong)

/-- 'laws.FnExactDualOf': WHATEVER THE INPUT: true; the input reads as it did. -/
def fnExactDualOfSpec : ChangeSpec := { name := "fnExactDualOf", fn := fun _ => fun
  | [d] => { results := [.lit (.bool true)], args := [d] }
  | _ => none }
def fnExactDualOfRow : OpenClaim := { program := "ytapceiflmkmoeaa", sum := "da8b112dfe833e47dd274db69a0d7e1eccfb79f68925f90f0398922903edd849", func := "loop.example/g01323/laws.FnExactDualOf", spec := "fnExactDualOf", unfollowed := true, recurses := true, apart := false }
def FnExactDualOfSaid : Prop := fnExactDualOfRow.holds Try.pinned (OpenSpec.ofChange fnExactDualOfSpec)

/-- ITS FALSE NEIGHBOUR: 'it returns false'. Refute it at one input. -/
def fnExactDualOfWrong : ChangeSpec := { name := "fnExactDualOf", fn := fun _ => fun
  | [d] => { results := [.lit (.bool false)], args := [d] }
  | _ => none }
def FnExactDualOfWrongFalsely : Prop := fnExactDualOfRow.holds Try.pinned (OpenSpec.ofChange fnExactDualOfWrong)

/-- 'laws.FnExactWeightOf': WHATEVER THE INPUT: true; the input reads as it did. -/
def fnExactWeightOfSpec : ChangeSpec := { name := "fnExactWeightOf", fn := fun _ => fun
  | [d] => { results := [.lit (.bool true)], args := [d] }
  | _ => none }
def fnExactWeightOfRow : OpenClaim := { program := "ytapceiflmkmoeaa", sum := "da8b112dfe833e47dd274db69a0d7e1eccfb79f68925f90f0398922903edd849", func := "loop.example/g01323/laws.FnExactWeightOf", spec := "fnExactWeightOf", apart := false }
def FnExactWeightOfSaid : Prop := fnExactWeightOfRow.holds Try.pinned (OpenSpec.ofChange fnExactWeightOfSpec)

/-- ITS FALSE NEIGHBOUR: 'it returns false'. Refute it at one input. -/
def fnExactWeightOfWrong : ChangeSpec := { name := "fnExactWeightOf", fn := fun _ => fun
  | [d] => { results := [.lit (.bool false)], args := [d] }
  | _ => none }
def FnExactWeightOfWrongFalsely : Prop := fnExactWeightOfRow.holds Try.pinned (OpenSpec.ofChange fnExactWeightOfWrong)

/-- 'laws.FnExactNameOf': WHATEVER THE INPUT: true; the input reads as it did. -/
def fnExactNameOfSpec : ChangeSpec := { name := "fnExactNameOf", fn := fun _ => fun
  | [d] => { results := [.lit (.bool true)], args := [d] }
  | _ => none }
def fnExactNameOfRow : OpenClaim := { program := "ytapceiflmkmoeaa", sum := "da8b112dfe833e47dd274db69a0d7e1eccfb79f68925f90f0398922903edd849", func := "loop.example/g01323/laws.FnExactNameOf", spec := "fnExactNameOf", recurses := true, apart := false }
def FnExactNameOfSaid : Prop := fnExactNameOfRow.holds Try.pinned (OpenSpec.ofChange fnExactNameOfSpec)

/-- ITS FALSE NEIGHBOUR: 'it returns false'. Refute it at one input. -/
def fnExactNameOfWrong : ChangeSpec := { name := "fnExactNameOf", fn := fun _ => fun
  | [d] => { results := [.lit (.bool false)], args := [d] }
  | _ => none }
def FnExactNameOfWrongFalsely : Prop := fnExactNameOfRow.holds Try.pinned (OpenSpec.ofChange fnExactNameOfWrong)

/-- 'laws.FnExactFuncOf': WHATEVER THE INPUT: true; the input reads as it did. -/
def fnExactFuncOfSpec : ChangeSpec := { name := "fnExactFuncOf", fn := fun _ => fun
  | [d1, d2] => { results := [.lit (.bool true)], args := [d1, d2] }
  | _ => none }
def fnExactFuncOfRow : OpenClaim := { program := "ytapceiflmkmoeaa", sum := "da8b112dfe833e47dd274db69a0d7e1eccfb79f68925f90f0398922903edd849", func := "loop.example/g01323/laws.FnExactFuncOf", spec := "fnExactFuncOf", unfollowed := true, recurses := true, apart := false }
def FnExactFuncOfSaid : Prop := fnExactFuncOfRow.holds Try.pinned (OpenSpec.ofChange fnExactFuncOfSpec)

/-- ITS FALSE NEIGHBOUR: 'it returns false'. Refute it at one input. -/
def fnExactFuncOfWrong : ChangeSpec := { name := "fnExactFuncOf", fn := fun _ => fun
  | [d1, d2] => { results := [.lit (.bool false)], args := [d1, d2] }
  | _ => none }
def FnExactFuncOfWrongFalsely : Prop := fnExactFuncOfRow.holds Try.pinned (OpenSpec.ofChange fnExactFuncOfWrong)

/-- 'laws.FnExactEssentialOf': WHATEVER THE INPUT: true; the input reads as it did. -/
def fnExactEssentialOfSpec : ChangeSpec := { name := "fnExactEssentialOf", fn := fun _ => fun
  | [d] => { results := [.lit (.bool true)], args := [d] }
  | _ => none }
def fnExactEssentialOfRow : OpenClaim := { program := "ytapceiflmkmoeaa", sum := "da8b112dfe833e47dd274db69a0d7e1eccfb79f68925f90f0398922903edd849", func := "loop.example/g01323/laws.FnExactEssentialOf", spec := "fnExactEssentialOf", apart := false }
def FnExactEssentialOfSaid : Prop := fnExactEssentialOfRow.holds Try.pinned (OpenSpec.ofChange fnExactEssentialOfSpec)

/-- ITS FALSE NEIGHBOUR: 'it returns false'. Refute it at one input. -/
def fnExactEssentialOfWrong : ChangeSpec := { name := "fnExactEssentialOf", fn := fun _ => fun
  | [d] => { results := [.lit (.bool false)], args := [d] }
  | _ => none }
def FnExactEssentialOfWrongFalsely : Prop := fnExactEssentialOfRow.holds Try.pinned (OpenSpec.ofChange fnExactEssentialOfWrong)

/- THE SECOND FORM. 'bulk': how many values and letters a reading holds, each counted each time it is reached (what is shared counts as often as it is met; a slice's spare places count too). A statement '..UptoSaid' is the law's where the arguments, and the package variables that the reading takes, are together of bulk at most 1048576: NARROWER than '..Said'. Prove '..Said' where nothing that the law and all that it calls make is longer than what came in: it says more and counts as full. Else prove '..UptoSaid'. A law counts once. -/
mutual
def uptoBulk {H : Type} : DataW H → Nat
  | .lit (.string bytes) => bytes.length + 1
  | .lit _ => 1
  | .nil => 1
  | .ptr d => uptoBulk d + 1
  | .slice elems spare => uptoBulkAll elems + uptoBulkAll spare + 1
  | .agg parts => uptoBulkAll parts + 1
  | .iface _ d => uptoBulk d + 1
  | .map entries => uptoBulkEntries entries + 1
  | .held _ => 1
def uptoBulkAll {H : Type} : List (DataW H) → Nat
  | [] => 0
  | d :: r => uptoBulk d + uptoBulkAll r
def uptoBulkEntries {H : Type} : List (Lit × DataW H) → Nat
  | [] => 0
  | x :: r => uptoBulkEntry x + uptoBulkEntries r
def uptoBulkEntry {H : Type} : Lit × DataW H → Nat
  | (.string bytes, d) => bytes.length + uptoBulk d + 1
  | (_, d) => uptoBulk d + 1
 end
def uptoSmall : (H : Type) → List (DataW H) → Bool := fun _ ds => decide (uptoBulkAll ds ≤ 1048576)
def OpenSpec.upto (s : _root_.Go.ChangeSpec) : _root_.Go.OpenSpec := { _root_.Go.OpenSpec.ofChange s with cond := some uptoSmall }

/-- 'laws.FnExactConstants', WHERE WHAT IT READS IS OF BULK AT MOST 1048576: true; the input reads as it did. -/
def fnExactConstantsUptoRow : OpenClaim := { program := "ytapceiflmkmoeaa", sum := "da8b112dfe833e47dd274db69a0d7e1eccfb79f68925f90f0398922903edd849", func := "loop.example/g01323/laws.FnExactConstants", spec := "fnExactConstants", apart := false, narrowed := true }
def FnExactConstantsUptoSaid : Prop := fnExactConstantsUptoRow.holds Try.pinned (OpenSpec.upto fnExactConstantsSpec)

/-- 'laws.FnExactIsFunc', WHERE WHAT IT READS IS OF BULK AT MOST 1048576: true; the input reads as it did. -/
def fnExactIsFuncUptoRow : OpenClaim := { program := "ytapceiflmkmoeaa", sum := "da8b112dfe833e47dd274db69a0d7e1eccfb79f68925f90f0398922903edd849", func := "loop.example/g01323/laws.FnExactIsFunc", spec := "fnExactIsFunc", apart := false, narrowed := true }
def FnExactIsFuncUptoSaid : Prop := fnExactIsFuncUptoRow.holds Try.pinned (OpenSpec.upto fnExactIsFuncSpec)

/-- 'laws.FnExactConstantOf', WHERE WHAT IT READS IS OF BULK AT MOST 1048576: true; the input reads as it did. -/
def fnExactConstantOfUptoRow : OpenClaim := { program := "ytapceiflmkmoeaa", sum := "da8b112dfe833e47dd274db69a0d7e1eccfb79f68925f90f0398922903edd849", func := "loop.example/g01323/laws.FnExactConstantOf", spec := "fnExactConstantOf", apart := false, narrowed := true }
def FnExactConstantOfUptoSaid : Prop := fnExactConstantOfUptoRow.holds Try.pinned (OpenSpec.upto fnExactConstantOfSpec)

/-- 'laws.FnExactNegateFunc', WHERE WHAT IT READS IS OF BULK AT MOST 1048576: true; the input reads as it did. -/
def fnExactNegateFuncUptoRow : OpenClaim := { program := "ytapceiflmkmoeaa", sum := "da8b112dfe833e47dd274db69a0d7e1eccfb79f68925f90f0398922903edd849", func := "loop.example/g01323/laws.FnExactNegateFunc", spec := "fnExactNegateFunc", apart := false, narrowed := true }
def FnExactNegateFuncUptoSaid : Prop := fnExactNegateFuncUptoRow.holds Try.pinned (OpenSpec.upto fnExactNegateFuncSpec)

/-- 'laws.FnExactWidenFunc', WHERE WHAT IT READS IS OF BULK AT MOST 1048576: true; the input reads as it did. -/
def fnExactWidenFuncUptoRow : OpenClaim := { program := "ytapceiflmkmoeaa", sum := "da8b112dfe833e47dd274db69a0d7e1eccfb79f68925f90f0398922903edd849", func := "loop.example/g01323/laws.FnExactWidenFunc", spec := "fnExactWidenFunc", apart := false, narrowed := true }
def FnExactWidenFuncUptoSaid : Prop := fnExactWidenFuncUptoRow.holds Try.pinned (OpenSpec.upto fnExactWidenFuncSpec)

/-- 'laws.FnExactProjectionOf', WHERE WHAT IT READS IS OF BULK AT MOST 1048576: true; the input reads as it did. -/
def fnExactProjectionOfUptoRow : OpenClaim := { program := "ytapceiflmkmoeaa", sum := "da8b112dfe833e47dd274db69a0d7e1eccfb79f68925f90f0398922903edd849", func := "loop.example/g01323/laws.FnExactProjectionOf", spec := "fnExactProjectionOf", unfollowed := true, recurses := true, apart := false, narrowed := true }
def FnExactProjectionOfUptoSaid : Prop := fnExactProjectionOfUptoRow.holds Try.pinned (OpenSpec.upto fnExactProjectionOfSpec)

/-- 'laws.FnExactFuncText', WHERE WHAT IT READS IS OF BULK AT MOST 1048576: true; the input reads as it did. -/
def fnExactFuncTextUptoRow : OpenClaim := { program := "ytapceiflmkmoeaa", sum := "da8b112dfe833e47dd274db69a0d7e1eccfb79f68925f90f0398922903edd849", func := "loop.example/g01323/laws.FnExactFuncText", spec := "fnExactFuncText", recurses := true, apart := false, narrowed := true }
def FnExactFuncTextUptoSaid : Prop := fnExactFuncTextUptoRow.holds Try.pinned (OpenSpec.upto fnExactFuncTextSpec)

/-- 'laws.FnExactDualOf', WHERE WHAT IT READS IS OF BULK AT MOST 1048576: true; the input reads as it did. -/
def fnExactDualOfUptoRow : OpenClaim := { program := "ytapceiflmkmoeaa", sum := "da8b112dfe833e47dd274db69a0d7e1eccfb79f68925f90f0398922903edd849", func := "loop.example/g01323/laws.FnExactDualOf", spec := "fnExactDualOf", unfollowed := true, recurses := true, apart := false, narrowed := true }
def FnExactDualOfUptoSaid : Prop := fnExactDualOfUptoRow.holds Try.pinned (OpenSpec.upto fnExactDualOfSpec)

/-- 'laws.FnExactWeightOf', WHERE WHAT IT READS IS OF BULK AT MOST 1048576: true; the input reads as it did. -/
def fnExactWeightOfUptoRow : OpenClaim := { program := "ytapceiflmkmoeaa", sum := "da8b112dfe833e47dd274db69a0d7e1eccfb79f68925f90f0398922903edd849", func := "loop.example/g01323/laws.FnExactWeightOf", spec := "fnExactWeightOf", apart := false, narrowed := true }
def FnExactWeightOfUptoSaid : Prop := fnExactWeightOfUptoRow.holds Try.pinned (OpenSpec.upto fnExactWeightOfSpec)

/-- 'laws.FnExactNameOf', WHERE WHAT IT READS IS OF BULK AT MOST 1048576: true; the input reads as it did. -/
def fnExactNameOfUptoRow : OpenClaim := { program := "ytapceiflmkmoeaa", sum := "da8b112dfe833e47dd274db69a0d7e1eccfb79f68925f90f0398922903edd849", func := "loop.example/g01323/laws.FnExactNameOf", spec := "fnExactNameOf", recurses := true, apart := false, narrowed := true }
def FnExactNameOfUptoSaid : Prop := fnExactNameOfUptoRow.holds Try.pinned (OpenSpec.upto fnExactNameOfSpec)

/-- 'laws.FnExactFuncOf', WHERE WHAT IT READS IS OF BULK AT MOST 1048576: true; the input reads as it did. -/
def fnExactFuncOfUptoRow : OpenClaim := { program := "ytapceiflmkmoeaa", sum := "da8b112dfe833e47dd274db69a0d7e1eccfb79f68925f90f0398922903edd849", func := "loop.example/g01323/laws.FnExactFuncOf", spec := "fnExactFuncOf", unfollowed := true, recurses := true, apart := false, narrowed := true }
def FnExactFuncOfUptoSaid : Prop := fnExactFuncOfUptoRow.holds Try.pinned (OpenSpec.upto fnExactFuncOfSpec)

/-- 'laws.FnExactEssentialOf', WHERE WHAT IT READS IS OF BULK AT MOST 1048576: true; the input reads as it did. -/
def fnExactEssentialOfUptoRow : OpenClaim := { program := "ytapceiflmkmoeaa", sum := "da8b112dfe833e47dd274db69a0d7e1eccfb79f68925f90f0398922903edd849", func := "loop.example/g01323/laws.FnExactEssentialOf", spec := "fnExactEssentialOf", apart := false, narrowed := true }
def FnExactEssentialOfUptoSaid : Prop := fnExactEssentialOfUptoRow.holds Try.pinned (OpenSpec.upto fnExactEssentialOfSpec)

end Rows
end Go.Proofs.Ytapceiflmkmoeaa
