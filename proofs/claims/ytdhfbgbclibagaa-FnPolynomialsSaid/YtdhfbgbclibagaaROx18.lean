/- Functions of the given program and their contracts, written by a program of this session (gen.py) over the kit's print. -/
import Derived.Test.YtdhfbgbclibagaaROx0
import Derived.Test.YtdhfbgbclibagaaROx1
import Derived.Test.YtdhfbgbclibagaaROx2
import Derived.Test.YtdhfbgbclibagaaROx8
import Derived.Test.YtdhfbgbclibagaaROx9
import Derived.Test.YtdhfbgbclibagaaROx10
import Derived.Test.YtdhfbgbclibagaaROx14
import Derived.Test.YtdhfbgbclibagaaROx15
import Derived.Test.YtdhfbgbclibagaaROx16
import Derived.Test.YtdhfbgbclibagaaROx17
namespace Go.Proofs.Ytdhfbgbclibagaa.P
open Go.RowKit Go.Proofs.YtdhfbgbclibagaaW.PrintWords Go.Proofs.YtdhfbgbclibagaaW.PrintLast Go.Proofs.YtdhfbgbclibagaaW.PrintMore
attribute [local go_sem] max2_int min2_int max_two min_two max_three min_three max_four min_four   -- for this text's walks alone
set_option linter.unusedVariables false
set_option linter.unusedSimpArgs false
attribute [local go_sem high] eqA27
mutual
def laws_FnPolynomials.j0 : Nat → List Int → Int → Bool → Int → Int → Int → Int → Int → Int → Option (Bool)
 | 0, _, _, _, _, _, _, _, _, _ => none
 | k + 1, x0, x6, x93, x592000, x592001, x593000, x593001, x597000, x597001 => if x93 = true then (some false) else (if x6 = 0 then ((impl_PolynomialOf.f k x592000 x592001).bind fun bt601 => ((impl_PolynomialOf.f k x593000 x593001).bind fun bt605 => ((impl_PolynomialOf.f k x597000 x597001).bind fun bt609 => ((impl_FuncOfPolynomial.f k x592000 bt601.1).bind fun bt613 => ((impl_ProductOfFuncs.f x592000 x592001 x593000 x593001).bind fun bt617 => (if bt601.2 = 0 then (if bt605.2 = 0 then (if bt609.2 = 0 then (if bt613.2.2 = 0 then (if bt617.2.2 = 0 then (if (!(bt613.1 == x592000) || (!(bt613.2.1 == x592001))) = true then (laws_FnPolynomials.j1 k x0 bt601.1 bt605.1 bt609.1 true x592000 x592001 x593000 x593001 x597000 x597001) else (if (bt601.1.length : Int) = (bt609.1.length : Int) then (if (bt605.1.length : Int) = (bt609.1.length : Int) then ((impl_IsFunc.f bt617.1 bt617.2.1).bind fun t621 => (laws_FnPolynomials.j1 k x0 bt601.1 bt605.1 bt609.1 (!t621) x592000 x592001 x593000 x593001 x597000 x597001)) else (laws_FnPolynomials.j1 k x0 bt601.1 bt605.1 bt609.1 true x592000 x592001 x593000 x593001 x597000 x597001)) else (laws_FnPolynomials.j1 k x0 bt601.1 bt605.1 bt609.1 true x592000 x592001 x593000 x593001 x597000 x597001))) else (laws_FnPolynomials.j1 k x0 bt601.1 bt605.1 bt609.1 true x592000 x592001 x593000 x593001 x597000 x597001)) else (laws_FnPolynomials.j1 k x0 bt601.1 bt605.1 bt609.1 true x592000 x592001 x593000 x593001 x597000 x597001)) else (laws_FnPolynomials.j1 k x0 bt601.1 bt605.1 bt609.1 true x592000 x592001 x593000 x593001 x597000 x597001)) else (laws_FnPolynomials.j1 k x0 bt601.1 bt605.1 bt609.1 true x592000 x592001 x593000 x593001 x597000 x597001)) else (laws_FnPolynomials.j1 k x0 bt601.1 bt605.1 bt609.1 true x592000 x592001 x593000 x593001 x597000 x597001))))))) else (laws_FnPolynomials.j3 k x0))
def laws_FnPolynomials.j3 : Nat → List Int → Option (Bool)
 | 0, _ => none
 | k + 1, x0 => (spec_DrawDerivativeBy.f k x0).bind fun bt631 => ((impl_DerivativeBy.f bt631.1 bt631.2.1 bt631.2.2).bind fun bt635 => ((spec_DerivativeBy.f k bt631.1 bt631.2.1 bt631.2.2).bind fun bt639 => (if bt635.2.2 = bt639.2.2 then (laws_FnPolynomials.j4 k x0 bt635.2.2 (!(bt635.1 == bt639.1) || (!(bt635.2.1 == bt639.2.1))) bt631.1 bt631.2.1 bt635.1 bt635.2.1) else (laws_FnPolynomials.j4 k x0 bt635.2.2 true bt631.1 bt631.2.1 bt635.1 bt635.2.1))))
def laws_FnPolynomials.j4 : Nat → List Int → Int → Bool → Int → Int → Int → Int → Option (Bool)
 | 0, _, _, _, _, _, _, _ => none
 | k + 1, x0, x29, x246, x635000, x635001, x639000, x639001 => if x246 = true then (some false) else (if x29 = 0 then ((impl_DegreeOfFunc.f k x635000 x635001).bind fun bt643 => ((impl_DegreeOfFunc.f k x639000 x639001).bind fun bt645 => (if bt643.2 = 0 then (if bt645.2 = 0 then (if bt645.1 > 0 then (if bt645.1 ≥ bt643.1 then (some false) else (laws_FnPolynomials.j5 k x0)) else (laws_FnPolynomials.j5 k x0)) else (some false)) else (some false)))) else (laws_FnPolynomials.j5 k x0))
def laws_FnPolynomials.j5 : Nat → List Int → Option (Bool)
 | 0, _ => none
 | k + 1, x0 => (spec_DrawAffinePart.f k x0).bind fun bt647 => ((impl_AffinePart.f bt647.1 bt647.2).bind fun bt650 => ((spec_AffinePart.f k bt647.1 bt647.2).bind fun bt654 => (if bt650.2.2 = bt654.2.2 then (laws_FnPolynomials.j6 k x0 bt650.2.2 (!(bt650.1 == bt654.1) || (!(bt650.2.1 == bt654.2.1))) bt647.1 bt647.2 bt650.1 bt650.2.1) else (laws_FnPolynomials.j6 k x0 bt650.2.2 true bt647.1 bt647.2 bt650.1 bt650.2.1))))
def laws_FnPolynomials.j6 : Nat → List Int → Int → Bool → Int → Int → Int → Int → Option (Bool)
 | 0, _, _, _, _, _, _, _ => none
 | k + 1, x0, x38, x293, x650000, x650001, x654000, x654001 => if x293 = true then (some false) else (if x38 = 0 then ((impl_DegreeOfFunc.f k x654000 x654001).bind fun bt658 => ((impl_DegreeOfFunc.f k x650000 x650001).bind fun bt660 => (if bt658.2 = 0 then (if bt660.2 = 0 then (if bt658.1 > 1 then (some false) else (if bt660.1 < 2 then (if (!(x654000 == x650000) || (!(x654001 == x650001))) = true then (some false) else (laws_FnPolynomials.j7 k x0)) else (laws_FnPolynomials.j7 k x0))) else (some false)) else (some false)))) else (laws_FnPolynomials.j7 k x0))
def laws_FnPolynomials.j7 : Nat → List Int → Option (Bool)
 | 0, _ => none
 | k + 1, x0 => (spec_DrawPolynomialOf.f k x0).bind fun bt662 => ((impl_PolynomialOf.f k bt662.1 bt662.2).bind fun bt665 => ((spec_PolynomialOf.f k bt662.1 bt662.2).bind fun bt669 => ((spec_DrawFuncOfPolynomial.f k x0).bind fun bt673 => ((impl_FuncOfPolynomial.f k bt673.1 bt673.2).bind fun bt677 => ((spec_FuncOfPolynomial.f k bt673.1 bt673.2).bind fun bt681 => ((spec_DrawProductOfFuncs.f k x0).bind fun bt685 => ((impl_ProductOfFuncs.f bt685.1 bt685.2.1 bt685.2.2.1 bt685.2.2.2).bind fun bt691 => ((spec_ProductOfFuncs.f k bt685.1 bt685.2.1 bt685.2.2.1 bt685.2.2.2).bind fun bt695 => ((spec_DrawDegreeOfFunc.f k x0).bind fun bt699 => ((impl_DegreeOfFunc.f k bt699.1 bt699.2).bind fun bt702 => ((spec_DegreeOfFunc.f k bt699.1 bt699.2).bind fun bt704 => (if bt665.2 = bt669.2 then ((laws_likeInts.f k bt665.1 bt669.1).bind fun t706 => (if t706 = true then (if bt677.2.2 = bt681.2.2 then (if (bt677.1 == bt681.1 && (bt677.2.1 == bt681.2.1)) = true then (if bt691.2.2 = bt695.2.2 then (if (bt691.1 == bt695.1 && (bt691.2.1 == bt695.2.1)) = true then (if bt702.2 = bt704.2 then (some (bt702.1 == bt704.1)) else (some false)) else (some false)) else (some false)) else (some false)) else (some false)) else (some false))) else (some false)))))))))))))
def laws_FnPolynomials.j1 : Nat → List Int → List Int → List Int → List Int → Bool → Int → Int → Int → Int → Int → Int → Option (Bool)
 | 0, _, _, _, _, _, _, _, _, _, _, _ => none
 | k + 1, x0, x9, x11, x13, x165, x592000, x592001, x593000, x593001, x597000, x597001 => if x165 = true then (some false) else (laws_FnPolynomials.l0 k x0 x9 x11 x13 0 x592000 x592001 x593000 x593001 x597000 x597001)
def laws_FnPolynomials.l0 : Nat → List Int → List Int → List Int → List Int → Int → Int → Int → Int → Int → Int → Int → Option (Bool)
 | 0, _, _, _, _, _, _, _, _, _, _, _ => none
 | k + 1, x0, x9, x11, x13, x19, x592000, x592001, x593000, x593001, x597000, x597001 => if x19 < (x9.length : Int) then (if 0 ≤ x19 then (if x19 < (x11.length : Int) then (if x19 < (x13.length : Int) then (if (Int.tmod (wrap64 ((rd x9 x19) + (rd x11 x19))) 2) = (rd x13 x19) then (laws_FnPolynomials.l0 k x0 x9 x11 x13 (wrap64 (x19 + 1)) x592000 x592001 x593000 x593001 x597000 x597001) else (some false)) else (none)) else (none)) else (none)) else ((impl_DegreeOfFunc.f k x592000 x592001).bind fun bt625 => ((impl_DegreeOfFunc.f k x593000 x593001).bind fun bt627 => ((impl_DegreeOfFunc.f k x597000 x597001).bind fun bt629 => (if bt625.2 = 0 then (if bt627.2 = 0 then (if bt629.2 = 0 then (if bt629.1 > bt625.1 then (if bt629.1 > bt627.1 then (some false) else (laws_FnPolynomials.j3 k x0)) else (laws_FnPolynomials.j3 k x0)) else (some false)) else (some false)) else (some false)))))
end
def laws_FnPolynomials.f (k : Nat) (l0 : List Int) : Option (Bool) := (laws_big.f l0).bind fun t586 => (if t586 = true then (some true) else ((spec_DrawSumOfFuncs.f k l0).bind fun bt587 => ((impl_SumOfFuncs.f bt587.1 bt587.2.1 bt587.2.2.1 bt587.2.2.2).bind fun bt593 => ((spec_SumOfFuncs.f k bt587.1 bt587.2.1 bt587.2.2.1 bt587.2.2.2).bind fun bt597 => (if bt593.2.2 = bt597.2.2 then (laws_FnPolynomials.j0 k l0 bt593.2.2 (!(bt593.1 == bt597.1) || (!(bt593.2.1 == bt597.2.1))) bt587.1 bt587.2.1 bt587.2.2.1 bt587.2.2.2 bt593.1 bt593.2.1) else (laws_FnPolynomials.j0 k l0 bt593.2.2 true bt587.1 bt587.2.1 bt587.2.2.1 bt587.2.2.2 bt593.1 bt593.2.1))))))
theorem laws_FnPolynomials.j0_not (k : Nat) {y0 : List Int} {y1 : Int} {y3 : Int} {y4 : Int} {y5 : Int} {y6 : Int} {y7 : Int} {y8 : Int} (h : laws_FnPolynomials.j0 k y0 y1 true y3 y4 y5 y6 y7 y8 = some true) : False := by
 cases k <;> simp [laws_FnPolynomials.j0] at h
theorem laws_FnPolynomials.j1_not (k : Nat) {y0 : List Int} {y1 : List Int} {y2 : List Int} {y3 : List Int} {y5 : Int} {y6 : Int} {y7 : Int} {y8 : Int} {y9 : Int} {y10 : Int} (h : laws_FnPolynomials.j1 k y0 y1 y2 y3 true y5 y6 y7 y8 y9 y10 = some true) : False := by
 cases k <;> simp [laws_FnPolynomials.j1] at h
theorem laws_FnPolynomials.j4_not (k : Nat) {y0 : List Int} {y1 : Int} {y3 : Int} {y4 : Int} {y5 : Int} {y6 : Int} (h : laws_FnPolynomials.j4 k y0 y1 true y3 y4 y5 y6 = some true) : False := by
 cases k <;> simp [laws_FnPolynomials.j4] at h
theorem laws_FnPolynomials.j6_not (k : Nat) {y0 : List Int} {y1 : Int} {y3 : Int} {y4 : Int} {y5 : Int} {y6 : Int} (h : laws_FnPolynomials.j6 k y0 y1 true y3 y4 y5 y6 = some true) : False := by
 cases k <;> simp [laws_FnPolynomials.j6] at h
/-- What follows behind n statements of a row of statements. -/
def dropSeq : Nat → Code → Code
  | 0, c => c
  | n + 1, .seq _ b => dropSeq n b
  | _ + 1, c => c
end Go.Proofs.Ytdhfbgbclibagaa.P
