/- Functions of the given program and their contracts, written by a program of this session (gen.py) over the kit's print. -/
import Derived.Test.YtdhfbgbclibagaaSQx0
import Derived.Test.YtdhfbgbclibagaaSQx6
import Derived.Test.YtdhfbgbclibagaaSQx7
import Derived.Test.YtdhfbgbclibagaaSQx8
import Derived.Test.YtdhfbgbclibagaaSQx9
import Derived.Test.YtdhfbgbclibagaaSQx15
import Derived.Test.YtdhfbgbclibagaaSQx16
import Derived.Test.YtdhfbgbclibagaaSQx17
namespace Go.Proofs.Ytdhfbgbclibagaa.P
open Go.RowKit Go.Proofs.YtdhfbgbclibagaaW.PrintWords Go.Proofs.YtdhfbgbclibagaaW.PrintLast Go.Proofs.YtdhfbgbclibagaaW.PrintMore
attribute [local go_sem] max2_int min2_int max_two min_two max_three min_three max_four min_four   -- for this text's walks alone
set_option linter.unusedVariables false
set_option linter.unusedSimpArgs false
mutual
def laws_FnSpectrum.j0 : Nat → List Int → Bool → Int → List Int → Bool → Int → Int → Option (Bool)
  | 0, _, _, _, _, _, _, _ => none
  | k + 1, x0, x4, x5, x8, x101, x543000, x543001 => if x101 = true then (some false) else (if x5 = 0 then (if 0 ≤ (IntKind.u64.wrap (x543000)) then (laws_FnSpectrum.l0 k x0 x4 x8 (shl .i64 1 (IntKind.u64.wrap (x543000))) 0 0 0 x543000 x543001) else (none)) else (laws_FnSpectrum.j6 k x0))
def laws_FnSpectrum.j6 : Nat → List Int → Option (Bool)
  | 0, _ => none
  | k + 1, x0 => (spec_DrawImmunityOf.f k x0).bind fun bt584 => ((impl_ImmunityOf.f k bt584.1 bt584.2).bind fun bt587 => ((spec_ImmunityOf.f k bt584.1 bt584.2).bind fun bt589 => ((spec_DrawCorrelationsOf.f k x0).bind fun bt591 => ((impl_CorrelationsOf.f bt591.1 bt591.2).bind fun bt594 => ((spec_CorrelationsOf.f k bt591.1 bt591.2).bind fun bt598 => ((spec_DrawInfluencesOf.f k x0).bind fun bt602 => ((impl_InfluencesOf.f k bt602.1 bt602.2).bind fun bt605 => ((spec_InfluencesOf.f k bt602.1 bt602.2).bind fun bt609 => ((spec_DrawIsBalanced.f k x0).bind fun bt613 => ((impl_IsBalanced.f bt613.1 bt613.2).bind fun bt616 => ((spec_IsBalanced.f k bt613.1 bt613.2).bind fun bt618 => ((spec_DrawAffineDistance.f k x0).bind fun bt620 => ((impl_AffineDistance.f k bt620.1 bt620.2).bind fun bt623 => ((spec_AffineDistance.f k bt620.1 bt620.2).bind fun bt625 => ((spec_DrawSpectrumOf.f k x0).bind fun bt627 => ((impl_SpectrumOf.f bt627.1 bt627.2).bind fun bt630 => ((spec_SpectrumOf.f k bt627.1 bt627.2).bind fun bt634 => (if bt587.2 = bt589.2 then (if bt587.1 = bt589.1 then (if bt594.2 = bt598.2 then ((laws_likeInts.f k bt594.1 bt598.1).bind fun t638 => (if t638 = true then (if bt605.2 = bt609.2 then ((laws_likeInts.f k bt605.1 bt609.1).bind fun t639 => (if t639 = true then (if bt616.2 = bt618.2 then (if (bt616.1 == bt618.1) = true then (if bt623.2 = bt625.2 then (if bt623.1 = bt625.1 then (if bt630.2 = bt634.2 then ((laws_likeInts.f k bt630.1 bt634.1).bind fun t640 => (some t640)) else (some false)) else (some false)) else (some false)) else (some false)) else (some false)) else (some false))) else (some false)) else (some false))) else (some false)) else (some false)) else (some false)))))))))))))))))))
def laws_FnSpectrum.l0 : Nat → List Int → Bool → List Int → Int → Int → Int → Int → Int → Int → Option (Bool)
  | 0, _, _, _, _, _, _, _, _, _ => none
  | k + 1, x0, x4, x8, x12, x13, x14, x15, x543000, x543001 => if x15 < (x8.length : Int) then (if 0 ≤ x15 then (if (rd x8 x15) > x14 then (if (wrap64 (-(rd x8 x15))) > (rd x8 x15) then (laws_FnSpectrum.l0 k x0 x4 x8 x12 (wrap64 (x13 + (wrap64 ((rd x8 x15) * (rd x8 x15))))) (wrap64 (-(rd x8 x15))) (wrap64 (x15 + 1)) x543000 x543001) else (laws_FnSpectrum.l0 k x0 x4 x8 x12 (wrap64 (x13 + (wrap64 ((rd x8 x15) * (rd x8 x15))))) (rd x8 x15) (wrap64 (x15 + 1)) x543000 x543001)) else (if (wrap64 (-(rd x8 x15))) > x14 then (laws_FnSpectrum.l0 k x0 x4 x8 x12 (wrap64 (x13 + (wrap64 ((rd x8 x15) * (rd x8 x15))))) (wrap64 (-(rd x8 x15))) (wrap64 (x15 + 1)) x543000 x543001) else (laws_FnSpectrum.l0 k x0 x4 x8 x12 (wrap64 (x13 + (wrap64 ((rd x8 x15) * (rd x8 x15))))) x14 (wrap64 (x15 + 1)) x543000 x543001))) else (none)) else ((impl_CorrelationsOf.f x543000 x543001).bind fun bt564 => ((impl_InfluencesOf.f k x543000 x543001).bind fun bt568 => ((impl_EssentialOf.f k x543000 x543001).bind fun bt572 => ((impl_IsBalanced.f x543000 x543001).bind fun bt576 => ((impl_AffineDistance.f k x543000 x543001).bind fun bt578 => (if bt564.2 = 0 then (if bt568.2 = 0 then (if bt572.2 = 0 then (if bt576.2 = 0 then (if bt578.2 = 0 then (if x13 = (wrap64 (x12 * x12)) then (if (bt564.1.length : Int) = x12 then (if 0 < (bt564.1.length : Int) then (if (rd bt564.1 0) = x12 then (if 0 < (x8.length : Int) then (if (bt576.1 != ((rd x8 0) == 0)) = true then (laws_FnSpectrum.j2 k x0 x4 bt564.1 bt568.1 bt572.1 true) else (laws_FnSpectrum.j2 k x0 x4 bt564.1 bt568.1 bt572.1 ((wrap64 ((wrap64 (2 * bt578.1)) + x14)) != x12))) else (none)) else (laws_FnSpectrum.j2 k x0 x4 bt564.1 bt568.1 bt572.1 true)) else (none)) else (laws_FnSpectrum.j2 k x0 x4 bt564.1 bt568.1 bt572.1 true)) else (laws_FnSpectrum.j2 k x0 x4 bt564.1 bt568.1 bt572.1 true)) else (laws_FnSpectrum.j2 k x0 x4 bt564.1 bt568.1 bt572.1 true)) else (laws_FnSpectrum.j2 k x0 x4 bt564.1 bt568.1 bt572.1 true)) else (laws_FnSpectrum.j2 k x0 x4 bt564.1 bt568.1 bt572.1 true)) else (laws_FnSpectrum.j2 k x0 x4 bt564.1 bt568.1 bt572.1 true)) else (laws_FnSpectrum.j2 k x0 x4 bt564.1 bt568.1 bt572.1 true)))))))
def laws_FnSpectrum.j2 : Nat → List Int → Bool → List Int → List Int → List Int → Bool → Option (Bool)
  | 0, _, _, _, _, _, _ => none
  | k + 1, x0, x4, x16, x18, x20, x225 => if x225 = true then (some false) else (laws_FnSpectrum.l1 k x0 x4 x16 x18 x20 0 0)
def laws_FnSpectrum.l1 : Nat → List Int → Bool → List Int → List Int → List Int → Int → Int → Option (Bool)
  | 0, _, _, _, _, _, _, _ => none
  | k + 1, x0, x4, x16, x18, x20, x26, x27 => if x27 < (x18.length : Int) then (if 0 ≤ x27 then (if (rd x18 x27) > 0 then (laws_FnSpectrum.l1 k x0 x4 x16 x18 x20 (wrap64 (x26 + 1)) (wrap64 (x27 + 1))) else (laws_FnSpectrum.l1 k x0 x4 x16 x18 x20 x26 (wrap64 (x27 + 1)))) else (none)) else (if x26 = (x20.length : Int) then (laws_FnSpectrum.l2 k x0 x4 x16 1) else (some false))
def laws_FnSpectrum.l2 : Nat → List Int → Bool → List Int → Int → Option (Bool)
  | 0, _, _, _, _ => none
  | k + 1, x0, x4, x16, x28 => if x28 < (x16.length : Int) then (laws_FnSpectrum.j5 k x0 x4 x16 x28 x4) else (laws_FnSpectrum.j5 k x0 x4 x16 x28 false)
def laws_FnSpectrum.j5 : Nat → List Int → Bool → List Int → Int → Bool → Option (Bool)
  | 0, _, _, _, _, _ => none
  | k + 1, x0, x4, x16, x28, x249 => if x249 = true then (if 0 ≤ x28 then (if x28 < (x16.length : Int) then (if (rd x16 x28) = 0 then (laws_FnSpectrum.l2 k x0 x4 x16 (wrap64 (x28 + 1))) else (some false)) else (none)) else (none)) else (laws_FnSpectrum.j6 k x0)
end
def laws_FnSpectrum.f (k : Nat) (l0 : List Int) : Option (Bool) := (laws_big.f l0).bind fun t539 => (if t539 = true then (some true) else ((spec_DrawIsBent.f k l0).bind fun bt540 => ((impl_IsBent.f k bt540.1 bt540.2).bind fun bt543 => ((spec_IsBent.f k bt540.1 bt540.2).bind fun bt545 => ((impl_SpectrumOf.f bt540.1 bt540.2).bind fun bt547 => ((spec_SpectrumOf.f k bt540.1 bt540.2).bind fun bt551 => (if bt543.2 = bt545.2 then (if (bt543.1 != bt545.1) = true then (laws_FnSpectrum.j0 k l0 bt543.1 bt543.2 bt547.1 true bt540.1 bt540.2) else (if bt547.2 = bt551.2 then ((laws_likeInts.f k bt547.1 bt551.1).bind fun t555 => (laws_FnSpectrum.j0 k l0 bt543.1 bt543.2 bt547.1 (!t555) bt540.1 bt540.2)) else (laws_FnSpectrum.j0 k l0 bt543.1 bt543.2 bt547.1 true bt540.1 bt540.2))) else (laws_FnSpectrum.j0 k l0 bt543.1 bt543.2 bt547.1 true bt540.1 bt540.2))))))))
theorem laws_FnSpectrum.j0_not (k : Nat) {y0 : List Int} {y1 : Bool} {y2 : Int} {y3 : List Int} {y5 : Int} {y6 : Int} (h : laws_FnSpectrum.j0 k y0 y1 y2 y3 true y5 y6 = some true) : False := by
  cases k <;> simp [laws_FnSpectrum.j0] at h
theorem laws_FnSpectrum.j2_not (k : Nat) {y0 : List Int} {y1 : Bool} {y2 : List Int} {y3 : List Int} {y4 : List Int} (h : laws_FnSpectrum.j2 k y0 y1 y2 y3 y4 true = some true) : False := by
  cases k <;> simp [laws_FnSpectrum.j2] at h
/-- What follows behind n statements of a row of statements. -/
def dropSeq : Nat → Code → Code
  | 0, c => c
  | n + 1, .seq _ b => dropSeq n b
  | _ + 1, c => c
end Go.Proofs.Ytdhfbgbclibagaa.P
