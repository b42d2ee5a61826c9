/- Functions of the given program and their contracts, written by a program of this session (gen.py) over the kit's print. -/
import Derived.Test.YtdhfbgbclibagaaSQx0
import Derived.Test.YtdhfbgbclibagaaSQx6
import Derived.Test.YtdhfbgbclibagaaSQx7
import Derived.Test.YtdhfbgbclibagaaSQx8
import Derived.Test.YtdhfbgbclibagaaSQx9
import Derived.Test.YtdhfbgbclibagaaSQx15
import Derived.Test.YtdhfbgbclibagaaSQx16
import Derived.Test.YtdhfbgbclibagaaSQx17
namespace Go.Proofs.Ytdhfbgbclibagaa.P
open Go.RowKit Go.Proofs.YtdhfbgbclibagaaW.PrintWords Go.Proofs.YtdhfbgbclibagaaW.PrintLast Go.Proofs.YtdhfbgbclibagaaW.PrintMore
attribute [local go_sem] max2_int min2_int max_two min_two max_three min_three max_four min_four   -- for this text's walks alone
set_option linter.unusedVariables false
set_option linter.unusedSimpArgs false
mutual
def laws_FnSpectrum.j0 : Nat → List Int → Bool → Int → List Int → Bool → Int → Int → Option (Bool)
  | 0, _, _, _, _, _, _, _ => none
  | k + 1, x0, x4, x5, x8, x101, x543000, x543001 => if x101 = true then (some false) else (if x5 = 0 then (if 0 ≤ (IntKind.u64.wrap (x543000)) then (laws_FnSpectrum.l0 k x0 x4 x8 (shl .i64 1 (IntKind.u64.wrap (x543000))) 0 0 0 x543000 x543001) else (none)) else (laws_FnSpectrum.j6 k x0))
def laws_FnSpectrum.j6 : Nat → List Int → Option (Bool)
  | 0, _ => none
  | k + 1, x0 => (spec_DrawImmunityOf.f k x0).bind fun bt584 => ((impl_ImmunityOf.f k bt584.1 bt584.2).bind fun bt587 => ((spec_ImmunityOf.f k bt584.1 bt584.2).bind fun bt589 => ((spec_DrawCorrelationsOf.f k x0).bind fun bt591 => ((impl_CorrelationsOf.f bt591.1 bt591.2).bind fun bt594 => ((spec_CorrelationsOf.f k bt591.1 bt591.2).bind fun bt598 => ((spec_DrawInfluencesOf.f k x0).bind fun bt602 => ((impl_InfluencesOf.f k bt602.1 bt602.2).bind fun bt605 => ((spec_InfluencesOf.f k bt602.1 bt602.2).bind fun bt609 => ((spec_DrawIsBalanced.f k x0).bind fun bt613 => ((impl_IsBalanced.f bt613.1 bt613.2).bind fun bt616 => ((spec_IsBalanced.f k bt613.1 bt613.2).bind fun bt618 => ((spec_DrawAffineDistance.f k x0).bind fun bt620 => ((impl_AffineDistance.f k bt620.1 bt620.2).bind fun bt623 => ((spec_AffineDistance.f k bt620.1 bt620.2).bind fun bt625 => ((spec_DrawSpectrumOf.f k x0).bind fun bt627 => ((impl_SpectrumOf.f bt627.1 bt627.2).bind fun bt630 => ((spec_SpectrumOf.f k bt627.1 bt627.2).bind fun bt634 => (if bt587.2 = bt589.2 then (if bt587.1 = bt589.1 then (if bt594.2 = bt598.2 then ((laws_likeInts.f k bt594.1 bt598.1).bind fun t638 => (if t638 = true then (if bt605.2 = bt609.2 then ((laws_likeInts.f k bt605.1 bt609.1).bind fun t639 => (if t639 = true then (if bt616.2 = bt618.2 then (if (bt616.1 == bt618.1) = true then (if bt623.2 = bt625.2 then (if bt623.1 = bt625.1 then (if bt630.2 = bt634.2 then ((laws_likeInts.f k bt630.1 bt634.1).bind fun t640 => (some t640)) else (some false)) else (some false)) else (some false)) else (some false)) else (some false)) else (some false))) else (some false)) else (some false))) else (some false)) else (some false)) else (some false)))))))))))))))))))
def laws_FnSpectrum.l0 : Nat → List Int → Bool → List Int → Int → Int → Int → Int → Int → Int → Option (Bool)
  | 0, _, _, _, _, _, _, _, _, _ => none
  | k + 1, x0, x4, x8, x12, x13, x14, x15, x543000, x543001 => if x15 < (x8.length : Int) then (if 0 ≤ x15 then (if (rd x8 x15) > x14 then (if (wrap64 (-(rd x8 x15))) > (rd x8 x15) then (laws_FnSpectrum.l0 k x0 x4 x8 x12 (wrap64 (x13 + (wrap64 ((rd x8 x15) * (rd x8 x15))))) (wrap64 (-(rd x8 x15))) (wrap64 (x15 + 1)) x543000 x543001) else (laws_FnSpectrum.l0 k x0 x4 x8 x12 (wrap64 (x13 + (wrap64 ((rd x8 x15) * (rd x8 x15))))) (rd x8 x15) (wrap64 (x15 + 1)) x543000 x543001)) else (if (wrap64 (-(rd x8 x15))) > x14 then (laws_FnSpectrum.l0 k x0 x4 x8 x12 (wrap64 (x13 + (wrap64 ((rd x8 x15) * (rd x8 x15))))) (wrap64 (-(rd x8 x15))) (wrap64 (x15 + 1)) x543000 x543001) else (laws_FnSpectrum.l0 k x0 x4 x8 x12 (wrap64 (x13 + (wrap64 ((rd x8 x15) * (rd x8 x15))))) x14 (wrap64 (x15 + 1)) x543000 x543001))) else (none)) else ((impl_CorrelationsOf.f x543000 x543001).bind fun bt564 => ((impl_InfluencesOf.f k x543000 x543001).bind fun bt568 => ((impl_EssentialOf.f k x543000 x543001).bind fun bt572 => ((impl_IsBalanced.f x543000 x543001).bind fun bt576 => ((impl_AffineDistance.f k x543000 x543001).bind fun bt578 => (if bt564.2 = 0 then (if bt568.2 = 0 then (if bt572.2 = 0 then (if bt576.2 = 0 then (if bt578.2 = 0 then (if x13 = (wrap64 (x12 * x12)) then (if (bt564.1.length : Int) = x12 then (if 0 < (bt564.1.length : Int) then (if (rd bt564.1 0) = x12 then (if 0 < (x8.length : Int) then (if (bt576.1 != ((rd x8 0) == 0)) = true then (laws_FnSpectrum.j2 k x0 x4 bt564.1 bt568.1 bt572.1 true) else (laws_FnSpectrum.j2 k x0 x4 bt564.1 bt568.1 bt572.1 ((wrap64 ((wrap64 (2 * bt578.1)) + x14)) != x12))) else (none)) else (laws_FnSpectrum.j2 k x0 x4 bt564.1 bt568.1 bt572.1 true)) else (none)) else (laws_FnSpectrum.j2 k x0 x4 bt564.1 bt568.1 bt572.1 true)) else (laws_FnSpectrum.j2 k x0 x4 bt564.1 bt568.1 bt572.1 true)) else (laws_FnSpectrum.j2 k x0 x4 bt564.1 bt568.1 bt572.1 true)) else (laws_FnSpectrum.j2 k x0 x4 bt564.1 bt568.1 bt572.1 true)) else (laws_FnSpectrum.j2 k x0 x4 bt564.1 bt568.1 bt572.1 true)) else (laws_FnSpectrum.j2 k x0 x4 bt564.1 bt568.1 bt572.1 true)) else (laws_FnSpectrum.j2 k x0 x4 bt564.1 bt568.1 bt572.1 true)))))))
def laws_FnSpectrum.j2 : Nat → List Int → Bool → List Int → List Int → List Int → Bool → Option (Bool)
  | 0, _, _, _, _, _, _ => none
  | k + 1, x0, x4, x16, x18, x20, x225 => if x225 = true then (some false) else (laws_FnSpectrum.l1 k x0 x4 x16 x18 x20 0 0)
def laws_FnSpectrum.l1 : Nat → List Int → Bool → List Int → List Int → List Int → Int → Int → Option (Bool)
  | 0, _, _, _, _, _, _, _ => none
  | k + 1, x0, x4, x16, x18, x20, x26, x27 => if x27 < (x18.length : Int) then (if 0 ≤ x27 then (if (rd x18 x27) > 0 then (laws_FnSpectrum.l1 k x0 x4 x16 x18 x20 (wrap64 (x26 + 1)) (wrap64 (x27 + 1))) else (laws_FnSpectrum.l1 k x0 x4 x16 x18 x20 x26 (wrap64 (x27 + 1)))) else (none)) else (if x26 = (x20.length : Int) then (laws_FnSpectrum.l2 k x0 x4 x16 1) else (some false))
def laws_FnSpectrum.l2 : Nat → List Int → Bool → List Int → Int → Option (Bool)
  | 0, _, _, _, _ => none
  | k + 1, x0, x4, x16, x28 => if x28 < (x16.length : Int) then (laws_FnSpectrum.j5 k x0 x4 x16 x28 x4) else (laws_FnSpectrum.j5 k x0 x4 x16 x28 false)
def laws_FnSpectrum.j5 : Nat → List Int → Bool → List Int → Int → Bool → Option (Bool)
  | 0, _, _, _, _, _ => none
  | k + 1, x0, x4, x16, x28, x249 => if x249 = true then (if 0 ≤ x28 then (if x28 < (x16.length : Int) then (if (rd x16 x28) = 0 then (laws_FnSpectrum.l2 k x0 x4 x16 (wrap64 (x28 + 1))) else (some false)) else (none)) else (none)) else (laws_FnSpectrum.j6 k x0)
end
def laws_FnSpectrum.f (k : Nat) (l0 : List Int) : Option (Bool) := (laws_big.f l0).bind fun t539 => (if t539 = true then (some true) else ((spec_DrawIsBent.f k l0).bind fun bt540 => ((impl_IsBent.f k bt540.1 bt540.2).bind fun bt543 => ((spec_IsBent.f k bt540.1 bt540.2).bind fun bt545 => ((impl_SpectrumOf.f bt540.1 bt540.2).bind fun bt547 => ((spec_SpectrumOf.f k bt540.1 bt540.2).bind fun bt551 => (if bt543.2 = bt545.2 then (if (bt543.1 != bt545.1) = true then (laws_FnSpectrum.j0 k l0 bt543.1 bt543.2 bt547.1 true bt540.1 bt540.2) else (if bt547.2 = bt551.2 then ((laws_likeInts.f k bt547.1 bt551.1).bind fun t555 => (laws_FnSpectrum.j0 k l0 bt543.1 bt543.2 bt547.1 (!t555) bt540.1 bt540.2)) else (laws_FnSpectrum.j0 k l0 bt543.1 bt543.2 bt547.1 true bt540.1 bt540.2))) else (laws_FnSpectrum.j0 k l0 bt543.1 bt543.2 bt547.1 true bt540.1 bt540.2))))))))
theorem laws_FnSpectrum.j0_not (k : Nat) {y0 : List Int} {y1 : Bool} {y2 : Int} {y3 : List Int} {y5 : Int} {y6 : Int} (h : laws_FnSpectrum.j0 k y0 y1 y2 y3 true y5 y6 = some true) : False := by
  cases k <;> simp [laws_FnSpectrum.j0] at h
theorem laws_FnSpectrum.j2_not (k : Nat) {y0 : List Int} {y1 : Bool} {y2 : List Int} {y3 : List Int} {y4 : List Int} (h : laws_FnSpectrum.j2 k y0 y1 y2 y3 y4 true = some true) : False := by
  cases k <;> simp [laws_FnSpectrum.j2] at h
set_option maxHeartbeats 8000000 in
set_option maxRecDepth 100000 in
theorem laws_FnSpectrum.calls (k : Nat) (A0 : Option Addr) (c0 : Nat) (l0 : List Int) (r : Bool) (w : World) (hr0 : Kd.C (Kd.int .u8) w A0 l0.length l0) (hc0 : l0.length ≤ c0) (h : laws_FnSpectrum.f k l0 = some true) :
    Calls Try.prog 13 #[.slice A0 l0.length c0] w fun e w' => e = .returned (.bool true) ∧ Below w.heap.size w w' := by
  have hu27 := Try.underlying27
  have HR0 := Aside0.mk hr0
  have HC0 := Aside0.mk hc0
  clear hr0 hc0
  have HB := aa (Below.refl w.heap.size w)
  have H : ((laws_big.f l0).bind fun t539 => (if t539 = true then (some true) else ((spec_DrawIsBent.f k l0).bind fun bt540 => ((impl_IsBent.f k bt540.1 bt540.2).bind fun bt543 => ((spec_IsBent.f k bt540.1 bt540.2).bind fun bt545 => ((impl_SpectrumOf.f bt540.1 bt540.2).bind fun bt547 => ((spec_SpectrumOf.f k bt540.1 bt540.2).bind fun bt551 => (if bt543.2 = bt545.2 then (if (bt543.1 != bt545.1) = true then (laws_FnSpectrum.j0 k l0 bt543.1 bt543.2 bt547.1 true bt540.1 bt540.2) else (if bt547.2 = bt551.2 then ((laws_likeInts.f k bt547.1 bt551.1).bind fun t555 => (laws_FnSpectrum.j0 k l0 bt543.1 bt543.2 bt547.1 (!t555) bt540.1 bt540.2)) else (laws_FnSpectrum.j0 k l0 bt543.1 bt543.2 bt547.1 true bt540.1 bt540.2))) else (laws_FnSpectrum.j0 k l0 bt543.1 bt543.2 bt547.1 true bt540.1 bt540.2))))))))) = some true := h
  clear h
  replace H := Option.bind_eq_some_iff.mp H
  obtain ⟨t539, A20, H⟩ := H
  replace H : (if t539 = true then (some true) else ((spec_DrawIsBent.f k l0).bind fun bt540 => ((impl_IsBent.f k bt540.1 bt540.2).bind fun bt543 => ((spec_IsBent.f k bt540.1 bt540.2).bind fun bt545 => ((impl_SpectrumOf.f bt540.1 bt540.2).bind fun bt547 => ((spec_SpectrumOf.f k bt540.1 bt540.2).bind fun bt551 => (if bt543.2 = bt545.2 then (if (bt543.1 != bt545.1) = true then (laws_FnSpectrum.j0 k l0 bt543.1 bt543.2 bt547.1 true bt540.1 bt540.2) else (if bt547.2 = bt551.2 then ((laws_likeInts.f k bt547.1 bt551.1).bind fun t555 => (laws_FnSpectrum.j0 k l0 bt543.1 bt543.2 bt547.1 (!t555) bt540.1 bt540.2)) else (laws_FnSpectrum.j0 k l0 bt543.1 bt543.2 bt547.1 true bt540.1 bt540.2))) else (laws_FnSpectrum.j0 k l0 bt543.1 bt543.2 bt547.1 true bt540.1 bt540.2)))))))) = some true := H
  have A2 := Aside0.mk A20
  clear A20
  by_cases c3 : t539 = true
  · subst c3
    have H1 : (some true) = some true := by first | (rw [if_pos rfl] at H; exact H) | rfl
    clear H
    have H := H1
    clear H1
    clear H
    go_enter Try.func13, Try.ntmps13
    go_wp2_with (first | (go_at_call 41; (with_reducible refine (laws_big.calls _ _ l0 true _ ?side1 ?side2 A2.out).mono ?_); (case side1 => repeat (first | exact HR0.out | (with_reducible refine Kd.C_alloc ?_ _) | (with_reducible refine Kd.C_drewN ?_ _) | (with_reducible refine Kd.C_drew ?_))); (case side2 => exact HC0.out); rintro e w' ⟨rfl, ⟨nd, rfl⟩⟩; (try first | exact ⟨rfl, _, World.drewN_drewN _ _ _⟩ | exact ⟨rfl, _, Eq.trans (World.drewN_drewN _ _ _) (congrArg (World.drewN _) (Nat.add_assoc _ _ _))⟩)))
    repeat (go_quiet (first | (go_at_call 41; (with_reducible refine (laws_big.calls _ _ l0 true _ ?side1 ?side2 A2.out).mono ?_); (case side1 => repeat (first | exact HR0.out | (with_reducible refine Kd.C_alloc ?_ _) | (with_reducible refine Kd.C_drewN ?_ _) | (with_reducible refine Kd.C_drew ?_))); (case side2 => exact HC0.out); rintro e w' ⟨rfl, ⟨nd, rfl⟩⟩; (try first | exact ⟨rfl, _, World.drewN_drewN _ _ _⟩ | exact ⟨rfl, _, Eq.trans (World.drewN_drewN _ _ _) (congrArg (World.drewN _) (Nat.add_assoc _ _ _))⟩))); try go_wp2_with (first | (go_at_call 41; (with_reducible refine (laws_big.calls _ _ l0 true _ ?side1 ?side2 A2.out).mono ?_); (case side1 => repeat (first | exact HR0.out | (with_reducible refine Kd.C_alloc ?_ _) | (with_reducible refine Kd.C_drewN ?_ _) | (with_reducible refine Kd.C_drew ?_))); (case side2 => exact HC0.out); rintro e w' ⟨rfl, ⟨nd, rfl⟩⟩; (try first | exact ⟨rfl, _, World.drewN_drewN _ _ _⟩ | exact ⟨rfl, _, Eq.trans (World.drewN_drewN _ _ _) (congrArg (World.drewN _) (Nat.add_assoc _ _ _))⟩))))
    go_ret
    exact ⟨by first | rfl | (simp [errW_none, errW_some] <;> rfl) | (simp [*, errW_none, errW_some] <;> rfl), iHB⟩
  · replace c3 := Bool.eq_false_iff.mpr c3
    subst c3
    have H1 : ((spec_DrawIsBent.f k l0).bind fun bt540 => ((impl_IsBent.f k bt540.1 bt540.2).bind fun bt543 => ((spec_IsBent.f k bt540.1 bt540.2).bind fun bt545 => ((impl_SpectrumOf.f bt540.1 bt540.2).bind fun bt547 => ((spec_SpectrumOf.f k bt540.1 bt540.2).bind fun bt551 => (if bt543.2 = bt545.2 then (if (bt543.1 != bt545.1) = true then (laws_FnSpectrum.j0 k l0 bt543.1 bt543.2 bt547.1 true bt540.1 bt540.2) else (if bt547.2 = bt551.2 then ((laws_likeInts.f k bt547.1 bt551.1).bind fun t555 => (laws_FnSpectrum.j0 k l0 bt543.1 bt543.2 bt547.1 (!t555) bt540.1 bt540.2)) else (laws_FnSpectrum.j0 k l0 bt543.1 bt543.2 bt547.1 true bt540.1 bt540.2))) else (laws_FnSpectrum.j0 k l0 bt543.1 bt543.2 bt547.1 true bt540.1 bt540.2))))))) = some true := by rw [if_neg (show ¬ (false = true) by decide)] at H; exact H
    clear H
    have H := H1
    clear H1
    replace H := Option.bind_eq_some_iff.mp H
    obtain ⟨⟨t540, t541⟩, A40, H⟩ := H
    replace H : ((impl_IsBent.f k t540 t541).bind fun bt543 => ((spec_IsBent.f k t540 t541).bind fun bt545 => ((impl_SpectrumOf.f t540 t541).bind fun bt547 => ((spec_SpectrumOf.f k t540 t541).bind fun bt551 => (if bt543.2 = bt545.2 then (if (bt543.1 != bt545.1) = true then (laws_FnSpectrum.j0 k l0 bt543.1 bt543.2 bt547.1 true t540 t541) else (if bt547.2 = bt551.2 then ((laws_likeInts.f k bt547.1 bt551.1).bind fun t555 => (laws_FnSpectrum.j0 k l0 bt543.1 bt543.2 bt547.1 (!t555) t540 t541)) else (laws_FnSpectrum.j0 k l0 bt543.1 bt543.2 bt547.1 true t540 t541))) else (laws_FnSpectrum.j0 k l0 bt543.1 bt543.2 bt547.1 true t540 t541)))))) = some true := H
    have A4 := Aside0.mk A40
    clear A40
    replace H := Option.bind_eq_some_iff.mp H
    obtain ⟨⟨t543, t544⟩, A50, H⟩ := H
    replace H : ((spec_IsBent.f k t540 t541).bind fun bt545 => ((impl_SpectrumOf.f t540 t541).bind fun bt547 => ((spec_SpectrumOf.f k t540 t541).bind fun bt551 => (if t544 = bt545.2 then (if (t543 != bt545.1) = true then (laws_FnSpectrum.j0 k l0 t543 t544 bt547.1 true t540 t541) else (if bt547.2 = bt551.2 then ((laws_likeInts.f k bt547.1 bt551.1).bind fun t555 => (laws_FnSpectrum.j0 k l0 t543 t544 bt547.1 (!t555) t540 t541)) else (laws_FnSpectrum.j0 k l0 t543 t544 bt547.1 true t540 t541))) else (laws_FnSpectrum.j0 k l0 t543 t544 bt547.1 true t540 t541))))) = some true := H
    have A5 := Aside0.mk A50
    clear A50
    replace H := Option.bind_eq_some_iff.mp H
    obtain ⟨⟨t545, t546⟩, A60, H⟩ := H
    replace H : ((impl_SpectrumOf.f t540 t541).bind fun bt547 => ((spec_SpectrumOf.f k t540 t541).bind fun bt551 => (if t544 = t546 then (if (t543 != t545) = true then (laws_FnSpectrum.j0 k l0 t543 t544 bt547.1 true t540 t541) else (if bt547.2 = bt551.2 then ((laws_likeInts.f k bt547.1 bt551.1).bind fun t555 => (laws_FnSpectrum.j0 k l0 t543 t544 bt547.1 (!t555) t540 t541)) else (laws_FnSpectrum.j0 k l0 t543 t544 bt547.1 true t540 t541))) else (laws_FnSpectrum.j0 k l0 t543 t544 bt547.1 true t540 t541)))) = some true := H
    have A6 := Aside0.mk A60
    clear A60
    replace H := Option.bind_eq_some_iff.mp H
    obtain ⟨⟨t547, t550⟩, A70, H⟩ := H
    replace H : ((spec_SpectrumOf.f k t540 t541).bind fun bt551 => (if t544 = t546 then (if (t543 != t545) = true then (laws_FnSpectrum.j0 k l0 t543 t544 t547 true t540 t541) else (if t550 = bt551.2 then ((laws_likeInts.f k t547 bt551.1).bind fun t555 => (laws_FnSpectrum.j0 k l0 t543 t544 t547 (!t555) t540 t541)) else (laws_FnSpectrum.j0 k l0 t543 t544 t547 true t540 t541))) else (laws_FnSpectrum.j0 k l0 t543 t544 t547 true t540 t541))) = some true := H
    have A7 := Aside0.mk A70
    clear A70
    replace H := Option.bind_eq_some_iff.mp H
    obtain ⟨⟨t551, t554⟩, A80, H⟩ := H
    replace H : (if t544 = t546 then (if (t543 != t545) = true then (laws_FnSpectrum.j0 k l0 t543 t544 t547 true t540 t541) else (if t550 = t554 then ((laws_likeInts.f k t547 t551).bind fun t555 => (laws_FnSpectrum.j0 k l0 t543 t544 t547 (!t555) t540 t541)) else (laws_FnSpectrum.j0 k l0 t543 t544 t547 true t540 t541))) else (laws_FnSpectrum.j0 k l0 t543 t544 t547 true t540 t541)) = some true := H
    have A8 := Aside0.mk A80
    clear A80
    have HC9 := Aside0.mk H
    clear H
    go_enter Try.func13, Try.ntmps13
    go_upto_region 8 with (first | (go_at_call 41; (with_reducible refine (laws_big.calls _ _ l0 false _ ?side1 ?side2 A2.out).mono ?_); (case side1 => repeat (first | exact HR0.out | (with_reducible refine Kd.C_alloc ?_ _) | (with_reducible refine Kd.C_drewN ?_ _) | (with_reducible refine Kd.C_drew ?_))); (case side2 => exact HC0.out); rintro e w' ⟨rfl, ⟨nd, rfl⟩⟩; (try first | exact ⟨rfl, _, World.drewN_drewN _ _ _⟩ | exact ⟨rfl, _, Eq.trans (World.drewN_drewN _ _ _) (congrArg (World.drewN _) (Nat.add_assoc _ _ _))⟩)) | (go_at_call 42; (with_reducible refine (spec_DrawIsBent.calls k _ _ l0 t540 t541 _ ?side1 ?side2 A4.out).mono ?_); (case side1 => repeat (first | exact HR0.out | (with_reducible refine Kd.C_alloc ?_ _) | (with_reducible refine Kd.C_drewN ?_ _) | (with_reducible refine Kd.C_drew ?_))); (case side2 => exact HC0.out); rintro e w10 ⟨rfl, hb⟩; have n0_ := aa (below_step iHB hb); clear HB; have HB := n0_; clear n0_; (try clear hb); (try clear hb2); (try clear hk); (try clear hi)) | ((with_reducible refine gate_dst (N := 3) rfl ?_); (try (refine gate_guard (by rfl) ?_; dsimp only)); refine box_event ?hg (N := 3) ?hd (cs := #[.int .i64 0, .int .i64 0]) (t := 27) ?hr ?_; (case hd => rfl); (case hg => rfl); (case hr => first | (go_simp; done) | (go_simp; rfl)); intro gb542 hg w11 hbox hb; have n0_ := aa (below_step iHB hb); have n1_ := aa (hbox); have n2_ := aa ((by rw [hg]; exact (below_size iHB) : w.heap.size ≤ gb542)); have n3_ := aa ((by rw [hg]; exact (below_size iHB) : w.heap.size ≤ gb542)); clear HB; have HB := n0_; have BK542 := n1_; have GW542 := n2_; have GE542 := n3_; clear n0_ n1_ n2_ n3_; clear hb hbox hg; have hcz12_0 : w11.cell? ⟨gb542, 0, none⟩ = some (.int .i64 0) := (blk_cell BK542.out 0).trans rfl; have hcz12_1 : w11.cell? ⟨gb542, 1, none⟩ = some (.int .i64 0) := (blk_cell BK542.out 1).trans rfl; have hfz12_0 := blk_frozen BK542.out 0; have hfz12_1 := blk_frozen BK542.out 1) | (go_at_call 30; (with_reducible refine (impl_IsBent.calls k t540 t541 t543 t544 _ A5.out).mono ?_); rintro e w13 ⟨rfl, hb⟩; have n0_ := aa (blk_below (g := gb542) (o := .cells #[.int .i64 t540, .int .i64 t541] 27 (0, 0)) (by (with_reducible repeat (first | refine blk_drewN ?_ _ | refine blk_drew ?_ | refine blk_alloc ?_ _)); refine blk_put (cs := #[.int .i64 t540, .int .i64 0]) ?_ 1 _ rfl; (with_reducible repeat (first | refine blk_drewN ?_ _ | refine blk_drew ?_ | refine blk_alloc ?_ _)); refine blk_put (cs := #[.int .i64 0, .int .i64 0]) ?_ 0 _ rfl; exact iBK BK542.out) hb); have n1_ := aa (below_step iHB hb); clear BK542; clear HB; have BK542 := n0_; have HB := n1_; clear n0_ n1_; (try clear hb); (try clear hb2); (try clear hk); (try clear hi); have hcz14_0 : w13.cell? ⟨gb542, 0, none⟩ = some (.int .i64 t540) := (blk_cell BK542.out 0).trans rfl; have hcz14_1 : w13.cell? ⟨gb542, 1, none⟩ = some (.int .i64 t541) := (blk_cell BK542.out 1).trans rfl; have hfz14_0 := blk_frozen BK542.out 0; have hfz14_1 := blk_frozen BK542.out 1) | (go_at_call 29; (with_reducible refine (spec_IsBent.calls k t540 t541 t545 t546 _ A6.out).mono ?_); rintro e w15 ⟨rfl, hb⟩; have n0_ := aa (blk_below (g := gb542) (o := .cells #[.int .i64 t540, .int .i64 t541] 27 (0, 0)) (iBK BK542.out) hb); have n1_ := aa (below_step iHB hb); clear BK542; clear HB; have BK542 := n0_; have HB := n1_; clear n0_ n1_; (try clear hb); (try clear hb2); (try clear hk); (try clear hi); have hcz16_0 : w15.cell? ⟨gb542, 0, none⟩ = some (.int .i64 t540) := (blk_cell BK542.out 0).trans rfl; have hcz16_1 : w15.cell? ⟨gb542, 1, none⟩ = some (.int .i64 t541) := (blk_cell BK542.out 1).trans rfl; have hfz16_0 := blk_frozen BK542.out 0; have hfz16_1 := blk_frozen BK542.out 1) | (go_at_call 36; (with_reducible refine (impl_SpectrumOf.calls t540 t541 t547 t550 _ A7.out).mono ?_); rintro e w17 ⟨v548, rfl, ho0, hb⟩; have n0_ := aa (Kd.R_lower ho0 (below_size iHB)); have n1_ := aa (blk_below (g := gb542) (o := .cells #[.int .i64 t540, .int .i64 t541] 27 (0, 0)) (iBK BK542.out) hb); have n2_ := aa (below_step iHB hb); clear BK542; clear HB; have HO549 := n0_; have BK542 := n1_; have HB := n2_; clear n0_ n1_ n2_; (try clear hb); (try clear hb2); (try clear hk); (try clear hi); (try clear ho0); have hcz18_0 : w17.cell? ⟨gb542, 0, none⟩ = some (.int .i64 t540) := (blk_cell BK542.out 0).trans rfl; have hcz18_1 : w17.cell? ⟨gb542, 1, none⟩ = some (.int .i64 t541) := (blk_cell BK542.out 1).trans rfl; have hfz18_0 := blk_frozen BK542.out 0; have hfz18_1 := blk_frozen BK542.out 1) | (go_at_call 35; (with_reducible refine (spec_SpectrumOf.calls k t540 t541 t551 t554 _ A8.out).mono ?_); rintro e w19 ⟨v552, rfl, ho0, hb⟩; have n0_ := aa (Kd.R_elder' (by (with_reducible repeat (first | apply Kd.R_alloc | apply Kd.R_drewN | apply Kd.R_drew)); exact HO549.out) (Kd.R_base ho0) hb); have n1_ := aa (Kd.R_lower (Kd.R_new' ho0 (Kd.R_lt (by (with_reducible repeat (first | apply Kd.R_alloc | apply Kd.R_drewN | apply Kd.R_drew)); exact HO549.out))) (below_size iHB)); have n2_ := aa (blk_below (g := gb542) (o := .cells #[.int .i64 t540, .int .i64 t541] 27 (0, 0)) (iBK BK542.out) hb); have n3_ := aa (below_step iHB hb); clear HO549; clear BK542; clear HB; have HO549 := n0_; have HO553 := n1_; have BK542 := n2_; have HB := n3_; clear n0_ n1_ n2_ n3_; (try clear hb); (try clear hb2); (try clear hk); (try clear hi); (try clear ho0)))
    (try simp only [Act.put, List.setIfInBounds_toArray, List.set_cons_zero, List.set_cons_succ])
    go_cut [101] from 83 to 101 (fun v101 wc => ∃ (kq : Nat) (x101_8 : Bool), v101 = .bool x101_8 ∧ Aside0 (laws_FnSpectrum.j0 kq l0 t543 t544 t547 x101_8 t540 t541 = some true) ∧ Aside0 (kq ≤ k) ∧ Aside0 (Kd.R (Kd.int .i64) 2 wc w.heap.size (fun _ => True) v548 t547) ∧ Aside0 (wc.heap[gb542]? = some (.cells #[.int .i64 t540, .int .i64 t541] 27 (0, 0))) ∧ Aside0 (Below w.heap.size w wc))
    case first =>
      have H := HC9.out
      clear HC9
      by_cases c20 : t544 = t546
      · rw [if_pos c20] at H
        have c20b0 : (t544 == t546) = true := beq_iff_eq.mpr c20
        have c20b1 : (t544 != t546) = false := bne_eq_false_iff_eq.mpr c20
        clear c20
        (first | rw [c20b0] | (simp only [i64_w, i32_w]; rw [c20b0]) | skip)
        by_cases c21 : (t543 != t545) = true
        · rw [if_pos c21] at H
          have c21b0 : (t543 != t545) = true := c21
          (try (have c21b1 : decide (t543 = t545) = false := by simpa using c21))
          (try (have c21b2 : (t543 == t545) = false := by simpa using c21))
          (try (have c21b3 : ¬ (t543 = t545) := by simpa using c21))
          clear c21
          exact (laws_FnSpectrum.j0_not _ H).elim
        · rw [if_neg c21] at H
          have c21b0 : (t543 != t545) = false := by simpa using c21
          (try (have c21b1 : decide (t543 = t545) = true := by simpa using c21))
          (try (have c21b2 : (t543 == t545) = true := by simpa using c21))
          clear c21
          by_cases c22 : t550 = t554
          · rw [if_pos c22] at H
            have c22b0 : (t550 == t554) = true := beq_iff_eq.mpr c22
            have c22b1 : (t550 != t554) = false := bne_eq_false_iff_eq.mpr c22
            clear c22
            replace H := Option.bind_eq_some_iff.mp H
            obtain ⟨t555, A230, H⟩ := H
            replace H : (laws_FnSpectrum.j0 k l0 t543 t544 t547 (!t555) t540 t541) = some true := H
            have A23 := Aside0.mk A230
            clear A230
            have H' := Aside0.mk H
            clear H
            obtain ⟨Ao24, co24, eo24⟩ := Kd.R_slice HO549.out
            subst eo24
            obtain ⟨Ao25, co25, eo25⟩ := Kd.R_slice HO553.out
            subst eo25
            go_wp2_with (first | (go_at_call 43; (with_reducible refine (laws_likeInts.calls k _ _ t547 _ _ t551 t555 _ ?side1 ?side2 ?side3 ?side4 A23.out).mono ?_); (case side1 => repeat (first | exact (Kd.R_reads' HO549.out).2.2 | (with_reducible refine Kd.C_alloc ?_ _) | (with_reducible refine Kd.C_drewN ?_ _) | (with_reducible refine Kd.C_drew ?_))); (case side2 => exact (Kd.R_reads' HO549.out).2.1); (case side3 => repeat (first | exact (Kd.R_reads' HO553.out).2.2 | (with_reducible refine Kd.C_alloc ?_ _) | (with_reducible refine Kd.C_drewN ?_ _) | (with_reducible refine Kd.C_drew ?_))); (case side4 => exact (Kd.R_reads' HO553.out).2.1); rintro e w' ⟨rfl, ⟨nd, rfl⟩⟩; (try first | exact ⟨rfl, _, World.drewN_drewN _ _ _⟩ | exact ⟨rfl, _, Eq.trans (World.drewN_drewN _ _ _) (congrArg (World.drewN _) (Nat.add_assoc _ _ _))⟩)))
            go_meet
            case rel => exact ⟨_, (!t555), (by first | rfl | (simp; done) | (simp [*]; done)), H', ⟨by first | omega | exact Nat.le_refl _⟩, ⟨by (with_reducible repeat (first | apply Kd.R_alloc | apply Kd.R_drewN | apply Kd.R_drew)); exact Kd.R_mono HO549.out (fun _ hk => trivial)⟩, ⟨iBK BK542.out⟩, ⟨iHB⟩⟩
          · rw [if_neg c22] at H
            have c22b0 : (t550 == t554) = false := beq_eq_false_iff_ne.mpr c22
            have c22b1 : (t550 != t554) = true := bne_iff_ne.mpr c22
            exact (laws_FnSpectrum.j0_not _ H).elim
      · rw [if_neg c20] at H
        have c20b0 : (t544 == t546) = false := beq_eq_false_iff_ne.mpr c20
        have c20b1 : (t544 != t546) = true := bne_iff_ne.mpr c20
        (first | rw [c20b0] | (simp only [i64_w, i32_w]; rw [c20b0]) | skip)
        exact (laws_FnSpectrum.j0_not _ H).elim
    case rest =>
      clear HC9
      try clear c3
      try clear hcz12_0
      try clear hcz12_1
      try clear hcz14_0
      try clear hcz14_1
      try clear hcz16_0
      try clear hcz16_1
      try clear hcz18_0
      try clear hcz18_1
      try clear hfz12_0
      try clear hfz12_1
      try clear hfz14_0
      try clear hfz14_1
      try clear hfz16_0
      try clear hfz16_1
      try clear hfz18_0
      try clear hfz18_1
      obtain ⟨kq, x101_8, rfl, HA, HJ8, HO_8, BK542, HB⟩ := hcut
      cases kq with
      | zero => exact absurd HA.out (by simp [laws_FnSpectrum.j0])
      | succ kj8 =>
        have H := HA.out
        clear HA
        simp only [laws_FnSpectrum.j0] at H
        by_cases c26 : x101_8 = true
        · subst c26
          have H1 : (some false) = some true := by first | (rw [if_pos rfl] at H; exact H) | rfl
          clear H
          have H := H1
          clear H1
          exact absurd (Option.some.inj H) (by decide)
        · replace c26 := Bool.eq_false_iff.mpr c26
          subst c26
          have H1 : (if t544 = 0 then (if 0 ≤ (IntKind.u64.wrap (t540)) then (laws_FnSpectrum.l0 kj8 l0 t543 t547 (shl .i64 1 (IntKind.u64.wrap (t540))) 0 0 0 t540 t541) else (none)) else (laws_FnSpectrum.j6 kj8 l0)) = some true := by rw [if_neg (show ¬ (false = true) by decide)] at H; exact H
          clear H
          have H := H1
          clear H1
          have HC27 := Aside0.mk H
          clear H
          go_upto_if 103 with (fail)
          repeat (go_quiet (fail); go_upto_if 103 with (fail))
          go_cut [] from 12 to 256 (fun wc => ∃ (kq : Nat), Aside0 (laws_FnSpectrum.j6 kq l0 = some true) ∧ Aside0 (kq ≤ kj8) ∧ Aside0 (Below w.heap.size w wc))
          case first =>
            have H := HC27.out
            clear HC27
            by_cases c28 : t544 = 0
            · rw [if_pos c28] at H
              have c28b0 : (t544 == 0) = true := beq_iff_eq.mpr c28
              have c28b1 : (t544 != 0) = false := bne_eq_false_iff_eq.mpr c28
              clear c28
              (first | rw [c28b0] | (simp only [i64_w, i32_w]; rw [c28b0]) | skip)
              obtain ⟨ji29, hji29⟩ : ∃ j_ : Int, (IntKind.u64.wrap (t540)) = j_ := ⟨_, rfl⟩
              replace H : (if 0 ≤ (ji29) then (laws_FnSpectrum.l0 kj8 l0 t543 t547 (shl .i64 1 (ji29)) 0 0 0 t540 t541) else (none)) = some true := by first | (rw [hji29] at H; exact H) | (simp only [hji29] at H ⊢; exact H)
              by_cases c30 : 0 ≤ (ji29)
              · rw [if_pos c30] at H
                have c30b0 := eq_true c30
                have c30b1 : decide (0 ≤ (ji29)) = true := decide_eq_true c30
                clear c30
                obtain ⟨ji31, hji31⟩ : ∃ j_ : Int, (shl .i64 1 (ji29)) = j_ := ⟨_, rfl⟩
                replace H : (laws_FnSpectrum.l0 kj8 l0 t543 t547 ji31 0 0 0 t540 t541) = some true := by first | (rw [hji31] at H; exact H) | (simp only [hji31] at H ⊢; exact H)
                have hji31_ : (IntKind.i64.wrap (1 * 2 ^ min (ji29).toNat 64)) = ji31 := hji31
                have hji31z : (ji29) ≤ 64 → (IntKind.i64.wrap (1 * 2 ^ (ji29).toNat)) = ji31 := shl_small hji31
                have hji31u : (IntKind.i64.wrap (2 ^ min (ji29).toNat 64)) = ji31 := by have h_ := hji31_; rw [Int.one_mul] at h_; exact h_
                have hji31v : (ji29) ≤ 64 → (IntKind.i64.wrap (2 ^ (ji29).toNat)) = ji31 := fun hle_ => by have h_ := hji31z hle_; rw [Int.one_mul] at h_; exact h_
                have hji31y : (wrap64 (1 * 2 ^ min (ji29).toNat 64)) = ji31 := (i64_w _).symm.trans hji31_
                have hji31x : (ji29) ≤ 64 → (wrap64 (1 * 2 ^ (ji29).toNat)) = ji31 := fun h_ => (i64_w _).symm.trans (hji31z h_)
                have H' := Aside0.mk H
                clear H
                have hcz32_0 : wc.cell? ⟨gb542, 0, none⟩ = some (.int .i64 t540) := (blk_cell BK542.out 0).trans rfl
                have hcz32_1 : wc.cell? ⟨gb542, 1, none⟩ = some (.int .i64 t541) := (blk_cell BK542.out 1).trans rfl
                have hfz32_0 := blk_frozen BK542.out 0
                have hfz32_1 := blk_frozen BK542.out 1
                go_wp2
                repeat (go_quiet (fail); try go_wp2)
                go_loopg [13, 14, 15] kj8 (fun kq v13 v14 v15 w' => ∃ (x13_2 : Int) (x14_2 : Int) (x15_2 : Int), v13 = .int .i64 x13_2 ∧ v14 = .int .i64 x14_2 ∧ v15 = .int .i64 x15_2 ∧ Aside0 (laws_FnSpectrum.l0 kq l0 t543 t547 ji31 x13_2 x14_2 x15_2 t540 t541 = some true) ∧ Aside0 (kq ≤ kj8) ∧ Aside0 (Kd.R (Kd.int .i64) 2 w' w.heap.size (fun _ => True) v548 t547) ∧ Aside0 (w'.heap[gb542]? = some (.cells #[.int .i64 t540, .int .i64 t541] 27 (0, 0))) ∧ Aside0 (Below w.heap.size w w'))
                case atStart => exact ⟨(0), (0), (0), (by first | rfl | (simp; done) | (simp [*]; done)), (by first | rfl | (simp; done) | (simp [*]; done)), (by first | rfl | (simp; done) | (simp [*]; done)), H', ⟨Nat.le_refl _⟩, ⟨by (with_reducible repeat (first | apply Kd.R_alloc | apply Kd.R_drewN | apply Kd.R_drew)); exact HO_8.out⟩, ⟨iBK BK542.out⟩, ⟨iHB⟩⟩
                case round =>
                  clear H'
                  try clear c26
                  try clear c28
                  try clear c28b0
                  try clear c28b1
                  try clear c30
                  try clear c30b0
                  try clear c30b1
                  try clear hcz32_0
                  try clear hcz32_1
                  try clear hfz32_0
                  try clear hfz32_1
                  obtain ⟨x13_2, x14_2, x15_2, rfl, rfl, rfl, HA, HK2, HO_8, BK542, HB⟩ := hrel
                  cases gk with
                  | zero => exact absurd HA.out (by simp [laws_FnSpectrum.l0])
                  | succ k2 =>
                    have H := HA.out
                    clear HA
                    simp only [laws_FnSpectrum.l0] at H
                    by_cases c33 : x15_2 < (t547.length : Int)
                    · rw [if_pos c33] at H
                      have c33b0 : decide (x15_2 < (t547.length : Int)) = true := decide_eq_true c33
                      clear c33
                      by_cases c34 : 0 ≤ x15_2
                      · rw [if_pos c34] at H
                        have c34b0 : decide (0 ≤ x15_2) = true := decide_eq_true c34
                        clear c34
                        by_cases c35 : (rd t547 x15_2) > x14_2
                        · rw [if_pos c35] at H
                          have c35b0 : decide (x14_2 < (rd t547 x15_2)) = true := decide_eq_true c35
                          clear c35
                          by_cases c36 : (wrap64 (-(rd t547 x15_2))) > (rd t547 x15_2)
                          · rw [if_pos c36] at H
                            have c36b0 : decide ((rd t547 x15_2) < (wrap64 (-(rd t547 x15_2)))) = true := decide_eq_true c36
                            clear c36
                            have H' := Aside0.mk H
                            clear H
                            obtain ⟨Ao37, co37, eo37⟩ := Kd.R_slice HO_8.out
                            subst eo37
                            have p556 : 0 ≤ (x15_2 : Int) := of_decide_eq_true (by first | (with_reducible assumption) | assumption)
                            have q556 : x15_2 < (t547.length : Int) := of_decide_eq_true (by first | (with_reducible assumption) | assumption)
                            obtain ⟨ad556, e556, hx556_0⟩ := Kd.at_int (Kd.R_reads' HO_8.out).2.2 x15_2 p556 q556
                            cases e556
                            replace p556 := eq_true p556
                            replace q556 := eq_true q556
                            have p557 : 0 ≤ (x15_2 : Int) := of_decide_eq_true (by first | (with_reducible assumption) | assumption)
                            have q557 : x15_2 < (t547.length : Int) := of_decide_eq_true (by first | (with_reducible assumption) | assumption)
                            obtain ⟨ad557, e557, hx557_0⟩ := Kd.at_int (Kd.R_reads' HO_8.out).2.2 x15_2 p557 q557
                            obtain rfl : ad556 = ad557 := (by injection e557)
                            replace p557 := eq_true p557
                            replace q557 := eq_true q557
                            have p558 : 0 ≤ (x15_2 : Int) := of_decide_eq_true (by first | (with_reducible assumption) | assumption)
                            have q558 : x15_2 < (t547.length : Int) := of_decide_eq_true (by first | (with_reducible assumption) | assumption)
                            obtain ⟨ad558, e558, hx558_0⟩ := Kd.at_int (Kd.R_reads' HO_8.out).2.2 x15_2 p558 q558
                            obtain rfl : ad556 = ad558 := (by injection e558)
                            replace p558 := eq_true p558
                            replace q558 := eq_true q558
                            have p559 : 0 ≤ (x15_2 : Int) := of_decide_eq_true (by first | (with_reducible assumption) | assumption)
                            have q559 : x15_2 < (t547.length : Int) := of_decide_eq_true (by first | (with_reducible assumption) | assumption)
                            obtain ⟨ad559, e559, hx559_0⟩ := Kd.at_int (Kd.R_reads' HO_8.out).2.2 x15_2 p559 q559
                            obtain rfl : ad556 = ad559 := (by injection e559)
                            replace p559 := eq_true p559
                            replace q559 := eq_true q559
                            have p560 : 0 ≤ (x15_2 : Int) := of_decide_eq_true (by first | (with_reducible assumption) | assumption)
                            have q560 : x15_2 < (t547.length : Int) := of_decide_eq_true (by first | (with_reducible assumption) | assumption)
                            obtain ⟨ad560, e560, hx560_0⟩ := Kd.at_int (Kd.R_reads' HO_8.out).2.2 x15_2 p560 q560
                            obtain rfl : ad556 = ad560 := (by injection e560)
                            replace p560 := eq_true p560
                            replace q560 := eq_true q560
                            have p561 : 0 ≤ (x15_2 : Int) := of_decide_eq_true (by first | (with_reducible assumption) | assumption)
                            have q561 : x15_2 < (t547.length : Int) := of_decide_eq_true (by first | (with_reducible assumption) | assumption)
                            obtain ⟨ad561, e561, hx561_0⟩ := Kd.at_int (Kd.R_reads' HO_8.out).2.2 x15_2 p561 q561
                            obtain rfl : ad556 = ad561 := (by injection e561)
                            replace p561 := eq_true p561
                            replace q561 := eq_true q561
                            go_wp2
                            repeat (go_quiet (fail); try go_wp2)
                            go_roundg k2
                            case measure => have := HJ8.out; have := HK2.out; omega
                            case rel => exact ⟨(wrap64 (x13_2 + (wrap64 ((rd t547 x15_2) * (rd t547 x15_2))))), (wrap64 (-(rd t547 x15_2))), (wrap64 (x15_2 + 1)), (by first | rfl | (simp; done) | (simp [*]; done)), (by first | rfl | (simp; done) | (simp [*]; done)), (by first | rfl | (simp; done) | (simp [*]; done)), H', ⟨by have := HJ8.out; have := HK2.out; omega⟩, ⟨by (with_reducible repeat (first | apply Kd.R_alloc | apply Kd.R_drewN | apply Kd.R_drew)); exact HO_8.out⟩, ⟨iBK BK542.out⟩, ⟨iHB⟩⟩
                          · rw [if_neg c36] at H
                            have c36b0 : decide ((rd t547 x15_2) < (wrap64 (-(rd t547 x15_2)))) = false := decide_eq_false c36
                            clear c36
                            have H' := Aside0.mk H
                            clear H
                            obtain ⟨Ao38, co38, eo38⟩ := Kd.R_slice HO_8.out
                            subst eo38
                            have p556 : 0 ≤ (x15_2 : Int) := of_decide_eq_true (by first | (with_reducible assumption) | assumption)
                            have q556 : x15_2 < (t547.length : Int) := of_decide_eq_true (by first | (with_reducible assumption) | assumption)
                            obtain ⟨ad556, e556, hx556_0⟩ := Kd.at_int (Kd.R_reads' HO_8.out).2.2 x15_2 p556 q556
                            cases e556
                            replace p556 := eq_true p556
                            replace q556 := eq_true q556
                            have p557 : 0 ≤ (x15_2 : Int) := of_decide_eq_true (by first | (with_reducible assumption) | assumption)
                            have q557 : x15_2 < (t547.length : Int) := of_decide_eq_true (by first | (with_reducible assumption) | assumption)
                            obtain ⟨ad557, e557, hx557_0⟩ := Kd.at_int (Kd.R_reads' HO_8.out).2.2 x15_2 p557 q557
                            obtain rfl : ad556 = ad557 := (by injection e557)
                            replace p557 := eq_true p557
                            replace q557 := eq_true q557
                            have p558 : 0 ≤ (x15_2 : Int) := of_decide_eq_true (by first | (with_reducible assumption) | assumption)
                            have q558 : x15_2 < (t547.length : Int) := of_decide_eq_true (by first | (with_reducible assumption) | assumption)
                            obtain ⟨ad558, e558, hx558_0⟩ := Kd.at_int (Kd.R_reads' HO_8.out).2.2 x15_2 p558 q558
                            obtain rfl : ad556 = ad558 := (by injection e558)
                            replace p558 := eq_true p558
                            replace q558 := eq_true q558
                            have p559 : 0 ≤ (x15_2 : Int) := of_decide_eq_true (by first | (with_reducible assumption) | assumption)
                            have q559 : x15_2 < (t547.length : Int) := of_decide_eq_true (by first | (with_reducible assumption) | assumption)
                            obtain ⟨ad559, e559, hx559_0⟩ := Kd.at_int (Kd.R_reads' HO_8.out).2.2 x15_2 p559 q559
                            obtain rfl : ad556 = ad559 := (by injection e559)
                            replace p559 := eq_true p559
                            replace q559 := eq_true q559
                            have p560 : 0 ≤ (x15_2 : Int) := of_decide_eq_true (by first | (with_reducible assumption) | assumption)
                            have q560 : x15_2 < (t547.length : Int) := of_decide_eq_true (by first | (with_reducible assumption) | assumption)
                            obtain ⟨ad560, e560, hx560_0⟩ := Kd.at_int (Kd.R_reads' HO_8.out).2.2 x15_2 p560 q560
                            obtain rfl : ad556 = ad560 := (by injection e560)
                            replace p560 := eq_true p560
                            replace q560 := eq_true q560
                            go_wp2
                            repeat (go_quiet (fail); try go_wp2)
                            go_roundg k2
                            case measure => have := HJ8.out; have := HK2.out; omega
                            case rel => exact ⟨(wrap64 (x13_2 + (wrap64 ((rd t547 x15_2) * (rd t547 x15_2))))), (rd t547 x15_2), (wrap64 (x15_2 + 1)), (by first | rfl | (simp; done) | (simp [*]; done)), (by first | rfl | (simp; done) | (simp [*]; done)), (by first | rfl | (simp; done) | (simp [*]; done)), H', ⟨by have := HJ8.out; have := HK2.out; omega⟩, ⟨by (with_reducible repeat (first | apply Kd.R_alloc | apply Kd.R_drewN | apply Kd.R_drew)); exact HO_8.out⟩, ⟨iBK BK542.out⟩, ⟨iHB⟩⟩
                        · rw [if_neg c35] at H
                          have c35b0 : decide (x14_2 < (rd t547 x15_2)) = false := decide_eq_false c35
                          clear c35
                          by_cases c39 : (wrap64 (-(rd t547 x15_2))) > x14_2
                          · rw [if_pos c39] at H
                            have c39b0 : decide (x14_2 < (wrap64 (-(rd t547 x15_2)))) = true := decide_eq_true c39
                            clear c39
                            have H' := Aside0.mk H
                            clear H
                            obtain ⟨Ao40, co40, eo40⟩ := Kd.R_slice HO_8.out
                            subst eo40
                            have p556 : 0 ≤ (x15_2 : Int) := of_decide_eq_true (by first | (with_reducible assumption) | assumption)
                            have q556 : x15_2 < (t547.length : Int) := of_decide_eq_true (by first | (with_reducible assumption) | assumption)
                            obtain ⟨ad556, e556, hx556_0⟩ := Kd.at_int (Kd.R_reads' HO_8.out).2.2 x15_2 p556 q556
                            cases e556
                            replace p556 := eq_true p556
                            replace q556 := eq_true q556
                            have p557 : 0 ≤ (x15_2 : Int) := of_decide_eq_true (by first | (with_reducible assumption) | assumption)
                            have q557 : x15_2 < (t547.length : Int) := of_decide_eq_true (by first | (with_reducible assumption) | assumption)
                            obtain ⟨ad557, e557, hx557_0⟩ := Kd.at_int (Kd.R_reads' HO_8.out).2.2 x15_2 p557 q557
                            obtain rfl : ad556 = ad557 := (by injection e557)
                            replace p557 := eq_true p557
                            replace q557 := eq_true q557
                            have p558 : 0 ≤ (x15_2 : Int) := of_decide_eq_true (by first | (with_reducible assumption) | assumption)
                            have q558 : x15_2 < (t547.length : Int) := of_decide_eq_true (by first | (with_reducible assumption) | assumption)
                            obtain ⟨ad558, e558, hx558_0⟩ := Kd.at_int (Kd.R_reads' HO_8.out).2.2 x15_2 p558 q558
                            obtain rfl : ad556 = ad558 := (by injection e558)
                            replace p558 := eq_true p558
                            replace q558 := eq_true q558
                            have p562 : 0 ≤ (x15_2 : Int) := of_decide_eq_true (by first | (with_reducible assumption) | assumption)
                            have q562 : x15_2 < (t547.length : Int) := of_decide_eq_true (by first | (with_reducible assumption) | assumption)
                            obtain ⟨ad562, e562, hx562_0⟩ := Kd.at_int (Kd.R_reads' HO_8.out).2.2 x15_2 p562 q562
                            obtain rfl : ad556 = ad562 := (by injection e562)
                            replace p562 := eq_true p562
                            replace q562 := eq_true q562
                            have p563 : 0 ≤ (x15_2 : Int) := of_decide_eq_true (by first | (with_reducible assumption) | assumption)
                            have q563 : x15_2 < (t547.length : Int) := of_decide_eq_true (by first | (with_reducible assumption) | assumption)
                            obtain ⟨ad563, e563, hx563_0⟩ := Kd.at_int (Kd.R_reads' HO_8.out).2.2 x15_2 p563 q563
                            obtain rfl : ad556 = ad563 := (by injection e563)
                            replace p563 := eq_true p563
                            replace q563 := eq_true q563
                            go_wp2
                            repeat (go_quiet (fail); try go_wp2)
                            go_roundg k2
                            case measure => have := HJ8.out; have := HK2.out; omega
                            case rel => exact ⟨(wrap64 (x13_2 + (wrap64 ((rd t547 x15_2) * (rd t547 x15_2))))), (wrap64 (-(rd t547 x15_2))), (wrap64 (x15_2 + 1)), (by first | rfl | (simp; done) | (simp [*]; done)), (by first | rfl | (simp; done) | (simp [*]; done)), (by first | rfl | (simp; done) | (simp [*]; done)), H', ⟨by have := HJ8.out; have := HK2.out; omega⟩, ⟨by (with_reducible repeat (first | apply Kd.R_alloc | apply Kd.R_drewN | apply Kd.R_drew)); exact HO_8.out⟩, ⟨iBK BK542.out⟩, ⟨iHB⟩⟩
                          · rw [if_neg c39] at H
                            have c39b0 : decide (x14_2 < (wrap64 (-(rd t547 x15_2)))) = false := decide_eq_false c39
                            clear c39
                            have H' := Aside0.mk H
                            clear H
                            obtain ⟨Ao41, co41, eo41⟩ := Kd.R_slice HO_8.out
                            subst eo41
                            have p556 : 0 ≤ (x15_2 : Int) := of_decide_eq_true (by first | (with_reducible assumption) | assumption)
                            have q556 : x15_2 < (t547.length : Int) := of_decide_eq_true (by first | (with_reducible assumption) | assumption)
                            obtain ⟨ad556, e556, hx556_0⟩ := Kd.at_int (Kd.R_reads' HO_8.out).2.2 x15_2 p556 q556
                            cases e556
                            replace p556 := eq_true p556
                            replace q556 := eq_true q556
                            have p557 : 0 ≤ (x15_2 : Int) := of_decide_eq_true (by first | (with_reducible assumption) | assumption)
                            have q557 : x15_2 < (t547.length : Int) := of_decide_eq_true (by first | (with_reducible assumption) | assumption)
                            obtain ⟨ad557, e557, hx557_0⟩ := Kd.at_int (Kd.R_reads' HO_8.out).2.2 x15_2 p557 q557
                            obtain rfl : ad556 = ad557 := (by injection e557)
                            replace p557 := eq_true p557
                            replace q557 := eq_true q557
                            have p558 : 0 ≤ (x15_2 : Int) := of_decide_eq_true (by first | (with_reducible assumption) | assumption)
                            have q558 : x15_2 < (t547.length : Int) := of_decide_eq_true (by first | (with_reducible assumption) | assumption)
                            obtain ⟨ad558, e558, hx558_0⟩ := Kd.at_int (Kd.R_reads' HO_8.out).2.2 x15_2 p558 q558
                            obtain rfl : ad556 = ad558 := (by injection e558)
                            replace p558 := eq_true p558
                            replace q558 := eq_true q558
                            have p562 : 0 ≤ (x15_2 : Int) := of_decide_eq_true (by first | (with_reducible assumption) | assumption)
                            have q562 : x15_2 < (t547.length : Int) := of_decide_eq_true (by first | (with_reducible assumption) | assumption)
                            obtain ⟨ad562, e562, hx562_0⟩ := Kd.at_int (Kd.R_reads' HO_8.out).2.2 x15_2 p562 q562
                            obtain rfl : ad556 = ad562 := (by injection e562)
                            replace p562 := eq_true p562
                            replace q562 := eq_true q562
                            go_wp2
                            repeat (go_quiet (fail); try go_wp2)
                            go_roundg k2
                            case measure => have := HJ8.out; have := HK2.out; omega
                            case rel => exact ⟨(wrap64 (x13_2 + (wrap64 ((rd t547 x15_2) * (rd t547 x15_2))))), (x14_2), (wrap64 (x15_2 + 1)), (by first | rfl | (simp; done) | (simp [*]; done)), (by first | rfl | (simp; done) | (simp [*]; done)), (by first | rfl | (simp; done) | (simp [*]; done)), H', ⟨by have := HJ8.out; have := HK2.out; omega⟩, ⟨by (with_reducible repeat (first | apply Kd.R_alloc | apply Kd.R_drewN | apply Kd.R_drew)); exact HO_8.out⟩, ⟨iBK BK542.out⟩, ⟨iHB⟩⟩
                      · rw [if_neg c34] at H
                        exact absurd H (by simp)
                    · rw [if_neg c33] at H
                      have c33b0 : decide (x15_2 < (t547.length : Int)) = false := decide_eq_false c33
                      clear c33
                      replace H := Option.bind_eq_some_iff.mp H
                      obtain ⟨⟨t564, t567⟩, A420, H⟩ := H
                      replace H : ((impl_InfluencesOf.f k2 t540 t541).bind fun bt568 => ((impl_EssentialOf.f k2 t540 t541).bind fun bt572 => ((impl_IsBalanced.f t540 t541).bind fun bt576 => ((impl_AffineDistance.f k2 t540 t541).bind fun bt578 => (if t567 = 0 then (if bt568.2 = 0 then (if bt572.2 = 0 then (if bt576.2 = 0 then (if bt578.2 = 0 then (if x13_2 = (wrap64 (ji31 * ji31)) then (if (t564.length : Int) = ji31 then (if 0 < (t564.length : Int) then (if (rd t564 0) = ji31 then (if 0 < (t547.length : Int) then (if (bt576.1 != ((rd t547 0) == 0)) = true then (laws_FnSpectrum.j2 k2 l0 t543 t564 bt568.1 bt572.1 true) else (laws_FnSpectrum.j2 k2 l0 t543 t564 bt568.1 bt572.1 ((wrap64 ((wrap64 (2 * bt578.1)) + x14_2)) != ji31))) else (none)) else (laws_FnSpectrum.j2 k2 l0 t543 t564 bt568.1 bt572.1 true)) else (none)) else (laws_FnSpectrum.j2 k2 l0 t543 t564 bt568.1 bt572.1 true)) else (laws_FnSpectrum.j2 k2 l0 t543 t564 bt568.1 bt572.1 true)) else (laws_FnSpectrum.j2 k2 l0 t543 t564 bt568.1 bt572.1 true)) else (laws_FnSpectrum.j2 k2 l0 t543 t564 bt568.1 bt572.1 true)) else (laws_FnSpectrum.j2 k2 l0 t543 t564 bt568.1 bt572.1 true)) else (laws_FnSpectrum.j2 k2 l0 t543 t564 bt568.1 bt572.1 true)) else (laws_FnSpectrum.j2 k2 l0 t543 t564 bt568.1 bt572.1 true)))))) = some true := H
                      have A42 := Aside0.mk A420
                      clear A420
                      replace H := Option.bind_eq_some_iff.mp H
                      obtain ⟨⟨t568, t571⟩, A430, H⟩ := H
                      replace H : ((impl_EssentialOf.f k2 t540 t541).bind fun bt572 => ((impl_IsBalanced.f t540 t541).bind fun bt576 => ((impl_AffineDistance.f k2 t540 t541).bind fun bt578 => (if t567 = 0 then (if t571 = 0 then (if bt572.2 = 0 then (if bt576.2 = 0 then (if bt578.2 = 0 then (if x13_2 = (wrap64 (ji31 * ji31)) then (if (t564.length : Int) = ji31 then (if 0 < (t564.length : Int) then (if (rd t564 0) = ji31 then (if 0 < (t547.length : Int) then (if (bt576.1 != ((rd t547 0) == 0)) = true then (laws_FnSpectrum.j2 k2 l0 t543 t564 t568 bt572.1 true) else (laws_FnSpectrum.j2 k2 l0 t543 t564 t568 bt572.1 ((wrap64 ((wrap64 (2 * bt578.1)) + x14_2)) != ji31))) else (none)) else (laws_FnSpectrum.j2 k2 l0 t543 t564 t568 bt572.1 true)) else (none)) else (laws_FnSpectrum.j2 k2 l0 t543 t564 t568 bt572.1 true)) else (laws_FnSpectrum.j2 k2 l0 t543 t564 t568 bt572.1 true)) else (laws_FnSpectrum.j2 k2 l0 t543 t564 t568 bt572.1 true)) else (laws_FnSpectrum.j2 k2 l0 t543 t564 t568 bt572.1 true)) else (laws_FnSpectrum.j2 k2 l0 t543 t564 t568 bt572.1 true)) else (laws_FnSpectrum.j2 k2 l0 t543 t564 t568 bt572.1 true)) else (laws_FnSpectrum.j2 k2 l0 t543 t564 t568 bt572.1 true))))) = some true := H
                      have A43 := Aside0.mk A430
                      clear A430
                      replace H := Option.bind_eq_some_iff.mp H
                      obtain ⟨⟨t572, t575⟩, A440, H⟩ := H
                      replace H : ((impl_IsBalanced.f t540 t541).bind fun bt576 => ((impl_AffineDistance.f k2 t540 t541).bind fun bt578 => (if t567 = 0 then (if t571 = 0 then (if t575 = 0 then (if bt576.2 = 0 then (if bt578.2 = 0 then (if x13_2 = (wrap64 (ji31 * ji31)) then (if (t564.length : Int) = ji31 then (if 0 < (t564.length : Int) then (if (rd t564 0) = ji31 then (if 0 < (t547.length : Int) then (if (bt576.1 != ((rd t547 0) == 0)) = true then (laws_FnSpectrum.j2 k2 l0 t543 t564 t568 t572 true) else (laws_FnSpectrum.j2 k2 l0 t543 t564 t568 t572 ((wrap64 ((wrap64 (2 * bt578.1)) + x14_2)) != ji31))) else (none)) else (laws_FnSpectrum.j2 k2 l0 t543 t564 t568 t572 true)) else (none)) else (laws_FnSpectrum.j2 k2 l0 t543 t564 t568 t572 true)) else (laws_FnSpectrum.j2 k2 l0 t543 t564 t568 t572 true)) else (laws_FnSpectrum.j2 k2 l0 t543 t564 t568 t572 true)) else (laws_FnSpectrum.j2 k2 l0 t543 t564 t568 t572 true)) else (laws_FnSpectrum.j2 k2 l0 t543 t564 t568 t572 true)) else (laws_FnSpectrum.j2 k2 l0 t543 t564 t568 t572 true)) else (laws_FnSpectrum.j2 k2 l0 t543 t564 t568 t572 true)))) = some true := H
                      have A44 := Aside0.mk A440
                      clear A440
                      replace H := Option.bind_eq_some_iff.mp H
                      obtain ⟨⟨t576, t577⟩, A450, H⟩ := H
                      replace H : ((impl_AffineDistance.f k2 t540 t541).bind fun bt578 => (if t567 = 0 then (if t571 = 0 then (if t575 = 0 then (if t577 = 0 then (if bt578.2 = 0 then (if x13_2 = (wrap64 (ji31 * ji31)) then (if (t564.length : Int) = ji31 then (if 0 < (t564.length : Int) then (if (rd t564 0) = ji31 then (if 0 < (t547.length : Int) then (if (t576 != ((rd t547 0) == 0)) = true then (laws_FnSpectrum.j2 k2 l0 t543 t564 t568 t572 true) else (laws_FnSpectrum.j2 k2 l0 t543 t564 t568 t572 ((wrap64 ((wrap64 (2 * bt578.1)) + x14_2)) != ji31))) else (none)) else (laws_FnSpectrum.j2 k2 l0 t543 t564 t568 t572 true)) else (none)) else (laws_FnSpectrum.j2 k2 l0 t543 t564 t568 t572 true)) else (laws_FnSpectrum.j2 k2 l0 t543 t564 t568 t572 true)) else (laws_FnSpectrum.j2 k2 l0 t543 t564 t568 t572 true)) else (laws_FnSpectrum.j2 k2 l0 t543 t564 t568 t572 true)) else (laws_FnSpectrum.j2 k2 l0 t543 t564 t568 t572 true)) else (laws_FnSpectrum.j2 k2 l0 t543 t564 t568 t572 true)) else (laws_FnSpectrum.j2 k2 l0 t543 t564 t568 t572 true))) = some true := H
                      have A45 := Aside0.mk A450
                      clear A450
                      replace H := Option.bind_eq_some_iff.mp H
                      obtain ⟨⟨t578, t579⟩, A460, H⟩ := H
                      replace H : (if t567 = 0 then (if t571 = 0 then (if t575 = 0 then (if t577 = 0 then (if t579 = 0 then (if x13_2 = (wrap64 (ji31 * ji31)) then (if (t564.length : Int) = ji31 then (if 0 < (t564.length : Int) then (if (rd t564 0) = ji31 then (if 0 < (t547.length : Int) then (if (t576 != ((rd t547 0) == 0)) = true then (laws_FnSpectrum.j2 k2 l0 t543 t564 t568 t572 true) else (laws_FnSpectrum.j2 k2 l0 t543 t564 t568 t572 ((wrap64 ((wrap64 (2 * t578)) + x14_2)) != ji31))) else (none)) else (laws_FnSpectrum.j2 k2 l0 t543 t564 t568 t572 true)) else (none)) else (laws_FnSpectrum.j2 k2 l0 t543 t564 t568 t572 true)) else (laws_FnSpectrum.j2 k2 l0 t543 t564 t568 t572 true)) else (laws_FnSpectrum.j2 k2 l0 t543 t564 t568 t572 true)) else (laws_FnSpectrum.j2 k2 l0 t543 t564 t568 t572 true)) else (laws_FnSpectrum.j2 k2 l0 t543 t564 t568 t572 true)) else (laws_FnSpectrum.j2 k2 l0 t543 t564 t568 t572 true)) else (laws_FnSpectrum.j2 k2 l0 t543 t564 t568 t572 true)) = some true := H
                      have A46 := Aside0.mk A460
                      clear A460
                      have HC47 := Aside0.mk H
                      clear H
                      obtain ⟨Ao48, co48, eo48⟩ := Kd.R_slice HO_8.out
                      subst eo48
                      have hcz49_0 : wr.cell? ⟨gb542, 0, none⟩ = some (.int .i64 t540) := (blk_cell BK542.out 0).trans rfl
                      have hcz49_1 : wr.cell? ⟨gb542, 1, none⟩ = some (.int .i64 t541) := (blk_cell BK542.out 1).trans rfl
                      have hfz49_0 := blk_frozen BK542.out 0
                      have hfz49_1 := blk_frozen BK542.out 1
                      go_upto_region 25 with (first | (go_at_call 17; (with_reducible refine (impl_CorrelationsOf.calls t540 t541 t564 t567 _ A42.out).mono ?_); rintro e w50 ⟨v565, rfl, ho0, hb⟩; have n0_ := aa (Kd.R_elder' (by (with_reducible repeat (first | apply Kd.R_alloc | apply Kd.R_drewN | apply Kd.R_drew)); exact HO_8.out) (Kd.R_base ho0) hb); have n1_ := aa (Kd.R_lower (Kd.R_new' ho0 (Kd.R_lt (by (with_reducible repeat (first | apply Kd.R_alloc | apply Kd.R_drewN | apply Kd.R_drew)); exact HO_8.out))) (below_size iHB)); have n2_ := aa (blk_below (g := gb542) (o := .cells #[.int .i64 t540, .int .i64 t541] 27 (0, 0)) (iBK BK542.out) hb); have n3_ := aa (below_step iHB hb); clear HO_8; clear BK542; clear HB; have HO_8 := n0_; have HO566 := n1_; have BK542 := n2_; have HB := n3_; clear n0_ n1_ n2_ n3_; (try clear hb); (try clear hb2); (try clear hk); (try clear hi); (try clear ho0); have hcz51_0 : w50.cell? ⟨gb542, 0, none⟩ = some (.int .i64 t540) := (blk_cell BK542.out 0).trans rfl; have hcz51_1 : w50.cell? ⟨gb542, 1, none⟩ = some (.int .i64 t541) := (blk_cell BK542.out 1).trans rfl; have hfz51_0 := blk_frozen BK542.out 0; have hfz51_1 := blk_frozen BK542.out 1) | (go_at_call 22; (with_reducible refine (impl_InfluencesOf.calls k2 t540 t541 t568 t571 _ A43.out).mono ?_); rintro e w52 ⟨v569, rfl, ho0, hb⟩; have n0_ := aa (Kd.R_elder' (by (with_reducible repeat (first | apply Kd.R_alloc | apply Kd.R_drewN | apply Kd.R_drew)); exact HO_8.out) (Kd.R_base ho0) hb); have n1_ := aa (Kd.R_elder' (by (with_reducible repeat (first | apply Kd.R_alloc | apply Kd.R_drewN | apply Kd.R_drew)); exact HO566.out) (Kd.R_base ho0) hb); have n2_ := aa (Kd.R_lower (Kd.R_new' (Kd.R_new' ho0 (Kd.R_lt (by (with_reducible repeat (first | apply Kd.R_alloc | apply Kd.R_drewN | apply Kd.R_drew)); exact HO_8.out))) (Kd.R_lt (by (with_reducible repeat (first | apply Kd.R_alloc | apply Kd.R_drewN | apply Kd.R_drew)); exact HO566.out))) (below_size iHB)); have n3_ := aa (blk_below (g := gb542) (o := .cells #[.int .i64 t540, .int .i64 t541] 27 (0, 0)) (iBK BK542.out) hb); have n4_ := aa (below_step iHB hb); clear HO_8; clear HO566; clear BK542; clear HB; have HO_8 := n0_; have HO566 := n1_; have HO570 := n2_; have BK542 := n3_; have HB := n4_; clear n0_ n1_ n2_ n3_ n4_; (try clear hb); (try clear hb2); (try clear hk); (try clear hi); (try clear ho0); have hcz53_0 : w52.cell? ⟨gb542, 0, none⟩ = some (.int .i64 t540) := (blk_cell BK542.out 0).trans rfl; have hcz53_1 : w52.cell? ⟨gb542, 1, none⟩ = some (.int .i64 t541) := (blk_cell BK542.out 1).trans rfl; have hfz53_0 := blk_frozen BK542.out 0; have hfz53_1 := blk_frozen BK542.out 1) | (go_at_call 44; (with_reducible refine (impl_EssentialOf.calls k2 t540 t541 t572 t575 _ A44.out).mono ?_); rintro e w54 ⟨v573, rfl, ho0, hb⟩; have n0_ := aa (Kd.R_elder' (by (with_reducible repeat (first | apply Kd.R_alloc | apply Kd.R_drewN | apply Kd.R_drew)); exact HO_8.out) (Kd.R_base ho0) hb); have n1_ := aa (Kd.R_elder' (by (with_reducible repeat (first | apply Kd.R_alloc | apply Kd.R_drewN | apply Kd.R_drew)); exact HO566.out) (Kd.R_base ho0) hb); have n2_ := aa (Kd.R_elder' (by (with_reducible repeat (first | apply Kd.R_alloc | apply Kd.R_drewN | apply Kd.R_drew)); exact HO570.out) (Kd.R_base ho0) hb); have n3_ := aa (Kd.R_lower (Kd.R_new' (Kd.R_new' (Kd.R_new' ho0 (Kd.R_lt (by (with_reducible repeat (first | apply Kd.R_alloc | apply Kd.R_drewN | apply Kd.R_drew)); exact HO_8.out))) (Kd.R_lt (by (with_reducible repeat (first | apply Kd.R_alloc | apply Kd.R_drewN | apply Kd.R_drew)); exact HO566.out))) (Kd.R_lt (by (with_reducible repeat (first | apply Kd.R_alloc | apply Kd.R_drewN | apply Kd.R_drew)); exact HO570.out))) (below_size iHB)); have n4_ := aa (blk_below (g := gb542) (o := .cells #[.int .i64 t540, .int .i64 t541] 27 (0, 0)) (iBK BK542.out) hb); have n5_ := aa (below_step iHB hb); clear HO_8; clear HO566; clear HO570; clear BK542; clear HB; have HO_8 := n0_; have HO566 := n1_; have HO570 := n2_; have HO574 := n3_; have BK542 := n4_; have HB := n5_; clear n0_ n1_ n2_ n3_ n4_ n5_; (try clear hb); (try clear hb2); (try clear hk); (try clear hi); (try clear ho0); have hcz55_0 : w54.cell? ⟨gb542, 0, none⟩ = some (.int .i64 t540) := (blk_cell BK542.out 0).trans rfl; have hcz55_1 : w54.cell? ⟨gb542, 1, none⟩ = some (.int .i64 t541) := (blk_cell BK542.out 1).trans rfl; have hfz55_0 := blk_frozen BK542.out 0; have hfz55_1 := blk_frozen BK542.out 1) | (go_at_call 45; (with_reducible refine (impl_IsBalanced.calls t540 t541 t576 t577 _ A45.out).mono ?_); rintro e w56 ⟨rfl, hb⟩; have n0_ := aa (Kd.R_below (by (with_reducible repeat (first | apply Kd.R_alloc | apply Kd.R_drewN | apply Kd.R_drew)); exact HO_8.out) hb); have n1_ := aa (Kd.R_below (by (with_reducible repeat (first | apply Kd.R_alloc | apply Kd.R_drewN | apply Kd.R_drew)); exact HO566.out) hb); have n2_ := aa (Kd.R_below (by (with_reducible repeat (first | apply Kd.R_alloc | apply Kd.R_drewN | apply Kd.R_drew)); exact HO570.out) hb); have n3_ := aa (Kd.R_below (by (with_reducible repeat (first | apply Kd.R_alloc | apply Kd.R_drewN | apply Kd.R_drew)); exact HO574.out) hb); have n4_ := aa (blk_below (g := gb542) (o := .cells #[.int .i64 t540, .int .i64 t541] 27 (0, 0)) (iBK BK542.out) hb); have n5_ := aa (below_step iHB hb); clear HO_8; clear HO566; clear HO570; clear HO574; clear BK542; clear HB; have HO_8 := n0_; have HO566 := n1_; have HO570 := n2_; have HO574 := n3_; have BK542 := n4_; have HB := n5_; clear n0_ n1_ n2_ n3_ n4_ n5_; (try clear hb); (try clear hb2); (try clear hk); (try clear hi); have hcz57_0 : w56.cell? ⟨gb542, 0, none⟩ = some (.int .i64 t540) := (blk_cell BK542.out 0).trans rfl; have hcz57_1 : w56.cell? ⟨gb542, 1, none⟩ = some (.int .i64 t541) := (blk_cell BK542.out 1).trans rfl; have hfz57_0 := blk_frozen BK542.out 0; have hfz57_1 := blk_frozen BK542.out 1) | (go_at_call 28; (with_reducible refine (impl_AffineDistance.calls k2 t540 t541 t578 t579 _ A46.out).mono ?_); rintro e w58 ⟨rfl, hb⟩; have n0_ := aa (Kd.R_below (by (with_reducible repeat (first | apply Kd.R_alloc | apply Kd.R_drewN | apply Kd.R_drew)); exact HO_8.out) hb); have n1_ := aa (Kd.R_below (by (with_reducible repeat (first | apply Kd.R_alloc | apply Kd.R_drewN | apply Kd.R_drew)); exact HO566.out) hb); have n2_ := aa (Kd.R_below (by (with_reducible repeat (first | apply Kd.R_alloc | apply Kd.R_drewN | apply Kd.R_drew)); exact HO570.out) hb); have n3_ := aa (Kd.R_below (by (with_reducible repeat (first | apply Kd.R_alloc | apply Kd.R_drewN | apply Kd.R_drew)); exact HO574.out) hb); have n4_ := aa (blk_below (g := gb542) (o := .cells #[.int .i64 t540, .int .i64 t541] 27 (0, 0)) (iBK BK542.out) hb); have n5_ := aa (below_step iHB hb); clear HO_8; clear HO566; clear HO570; clear HO574; clear BK542; clear HB; have HO_8 := n0_; have HO566 := n1_; have HO570 := n2_; have HO574 := n3_; have BK542 := n4_; have HB := n5_; clear n0_ n1_ n2_ n3_ n4_ n5_; (try clear hb); (try clear hb2); (try clear hk); (try clear hi)))
                      (try simp only [Act.put, List.setIfInBounds_toArray, List.set_cons_zero, List.set_cons_succ])
                      go_cut [225] from 172 to 225 (fun v225 wc => ∃ (kq : Nat) (x225_46 : Bool), v225 = .bool x225_46 ∧ Aside0 (laws_FnSpectrum.j2 kq l0 t543 t564 t568 t572 x225_46 = some true) ∧ Aside0 (kq ≤ k2) ∧ Aside0 (Kd.R (Kd.int .i64) 2 wc w.heap.size (fun k_ => some k_ ≠ (v569 : Value).ownBlock ∧ some k_ ≠ (v573 : Value).ownBlock) v565 t564) ∧ Aside0 (Kd.R (Kd.int .i64) 2 wc w.heap.size (fun k_ => some k_ ≠ (v565 : Value).ownBlock ∧ some k_ ≠ (v573 : Value).ownBlock) v569 t568) ∧ Aside0 (Kd.R (Kd.int .i64) 2 wc w.heap.size (fun k_ => some k_ ≠ (v565 : Value).ownBlock ∧ some k_ ≠ (v569 : Value).ownBlock) v573 t572) ∧ Aside0 (wc.heap[gb542]? = some (.cells #[.int .i64 t540, .int .i64 t541] 27 (0, 0))) ∧ Aside0 (Below w.heap.size w wc))
                      case first =>
                        have H := HC47.out
                        clear HC47
                        by_cases c59 : t567 = 0
                        · rw [if_pos c59] at H
                          have c59b0 : (t567 == 0) = true := beq_iff_eq.mpr c59
                          have c59b1 : (t567 != 0) = false := bne_eq_false_iff_eq.mpr c59
                          clear c59
                          (first | rw [c59b0] | (simp only [i64_w, i32_w]; rw [c59b0]) | skip)
                          by_cases c60 : t571 = 0
                          · rw [if_pos c60] at H
                            have c60b0 : (t571 == 0) = true := beq_iff_eq.mpr c60
                            have c60b1 : (t571 != 0) = false := bne_eq_false_iff_eq.mpr c60
                            clear c60
                            by_cases c61 : t575 = 0
                            · rw [if_pos c61] at H
                              have c61b0 : (t575 == 0) = true := beq_iff_eq.mpr c61
                              have c61b1 : (t575 != 0) = false := bne_eq_false_iff_eq.mpr c61
                              clear c61
                              by_cases c62 : t577 = 0
                              · rw [if_pos c62] at H
                                have c62b0 : (t577 == 0) = true := beq_iff_eq.mpr c62
                                have c62b1 : (t577 != 0) = false := bne_eq_false_iff_eq.mpr c62
                                clear c62
                                by_cases c63 : t579 = 0
                                · rw [if_pos c63] at H
                                  have c63b0 : (t579 == 0) = true := beq_iff_eq.mpr c63
                                  have c63b1 : (t579 != 0) = false := bne_eq_false_iff_eq.mpr c63
                                  clear c63
                                  by_cases c64 : x13_2 = (wrap64 (ji31 * ji31))
                                  · rw [if_pos c64] at H
                                    have c64b0 : (x13_2 == (wrap64 (ji31 * ji31))) = true := beq_iff_eq.mpr c64
                                    have c64b1 : (x13_2 != (wrap64 (ji31 * ji31))) = false := bne_eq_false_iff_eq.mpr c64
                                    clear c64
                                    by_cases c65 : (t564.length : Int) = ji31
                                    · rw [if_pos c65] at H
                                      have c65b0 : ((t564.length : Int) == ji31) = true := beq_iff_eq.mpr c65
                                      have c65b1 : ((t564.length : Int) != ji31) = false := bne_eq_false_iff_eq.mpr c65
                                      clear c65
                                      by_cases c66 : 0 < (t564.length : Int)
                                      · rw [if_pos c66] at H
                                        have c66b0 : decide (0 < (t564.length : Int)) = true := decide_eq_true c66
                                        have c66b1 : decide (0 < t564.length) = true := decide_eq_true (by omega)
                                        clear c66
                                        by_cases c67 : (rd t564 0) = ji31
                                        · rw [if_pos c67] at H
                                          have c67b0 : ((rd t564 0) == ji31) = true := beq_iff_eq.mpr c67
                                          have c67b1 : ((rd t564 0) != ji31) = false := bne_eq_false_iff_eq.mpr c67
                                          clear c67
                                          by_cases c68 : 0 < (t547.length : Int)
                                          · rw [if_pos c68] at H
                                            have c68b0 : decide (0 < (t547.length : Int)) = true := decide_eq_true c68
                                            have c68b1 : decide (0 < t547.length) = true := decide_eq_true (by omega)
                                            clear c68
                                            by_cases c69 : (t576 != ((rd t547 0) == 0)) = true
                                            · rw [if_pos c69] at H
                                              have c69b0 : (t576 != ((rd t547 0) == 0)) = true := c69
                                              (try (have c69b1 : decide (t576 = ((rd t547 0) == 0)) = false := by simpa using c69))
                                              (try (have c69b2 : (t576 == ((rd t547 0) == 0)) = false := by simpa using c69))
                                              (try (have c69b3 : ¬ (t576 = ((rd t547 0) == 0)) := by simpa using c69))
                                              clear c69
                                              exact (laws_FnSpectrum.j2_not _ H).elim
                                            · rw [if_neg c69] at H
                                              have c69b0 : (t576 != ((rd t547 0) == 0)) = false := by simpa using c69
                                              (try (have c69b1 : decide (t576 = ((rd t547 0) == 0)) = true := by simpa using c69))
                                              (try (have c69b2 : (t576 == ((rd t547 0) == 0)) = true := by simpa using c69))
                                              clear c69
                                              have H' := Aside0.mk H
                                              clear H
                                              obtain ⟨Ao71, co71, eo71⟩ := Kd.R_slice HO566.out
                                              subst eo71
                                              have p580 : 0 ≤ (0 : Int) := (by omega)
                                              have q580 : 0 < (t564.length : Int) := of_decide_eq_true (by first | (with_reducible assumption) | assumption)
                                              obtain ⟨ad580, e580, hx580_0⟩ := Kd.at_int (Kd.R_reads' HO566.out).2.2 0 p580 q580
                                              cases e580
                                              have qi580 : (0 < t564.length) = True := eq_true (by omega)
                                              (try rw [show ((0 : Int)).toNat = 0 from rfl] at hx580_0)
                                              (try rw [Addr.add_zero'] at hx580_0)
                                              replace p580 := eq_true p580
                                              replace q580 := eq_true q580
                                              have p581 : 0 ≤ (0 : Int) := (by omega)
                                              have q581 : 0 < (t547.length : Int) := of_decide_eq_true (by first | (with_reducible assumption) | assumption)
                                              obtain ⟨ad581, e581, hx581_0⟩ := Kd.at_int (Kd.R_reads' HO_8.out).2.2 0 p581 q581
                                              cases e581
                                              have qi581 : (0 < t547.length) = True := eq_true (by omega)
                                              (try rw [show ((0 : Int)).toNat = 0 from rfl] at hx581_0)
                                              (try rw [Addr.add_zero'] at hx581_0)
                                              replace p581 := eq_true p581
                                              replace q581 := eq_true q581
                                              go_wp2
                                              repeat (go_quiet (fail); try go_wp2)
                                              go_meet
                                              case rel => exact ⟨_, (((wrap64 ((wrap64 (2 * t578)) + x14_2)) != ji31)), (by first | rfl | (simp; done) | (simp only [← hji31] <;> (first | rfl | simp)) | (simp [*]; done)), H', ⟨by have := HJ8.out; have := HK2.out; first | omega | exact Nat.le_refl _⟩, ⟨by (with_reducible repeat (first | apply Kd.R_alloc | apply Kd.R_drewN | apply Kd.R_drew)); exact Kd.R_mono HO566.out (fun _ hk => ⟨hk.1.2, hk.2⟩)⟩, ⟨by (with_reducible repeat (first | apply Kd.R_alloc | apply Kd.R_drewN | apply Kd.R_drew)); exact Kd.R_mono HO570.out (fun _ hk => ⟨hk.1.2, hk.2⟩)⟩, ⟨by (with_reducible repeat (first | apply Kd.R_alloc | apply Kd.R_drewN | apply Kd.R_drew)); exact Kd.R_mono HO574.out (fun _ hk => ⟨hk.1.2, hk.2⟩)⟩, ⟨iBK BK542.out⟩, ⟨iHB⟩⟩
                                          · rw [if_neg c68] at H
                                            exact absurd H (by simp)
                                        · rw [if_neg c67] at H
                                          have c67b0 : ((rd t564 0) == ji31) = false := beq_eq_false_iff_ne.mpr c67
                                          have c67b1 : ((rd t564 0) != ji31) = true := bne_iff_ne.mpr c67
                                          exact (laws_FnSpectrum.j2_not _ H).elim
                                      · rw [if_neg c66] at H
                                        exact absurd H (by simp)
                                    · rw [if_neg c65] at H
                                      have c65b0 : ((t564.length : Int) == ji31) = false := beq_eq_false_iff_ne.mpr c65
                                      have c65b1 : ((t564.length : Int) != ji31) = true := bne_iff_ne.mpr c65
                                      exact (laws_FnSpectrum.j2_not _ H).elim
                                  · rw [if_neg c64] at H
                                    have c64b0 : (x13_2 == (wrap64 (ji31 * ji31))) = false := beq_eq_false_iff_ne.mpr c64
                                    have c64b1 : (x13_2 != (wrap64 (ji31 * ji31))) = true := bne_iff_ne.mpr c64
                                    exact (laws_FnSpectrum.j2_not _ H).elim
                                · rw [if_neg c63] at H
                                  have c63b0 : (t579 == 0) = false := beq_eq_false_iff_ne.mpr c63
                                  have c63b1 : (t579 != 0) = true := bne_iff_ne.mpr c63
                                  exact (laws_FnSpectrum.j2_not _ H).elim
                              · rw [if_neg c62] at H
                                have c62b0 : (t577 == 0) = false := beq_eq_false_iff_ne.mpr c62
                                have c62b1 : (t577 != 0) = true := bne_iff_ne.mpr c62
                                exact (laws_FnSpectrum.j2_not _ H).elim
                            · rw [if_neg c61] at H
                              have c61b0 : (t575 == 0) = false := beq_eq_false_iff_ne.mpr c61
                              have c61b1 : (t575 != 0) = true := bne_iff_ne.mpr c61
                              exact (laws_FnSpectrum.j2_not _ H).elim
                          · rw [if_neg c60] at H
                            have c60b0 : (t571 == 0) = false := beq_eq_false_iff_ne.mpr c60
                            have c60b1 : (t571 != 0) = true := bne_iff_ne.mpr c60
                            exact (laws_FnSpectrum.j2_not _ H).elim
                        · rw [if_neg c59] at H
                          have c59b0 : (t567 == 0) = false := beq_eq_false_iff_ne.mpr c59
                          have c59b1 : (t567 != 0) = true := bne_iff_ne.mpr c59
                          (first | rw [c59b0] | (simp only [i64_w, i32_w]; rw [c59b0]) | skip)
                          exact (laws_FnSpectrum.j2_not _ H).elim
                      case rest =>
                        clear HC47
                        try clear c33
                        try clear c33b0
                        try clear hcz49_0
                        try clear hcz49_1
                        try clear hcz51_0
                        try clear hcz51_1
                        try clear hcz53_0
                        try clear hcz53_1
                        try clear hcz55_0
                        try clear hcz55_1
                        try clear hcz57_0
                        try clear hcz57_1
                        try clear hfz49_0
                        try clear hfz49_1
                        try clear hfz51_0
                        try clear hfz51_1
                        try clear hfz53_0
                        try clear hfz53_1
                        try clear hfz55_0
                        try clear hfz55_1
                        try clear hfz57_0
                        try clear hfz57_1
                        obtain ⟨kq, x225_46, rfl, HA, HJ46, HO_16, HO_18, HO_20, BK542, HB⟩ := hcut
                        cases kq with
                        | zero => exact absurd HA.out (by simp [laws_FnSpectrum.j2])
                        | succ kj46 =>
                          have H := HA.out
                          clear HA
                          simp only [laws_FnSpectrum.j2] at H
                          by_cases c74 : x225_46 = true
                          · subst c74
                            have H1 : (some false) = some true := by first | (rw [if_pos rfl] at H; exact H) | rfl
                            clear H
                            have H := H1
                            clear H1
                            exact absurd (Option.some.inj H) (by decide)
                          · replace c74 := Bool.eq_false_iff.mpr c74
                            subst c74
                            have H1 : (laws_FnSpectrum.l1 kj46 l0 t543 t564 t568 t572 0 0) = some true := by rw [if_neg (show ¬ (false = true) by decide)] at H; exact H
                            clear H
                            have H := H1
                            clear H1
                            have H' := Aside0.mk H
                            clear H
                            go_wp2
                            repeat (go_quiet (fail); try go_wp2)
                            go_loopg [26, 27] kj46 (fun kq v26 v27 w' => ∃ (x26_4 : Int) (x27_4 : Int), v26 = .int .i64 x26_4 ∧ v27 = .int .i64 x27_4 ∧ Aside0 (laws_FnSpectrum.l1 kq l0 t543 t564 t568 t572 x26_4 x27_4 = some true) ∧ Aside0 (kq ≤ kj46) ∧ Aside0 (Kd.R (Kd.int .i64) 2 w' w.heap.size (fun k_ => some k_ ≠ (v569 : Value).ownBlock ∧ some k_ ≠ (v573 : Value).ownBlock) v565 t564) ∧ Aside0 (Kd.R (Kd.int .i64) 2 w' w.heap.size (fun k_ => some k_ ≠ (v565 : Value).ownBlock ∧ some k_ ≠ (v573 : Value).ownBlock) v569 t568) ∧ Aside0 (Kd.R (Kd.int .i64) 2 w' w.heap.size (fun k_ => some k_ ≠ (v565 : Value).ownBlock ∧ some k_ ≠ (v569 : Value).ownBlock) v573 t572) ∧ Aside0 (w'.heap[gb542]? = some (.cells #[.int .i64 t540, .int .i64 t541] 27 (0, 0))) ∧ Aside0 (Below w.heap.size w w'))
                            case atStart => exact ⟨(0), (0), (by first | rfl | (simp; done) | (simp [*]; done)), (by first | rfl | (simp; done) | (simp [*]; done)), H', ⟨Nat.le_refl _⟩, ⟨by (with_reducible repeat (first | apply Kd.R_alloc | apply Kd.R_drewN | apply Kd.R_drew)); exact HO_16.out⟩, ⟨by (with_reducible repeat (first | apply Kd.R_alloc | apply Kd.R_drewN | apply Kd.R_drew)); exact HO_18.out⟩, ⟨by (with_reducible repeat (first | apply Kd.R_alloc | apply Kd.R_drewN | apply Kd.R_drew)); exact HO_20.out⟩, ⟨iBK BK542.out⟩, ⟨iHB⟩⟩
                            case round =>
                              clear H'
                              try clear c74
                              obtain ⟨x26_4, x27_4, rfl, rfl, HA, HK4, HO_16, HO_18, HO_20, BK542, HB⟩ := hrel
                              cases gk with
                              | zero => exact absurd HA.out (by simp [laws_FnSpectrum.l1])
                              | succ k4 =>
                                have H := HA.out
                                clear HA
                                simp only [laws_FnSpectrum.l1] at H
                                by_cases c75 : x27_4 < (t568.length : Int)
                                · rw [if_pos c75] at H
                                  have c75b0 : decide (x27_4 < (t568.length : Int)) = true := decide_eq_true c75
                                  clear c75
                                  by_cases c76 : 0 ≤ x27_4
                                  · rw [if_pos c76] at H
                                    have c76b0 : decide (0 ≤ x27_4) = true := decide_eq_true c76
                                    clear c76
                                    by_cases c77 : (rd t568 x27_4) > 0
                                    · rw [if_pos c77] at H
                                      have c77b0 : decide (0 < (rd t568 x27_4)) = true := decide_eq_true c77
                                      clear c77
                                      have H' := Aside0.mk H
                                      clear H
                                      obtain ⟨Ao78, co78, eo78⟩ := Kd.R_slice HO_18.out
                                      subst eo78
                                      have p582 : 0 ≤ (x27_4 : Int) := of_decide_eq_true (by first | (with_reducible assumption) | assumption)
                                      have q582 : x27_4 < (t568.length : Int) := of_decide_eq_true (by first | (with_reducible assumption) | assumption)
                                      obtain ⟨ad582, e582, hx582_0⟩ := Kd.at_int (Kd.R_reads' HO_18.out).2.2 x27_4 p582 q582
                                      cases e582
                                      replace p582 := eq_true p582
                                      replace q582 := eq_true q582
                                      go_wp2
                                      repeat (go_quiet (fail); try go_wp2)
                                      go_roundg k4
                                      case measure => have := HJ8.out; have := HK2.out; have := HJ46.out; have := HK4.out; omega
                                      case rel => exact ⟨(wrap64 (x26_4 + 1)), (wrap64 (x27_4 + 1)), (by first | rfl | (simp; done) | (simp [*]; done)), (by first | rfl | (simp; done) | (simp [*]; done)), H', ⟨by have := HJ8.out; have := HK2.out; have := HJ46.out; have := HK4.out; omega⟩, ⟨by (with_reducible repeat (first | apply Kd.R_alloc | apply Kd.R_drewN | apply Kd.R_drew)); exact HO_16.out⟩, ⟨by (with_reducible repeat (first | apply Kd.R_alloc | apply Kd.R_drewN | apply Kd.R_drew)); exact HO_18.out⟩, ⟨by (with_reducible repeat (first | apply Kd.R_alloc | apply Kd.R_drewN | apply Kd.R_drew)); exact HO_20.out⟩, ⟨iBK BK542.out⟩, ⟨iHB⟩⟩
                                    · rw [if_neg c77] at H
                                      have c77b0 : decide (0 < (rd t568 x27_4)) = false := decide_eq_false c77
                                      clear c77
                                      have H' := Aside0.mk H
                                      clear H
                                      obtain ⟨Ao79, co79, eo79⟩ := Kd.R_slice HO_18.out
                                      subst eo79
                                      have p582 : 0 ≤ (x27_4 : Int) := of_decide_eq_true (by first | (with_reducible assumption) | assumption)
                                      have q582 : x27_4 < (t568.length : Int) := of_decide_eq_true (by first | (with_reducible assumption) | assumption)
                                      obtain ⟨ad582, e582, hx582_0⟩ := Kd.at_int (Kd.R_reads' HO_18.out).2.2 x27_4 p582 q582
                                      cases e582
                                      replace p582 := eq_true p582
                                      replace q582 := eq_true q582
                                      go_wp2
                                      repeat (go_quiet (fail); try go_wp2)
                                      go_roundg k4
                                      case measure => have := HJ8.out; have := HK2.out; have := HJ46.out; have := HK4.out; omega
                                      case rel => exact ⟨(x26_4), (wrap64 (x27_4 + 1)), (by first | rfl | (simp; done) | (simp [*]; done)), (by first | rfl | (simp; done) | (simp [*]; done)), H', ⟨by have := HJ8.out; have := HK2.out; have := HJ46.out; have := HK4.out; omega⟩, ⟨by (with_reducible repeat (first | apply Kd.R_alloc | apply Kd.R_drewN | apply Kd.R_drew)); exact HO_16.out⟩, ⟨by (with_reducible repeat (first | apply Kd.R_alloc | apply Kd.R_drewN | apply Kd.R_drew)); exact HO_18.out⟩, ⟨by (with_reducible repeat (first | apply Kd.R_alloc | apply Kd.R_drewN | apply Kd.R_drew)); exact HO_20.out⟩, ⟨iBK BK542.out⟩, ⟨iHB⟩⟩
                                  · rw [if_neg c76] at H
                                    exact absurd H (by simp)
                                · rw [if_neg c75] at H
                                  have c75b0 : decide (x27_4 < (t568.length : Int)) = false := decide_eq_false c75
                                  clear c75
                                  by_cases c80 : x26_4 = (t572.length : Int)
                                  · rw [if_pos c80] at H
                                    have c80b0 : (x26_4 == (t572.length : Int)) = true := beq_iff_eq.mpr c80
                                    have c80b1 : (x26_4 != (t572.length : Int)) = false := bne_eq_false_iff_eq.mpr c80
                                    clear c80
                                    have H' := Aside0.mk H
                                    clear H
                                    obtain ⟨Ao81, co81, eo81⟩ := Kd.R_slice HO_18.out
                                    subst eo81
                                    obtain ⟨Ao82, co82, eo82⟩ := Kd.R_slice HO_20.out
                                    subst eo82
                                    go_wp2
                                    repeat (go_quiet (fail); try go_wp2)
                                    go_loopg [28] k4 (fun kq v28 w' => ∃ (x28_5 : Int), v28 = .int .i64 x28_5 ∧ Aside0 (laws_FnSpectrum.l2 kq l0 t543 t564 x28_5 = some true) ∧ Aside0 (kq ≤ k4) ∧ Aside0 (Kd.R (Kd.int .i64) 2 w' w.heap.size (fun _ => True) v565 t564) ∧ Aside0 (w'.heap[gb542]? = some (.cells #[.int .i64 t540, .int .i64 t541] 27 (0, 0))) ∧ Aside0 (Below w.heap.size w w'))
                                    case atStart => exact ⟨(1), (by first | rfl | (simp; done) | (simp [*]; done)), H', ⟨Nat.le_refl _⟩, ⟨by (with_reducible repeat (first | apply Kd.R_alloc | apply Kd.R_drewN | apply Kd.R_drew)); exact Kd.R_mono HO_16.out (fun _ hk => trivial)⟩, ⟨iBK BK542.out⟩, ⟨iHB⟩⟩
                                    case round =>
                                      clear H'
                                      try clear c75
                                      try clear c75b0
                                      try clear c80
                                      try clear c80b0
                                      try clear c80b1
                                      obtain ⟨x28_5, rfl, HA, HK5, HO_16, BK542, HB⟩ := hrel
                                      cases gk with
                                      | zero => exact absurd HA.out (by simp [laws_FnSpectrum.l2])
                                      | succ k5 =>
                                        have H := HA.out
                                        clear HA
                                        simp only [laws_FnSpectrum.l2] at H
                                        have HC83 := Aside0.mk H
                                        clear H
                                        go_upto_region 36 with (fail)
                                        repeat (go_quiet (fail); go_upto_region 36 with (fail))
                                        go_cut [249] from 243 to 256 (fun v249 wc => ∃ (kq : Nat) (x249_82 : Bool), v249 = .bool x249_82 ∧ Aside0 (laws_FnSpectrum.j5 kq l0 t543 t564 x28_5 x249_82 = some true) ∧ Aside0 (kq ≤ k5) ∧ Aside0 (Kd.R (Kd.int .i64) 2 wc w.heap.size (fun _ => True) v565 t564) ∧ Aside0 (wc.heap[gb542]? = some (.cells #[.int .i64 t540, .int .i64 t541] 27 (0, 0))) ∧ Aside0 (Below w.heap.size w wc))
                                        case first =>
                                          have H := HC83.out
                                          clear HC83
                                          by_cases c84 : x28_5 < (t564.length : Int)
                                          · rw [if_pos c84] at H
                                            have c84b0 : decide (x28_5 < (t564.length : Int)) = true := decide_eq_true c84
                                            clear c84
                                            (first | rw [c84b0] | (simp only [i64_w, i32_w]; rw [c84b0]) | skip)
                                            have H' := Aside0.mk H
                                            clear H
                                            obtain ⟨Ao85, co85, eo85⟩ := Kd.R_slice HO_16.out
                                            subst eo85
                                            go_wp2
                                            repeat (go_quiet (fail); try go_wp2)
                                            go_meet
                                            case rel => exact ⟨_, (t543), (by first | rfl | (simp; done) | (simp [*]; done)), H', ⟨by have := HJ8.out; have := HK2.out; have := HJ46.out; have := HK4.out; have := HK5.out; first | omega | exact Nat.le_refl _⟩, ⟨by (with_reducible repeat (first | apply Kd.R_alloc | apply Kd.R_drewN | apply Kd.R_drew)); exact HO_16.out⟩, ⟨iBK BK542.out⟩, ⟨iHB⟩⟩
                                          · rw [if_neg c84] at H
                                            have c84b0 : decide (x28_5 < (t564.length : Int)) = false := decide_eq_false c84
                                            clear c84
                                            (first | rw [c84b0] | (simp only [i64_w, i32_w]; rw [c84b0]) | skip)
                                            have H' := Aside0.mk H
                                            clear H
                                            obtain ⟨Ao86, co86, eo86⟩ := Kd.R_slice HO_16.out
                                            subst eo86
                                            go_wp2
                                            repeat (go_quiet (fail); try go_wp2)
                                            go_meet
                                            case rel => exact ⟨_, (false), (by first | rfl | (simp; done) | (simp [*]; done)), H', ⟨by have := HJ8.out; have := HK2.out; have := HJ46.out; have := HK4.out; have := HK5.out; first | omega | exact Nat.le_refl _⟩, ⟨by (with_reducible repeat (first | apply Kd.R_alloc | apply Kd.R_drewN | apply Kd.R_drew)); exact HO_16.out⟩, ⟨iBK BK542.out⟩, ⟨iHB⟩⟩
                                        case rest =>
                                          clear HC83
                                          obtain ⟨kq, x249_82, rfl, HA, HJ82, HO_16, BK542, HB⟩ := hcut
                                          cases kq with
                                          | zero => exact absurd HA.out (by simp [laws_FnSpectrum.j5])
                                          | succ kj82 =>
                                            have H := HA.out
                                            clear HA
                                            simp only [laws_FnSpectrum.j5] at H
                                            by_cases c87 : x249_82 = true
                                            · subst c87
                                              have H1 : (if 0 ≤ x28_5 then (if x28_5 < (t564.length : Int) then (if (rd t564 x28_5) = 0 then (laws_FnSpectrum.l2 kj82 l0 t543 t564 (wrap64 (x28_5 + 1))) else (some false)) else (none)) else (none)) = some true := by first | (rw [if_pos rfl] at H; exact H) | rfl
                                              clear H
                                              have H := H1
                                              clear H1
                                              by_cases c88 : 0 ≤ x28_5
                                              · rw [if_pos c88] at H
                                                have c88b0 : decide (0 ≤ x28_5) = true := decide_eq_true c88
                                                clear c88
                                                by_cases c89 : x28_5 < (t564.length : Int)
                                                · rw [if_pos c89] at H
                                                  have c89b0 : decide (x28_5 < (t564.length : Int)) = true := decide_eq_true c89
                                                  clear c89
                                                  by_cases c90 : (rd t564 x28_5) = 0
                                                  · rw [if_pos c90] at H
                                                    have c90b0 : ((rd t564 x28_5) == 0) = true := beq_iff_eq.mpr c90
                                                    have c90b1 : ((rd t564 x28_5) != 0) = false := bne_eq_false_iff_eq.mpr c90
                                                    clear c90
                                                    have H' := Aside0.mk H
                                                    clear H
                                                    obtain ⟨Ao91, co91, eo91⟩ := Kd.R_slice HO_16.out
                                                    subst eo91
                                                    have p583 : 0 ≤ (x28_5 : Int) := of_decide_eq_true (by first | (with_reducible assumption) | assumption)
                                                    have q583 : x28_5 < (t564.length : Int) := of_decide_eq_true (by first | (with_reducible assumption) | assumption)
                                                    obtain ⟨ad583, e583, hx583_0⟩ := Kd.at_int (Kd.R_reads' HO_16.out).2.2 x28_5 p583 q583
                                                    cases e583
                                                    replace p583 := eq_true p583
                                                    replace q583 := eq_true q583
                                                    go_wp2
                                                    repeat (go_quiet (fail); try go_wp2)
                                                    go_roundg kj82
                                                    case measure => have := HJ8.out; have := HK2.out; have := HJ46.out; have := HK4.out; have := HK5.out; have := HJ82.out; omega
                                                    case rel => exact ⟨(wrap64 (x28_5 + 1)), (by first | rfl | (simp; done) | (simp [*]; done)), H', ⟨by have := HJ8.out; have := HK2.out; have := HJ46.out; have := HK4.out; have := HK5.out; have := HJ82.out; omega⟩, ⟨by (with_reducible repeat (first | apply Kd.R_alloc | apply Kd.R_drewN | apply Kd.R_drew)); exact HO_16.out⟩, ⟨iBK BK542.out⟩, ⟨iHB⟩⟩
                                                  · rw [if_neg c90] at H
                                                    have c90b0 : ((rd t564 x28_5) == 0) = false := beq_eq_false_iff_ne.mpr c90
                                                    have c90b1 : ((rd t564 x28_5) != 0) = true := bne_iff_ne.mpr c90
                                                    exact absurd (Option.some.inj H) (by decide)
                                                · rw [if_neg c89] at H
                                                  exact absurd H (by simp)
                                              · rw [if_neg c88] at H
                                                exact absurd H (by simp)
                                            · replace c87 := Bool.eq_false_iff.mpr c87
                                              subst c87
                                              have H1 : (laws_FnSpectrum.j6 kj82 l0) = some true := by rw [if_neg (show ¬ (false = true) by decide)] at H; exact H
                                              clear H
                                              have H := H1
                                              clear H1
                                              have H' := Aside0.mk H
                                              clear H
                                              go_wp2
                                              repeat (go_quiet (fail); try go_wp2)
                                              go_meet
                                              case rel => exact ⟨_, H', ⟨by have := HJ8.out; have := HK2.out; have := HJ46.out; have := HK4.out; have := HK5.out; have := HJ82.out; first | omega | exact Nat.le_refl _⟩, ⟨iHB⟩⟩
                                  · rw [if_neg c80] at H
                                    have c80b0 : (x26_4 == (t572.length : Int)) = false := beq_eq_false_iff_ne.mpr c80
                                    have c80b1 : (x26_4 != (t572.length : Int)) = true := bne_iff_ne.mpr c80
                                    exact absurd (Option.some.inj H) (by decide)
              · rw [if_neg c30] at H
                exact absurd H (by simp)
            · rw [if_neg c28] at H
              have c28b0 : (t544 == 0) = false := beq_eq_false_iff_ne.mpr c28
              have c28b1 : (t544 != 0) = true := bne_iff_ne.mpr c28
              (first | rw [c28b0] | (simp only [i64_w, i32_w]; rw [c28b0]) | skip)
              have H' := Aside0.mk H
              clear H
              go_wp2
              repeat (go_quiet (fail); try go_wp2)
              go_meet
              case rel => exact ⟨_, H', ⟨by have := HJ8.out; first | omega | exact Nat.le_refl _⟩, ⟨iHB⟩⟩
          case rest =>
            clear HC27
            try clear c26
            obtain ⟨kq, HA, HJ26, HB⟩ := hcut
            cases kq with
            | zero => exact absurd HA.out (by simp [laws_FnSpectrum.j6])
            | succ kj26 =>
              have H := HA.out
              clear HA
              simp only [laws_FnSpectrum.j6] at H
              replace H := Option.bind_eq_some_iff.mp H
              obtain ⟨⟨t584, t585⟩, A950, H⟩ := H
              replace H : ((impl_ImmunityOf.f kj26 t584 t585).bind fun bt587 => ((spec_ImmunityOf.f kj26 t584 t585).bind fun bt589 => ((spec_DrawCorrelationsOf.f kj26 l0).bind fun bt591 => ((impl_CorrelationsOf.f bt591.1 bt591.2).bind fun bt594 => ((spec_CorrelationsOf.f kj26 bt591.1 bt591.2).bind fun bt598 => ((spec_DrawInfluencesOf.f kj26 l0).bind fun bt602 => ((impl_InfluencesOf.f kj26 bt602.1 bt602.2).bind fun bt605 => ((spec_InfluencesOf.f kj26 bt602.1 bt602.2).bind fun bt609 => ((spec_DrawIsBalanced.f kj26 l0).bind fun bt613 => ((impl_IsBalanced.f bt613.1 bt613.2).bind fun bt616 => ((spec_IsBalanced.f kj26 bt613.1 bt613.2).bind fun bt618 => ((spec_DrawAffineDistance.f kj26 l0).bind fun bt620 => ((impl_AffineDistance.f kj26 bt620.1 bt620.2).bind fun bt623 => ((spec_AffineDistance.f kj26 bt620.1 bt620.2).bind fun bt625 => ((spec_DrawSpectrumOf.f kj26 l0).bind fun bt627 => ((impl_SpectrumOf.f bt627.1 bt627.2).bind fun bt630 => ((spec_SpectrumOf.f kj26 bt627.1 bt627.2).bind fun bt634 => (if bt587.2 = bt589.2 then (if bt587.1 = bt589.1 then (if bt594.2 = bt598.2 then ((laws_likeInts.f kj26 bt594.1 bt598.1).bind fun t638 => (if t638 = true then (if bt605.2 = bt609.2 then ((laws_likeInts.f kj26 bt605.1 bt609.1).bind fun t639 => (if t639 = true then (if bt616.2 = bt618.2 then (if (bt616.1 == bt618.1) = true then (if bt623.2 = bt625.2 then (if bt623.1 = bt625.1 then (if bt630.2 = bt634.2 then ((laws_likeInts.f kj26 bt630.1 bt634.1).bind fun t640 => (some t640)) else (some false)) else (some false)) else (some false)) else (some false)) else (some false)) else (some false))) else (some false)) else (some false))) else (some false)) else (some false)) else (some false))))))))))))))))))) = some true := H
              have A95 := Aside0.mk A950
              clear A950
              replace H := Option.bind_eq_some_iff.mp H
              obtain ⟨⟨t587, t588⟩, A960, H⟩ := H
              replace H : ((spec_ImmunityOf.f kj26 t584 t585).bind fun bt589 => ((spec_DrawCorrelationsOf.f kj26 l0).bind fun bt591 => ((impl_CorrelationsOf.f bt591.1 bt591.2).bind fun bt594 => ((spec_CorrelationsOf.f kj26 bt591.1 bt591.2).bind fun bt598 => ((spec_DrawInfluencesOf.f kj26 l0).bind fun bt602 => ((impl_InfluencesOf.f kj26 bt602.1 bt602.2).bind fun bt605 => ((spec_InfluencesOf.f kj26 bt602.1 bt602.2).bind fun bt609 => ((spec_DrawIsBalanced.f kj26 l0).bind fun bt613 => ((impl_IsBalanced.f bt613.1 bt613.2).bind fun bt616 => ((spec_IsBalanced.f kj26 bt613.1 bt613.2).bind fun bt618 => ((spec_DrawAffineDistance.f kj26 l0).bind fun bt620 => ((impl_AffineDistance.f kj26 bt620.1 bt620.2).bind fun bt623 => ((spec_AffineDistance.f kj26 bt620.1 bt620.2).bind fun bt625 => ((spec_DrawSpectrumOf.f kj26 l0).bind fun bt627 => ((impl_SpectrumOf.f bt627.1 bt627.2).bind fun bt630 => ((spec_SpectrumOf.f kj26 bt627.1 bt627.2).bind fun bt634 => (if t588 = bt589.2 then (if t587 = bt589.1 then (if bt594.2 = bt598.2 then ((laws_likeInts.f kj26 bt594.1 bt598.1).bind fun t638 => (if t638 = true then (if bt605.2 = bt609.2 then ((laws_likeInts.f kj26 bt605.1 bt609.1).bind fun t639 => (if t639 = true then (if bt616.2 = bt618.2 then (if (bt616.1 == bt618.1) = true then (if bt623.2 = bt625.2 then (if bt623.1 = bt625.1 then (if bt630.2 = bt634.2 then ((laws_likeInts.f kj26 bt630.1 bt634.1).bind fun t640 => (some t640)) else (some false)) else (some false)) else (some false)) else (some false)) else (some false)) else (some false))) else (some false)) else (some false))) else (some false)) else (some false)) else (some false)))))))))))))))))) = some true := H
              have A96 := Aside0.mk A960
              clear A960
              replace H := Option.bind_eq_some_iff.mp H
              obtain ⟨⟨t589, t590⟩, A970, H⟩ := H
              replace H : ((spec_DrawCorrelationsOf.f kj26 l0).bind fun bt591 => ((impl_CorrelationsOf.f bt591.1 bt591.2).bind fun bt594 => ((spec_CorrelationsOf.f kj26 bt591.1 bt591.2).bind fun bt598 => ((spec_DrawInfluencesOf.f kj26 l0).bind fun bt602 => ((impl_InfluencesOf.f kj26 bt602.1 bt602.2).bind fun bt605 => ((spec_InfluencesOf.f kj26 bt602.1 bt602.2).bind fun bt609 => ((spec_DrawIsBalanced.f kj26 l0).bind fun bt613 => ((impl_IsBalanced.f bt613.1 bt613.2).bind fun bt616 => ((spec_IsBalanced.f kj26 bt613.1 bt613.2).bind fun bt618 => ((spec_DrawAffineDistance.f kj26 l0).bind fun bt620 => ((impl_AffineDistance.f kj26 bt620.1 bt620.2).bind fun bt623 => ((spec_AffineDistance.f kj26 bt620.1 bt620.2).bind fun bt625 => ((spec_DrawSpectrumOf.f kj26 l0).bind fun bt627 => ((impl_SpectrumOf.f bt627.1 bt627.2).bind fun bt630 => ((spec_SpectrumOf.f kj26 bt627.1 bt627.2).bind fun bt634 => (if t588 = t590 then (if t587 = t589 then (if bt594.2 = bt598.2 then ((laws_likeInts.f kj26 bt594.1 bt598.1).bind fun t638 => (if t638 = true then (if bt605.2 = bt609.2 then ((laws_likeInts.f kj26 bt605.1 bt609.1).bind fun t639 => (if t639 = true then (if bt616.2 = bt618.2 then (if (bt616.1 == bt618.1) = true then (if bt623.2 = bt625.2 then (if bt623.1 = bt625.1 then (if bt630.2 = bt634.2 then ((laws_likeInts.f kj26 bt630.1 bt634.1).bind fun t640 => (some t640)) else (some false)) else (some false)) else (some false)) else (some false)) else (some false)) else (some false))) else (some false)) else (some false))) else (some false)) else (some false)) else (some false))))))))))))))))) = some true := H
              have A97 := Aside0.mk A970
              clear A970
              replace H := Option.bind_eq_some_iff.mp H
              obtain ⟨⟨t591, t592⟩, A980, H⟩ := H
              replace H : ((impl_CorrelationsOf.f t591 t592).bind fun bt594 => ((spec_CorrelationsOf.f kj26 t591 t592).bind fun bt598 => ((spec_DrawInfluencesOf.f kj26 l0).bind fun bt602 => ((impl_InfluencesOf.f kj26 bt602.1 bt602.2).bind fun bt605 => ((spec_InfluencesOf.f kj26 bt602.1 bt602.2).bind fun bt609 => ((spec_DrawIsBalanced.f kj26 l0).bind fun bt613 => ((impl_IsBalanced.f bt613.1 bt613.2).bind fun bt616 => ((spec_IsBalanced.f kj26 bt613.1 bt613.2).bind fun bt618 => ((spec_DrawAffineDistance.f kj26 l0).bind fun bt620 => ((impl_AffineDistance.f kj26 bt620.1 bt620.2).bind fun bt623 => ((spec_AffineDistance.f kj26 bt620.1 bt620.2).bind fun bt625 => ((spec_DrawSpectrumOf.f kj26 l0).bind fun bt627 => ((impl_SpectrumOf.f bt627.1 bt627.2).bind fun bt630 => ((spec_SpectrumOf.f kj26 bt627.1 bt627.2).bind fun bt634 => (if t588 = t590 then (if t587 = t589 then (if bt594.2 = bt598.2 then ((laws_likeInts.f kj26 bt594.1 bt598.1).bind fun t638 => (if t638 = true then (if bt605.2 = bt609.2 then ((laws_likeInts.f kj26 bt605.1 bt609.1).bind fun t639 => (if t639 = true then (if bt616.2 = bt618.2 then (if (bt616.1 == bt618.1) = true then (if bt623.2 = bt625.2 then (if bt623.1 = bt625.1 then (if bt630.2 = bt634.2 then ((laws_likeInts.f kj26 bt630.1 bt634.1).bind fun t640 => (some t640)) else (some false)) else (some false)) else (some false)) else (some false)) else (some false)) else (some false))) else (some false)) else (some false))) else (some false)) else (some false)) else (some false)))))))))))))))) = some true := H
              have A98 := Aside0.mk A980
              clear A980
              replace H := Option.bind_eq_some_iff.mp H
              obtain ⟨⟨t594, t597⟩, A990, H⟩ := H
              replace H : ((spec_CorrelationsOf.f kj26 t591 t592).bind fun bt598 => ((spec_DrawInfluencesOf.f kj26 l0).bind fun bt602 => ((impl_InfluencesOf.f kj26 bt602.1 bt602.2).bind fun bt605 => ((spec_InfluencesOf.f kj26 bt602.1 bt602.2).bind fun bt609 => ((spec_DrawIsBalanced.f kj26 l0).bind fun bt613 => ((impl_IsBalanced.f bt613.1 bt613.2).bind fun bt616 => ((spec_IsBalanced.f kj26 bt613.1 bt613.2).bind fun bt618 => ((spec_DrawAffineDistance.f kj26 l0).bind fun bt620 => ((impl_AffineDistance.f kj26 bt620.1 bt620.2).bind fun bt623 => ((spec_AffineDistance.f kj26 bt620.1 bt620.2).bind fun bt625 => ((spec_DrawSpectrumOf.f kj26 l0).bind fun bt627 => ((impl_SpectrumOf.f bt627.1 bt627.2).bind fun bt630 => ((spec_SpectrumOf.f kj26 bt627.1 bt627.2).bind fun bt634 => (if t588 = t590 then (if t587 = t589 then (if t597 = bt598.2 then ((laws_likeInts.f kj26 t594 bt598.1).bind fun t638 => (if t638 = true then (if bt605.2 = bt609.2 then ((laws_likeInts.f kj26 bt605.1 bt609.1).bind fun t639 => (if t639 = true then (if bt616.2 = bt618.2 then (if (bt616.1 == bt618.1) = true then (if bt623.2 = bt625.2 then (if bt623.1 = bt625.1 then (if bt630.2 = bt634.2 then ((laws_likeInts.f kj26 bt630.1 bt634.1).bind fun t640 => (some t640)) else (some false)) else (some false)) else (some false)) else (some false)) else (some false)) else (some false))) else (some false)) else (some false))) else (some false)) else (some false)) else (some false))))))))))))))) = some true := H
              have A99 := Aside0.mk A990
              clear A990
              replace H := Option.bind_eq_some_iff.mp H
              obtain ⟨⟨t598, t601⟩, A1000, H⟩ := H
              replace H : ((spec_DrawInfluencesOf.f kj26 l0).bind fun bt602 => ((impl_InfluencesOf.f kj26 bt602.1 bt602.2).bind fun bt605 => ((spec_InfluencesOf.f kj26 bt602.1 bt602.2).bind fun bt609 => ((spec_DrawIsBalanced.f kj26 l0).bind fun bt613 => ((impl_IsBalanced.f bt613.1 bt613.2).bind fun bt616 => ((spec_IsBalanced.f kj26 bt613.1 bt613.2).bind fun bt618 => ((spec_DrawAffineDistance.f kj26 l0).bind fun bt620 => ((impl_AffineDistance.f kj26 bt620.1 bt620.2).bind fun bt623 => ((spec_AffineDistance.f kj26 bt620.1 bt620.2).bind fun bt625 => ((spec_DrawSpectrumOf.f kj26 l0).bind fun bt627 => ((impl_SpectrumOf.f bt627.1 bt627.2).bind fun bt630 => ((spec_SpectrumOf.f kj26 bt627.1 bt627.2).bind fun bt634 => (if t588 = t590 then (if t587 = t589 then (if t597 = t601 then ((laws_likeInts.f kj26 t594 t598).bind fun t638 => (if t638 = true then (if bt605.2 = bt609.2 then ((laws_likeInts.f kj26 bt605.1 bt609.1).bind fun t639 => (if t639 = true then (if bt616.2 = bt618.2 then (if (bt616.1 == bt618.1) = true then (if bt623.2 = bt625.2 then (if bt623.1 = bt625.1 then (if bt630.2 = bt634.2 then ((laws_likeInts.f kj26 bt630.1 bt634.1).bind fun t640 => (some t640)) else (some false)) else (some false)) else (some false)) else (some false)) else (some false)) else (some false))) else (some false)) else (some false))) else (some false)) else (some false)) else (some false)))))))))))))) = some true := H
              have A100 := Aside0.mk A1000
              clear A1000
              replace H := Option.bind_eq_some_iff.mp H
              obtain ⟨⟨t602, t603⟩, A1010, H⟩ := H
              replace H : ((impl_InfluencesOf.f kj26 t602 t603).bind fun bt605 => ((spec_InfluencesOf.f kj26 t602 t603).bind fun bt609 => ((spec_DrawIsBalanced.f kj26 l0).bind fun bt613 => ((impl_IsBalanced.f bt613.1 bt613.2).bind fun bt616 => ((spec_IsBalanced.f kj26 bt613.1 bt613.2).bind fun bt618 => ((spec_DrawAffineDistance.f kj26 l0).bind fun bt620 => ((impl_AffineDistance.f kj26 bt620.1 bt620.2).bind fun bt623 => ((spec_AffineDistance.f kj26 bt620.1 bt620.2).bind fun bt625 => ((spec_DrawSpectrumOf.f kj26 l0).bind fun bt627 => ((impl_SpectrumOf.f bt627.1 bt627.2).bind fun bt630 => ((spec_SpectrumOf.f kj26 bt627.1 bt627.2).bind fun bt634 => (if t588 = t590 then (if t587 = t589 then (if t597 = t601 then ((laws_likeInts.f kj26 t594 t598).bind fun t638 => (if t638 = true then (if bt605.2 = bt609.2 then ((laws_likeInts.f kj26 bt605.1 bt609.1).bind fun t639 => (if t639 = true then (if bt616.2 = bt618.2 then (if (bt616.1 == bt618.1) = true then (if bt623.2 = bt625.2 then (if bt623.1 = bt625.1 then (if bt630.2 = bt634.2 then ((laws_likeInts.f kj26 bt630.1 bt634.1).bind fun t640 => (some t640)) else (some false)) else (some false)) else (some false)) else (some false)) else (some false)) else (some false))) else (some false)) else (some false))) else (some false)) else (some false)) else (some false))))))))))))) = some true := H
              have A101 := Aside0.mk A1010
              clear A1010
              replace H := Option.bind_eq_some_iff.mp H
              obtain ⟨⟨t605, t608⟩, A1020, H⟩ := H
              replace H : ((spec_InfluencesOf.f kj26 t602 t603).bind fun bt609 => ((spec_DrawIsBalanced.f kj26 l0).bind fun bt613 => ((impl_IsBalanced.f bt613.1 bt613.2).bind fun bt616 => ((spec_IsBalanced.f kj26 bt613.1 bt613.2).bind fun bt618 => ((spec_DrawAffineDistance.f kj26 l0).bind fun bt620 => ((impl_AffineDistance.f kj26 bt620.1 bt620.2).bind fun bt623 => ((spec_AffineDistance.f kj26 bt620.1 bt620.2).bind fun bt625 => ((spec_DrawSpectrumOf.f kj26 l0).bind fun bt627 => ((impl_SpectrumOf.f bt627.1 bt627.2).bind fun bt630 => ((spec_SpectrumOf.f kj26 bt627.1 bt627.2).bind fun bt634 => (if t588 = t590 then (if t587 = t589 then (if t597 = t601 then ((laws_likeInts.f kj26 t594 t598).bind fun t638 => (if t638 = true then (if t608 = bt609.2 then ((laws_likeInts.f kj26 t605 bt609.1).bind fun t639 => (if t639 = true then (if bt616.2 = bt618.2 then (if (bt616.1 == bt618.1) = true then (if bt623.2 = bt625.2 then (if bt623.1 = bt625.1 then (if bt630.2 = bt634.2 then ((laws_likeInts.f kj26 bt630.1 bt634.1).bind fun t640 => (some t640)) else (some false)) else (some false)) else (some false)) else (some false)) else (some false)) else (some false))) else (some false)) else (some false))) else (some false)) else (some false)) else (some false)))))))))))) = some true := H
              have A102 := Aside0.mk A1020
              clear A1020
              replace H := Option.bind_eq_some_iff.mp H
              obtain ⟨⟨t609, t612⟩, A1030, H⟩ := H
              replace H : ((spec_DrawIsBalanced.f kj26 l0).bind fun bt613 => ((impl_IsBalanced.f bt613.1 bt613.2).bind fun bt616 => ((spec_IsBalanced.f kj26 bt613.1 bt613.2).bind fun bt618 => ((spec_DrawAffineDistance.f kj26 l0).bind fun bt620 => ((impl_AffineDistance.f kj26 bt620.1 bt620.2).bind fun bt623 => ((spec_AffineDistance.f kj26 bt620.1 bt620.2).bind fun bt625 => ((spec_DrawSpectrumOf.f kj26 l0).bind fun bt627 => ((impl_SpectrumOf.f bt627.1 bt627.2).bind fun bt630 => ((spec_SpectrumOf.f kj26 bt627.1 bt627.2).bind fun bt634 => (if t588 = t590 then (if t587 = t589 then (if t597 = t601 then ((laws_likeInts.f kj26 t594 t598).bind fun t638 => (if t638 = true then (if t608 = t612 then ((laws_likeInts.f kj26 t605 t609).bind fun t639 => (if t639 = true then (if bt616.2 = bt618.2 then (if (bt616.1 == bt618.1) = true then (if bt623.2 = bt625.2 then (if bt623.1 = bt625.1 then (if bt630.2 = bt634.2 then ((laws_likeInts.f kj26 bt630.1 bt634.1).bind fun t640 => (some t640)) else (some false)) else (some false)) else (some false)) else (some false)) else (some false)) else (some false))) else (some false)) else (some false))) else (some false)) else (some false)) else (some false))))))))))) = some true := H
              have A103 := Aside0.mk A1030
              clear A1030
              replace H := Option.bind_eq_some_iff.mp H
              obtain ⟨⟨t613, t614⟩, A1040, H⟩ := H
              replace H : ((impl_IsBalanced.f t613 t614).bind fun bt616 => ((spec_IsBalanced.f kj26 t613 t614).bind fun bt618 => ((spec_DrawAffineDistance.f kj26 l0).bind fun bt620 => ((impl_AffineDistance.f kj26 bt620.1 bt620.2).bind fun bt623 => ((spec_AffineDistance.f kj26 bt620.1 bt620.2).bind fun bt625 => ((spec_DrawSpectrumOf.f kj26 l0).bind fun bt627 => ((impl_SpectrumOf.f bt627.1 bt627.2).bind fun bt630 => ((spec_SpectrumOf.f kj26 bt627.1 bt627.2).bind fun bt634 => (if t588 = t590 then (if t587 = t589 then (if t597 = t601 then ((laws_likeInts.f kj26 t594 t598).bind fun t638 => (if t638 = true then (if t608 = t612 then ((laws_likeInts.f kj26 t605 t609).bind fun t639 => (if t639 = true then (if bt616.2 = bt618.2 then (if (bt616.1 == bt618.1) = true then (if bt623.2 = bt625.2 then (if bt623.1 = bt625.1 then (if bt630.2 = bt634.2 then ((laws_likeInts.f kj26 bt630.1 bt634.1).bind fun t640 => (some t640)) else (some false)) else (some false)) else (some false)) else (some false)) else (some false)) else (some false))) else (some false)) else (some false))) else (some false)) else (some false)) else (some false)))))))))) = some true := H
              have A104 := Aside0.mk A1040
              clear A1040
              replace H := Option.bind_eq_some_iff.mp H
              obtain ⟨⟨t616, t617⟩, A1050, H⟩ := H
              replace H : ((spec_IsBalanced.f kj26 t613 t614).bind fun bt618 => ((spec_DrawAffineDistance.f kj26 l0).bind fun bt620 => ((impl_AffineDistance.f kj26 bt620.1 bt620.2).bind fun bt623 => ((spec_AffineDistance.f kj26 bt620.1 bt620.2).bind fun bt625 => ((spec_DrawSpectrumOf.f kj26 l0).bind fun bt627 => ((impl_SpectrumOf.f bt627.1 bt627.2).bind fun bt630 => ((spec_SpectrumOf.f kj26 bt627.1 bt627.2).bind fun bt634 => (if t588 = t590 then (if t587 = t589 then (if t597 = t601 then ((laws_likeInts.f kj26 t594 t598).bind fun t638 => (if t638 = true then (if t608 = t612 then ((laws_likeInts.f kj26 t605 t609).bind fun t639 => (if t639 = true then (if t617 = bt618.2 then (if (t616 == bt618.1) = true then (if bt623.2 = bt625.2 then (if bt623.1 = bt625.1 then (if bt630.2 = bt634.2 then ((laws_likeInts.f kj26 bt630.1 bt634.1).bind fun t640 => (some t640)) else (some false)) else (some false)) else (some false)) else (some false)) else (some false)) else (some false))) else (some false)) else (some false))) else (some false)) else (some false)) else (some false))))))))) = some true := H
              have A105 := Aside0.mk A1050
              clear A1050
              replace H := Option.bind_eq_some_iff.mp H
              obtain ⟨⟨t618, t619⟩, A1060, H⟩ := H
              replace H : ((spec_DrawAffineDistance.f kj26 l0).bind fun bt620 => ((impl_AffineDistance.f kj26 bt620.1 bt620.2).bind fun bt623 => ((spec_AffineDistance.f kj26 bt620.1 bt620.2).bind fun bt625 => ((spec_DrawSpectrumOf.f kj26 l0).bind fun bt627 => ((impl_SpectrumOf.f bt627.1 bt627.2).bind fun bt630 => ((spec_SpectrumOf.f kj26 bt627.1 bt627.2).bind fun bt634 => (if t588 = t590 then (if t587 = t589 then (if t597 = t601 then ((laws_likeInts.f kj26 t594 t598).bind fun t638 => (if t638 = true then (if t608 = t612 then ((laws_likeInts.f kj26 t605 t609).bind fun t639 => (if t639 = true then (if t617 = t619 then (if (t616 == t618) = true then (if bt623.2 = bt625.2 then (if bt623.1 = bt625.1 then (if bt630.2 = bt634.2 then ((laws_likeInts.f kj26 bt630.1 bt634.1).bind fun t640 => (some t640)) else (some false)) else (some false)) else (some false)) else (some false)) else (some false)) else (some false))) else (some false)) else (some false))) else (some false)) else (some false)) else (some false)))))))) = some true := H
              have A106 := Aside0.mk A1060
              clear A1060
              replace H := Option.bind_eq_some_iff.mp H
              obtain ⟨⟨t620, t621⟩, A1070, H⟩ := H
              replace H : ((impl_AffineDistance.f kj26 t620 t621).bind fun bt623 => ((spec_AffineDistance.f kj26 t620 t621).bind fun bt625 => ((spec_DrawSpectrumOf.f kj26 l0).bind fun bt627 => ((impl_SpectrumOf.f bt627.1 bt627.2).bind fun bt630 => ((spec_SpectrumOf.f kj26 bt627.1 bt627.2).bind fun bt634 => (if t588 = t590 then (if t587 = t589 then (if t597 = t601 then ((laws_likeInts.f kj26 t594 t598).bind fun t638 => (if t638 = true then (if t608 = t612 then ((laws_likeInts.f kj26 t605 t609).bind fun t639 => (if t639 = true then (if t617 = t619 then (if (t616 == t618) = true then (if bt623.2 = bt625.2 then (if bt623.1 = bt625.1 then (if bt630.2 = bt634.2 then ((laws_likeInts.f kj26 bt630.1 bt634.1).bind fun t640 => (some t640)) else (some false)) else (some false)) else (some false)) else (some false)) else (some false)) else (some false))) else (some false)) else (some false))) else (some false)) else (some false)) else (some false))))))) = some true := H
              have A107 := Aside0.mk A1070
              clear A1070
              replace H := Option.bind_eq_some_iff.mp H
              obtain ⟨⟨t623, t624⟩, A1080, H⟩ := H
              replace H : ((spec_AffineDistance.f kj26 t620 t621).bind fun bt625 => ((spec_DrawSpectrumOf.f kj26 l0).bind fun bt627 => ((impl_SpectrumOf.f bt627.1 bt627.2).bind fun bt630 => ((spec_SpectrumOf.f kj26 bt627.1 bt627.2).bind fun bt634 => (if t588 = t590 then (if t587 = t589 then (if t597 = t601 then ((laws_likeInts.f kj26 t594 t598).bind fun t638 => (if t638 = true then (if t608 = t612 then ((laws_likeInts.f kj26 t605 t609).bind fun t639 => (if t639 = true then (if t617 = t619 then (if (t616 == t618) = true then (if t624 = bt625.2 then (if t623 = bt625.1 then (if bt630.2 = bt634.2 then ((laws_likeInts.f kj26 bt630.1 bt634.1).bind fun t640 => (some t640)) else (some false)) else (some false)) else (some false)) else (some false)) else (some false)) else (some false))) else (some false)) else (some false))) else (some false)) else (some false)) else (some false)))))) = some true := H
              have A108 := Aside0.mk A1080
              clear A1080
              replace H := Option.bind_eq_some_iff.mp H
              obtain ⟨⟨t625, t626⟩, A1090, H⟩ := H
              replace H : ((spec_DrawSpectrumOf.f kj26 l0).bind fun bt627 => ((impl_SpectrumOf.f bt627.1 bt627.2).bind fun bt630 => ((spec_SpectrumOf.f kj26 bt627.1 bt627.2).bind fun bt634 => (if t588 = t590 then (if t587 = t589 then (if t597 = t601 then ((laws_likeInts.f kj26 t594 t598).bind fun t638 => (if t638 = true then (if t608 = t612 then ((laws_likeInts.f kj26 t605 t609).bind fun t639 => (if t639 = true then (if t617 = t619 then (if (t616 == t618) = true then (if t624 = t626 then (if t623 = t625 then (if bt630.2 = bt634.2 then ((laws_likeInts.f kj26 bt630.1 bt634.1).bind fun t640 => (some t640)) else (some false)) else (some false)) else (some false)) else (some false)) else (some false)) else (some false))) else (some false)) else (some false))) else (some false)) else (some false)) else (some false))))) = some true := H
              have A109 := Aside0.mk A1090
              clear A1090
              replace H := Option.bind_eq_some_iff.mp H
              obtain ⟨⟨t627, t628⟩, A1100, H⟩ := H
              replace H : ((impl_SpectrumOf.f t627 t628).bind fun bt630 => ((spec_SpectrumOf.f kj26 t627 t628).bind fun bt634 => (if t588 = t590 then (if t587 = t589 then (if t597 = t601 then ((laws_likeInts.f kj26 t594 t598).bind fun t638 => (if t638 = true then (if t608 = t612 then ((laws_likeInts.f kj26 t605 t609).bind fun t639 => (if t639 = true then (if t617 = t619 then (if (t616 == t618) = true then (if t624 = t626 then (if t623 = t625 then (if bt630.2 = bt634.2 then ((laws_likeInts.f kj26 bt630.1 bt634.1).bind fun t640 => (some t640)) else (some false)) else (some false)) else (some false)) else (some false)) else (some false)) else (some false))) else (some false)) else (some false))) else (some false)) else (some false)) else (some false)))) = some true := H
              have A110 := Aside0.mk A1100
              clear A1100
              replace H := Option.bind_eq_some_iff.mp H
              obtain ⟨⟨t630, t633⟩, A1110, H⟩ := H
              replace H : ((spec_SpectrumOf.f kj26 t627 t628).bind fun bt634 => (if t588 = t590 then (if t587 = t589 then (if t597 = t601 then ((laws_likeInts.f kj26 t594 t598).bind fun t638 => (if t638 = true then (if t608 = t612 then ((laws_likeInts.f kj26 t605 t609).bind fun t639 => (if t639 = true then (if t617 = t619 then (if (t616 == t618) = true then (if t624 = t626 then (if t623 = t625 then (if t633 = bt634.2 then ((laws_likeInts.f kj26 t630 bt634.1).bind fun t640 => (some t640)) else (some false)) else (some false)) else (some false)) else (some false)) else (some false)) else (some false))) else (some false)) else (some false))) else (some false)) else (some false)) else (some false))) = some true := H
              have A111 := Aside0.mk A1110
              clear A1110
              replace H := Option.bind_eq_some_iff.mp H
              obtain ⟨⟨t634, t637⟩, A1120, H⟩ := H
              replace H : (if t588 = t590 then (if t587 = t589 then (if t597 = t601 then ((laws_likeInts.f kj26 t594 t598).bind fun t638 => (if t638 = true then (if t608 = t612 then ((laws_likeInts.f kj26 t605 t609).bind fun t639 => (if t639 = true then (if t617 = t619 then (if (t616 == t618) = true then (if t624 = t626 then (if t623 = t625 then (if t633 = t637 then ((laws_likeInts.f kj26 t630 t634).bind fun t640 => (some t640)) else (some false)) else (some false)) else (some false)) else (some false)) else (some false)) else (some false))) else (some false)) else (some false))) else (some false)) else (some false)) else (some false)) = some true := H
              have A112 := Aside0.mk A1120
              clear A1120
              by_cases c113 : t588 = t590
              · rw [if_pos c113] at H
                have c113b0 : (t588 == t590) = true := beq_iff_eq.mpr c113
                have c113b1 : (t588 != t590) = false := bne_eq_false_iff_eq.mpr c113
                clear c113
                by_cases c114 : t587 = t589
                · rw [if_pos c114] at H
                  have c114b0 : (t587 == t589) = true := beq_iff_eq.mpr c114
                  have c114b1 : (t587 != t589) = false := bne_eq_false_iff_eq.mpr c114
                  clear c114
                  by_cases c115 : t597 = t601
                  · rw [if_pos c115] at H
                    have c115b0 : (t597 == t601) = true := beq_iff_eq.mpr c115
                    have c115b1 : (t597 != t601) = false := bne_eq_false_iff_eq.mpr c115
                    clear c115
                    replace H := Option.bind_eq_some_iff.mp H
                    obtain ⟨t638, A1160, H⟩ := H
                    replace H : (if t638 = true then (if t608 = t612 then ((laws_likeInts.f kj26 t605 t609).bind fun t639 => (if t639 = true then (if t617 = t619 then (if (t616 == t618) = true then (if t624 = t626 then (if t623 = t625 then (if t633 = t637 then ((laws_likeInts.f kj26 t630 t634).bind fun t640 => (some t640)) else (some false)) else (some false)) else (some false)) else (some false)) else (some false)) else (some false))) else (some false)) else (some false)) = some true := H
                    have A116 := Aside0.mk A1160
                    clear A1160
                    by_cases c117 : t638 = true
                    · subst c117
                      have H1 : (if t608 = t612 then ((laws_likeInts.f kj26 t605 t609).bind fun t639 => (if t639 = true then (if t617 = t619 then (if (t616 == t618) = true then (if t624 = t626 then (if t623 = t625 then (if t633 = t637 then ((laws_likeInts.f kj26 t630 t634).bind fun t640 => (some t640)) else (some false)) else (some false)) else (some false)) else (some false)) else (some false)) else (some false))) else (some false)) = some true := by first | (rw [if_pos rfl] at H; exact H) | rfl
                      clear H
                      have H := H1
                      clear H1
                      by_cases c118 : t608 = t612
                      · rw [if_pos c118] at H
                        have c118b0 : (t608 == t612) = true := beq_iff_eq.mpr c118
                        have c118b1 : (t608 != t612) = false := bne_eq_false_iff_eq.mpr c118
                        clear c118
                        replace H := Option.bind_eq_some_iff.mp H
                        obtain ⟨t639, A1190, H⟩ := H
                        replace H : (if t639 = true then (if t617 = t619 then (if (t616 == t618) = true then (if t624 = t626 then (if t623 = t625 then (if t633 = t637 then ((laws_likeInts.f kj26 t630 t634).bind fun t640 => (some t640)) else (some false)) else (some false)) else (some false)) else (some false)) else (some false)) else (some false)) = some true := H
                        have A119 := Aside0.mk A1190
                        clear A1190
                        by_cases c120 : t639 = true
                        · subst c120
                          have H1 : (if t617 = t619 then (if (t616 == t618) = true then (if t624 = t626 then (if t623 = t625 then (if t633 = t637 then ((laws_likeInts.f kj26 t630 t634).bind fun t640 => (some t640)) else (some false)) else (some false)) else (some false)) else (some false)) else (some false)) = some true := by first | (rw [if_pos rfl] at H; exact H) | rfl
                          clear H
                          have H := H1
                          clear H1
                          by_cases c121 : t617 = t619
                          · rw [if_pos c121] at H
                            have c121b0 : (t617 == t619) = true := beq_iff_eq.mpr c121
                            have c121b1 : (t617 != t619) = false := bne_eq_false_iff_eq.mpr c121
                            clear c121
                            by_cases c122 : (t616 == t618) = true
                            · rw [if_pos c122] at H
                              have c122b0 : (t616 == t618) = true := c122
                              (try (have c122b1 : decide (t616 = t618) = true := by simpa using c122))
                              (try (have c122b2 : (t616 == t618) = true := by simpa using c122))
                              clear c122
                              by_cases c123 : t624 = t626
                              · rw [if_pos c123] at H
                                have c123b0 : (t624 == t626) = true := beq_iff_eq.mpr c123
                                have c123b1 : (t624 != t626) = false := bne_eq_false_iff_eq.mpr c123
                                clear c123
                                by_cases c124 : t623 = t625
                                · rw [if_pos c124] at H
                                  have c124b0 : (t623 == t625) = true := beq_iff_eq.mpr c124
                                  have c124b1 : (t623 != t625) = false := bne_eq_false_iff_eq.mpr c124
                                  clear c124
                                  by_cases c125 : t633 = t637
                                  · rw [if_pos c125] at H
                                    have c125b0 : (t633 == t637) = true := beq_iff_eq.mpr c125
                                    have c125b1 : (t633 != t637) = false := bne_eq_false_iff_eq.mpr c125
                                    clear c125
                                    replace H := Option.bind_eq_some_iff.mp H
                                    obtain ⟨t640, A1260, H⟩ := H
                                    replace H : (some t640) = some true := H
                                    have A126 := Aside0.mk A1260
                                    clear A1260
                                    have hX_ := Option.some.inj H
                                    clear H
                                    go_wp2_with (first | (go_at_call 46; (with_reducible refine (spec_DrawImmunityOf.calls kj26 _ _ l0 t584 t585 _ ?side1 ?side2 A95.out).mono ?_); (case side1 => repeat (first | exact (Kd.C_below HR0.out HB.out) | (with_reducible refine Kd.C_alloc ?_ _) | (with_reducible refine Kd.C_drewN ?_ _) | (with_reducible refine Kd.C_drew ?_))); (case side2 => exact HC0.out); rintro e w127 ⟨rfl, hb⟩; have n1_ := aa (below_step iHB hb); clear HB; have HB := n1_; clear n1_; (try clear hb); (try clear hb2); (try clear hk); (try clear hi)) | ((with_reducible refine gate_dst (N := 29) rfl ?_); (try (refine gate_guard (by rfl) ?_; dsimp only)); refine box_event ?hg (N := 29) ?hd (cs := #[.int .i64 0, .int .i64 0]) (t := 27) ?hr ?_; (case hd => rfl); (case hg => rfl); (case hr => first | (go_simp; done) | (go_simp; rfl)); intro gb586 hg w128 hbox hb; have n1_ := aa (below_step iHB hb); have n2_ := aa (hbox); have n3_ := aa ((by rw [hg]; exact (below_size iHB) : w.heap.size ≤ gb586)); have n4_ := aa ((by rw [hg]; exact (below_size iHB) : w.heap.size ≤ gb586)); clear HB; have HB := n1_; have BK586 := n2_; have GW586 := n3_; have GE586 := n4_; clear n1_ n2_ n3_ n4_; clear hb hbox hg; have hcz130_0 : w128.cell? ⟨gb586, 0, none⟩ = some (.int .i64 0) := (blk_cell BK586.out 0).trans rfl; have hcz130_1 : w128.cell? ⟨gb586, 1, none⟩ = some (.int .i64 0) := (blk_cell BK586.out 1).trans rfl; have hfz130_0 := blk_frozen BK586.out 0; have hfz130_1 := blk_frozen BK586.out 1) | (go_at_call 26; (with_reducible refine (impl_ImmunityOf.calls kj26 t584 t585 t587 t588 _ A96.out).mono ?_); rintro e w131 ⟨rfl, hb⟩; have n1_ := aa (blk_below (g := gb586) (o := .cells #[.int .i64 t584, .int .i64 t585] 27 (0, 0)) (by (with_reducible repeat (first | refine blk_drewN ?_ _ | refine blk_drew ?_ | refine blk_alloc ?_ _)); refine blk_put (cs := #[.int .i64 t584, .int .i64 0]) ?_ 1 _ rfl; (with_reducible repeat (first | refine blk_drewN ?_ _ | refine blk_drew ?_ | refine blk_alloc ?_ _)); refine blk_put (cs := #[.int .i64 0, .int .i64 0]) ?_ 0 _ rfl; exact iBK BK586.out) hb); have n2_ := aa (below_step iHB hb); clear BK586; clear HB; have BK586 := n1_; have HB := n2_; clear n1_ n2_; (try clear hb); (try clear hb2); (try clear hk); (try clear hi); have hcz132_0 : w131.cell? ⟨gb586, 0, none⟩ = some (.int .i64 t584) := (blk_cell BK586.out 0).trans rfl; have hcz132_1 : w131.cell? ⟨gb586, 1, none⟩ = some (.int .i64 t585) := (blk_cell BK586.out 1).trans rfl; have hfz132_0 := blk_frozen BK586.out 0; have hfz132_1 := blk_frozen BK586.out 1) | (go_at_call 25; (with_reducible refine (spec_ImmunityOf.calls kj26 t584 t585 t589 t590 _ A97.out).mono ?_); rintro e w133 ⟨rfl, hb⟩; have n1_ := aa (blk_below (g := gb586) (o := .cells #[.int .i64 t584, .int .i64 t585] 27 (0, 0)) (iBK BK586.out) hb); have n2_ := aa (below_step iHB hb); clear BK586; clear HB; have BK586 := n1_; have HB := n2_; clear n1_ n2_; (try clear hb); (try clear hb2); (try clear hk); (try clear hi)) | (go_at_call 47; (with_reducible refine (spec_DrawCorrelationsOf.calls kj26 _ _ l0 t591 t592 _ ?side1 ?side2 A98.out).mono ?_); (case side1 => repeat (first | exact (Kd.C_below HR0.out HB.out) | (with_reducible refine Kd.C_alloc ?_ _) | (with_reducible refine Kd.C_drewN ?_ _) | (with_reducible refine Kd.C_drew ?_))); (case side2 => exact HC0.out); rintro e w134 ⟨rfl, hb⟩; have n1_ := aa (blk_below (g := gb586) (o := .cells #[.int .i64 t584, .int .i64 t585] 27 (0, 0)) (iBK BK586.out) hb); have n2_ := aa (below_step iHB hb); clear BK586; clear HB; have BK586 := n1_; have HB := n2_; clear n1_ n2_; (try clear hb); (try clear hb2); (try clear hk); (try clear hi)) | ((with_reducible refine gate_dst (N := 34) rfl ?_); (try (refine gate_guard (by rfl) ?_; dsimp only)); refine box_event ?hg (N := 34) ?hd (cs := #[.int .i64 0, .int .i64 0]) (t := 27) ?hr ?_; (case hd => rfl); (case hg => rfl); (case hr => first | (go_simp; done) | (go_simp; rfl)); intro gb593 hg w135 hbox hb; have n1_ := aa (blk_below (g := gb586) (o := .cells #[.int .i64 t584, .int .i64 t585] 27 (0, 0)) (iBK BK586.out) hb); have n2_ := aa (below_step iHB hb); have n3_ := aa (hbox); have n4_ := aa ((by rw [hg]; exact (below_size iHB) : w.heap.size ≤ gb593)); have n5_ := aa ((by rw [hg]; exact (below_size iHB) : w.heap.size ≤ gb593)); have n8_ := aa ((by rw [hg]; exact Nat.ne_of_lt (blk_lt (g := gb586) (o := .cells #[.int .i64 t584, .int .i64 t585] 27 (0, 0)) (iBK BK586.out)) : gb586 ≠ gb593)); have n9_ := aa ((by rw [hg]; exact Nat.ne_of_gt (blk_lt (g := gb586) (o := .cells #[.int .i64 t584, .int .i64 t585] 27 (0, 0)) (iBK BK586.out)) : gb593 ≠ gb586)); clear BK586; clear HB; have BK586 := n1_; have HB := n2_; have BK593 := n3_; have GW593 := n4_; have GE593 := n5_; have NB586_593 := n8_; have NB593_586 := n9_; clear n1_ n2_ n3_ n4_ n5_ n8_ n9_; clear hb hbox hg; have hnb137 := NB593_586.out; have hnc137 := NB586_593.out; have hcz138_0 : w135.cell? ⟨gb593, 0, none⟩ = some (.int .i64 0) := (blk_cell BK593.out 0).trans rfl; have hcz138_1 : w135.cell? ⟨gb593, 1, none⟩ = some (.int .i64 0) := (blk_cell BK593.out 1).trans rfl; have hfz138_0 := blk_frozen BK593.out 0; have hfz138_1 := blk_frozen BK593.out 1) | (go_at_call 17; (with_reducible refine (impl_CorrelationsOf.calls t591 t592 t594 t597 _ A99.out).mono ?_); rintro e w139 ⟨v595, rfl, ho0, hb⟩; have n0_ := aa (Kd.R_lower ho0 (below_size iHB)); have n2_ := aa (blk_below (g := gb586) (o := .cells #[.int .i64 t584, .int .i64 t585] 27 (0, 0)) (by (with_reducible repeat (first | refine blk_drewN ?_ _ | refine blk_drew ?_ | refine blk_alloc ?_ _)); refine blk_far ?_ NB586_593.out _; (with_reducible repeat (first | refine blk_drewN ?_ _ | refine blk_drew ?_ | refine blk_alloc ?_ _)); refine blk_far ?_ NB586_593.out _; exact iBK BK586.out) hb); have n3_ := aa (blk_below (g := gb593) (o := .cells #[.int .i64 t591, .int .i64 t592] 27 (0, 0)) (by (with_reducible repeat (first | refine blk_drewN ?_ _ | refine blk_drew ?_ | refine blk_alloc ?_ _)); refine blk_put (cs := #[.int .i64 t591, .int .i64 0]) ?_ 1 _ rfl; (with_reducible repeat (first | refine blk_drewN ?_ _ | refine blk_drew ?_ | refine blk_alloc ?_ _)); refine blk_put (cs := #[.int .i64 0, .int .i64 0]) ?_ 0 _ rfl; exact iBK BK593.out) hb); have n4_ := aa (below_step iHB hb); clear BK586; clear BK593; clear HB; have HO596 := n0_; have BK586 := n2_; have BK593 := n3_; have HB := n4_; clear n0_ n2_ n3_ n4_; (try clear hb); (try clear hb2); (try clear hk); (try clear hi); (try clear ho0); have hcz140_0 : w139.cell? ⟨gb593, 0, none⟩ = some (.int .i64 t591) := (blk_cell BK593.out 0).trans rfl; have hcz140_1 : w139.cell? ⟨gb593, 1, none⟩ = some (.int .i64 t592) := (blk_cell BK593.out 1).trans rfl; have hfz140_0 := blk_frozen BK593.out 0; have hfz140_1 := blk_frozen BK593.out 1) | (go_at_call 15; (with_reducible refine (spec_CorrelationsOf.calls kj26 t591 t592 t598 t601 _ A100.out).mono ?_); rintro e w141 ⟨v599, rfl, ho0, hb⟩; have n0_ := aa (Kd.R_elder' (by (with_reducible repeat (first | apply Kd.R_alloc | apply Kd.R_drewN | apply Kd.R_drew)); exact HO596.out) (Kd.R_base ho0) hb); have n1_ := aa (Kd.R_lower (Kd.R_new' ho0 (Kd.R_lt (by (with_reducible repeat (first | apply Kd.R_alloc | apply Kd.R_drewN | apply Kd.R_drew)); exact HO596.out))) (below_size iHB)); have n3_ := aa (blk_below (g := gb586) (o := .cells #[.int .i64 t584, .int .i64 t585] 27 (0, 0)) (iBK BK586.out) hb); have n4_ := aa (blk_below (g := gb593) (o := .cells #[.int .i64 t591, .int .i64 t592] 27 (0, 0)) (iBK BK593.out) hb); have n5_ := aa (below_step iHB hb); clear HO596; clear BK586; clear BK593; clear HB; have HO596 := n0_; have HO600 := n1_; have BK586 := n3_; have BK593 := n4_; have HB := n5_; clear n0_ n1_ n3_ n4_ n5_; (try clear hb); (try clear hb2); (try clear hk); (try clear hi); (try clear ho0)) | (go_at_call 48; (with_reducible refine (spec_DrawInfluencesOf.calls kj26 _ _ l0 t602 t603 _ ?side1 ?side2 A101.out).mono ?_); (case side1 => repeat (first | exact (Kd.C_below HR0.out HB.out) | (with_reducible refine Kd.C_alloc ?_ _) | (with_reducible refine Kd.C_drewN ?_ _) | (with_reducible refine Kd.C_drew ?_))); (case side2 => exact HC0.out); rintro e w142 ⟨rfl, hb⟩; have n0_ := aa (Kd.R_below (by (with_reducible repeat (first | apply Kd.R_alloc | apply Kd.R_drewN | apply Kd.R_drew)); exact HO596.out) hb); have n1_ := aa (Kd.R_below (by (with_reducible repeat (first | apply Kd.R_alloc | apply Kd.R_drewN | apply Kd.R_drew)); exact HO600.out) hb); have n3_ := aa (blk_below (g := gb586) (o := .cells #[.int .i64 t584, .int .i64 t585] 27 (0, 0)) (iBK BK586.out) hb); have n4_ := aa (blk_below (g := gb593) (o := .cells #[.int .i64 t591, .int .i64 t592] 27 (0, 0)) (iBK BK593.out) hb); have n5_ := aa (below_step iHB hb); clear HO596; clear HO600; clear BK586; clear BK593; clear HB; have HO596 := n0_; have HO600 := n1_; have BK586 := n3_; have BK593 := n4_; have HB := n5_; clear n0_ n1_ n3_ n4_ n5_; (try clear hb); (try clear hb2); (try clear hk); (try clear hi)) | ((with_reducible refine gate_dst (N := 39) rfl ?_); (try (refine gate_guard (by rfl) ?_; dsimp only)); refine box_event ?hg (N := 39) ?hd (cs := #[.int .i64 0, .int .i64 0]) (t := 27) ?hr ?_; (case hd => rfl); (case hg => rfl); (case hr => first | (go_simp; done) | (go_simp; rfl)); intro gb604 hg w143 hbox hb; have n0_ := aa (Kd.R_below (by (with_reducible repeat (first | apply Kd.R_alloc | apply Kd.R_drewN | apply Kd.R_drew)); exact HO596.out) hb); have n1_ := aa (Kd.R_below (by (with_reducible repeat (first | apply Kd.R_alloc | apply Kd.R_drewN | apply Kd.R_drew)); exact HO600.out) hb); have n3_ := aa (blk_below (g := gb586) (o := .cells #[.int .i64 t584, .int .i64 t585] 27 (0, 0)) (iBK BK586.out) hb); have n4_ := aa (blk_below (g := gb593) (o := .cells #[.int .i64 t591, .int .i64 t592] 27 (0, 0)) (iBK BK593.out) hb); have n5_ := aa (below_step iHB hb); have n6_ := aa (hbox); have n7_ := aa ((by rw [hg]; exact (below_size iHB) : w.heap.size ≤ gb604)); have n8_ := aa ((by rw [hg]; exact (below_size iHB) : w.heap.size ≤ gb604)); have n11_ := aa ((by rw [hg]; exact Nat.ne_of_lt (blk_lt (g := gb586) (o := .cells #[.int .i64 t584, .int .i64 t585] 27 (0, 0)) (iBK BK586.out)) : gb586 ≠ gb604)); have n12_ := aa ((by rw [hg]; exact Nat.ne_of_gt (blk_lt (g := gb586) (o := .cells #[.int .i64 t584, .int .i64 t585] 27 (0, 0)) (iBK BK586.out)) : gb604 ≠ gb586)); have n13_ := aa ((by rw [hg]; exact Nat.ne_of_lt (blk_lt (g := gb593) (o := .cells #[.int .i64 t591, .int .i64 t592] 27 (0, 0)) (iBK BK593.out)) : gb593 ≠ gb604)); have n14_ := aa ((by rw [hg]; exact Nat.ne_of_gt (blk_lt (g := gb593) (o := .cells #[.int .i64 t591, .int .i64 t592] 27 (0, 0)) (iBK BK593.out)) : gb604 ≠ gb593)); clear HO596; clear HO600; clear BK586; clear BK593; clear HB; have HO596 := n0_; have HO600 := n1_; have BK586 := n3_; have BK593 := n4_; have HB := n5_; have BK604 := n6_; have GW604 := n7_; have GE604 := n8_; have NB586_604 := n11_; have NB604_586 := n12_; have NB593_604 := n13_; have NB604_593 := n14_; clear n0_ n1_ n3_ n4_ n5_ n6_ n7_ n8_ n11_ n12_ n13_ n14_; clear hb hbox hg; have hnb145 := NB604_586.out; have hnc145 := NB586_604.out; have hnb146 := NB604_593.out; have hnc146 := NB593_604.out; have hcz147_0 : w143.cell? ⟨gb604, 0, none⟩ = some (.int .i64 0) := (blk_cell BK604.out 0).trans rfl; have hcz147_1 : w143.cell? ⟨gb604, 1, none⟩ = some (.int .i64 0) := (blk_cell BK604.out 1).trans rfl; have hfz147_0 := blk_frozen BK604.out 0; have hfz147_1 := blk_frozen BK604.out 1) | (go_at_call 22; (with_reducible refine (impl_InfluencesOf.calls kj26 t602 t603 t605 t608 _ A102.out).mono ?_); rintro e w148 ⟨v606, rfl, ho0, hb⟩; have n0_ := aa (Kd.R_elder' (by (with_reducible repeat (first | apply Kd.R_alloc | apply Kd.R_drewN | apply Kd.R_drew)); exact (Kd.R_mono (Kd.R_far (p := ⟨gb604, 1, none⟩) (Kd.R_far (p := ⟨gb604, 0, none⟩) (Kd.R_types HO596.out BK604.out (by decide)) (fun _ hk => hk.2) (.int .i64 t602)) (fun _ hk => hk.2) (.int .i64 t603)) (fun _ h_ => h_.1))) (Kd.R_base ho0) hb); have n1_ := aa (Kd.R_elder' (by (with_reducible repeat (first | apply Kd.R_alloc | apply Kd.R_drewN | apply Kd.R_drew)); exact (Kd.R_mono (Kd.R_far (p := ⟨gb604, 1, none⟩) (Kd.R_far (p := ⟨gb604, 0, none⟩) (Kd.R_types HO600.out BK604.out (by decide)) (fun _ hk => hk.2) (.int .i64 t602)) (fun _ hk => hk.2) (.int .i64 t603)) (fun _ h_ => h_.1))) (Kd.R_base ho0) hb); have n2_ := aa (Kd.R_lower (Kd.R_new' (Kd.R_new' ho0 (Kd.R_lt (by (with_reducible repeat (first | apply Kd.R_alloc | apply Kd.R_drewN | apply Kd.R_drew)); exact (Kd.R_mono (Kd.R_far (p := ⟨gb604, 1, none⟩) (Kd.R_far (p := ⟨gb604, 0, none⟩) (Kd.R_types HO596.out BK604.out (by decide)) (fun _ hk => hk.2) (.int .i64 t602)) (fun _ hk => hk.2) (.int .i64 t603)) (fun _ h_ => h_.1))))) (Kd.R_lt (by (with_reducible repeat (first | apply Kd.R_alloc | apply Kd.R_drewN | apply Kd.R_drew)); exact (Kd.R_mono (Kd.R_far (p := ⟨gb604, 1, none⟩) (Kd.R_far (p := ⟨gb604, 0, none⟩) (Kd.R_types HO600.out BK604.out (by decide)) (fun _ hk => hk.2) (.int .i64 t602)) (fun _ hk => hk.2) (.int .i64 t603)) (fun _ h_ => h_.1))))) (below_size iHB)); have n4_ := aa (blk_below (g := gb586) (o := .cells #[.int .i64 t584, .int .i64 t585] 27 (0, 0)) (by (with_reducible repeat (first | refine blk_drewN ?_ _ | refine blk_drew ?_ | refine blk_alloc ?_ _)); refine blk_far ?_ NB586_604.out _; (with_reducible repeat (first | refine blk_drewN ?_ _ | refine blk_drew ?_ | refine blk_alloc ?_ _)); refine blk_far ?_ NB586_604.out _; exact iBK BK586.out) hb); have n5_ := aa (blk_below (g := gb593) (o := .cells #[.int .i64 t591, .int .i64 t592] 27 (0, 0)) (by (with_reducible repeat (first | refine blk_drewN ?_ _ | refine blk_drew ?_ | refine blk_alloc ?_ _)); refine blk_far ?_ NB593_604.out _; (with_reducible repeat (first | refine blk_drewN ?_ _ | refine blk_drew ?_ | refine blk_alloc ?_ _)); refine blk_far ?_ NB593_604.out _; exact iBK BK593.out) hb); have n6_ := aa (blk_below (g := gb604) (o := .cells #[.int .i64 t602, .int .i64 t603] 27 (0, 0)) (by (with_reducible repeat (first | refine blk_drewN ?_ _ | refine blk_drew ?_ | refine blk_alloc ?_ _)); refine blk_put (cs := #[.int .i64 t602, .int .i64 0]) ?_ 1 _ rfl; (with_reducible repeat (first | refine blk_drewN ?_ _ | refine blk_drew ?_ | refine blk_alloc ?_ _)); refine blk_put (cs := #[.int .i64 0, .int .i64 0]) ?_ 0 _ rfl; exact iBK BK604.out) hb); have n7_ := aa (below_step iHB hb); clear HO596; clear HO600; clear BK586; clear BK593; clear BK604; clear HB; have HO596 := n0_; have HO600 := n1_; have HO607 := n2_; have BK586 := n4_; have BK593 := n5_; have BK604 := n6_; have HB := n7_; clear n0_ n1_ n2_ n4_ n5_ n6_ n7_; (try clear hb); (try clear hb2); (try clear hk); (try clear hi); (try clear ho0); have hcz149_0 : w148.cell? ⟨gb604, 0, none⟩ = some (.int .i64 t602) := (blk_cell BK604.out 0).trans rfl; have hcz149_1 : w148.cell? ⟨gb604, 1, none⟩ = some (.int .i64 t603) := (blk_cell BK604.out 1).trans rfl; have hfz149_0 := blk_frozen BK604.out 0; have hfz149_1 := blk_frozen BK604.out 1) | (go_at_call 21; (with_reducible refine (spec_InfluencesOf.calls kj26 t602 t603 t609 t612 _ A103.out).mono ?_); rintro e w150 ⟨v610, rfl, ho0, hb⟩; have n0_ := aa (Kd.R_elder' (by (with_reducible repeat (first | apply Kd.R_alloc | apply Kd.R_drewN | apply Kd.R_drew)); exact HO596.out) (Kd.R_base ho0) hb); have n1_ := aa (Kd.R_elder' (by (with_reducible repeat (first | apply Kd.R_alloc | apply Kd.R_drewN | apply Kd.R_drew)); exact HO600.out) (Kd.R_base ho0) hb); have n2_ := aa (Kd.R_elder' (by (with_reducible repeat (first | apply Kd.R_alloc | apply Kd.R_drewN | apply Kd.R_drew)); exact HO607.out) (Kd.R_base ho0) hb); have n3_ := aa (Kd.R_lower (Kd.R_new' (Kd.R_new' (Kd.R_new' ho0 (Kd.R_lt (by (with_reducible repeat (first | apply Kd.R_alloc | apply Kd.R_drewN | apply Kd.R_drew)); exact HO596.out))) (Kd.R_lt (by (with_reducible repeat (first | apply Kd.R_alloc | apply Kd.R_drewN | apply Kd.R_drew)); exact HO600.out))) (Kd.R_lt (by (with_reducible repeat (first | apply Kd.R_alloc | apply Kd.R_drewN | apply Kd.R_drew)); exact HO607.out))) (below_size iHB)); have n5_ := aa (blk_below (g := gb586) (o := .cells #[.int .i64 t584, .int .i64 t585] 27 (0, 0)) (iBK BK586.out) hb); have n6_ := aa (blk_below (g := gb593) (o := .cells #[.int .i64 t591, .int .i64 t592] 27 (0, 0)) (iBK BK593.out) hb); have n7_ := aa (blk_below (g := gb604) (o := .cells #[.int .i64 t602, .int .i64 t603] 27 (0, 0)) (iBK BK604.out) hb); have n8_ := aa (below_step iHB hb); clear HO596; clear HO600; clear HO607; clear BK586; clear BK593; clear BK604; clear HB; have HO596 := n0_; have HO600 := n1_; have HO607 := n2_; have HO611 := n3_; have BK586 := n5_; have BK593 := n6_; have BK604 := n7_; have HB := n8_; clear n0_ n1_ n2_ n3_ n5_ n6_ n7_ n8_; (try clear hb); (try clear hb2); (try clear hk); (try clear hi); (try clear ho0)) | (go_at_call 49; (with_reducible refine (spec_DrawIsBalanced.calls kj26 _ _ l0 t613 t614 _ ?side1 ?side2 A104.out).mono ?_); (case side1 => repeat (first | exact (Kd.C_below HR0.out HB.out) | (with_reducible refine Kd.C_alloc ?_ _) | (with_reducible refine Kd.C_drewN ?_ _) | (with_reducible refine Kd.C_drew ?_))); (case side2 => exact HC0.out); rintro e w151 ⟨rfl, hb⟩; have n0_ := aa (Kd.R_below (by (with_reducible repeat (first | apply Kd.R_alloc | apply Kd.R_drewN | apply Kd.R_drew)); exact HO596.out) hb); have n1_ := aa (Kd.R_below (by (with_reducible repeat (first | apply Kd.R_alloc | apply Kd.R_drewN | apply Kd.R_drew)); exact HO600.out) hb); have n2_ := aa (Kd.R_below (by (with_reducible repeat (first | apply Kd.R_alloc | apply Kd.R_drewN | apply Kd.R_drew)); exact HO607.out) hb); have n3_ := aa (Kd.R_below (by (with_reducible repeat (first | apply Kd.R_alloc | apply Kd.R_drewN | apply Kd.R_drew)); exact HO611.out) hb); have n5_ := aa (blk_below (g := gb586) (o := .cells #[.int .i64 t584, .int .i64 t585] 27 (0, 0)) (iBK BK586.out) hb); have n6_ := aa (blk_below (g := gb593) (o := .cells #[.int .i64 t591, .int .i64 t592] 27 (0, 0)) (iBK BK593.out) hb); have n7_ := aa (blk_below (g := gb604) (o := .cells #[.int .i64 t602, .int .i64 t603] 27 (0, 0)) (iBK BK604.out) hb); have n8_ := aa (below_step iHB hb); clear HO596; clear HO600; clear HO607; clear HO611; clear BK586; clear BK593; clear BK604; clear HB; have HO596 := n0_; have HO600 := n1_; have HO607 := n2_; have HO611 := n3_; have BK586 := n5_; have BK593 := n6_; have BK604 := n7_; have HB := n8_; clear n0_ n1_ n2_ n3_ n5_ n6_ n7_ n8_; (try clear hb); (try clear hb2); (try clear hk); (try clear hi)) | ((with_reducible refine gate_dst (N := 44) rfl ?_); (try (refine gate_guard (by rfl) ?_; dsimp only)); refine box_event ?hg (N := 44) ?hd (cs := #[.int .i64 0, .int .i64 0]) (t := 27) ?hr ?_; (case hd => rfl); (case hg => rfl); (case hr => first | (go_simp; done) | (go_simp; rfl)); intro gb615 hg w152 hbox hb; have n0_ := aa (Kd.R_below (by (with_reducible repeat (first | apply Kd.R_alloc | apply Kd.R_drewN | apply Kd.R_drew)); exact HO596.out) hb); have n1_ := aa (Kd.R_below (by (with_reducible repeat (first | apply Kd.R_alloc | apply Kd.R_drewN | apply Kd.R_drew)); exact HO600.out) hb); have n2_ := aa (Kd.R_below (by (with_reducible repeat (first | apply Kd.R_alloc | apply Kd.R_drewN | apply Kd.R_drew)); exact HO607.out) hb); have n3_ := aa (Kd.R_below (by (with_reducible repeat (first | apply Kd.R_alloc | apply Kd.R_drewN | apply Kd.R_drew)); exact HO611.out) hb); have n5_ := aa (blk_below (g := gb586) (o := .cells #[.int .i64 t584, .int .i64 t585] 27 (0, 0)) (iBK BK586.out) hb); have n6_ := aa (blk_below (g := gb593) (o := .cells #[.int .i64 t591, .int .i64 t592] 27 (0, 0)) (iBK BK593.out) hb); have n7_ := aa (blk_below (g := gb604) (o := .cells #[.int .i64 t602, .int .i64 t603] 27 (0, 0)) (iBK BK604.out) hb); have n8_ := aa (below_step iHB hb); have n9_ := aa (hbox); have n10_ := aa ((by rw [hg]; exact (below_size iHB) : w.heap.size ≤ gb615)); have n11_ := aa ((by rw [hg]; exact (below_size iHB) : w.heap.size ≤ gb615)); have n14_ := aa ((by rw [hg]; exact Nat.ne_of_lt (blk_lt (g := gb586) (o := .cells #[.int .i64 t584, .int .i64 t585] 27 (0, 0)) (iBK BK586.out)) : gb586 ≠ gb615)); have n15_ := aa ((by rw [hg]; exact Nat.ne_of_gt (blk_lt (g := gb586) (o := .cells #[.int .i64 t584, .int .i64 t585] 27 (0, 0)) (iBK BK586.out)) : gb615 ≠ gb586)); have n16_ := aa ((by rw [hg]; exact Nat.ne_of_lt (blk_lt (g := gb593) (o := .cells #[.int .i64 t591, .int .i64 t592] 27 (0, 0)) (iBK BK593.out)) : gb593 ≠ gb615)); have n17_ := aa ((by rw [hg]; exact Nat.ne_of_gt (blk_lt (g := gb593) (o := .cells #[.int .i64 t591, .int .i64 t592] 27 (0, 0)) (iBK BK593.out)) : gb615 ≠ gb593)); have n18_ := aa ((by rw [hg]; exact Nat.ne_of_lt (blk_lt (g := gb604) (o := .cells #[.int .i64 t602, .int .i64 t603] 27 (0, 0)) (iBK BK604.out)) : gb604 ≠ gb615)); have n19_ := aa ((by rw [hg]; exact Nat.ne_of_gt (blk_lt (g := gb604) (o := .cells #[.int .i64 t602, .int .i64 t603] 27 (0, 0)) (iBK BK604.out)) : gb615 ≠ gb604)); clear HO596; clear HO600; clear HO607; clear HO611; clear BK586; clear BK593; clear BK604; clear HB; have HO596 := n0_; have HO600 := n1_; have HO607 := n2_; have HO611 := n3_; have BK586 := n5_; have BK593 := n6_; have BK604 := n7_; have HB := n8_; have BK615 := n9_; have GW615 := n10_; have GE615 := n11_; have NB586_615 := n14_; have NB615_586 := n15_; have NB593_615 := n16_; have NB615_593 := n17_; have NB604_615 := n18_; have NB615_604 := n19_; clear n0_ n1_ n2_ n3_ n5_ n6_ n7_ n8_ n9_ n10_ n11_ n14_ n15_ n16_ n17_ n18_ n19_; clear hb hbox hg; have hnb154 := NB615_586.out; have hnc154 := NB586_615.out; have hnb155 := NB615_593.out; have hnc155 := NB593_615.out; have hnb156 := NB615_604.out; have hnc156 := NB604_615.out; have hcz157_0 : w152.cell? ⟨gb615, 0, none⟩ = some (.int .i64 0) := (blk_cell BK615.out 0).trans rfl; have hcz157_1 : w152.cell? ⟨gb615, 1, none⟩ = some (.int .i64 0) := (blk_cell BK615.out 1).trans rfl; have hfz157_0 := blk_frozen BK615.out 0; have hfz157_1 := blk_frozen BK615.out 1) | (go_at_call 45; (with_reducible refine (impl_IsBalanced.calls t613 t614 t616 t617 _ A105.out).mono ?_); rintro e w158 ⟨rfl, hb⟩; have n0_ := aa (Kd.R_below (by (with_reducible repeat (first | apply Kd.R_alloc | apply Kd.R_drewN | apply Kd.R_drew)); exact (Kd.R_mono (Kd.R_far (p := ⟨gb615, 1, none⟩) (Kd.R_far (p := ⟨gb615, 0, none⟩) (Kd.R_types HO596.out BK615.out (by decide)) (fun _ hk => hk.2) (.int .i64 t613)) (fun _ hk => hk.2) (.int .i64 t614)) (fun _ h_ => h_.1))) hb); have n1_ := aa (Kd.R_below (by (with_reducible repeat (first | apply Kd.R_alloc | apply Kd.R_drewN | apply Kd.R_drew)); exact (Kd.R_mono (Kd.R_far (p := ⟨gb615, 1, none⟩) (Kd.R_far (p := ⟨gb615, 0, none⟩) (Kd.R_types HO600.out BK615.out (by decide)) (fun _ hk => hk.2) (.int .i64 t613)) (fun _ hk => hk.2) (.int .i64 t614)) (fun _ h_ => h_.1))) hb); have n2_ := aa (Kd.R_below (by (with_reducible repeat (first | apply Kd.R_alloc | apply Kd.R_drewN | apply Kd.R_drew)); exact (Kd.R_mono (Kd.R_far (p := ⟨gb615, 1, none⟩) (Kd.R_far (p := ⟨gb615, 0, none⟩) (Kd.R_types HO607.out BK615.out (by decide)) (fun _ hk => hk.2) (.int .i64 t613)) (fun _ hk => hk.2) (.int .i64 t614)) (fun _ h_ => h_.1))) hb); have n3_ := aa (Kd.R_below (by (with_reducible repeat (first | apply Kd.R_alloc | apply Kd.R_drewN | apply Kd.R_drew)); exact (Kd.R_mono (Kd.R_far (p := ⟨gb615, 1, none⟩) (Kd.R_far (p := ⟨gb615, 0, none⟩) (Kd.R_types HO611.out BK615.out (by decide)) (fun _ hk => hk.2) (.int .i64 t613)) (fun _ hk => hk.2) (.int .i64 t614)) (fun _ h_ => h_.1))) hb); have n5_ := aa (blk_below (g := gb586) (o := .cells #[.int .i64 t584, .int .i64 t585] 27 (0, 0)) (by (with_reducible repeat (first | refine blk_drewN ?_ _ | refine blk_drew ?_ | refine blk_alloc ?_ _)); refine blk_far ?_ NB586_615.out _; (with_reducible repeat (first | refine blk_drewN ?_ _ | refine blk_drew ?_ | refine blk_alloc ?_ _)); refine blk_far ?_ NB586_615.out _; exact iBK BK586.out) hb); have n6_ := aa (blk_below (g := gb593) (o := .cells #[.int .i64 t591, .int .i64 t592] 27 (0, 0)) (by (with_reducible repeat (first | refine blk_drewN ?_ _ | refine blk_drew ?_ | refine blk_alloc ?_ _)); refine blk_far ?_ NB593_615.out _; (with_reducible repeat (first | refine blk_drewN ?_ _ | refine blk_drew ?_ | refine blk_alloc ?_ _)); refine blk_far ?_ NB593_615.out _; exact iBK BK593.out) hb); have n7_ := aa (blk_below (g := gb604) (o := .cells #[.int .i64 t602, .int .i64 t603] 27 (0, 0)) (by (with_reducible repeat (first | refine blk_drewN ?_ _ | refine blk_drew ?_ | refine blk_alloc ?_ _)); refine blk_far ?_ NB604_615.out _; (with_reducible repeat (first | refine blk_drewN ?_ _ | refine blk_drew ?_ | refine blk_alloc ?_ _)); refine blk_far ?_ NB604_615.out _; exact iBK BK604.out) hb); have n8_ := aa (blk_below (g := gb615) (o := .cells #[.int .i64 t613, .int .i64 t614] 27 (0, 0)) (by (with_reducible repeat (first | refine blk_drewN ?_ _ | refine blk_drew ?_ | refine blk_alloc ?_ _)); refine blk_put (cs := #[.int .i64 t613, .int .i64 0]) ?_ 1 _ rfl; (with_reducible repeat (first | refine blk_drewN ?_ _ | refine blk_drew ?_ | refine blk_alloc ?_ _)); refine blk_put (cs := #[.int .i64 0, .int .i64 0]) ?_ 0 _ rfl; exact iBK BK615.out) hb); have n9_ := aa (below_step iHB hb); clear HO596; clear HO600; clear HO607; clear HO611; clear BK586; clear BK593; clear BK604; clear BK615; clear HB; have HO596 := n0_; have HO600 := n1_; have HO607 := n2_; have HO611 := n3_; have BK586 := n5_; have BK593 := n6_; have BK604 := n7_; have BK615 := n8_; have HB := n9_; clear n0_ n1_ n2_ n3_ n5_ n6_ n7_ n8_ n9_; (try clear hb); (try clear hb2); (try clear hk); (try clear hi); have hcz159_0 : w158.cell? ⟨gb615, 0, none⟩ = some (.int .i64 t613) := (blk_cell BK615.out 0).trans rfl; have hcz159_1 : w158.cell? ⟨gb615, 1, none⟩ = some (.int .i64 t614) := (blk_cell BK615.out 1).trans rfl; have hfz159_0 := blk_frozen BK615.out 0; have hfz159_1 := blk_frozen BK615.out 1) | (go_at_call 50; (with_reducible refine (spec_IsBalanced.calls kj26 t613 t614 t618 t619 _ A106.out).mono ?_); rintro e w160 ⟨rfl, hb⟩; have n0_ := aa (Kd.R_below (by (with_reducible repeat (first | apply Kd.R_alloc | apply Kd.R_drewN | apply Kd.R_drew)); exact HO596.out) hb); have n1_ := aa (Kd.R_below (by (with_reducible repeat (first | apply Kd.R_alloc | apply Kd.R_drewN | apply Kd.R_drew)); exact HO600.out) hb); have n2_ := aa (Kd.R_below (by (with_reducible repeat (first | apply Kd.R_alloc | apply Kd.R_drewN | apply Kd.R_drew)); exact HO607.out) hb); have n3_ := aa (Kd.R_below (by (with_reducible repeat (first | apply Kd.R_alloc | apply Kd.R_drewN | apply Kd.R_drew)); exact HO611.out) hb); have n5_ := aa (blk_below (g := gb586) (o := .cells #[.int .i64 t584, .int .i64 t585] 27 (0, 0)) (iBK BK586.out) hb); have n6_ := aa (blk_below (g := gb593) (o := .cells #[.int .i64 t591, .int .i64 t592] 27 (0, 0)) (iBK BK593.out) hb); have n7_ := aa (blk_below (g := gb604) (o := .cells #[.int .i64 t602, .int .i64 t603] 27 (0, 0)) (iBK BK604.out) hb); have n8_ := aa (blk_below (g := gb615) (o := .cells #[.int .i64 t613, .int .i64 t614] 27 (0, 0)) (iBK BK615.out) hb); have n9_ := aa (below_step iHB hb); clear HO596; clear HO600; clear HO607; clear HO611; clear BK586; clear BK593; clear BK604; clear BK615; clear HB; have HO596 := n0_; have HO600 := n1_; have HO607 := n2_; have HO611 := n3_; have BK586 := n5_; have BK593 := n6_; have BK604 := n7_; have BK615 := n8_; have HB := n9_; clear n0_ n1_ n2_ n3_ n5_ n6_ n7_ n8_ n9_; (try clear hb); (try clear hb2); (try clear hk); (try clear hi)) | (go_at_call 51; (with_reducible refine (spec_DrawAffineDistance.calls kj26 _ _ l0 t620 t621 _ ?side1 ?side2 A107.out).mono ?_); (case side1 => repeat (first | exact (Kd.C_below HR0.out HB.out) | (with_reducible refine Kd.C_alloc ?_ _) | (with_reducible refine Kd.C_drewN ?_ _) | (with_reducible refine Kd.C_drew ?_))); (case side2 => exact HC0.out); rintro e w161 ⟨rfl, hb⟩; have n0_ := aa (Kd.R_below (by (with_reducible repeat (first | apply Kd.R_alloc | apply Kd.R_drewN | apply Kd.R_drew)); exact HO596.out) hb); have n1_ := aa (Kd.R_below (by (with_reducible repeat (first | apply Kd.R_alloc | apply Kd.R_drewN | apply Kd.R_drew)); exact HO600.out) hb); have n2_ := aa (Kd.R_below (by (with_reducible repeat (first | apply Kd.R_alloc | apply Kd.R_drewN | apply Kd.R_drew)); exact HO607.out) hb); have n3_ := aa (Kd.R_below (by (with_reducible repeat (first | apply Kd.R_alloc | apply Kd.R_drewN | apply Kd.R_drew)); exact HO611.out) hb); have n5_ := aa (blk_below (g := gb586) (o := .cells #[.int .i64 t584, .int .i64 t585] 27 (0, 0)) (iBK BK586.out) hb); have n6_ := aa (blk_below (g := gb593) (o := .cells #[.int .i64 t591, .int .i64 t592] 27 (0, 0)) (iBK BK593.out) hb); have n7_ := aa (blk_below (g := gb604) (o := .cells #[.int .i64 t602, .int .i64 t603] 27 (0, 0)) (iBK BK604.out) hb); have n8_ := aa (blk_below (g := gb615) (o := .cells #[.int .i64 t613, .int .i64 t614] 27 (0, 0)) (iBK BK615.out) hb); have n9_ := aa (below_step iHB hb); clear HO596; clear HO600; clear HO607; clear HO611; clear BK586; clear BK593; clear BK604; clear BK615; clear HB; have HO596 := n0_; have HO600 := n1_; have HO607 := n2_; have HO611 := n3_; have BK586 := n5_; have BK593 := n6_; have BK604 := n7_; have BK615 := n8_; have HB := n9_; clear n0_ n1_ n2_ n3_ n5_ n6_ n7_ n8_ n9_; (try clear hb); (try clear hb2); (try clear hk); (try clear hi)) | ((with_reducible refine gate_dst (N := 49) rfl ?_); (try (refine gate_guard (by rfl) ?_; dsimp only)); refine box_event ?hg (N := 49) ?hd (cs := #[.int .i64 0, .int .i64 0]) (t := 27) ?hr ?_; (case hd => rfl); (case hg => rfl); (case hr => first | (go_simp; done) | (go_simp; rfl)); intro gb622 hg w162 hbox hb; have n0_ := aa (Kd.R_below (by (with_reducible repeat (first | apply Kd.R_alloc | apply Kd.R_drewN | apply Kd.R_drew)); exact HO596.out) hb); have n1_ := aa (Kd.R_below (by (with_reducible repeat (first | apply Kd.R_alloc | apply Kd.R_drewN | apply Kd.R_drew)); exact HO600.out) hb); have n2_ := aa (Kd.R_below (by (with_reducible repeat (first | apply Kd.R_alloc | apply Kd.R_drewN | apply Kd.R_drew)); exact HO607.out) hb); have n3_ := aa (Kd.R_below (by (with_reducible repeat (first | apply Kd.R_alloc | apply Kd.R_drewN | apply Kd.R_drew)); exact HO611.out) hb); have n5_ := aa (blk_below (g := gb586) (o := .cells #[.int .i64 t584, .int .i64 t585] 27 (0, 0)) (iBK BK586.out) hb); have n6_ := aa (blk_below (g := gb593) (o := .cells #[.int .i64 t591, .int .i64 t592] 27 (0, 0)) (iBK BK593.out) hb); have n7_ := aa (blk_below (g := gb604) (o := .cells #[.int .i64 t602, .int .i64 t603] 27 (0, 0)) (iBK BK604.out) hb); have n8_ := aa (blk_below (g := gb615) (o := .cells #[.int .i64 t613, .int .i64 t614] 27 (0, 0)) (iBK BK615.out) hb); have n9_ := aa (below_step iHB hb); have n10_ := aa (hbox); have n11_ := aa ((by rw [hg]; exact (below_size iHB) : w.heap.size ≤ gb622)); have n12_ := aa ((by rw [hg]; exact (below_size iHB) : w.heap.size ≤ gb622)); have n15_ := aa ((by rw [hg]; exact Nat.ne_of_lt (blk_lt (g := gb586) (o := .cells #[.int .i64 t584, .int .i64 t585] 27 (0, 0)) (iBK BK586.out)) : gb586 ≠ gb622)); have n16_ := aa ((by rw [hg]; exact Nat.ne_of_gt (blk_lt (g := gb586) (o := .cells #[.int .i64 t584, .int .i64 t585] 27 (0, 0)) (iBK BK586.out)) : gb622 ≠ gb586)); have n17_ := aa ((by rw [hg]; exact Nat.ne_of_lt (blk_lt (g := gb593) (o := .cells #[.int .i64 t591, .int .i64 t592] 27 (0, 0)) (iBK BK593.out)) : gb593 ≠ gb622)); have n18_ := aa ((by rw [hg]; exact Nat.ne_of_gt (blk_lt (g := gb593) (o := .cells #[.int .i64 t591, .int .i64 t592] 27 (0, 0)) (iBK BK593.out)) : gb622 ≠ gb593)); have n19_ := aa ((by rw [hg]; exact Nat.ne_of_lt (blk_lt (g := gb604) (o := .cells #[.int .i64 t602, .int .i64 t603] 27 (0, 0)) (iBK BK604.out)) : gb604 ≠ gb622)); have n20_ := aa ((by rw [hg]; exact Nat.ne_of_gt (blk_lt (g := gb604) (o := .cells #[.int .i64 t602, .int .i64 t603] 27 (0, 0)) (iBK BK604.out)) : gb622 ≠ gb604)); have n21_ := aa ((by rw [hg]; exact Nat.ne_of_lt (blk_lt (g := gb615) (o := .cells #[.int .i64 t613, .int .i64 t614] 27 (0, 0)) (iBK BK615.out)) : gb615 ≠ gb622)); have n22_ := aa ((by rw [hg]; exact Nat.ne_of_gt (blk_lt (g := gb615) (o := .cells #[.int .i64 t613, .int .i64 t614] 27 (0, 0)) (iBK BK615.out)) : gb622 ≠ gb615)); clear HO596; clear HO600; clear HO607; clear HO611; clear BK586; clear BK593; clear BK604; clear BK615; clear HB; have HO596 := n0_; have HO600 := n1_; have HO607 := n2_; have HO611 := n3_; have BK586 := n5_; have BK593 := n6_; have BK604 := n7_; have BK615 := n8_; have HB := n9_; have BK622 := n10_; have GW622 := n11_; have GE622 := n12_; have NB586_622 := n15_; have NB622_586 := n16_; have NB593_622 := n17_; have NB622_593 := n18_; have NB604_622 := n19_; have NB622_604 := n20_; have NB615_622 := n21_; have NB622_615 := n22_; clear n0_ n1_ n2_ n3_ n5_ n6_ n7_ n8_ n9_ n10_ n11_ n12_ n15_ n16_ n17_ n18_ n19_ n20_ n21_ n22_; clear hb hbox hg; have hnb164 := NB622_586.out; have hnc164 := NB586_622.out; have hnb165 := NB622_593.out; have hnc165 := NB593_622.out; have hnb166 := NB622_604.out; have hnc166 := NB604_622.out; have hnb167 := NB622_615.out; have hnc167 := NB615_622.out; have hcz168_0 : w162.cell? ⟨gb622, 0, none⟩ = some (.int .i64 0) := (blk_cell BK622.out 0).trans rfl; have hcz168_1 : w162.cell? ⟨gb622, 1, none⟩ = some (.int .i64 0) := (blk_cell BK622.out 1).trans rfl; have hfz168_0 := blk_frozen BK622.out 0; have hfz168_1 := blk_frozen BK622.out 1) | (go_at_call 28; (with_reducible refine (impl_AffineDistance.calls kj26 t620 t621 t623 t624 _ A108.out).mono ?_); rintro e w169 ⟨rfl, hb⟩; have n0_ := aa (Kd.R_below (by (with_reducible repeat (first | apply Kd.R_alloc | apply Kd.R_drewN | apply Kd.R_drew)); exact (Kd.R_mono (Kd.R_far (p := ⟨gb622, 1, none⟩) (Kd.R_far (p := ⟨gb622, 0, none⟩) (Kd.R_types HO596.out BK622.out (by decide)) (fun _ hk => hk.2) (.int .i64 t620)) (fun _ hk => hk.2) (.int .i64 t621)) (fun _ h_ => h_.1))) hb); have n1_ := aa (Kd.R_below (by (with_reducible repeat (first | apply Kd.R_alloc | apply Kd.R_drewN | apply Kd.R_drew)); exact (Kd.R_mono (Kd.R_far (p := ⟨gb622, 1, none⟩) (Kd.R_far (p := ⟨gb622, 0, none⟩) (Kd.R_types HO600.out BK622.out (by decide)) (fun _ hk => hk.2) (.int .i64 t620)) (fun _ hk => hk.2) (.int .i64 t621)) (fun _ h_ => h_.1))) hb); have n2_ := aa (Kd.R_below (by (with_reducible repeat (first | apply Kd.R_alloc | apply Kd.R_drewN | apply Kd.R_drew)); exact (Kd.R_mono (Kd.R_far (p := ⟨gb622, 1, none⟩) (Kd.R_far (p := ⟨gb622, 0, none⟩) (Kd.R_types HO607.out BK622.out (by decide)) (fun _ hk => hk.2) (.int .i64 t620)) (fun _ hk => hk.2) (.int .i64 t621)) (fun _ h_ => h_.1))) hb); have n3_ := aa (Kd.R_below (by (with_reducible repeat (first | apply Kd.R_alloc | apply Kd.R_drewN | apply Kd.R_drew)); exact (Kd.R_mono (Kd.R_far (p := ⟨gb622, 1, none⟩) (Kd.R_far (p := ⟨gb622, 0, none⟩) (Kd.R_types HO611.out BK622.out (by decide)) (fun _ hk => hk.2) (.int .i64 t620)) (fun _ hk => hk.2) (.int .i64 t621)) (fun _ h_ => h_.1))) hb); have n5_ := aa (blk_below (g := gb586) (o := .cells #[.int .i64 t584, .int .i64 t585] 27 (0, 0)) (by (with_reducible repeat (first | refine blk_drewN ?_ _ | refine blk_drew ?_ | refine blk_alloc ?_ _)); refine blk_far ?_ NB586_622.out _; (with_reducible repeat (first | refine blk_drewN ?_ _ | refine blk_drew ?_ | refine blk_alloc ?_ _)); refine blk_far ?_ NB586_622.out _; exact iBK BK586.out) hb); have n6_ := aa (blk_below (g := gb593) (o := .cells #[.int .i64 t591, .int .i64 t592] 27 (0, 0)) (by (with_reducible repeat (first | refine blk_drewN ?_ _ | refine blk_drew ?_ | refine blk_alloc ?_ _)); refine blk_far ?_ NB593_622.out _; (with_reducible repeat (first | refine blk_drewN ?_ _ | refine blk_drew ?_ | refine blk_alloc ?_ _)); refine blk_far ?_ NB593_622.out _; exact iBK BK593.out) hb); have n7_ := aa (blk_below (g := gb604) (o := .cells #[.int .i64 t602, .int .i64 t603] 27 (0, 0)) (by (with_reducible repeat (first | refine blk_drewN ?_ _ | refine blk_drew ?_ | refine blk_alloc ?_ _)); refine blk_far ?_ NB604_622.out _; (with_reducible repeat (first | refine blk_drewN ?_ _ | refine blk_drew ?_ | refine blk_alloc ?_ _)); refine blk_far ?_ NB604_622.out _; exact iBK BK604.out) hb); have n8_ := aa (blk_below (g := gb615) (o := .cells #[.int .i64 t613, .int .i64 t614] 27 (0, 0)) (by (with_reducible repeat (first | refine blk_drewN ?_ _ | refine blk_drew ?_ | refine blk_alloc ?_ _)); refine blk_far ?_ NB615_622.out _; (with_reducible repeat (first | refine blk_drewN ?_ _ | refine blk_drew ?_ | refine blk_alloc ?_ _)); refine blk_far ?_ NB615_622.out _; exact iBK BK615.out) hb); have n9_ := aa (blk_below (g := gb622) (o := .cells #[.int .i64 t620, .int .i64 t621] 27 (0, 0)) (by (with_reducible repeat (first | refine blk_drewN ?_ _ | refine blk_drew ?_ | refine blk_alloc ?_ _)); refine blk_put (cs := #[.int .i64 t620, .int .i64 0]) ?_ 1 _ rfl; (with_reducible repeat (first | refine blk_drewN ?_ _ | refine blk_drew ?_ | refine blk_alloc ?_ _)); refine blk_put (cs := #[.int .i64 0, .int .i64 0]) ?_ 0 _ rfl; exact iBK BK622.out) hb); have n10_ := aa (below_step iHB hb); clear HO596; clear HO600; clear HO607; clear HO611; clear BK586; clear BK593; clear BK604; clear BK615; clear BK622; clear HB; have HO596 := n0_; have HO600 := n1_; have HO607 := n2_; have HO611 := n3_; have BK586 := n5_; have BK593 := n6_; have BK604 := n7_; have BK615 := n8_; have BK622 := n9_; have HB := n10_; clear n0_ n1_ n2_ n3_ n5_ n6_ n7_ n8_ n9_ n10_; (try clear hb); (try clear hb2); (try clear hk); (try clear hi); have hcz170_0 : w169.cell? ⟨gb622, 0, none⟩ = some (.int .i64 t620) := (blk_cell BK622.out 0).trans rfl; have hcz170_1 : w169.cell? ⟨gb622, 1, none⟩ = some (.int .i64 t621) := (blk_cell BK622.out 1).trans rfl; have hfz170_0 := blk_frozen BK622.out 0; have hfz170_1 := blk_frozen BK622.out 1) | (go_at_call 27; (with_reducible refine (spec_AffineDistance.calls kj26 t620 t621 t625 t626 _ A109.out).mono ?_); rintro e w171 ⟨rfl, hb⟩; have n0_ := aa (Kd.R_below (by (with_reducible repeat (first | apply Kd.R_alloc | apply Kd.R_drewN | apply Kd.R_drew)); exact HO596.out) hb); have n1_ := aa (Kd.R_below (by (with_reducible repeat (first | apply Kd.R_alloc | apply Kd.R_drewN | apply Kd.R_drew)); exact HO600.out) hb); have n2_ := aa (Kd.R_below (by (with_reducible repeat (first | apply Kd.R_alloc | apply Kd.R_drewN | apply Kd.R_drew)); exact HO607.out) hb); have n3_ := aa (Kd.R_below (by (with_reducible repeat (first | apply Kd.R_alloc | apply Kd.R_drewN | apply Kd.R_drew)); exact HO611.out) hb); have n5_ := aa (blk_below (g := gb586) (o := .cells #[.int .i64 t584, .int .i64 t585] 27 (0, 0)) (iBK BK586.out) hb); have n6_ := aa (blk_below (g := gb593) (o := .cells #[.int .i64 t591, .int .i64 t592] 27 (0, 0)) (iBK BK593.out) hb); have n7_ := aa (blk_below (g := gb604) (o := .cells #[.int .i64 t602, .int .i64 t603] 27 (0, 0)) (iBK BK604.out) hb); have n8_ := aa (blk_below (g := gb615) (o := .cells #[.int .i64 t613, .int .i64 t614] 27 (0, 0)) (iBK BK615.out) hb); have n9_ := aa (blk_below (g := gb622) (o := .cells #[.int .i64 t620, .int .i64 t621] 27 (0, 0)) (iBK BK622.out) hb); have n10_ := aa (below_step iHB hb); clear HO596; clear HO600; clear HO607; clear HO611; clear BK586; clear BK593; clear BK604; clear BK615; clear BK622; clear HB; have HO596 := n0_; have HO600 := n1_; have HO607 := n2_; have HO611 := n3_; have BK586 := n5_; have BK593 := n6_; have BK604 := n7_; have BK615 := n8_; have BK622 := n9_; have HB := n10_; clear n0_ n1_ n2_ n3_ n5_ n6_ n7_ n8_ n9_ n10_; (try clear hb); (try clear hb2); (try clear hk); (try clear hi)) | (go_at_call 52; (with_reducible refine (spec_DrawSpectrumOf.calls kj26 _ _ l0 t627 t628 _ ?side1 ?side2 A110.out).mono ?_); (case side1 => repeat (first | exact (Kd.C_below HR0.out HB.out) | (with_reducible refine Kd.C_alloc ?_ _) | (with_reducible refine Kd.C_drewN ?_ _) | (with_reducible refine Kd.C_drew ?_))); (case side2 => exact HC0.out); rintro e w172 ⟨rfl, hb⟩; have n0_ := aa (Kd.R_below (by (with_reducible repeat (first | apply Kd.R_alloc | apply Kd.R_drewN | apply Kd.R_drew)); exact HO596.out) hb); have n1_ := aa (Kd.R_below (by (with_reducible repeat (first | apply Kd.R_alloc | apply Kd.R_drewN | apply Kd.R_drew)); exact HO600.out) hb); have n2_ := aa (Kd.R_below (by (with_reducible repeat (first | apply Kd.R_alloc | apply Kd.R_drewN | apply Kd.R_drew)); exact HO607.out) hb); have n3_ := aa (Kd.R_below (by (with_reducible repeat (first | apply Kd.R_alloc | apply Kd.R_drewN | apply Kd.R_drew)); exact HO611.out) hb); have n5_ := aa (blk_below (g := gb586) (o := .cells #[.int .i64 t584, .int .i64 t585] 27 (0, 0)) (iBK BK586.out) hb); have n6_ := aa (blk_below (g := gb593) (o := .cells #[.int .i64 t591, .int .i64 t592] 27 (0, 0)) (iBK BK593.out) hb); have n7_ := aa (blk_below (g := gb604) (o := .cells #[.int .i64 t602, .int .i64 t603] 27 (0, 0)) (iBK BK604.out) hb); have n8_ := aa (blk_below (g := gb615) (o := .cells #[.int .i64 t613, .int .i64 t614] 27 (0, 0)) (iBK BK615.out) hb); have n9_ := aa (blk_below (g := gb622) (o := .cells #[.int .i64 t620, .int .i64 t621] 27 (0, 0)) (iBK BK622.out) hb); have n10_ := aa (below_step iHB hb); clear HO596; clear HO600; clear HO607; clear HO611; clear BK586; clear BK593; clear BK604; clear BK615; clear BK622; clear HB; have HO596 := n0_; have HO600 := n1_; have HO607 := n2_; have HO611 := n3_; have BK586 := n5_; have BK593 := n6_; have BK604 := n7_; have BK615 := n8_; have BK622 := n9_; have HB := n10_; clear n0_ n1_ n2_ n3_ n5_ n6_ n7_ n8_ n9_ n10_; (try clear hb); (try clear hb2); (try clear hk); (try clear hi)) | ((with_reducible refine gate_dst (N := 54) rfl ?_); (try (refine gate_guard (by rfl) ?_; dsimp only)); refine box_event ?hg (N := 54) ?hd (cs := #[.int .i64 0, .int .i64 0]) (t := 27) ?hr ?_; (case hd => rfl); (case hg => rfl); (case hr => first | (go_simp; done) | (go_simp; rfl)); intro gb629 hg w173 hbox hb; have n0_ := aa (Kd.R_below (by (with_reducible repeat (first | apply Kd.R_alloc | apply Kd.R_drewN | apply Kd.R_drew)); exact HO596.out) hb); have n1_ := aa (Kd.R_below (by (with_reducible repeat (first | apply Kd.R_alloc | apply Kd.R_drewN | apply Kd.R_drew)); exact HO600.out) hb); have n2_ := aa (Kd.R_below (by (with_reducible repeat (first | apply Kd.R_alloc | apply Kd.R_drewN | apply Kd.R_drew)); exact HO607.out) hb); have n3_ := aa (Kd.R_below (by (with_reducible repeat (first | apply Kd.R_alloc | apply Kd.R_drewN | apply Kd.R_drew)); exact HO611.out) hb); have n5_ := aa (blk_below (g := gb586) (o := .cells #[.int .i64 t584, .int .i64 t585] 27 (0, 0)) (iBK BK586.out) hb); have n6_ := aa (blk_below (g := gb593) (o := .cells #[.int .i64 t591, .int .i64 t592] 27 (0, 0)) (iBK BK593.out) hb); have n7_ := aa (blk_below (g := gb604) (o := .cells #[.int .i64 t602, .int .i64 t603] 27 (0, 0)) (iBK BK604.out) hb); have n8_ := aa (blk_below (g := gb615) (o := .cells #[.int .i64 t613, .int .i64 t614] 27 (0, 0)) (iBK BK615.out) hb); have n9_ := aa (blk_below (g := gb622) (o := .cells #[.int .i64 t620, .int .i64 t621] 27 (0, 0)) (iBK BK622.out) hb); have n10_ := aa (below_step iHB hb); have n11_ := aa (hbox); have n12_ := aa ((by rw [hg]; exact (below_size iHB) : w.heap.size ≤ gb629)); have n13_ := aa ((by rw [hg]; exact (below_size iHB) : w.heap.size ≤ gb629)); have n16_ := aa ((by rw [hg]; exact Nat.ne_of_lt (blk_lt (g := gb586) (o := .cells #[.int .i64 t584, .int .i64 t585] 27 (0, 0)) (iBK BK586.out)) : gb586 ≠ gb629)); have n17_ := aa ((by rw [hg]; exact Nat.ne_of_gt (blk_lt (g := gb586) (o := .cells #[.int .i64 t584, .int .i64 t585] 27 (0, 0)) (iBK BK586.out)) : gb629 ≠ gb586)); have n18_ := aa ((by rw [hg]; exact Nat.ne_of_lt (blk_lt (g := gb593) (o := .cells #[.int .i64 t591, .int .i64 t592] 27 (0, 0)) (iBK BK593.out)) : gb593 ≠ gb629)); have n19_ := aa ((by rw [hg]; exact Nat.ne_of_gt (blk_lt (g := gb593) (o := .cells #[.int .i64 t591, .int .i64 t592] 27 (0, 0)) (iBK BK593.out)) : gb629 ≠ gb593)); have n20_ := aa ((by rw [hg]; exact Nat.ne_of_lt (blk_lt (g := gb604) (o := .cells #[.int .i64 t602, .int .i64 t603] 27 (0, 0)) (iBK BK604.out)) : gb604 ≠ gb629)); have n21_ := aa ((by rw [hg]; exact Nat.ne_of_gt (blk_lt (g := gb604) (o := .cells #[.int .i64 t602, .int .i64 t603] 27 (0, 0)) (iBK BK604.out)) : gb629 ≠ gb604)); have n22_ := aa ((by rw [hg]; exact Nat.ne_of_lt (blk_lt (g := gb615) (o := .cells #[.int .i64 t613, .int .i64 t614] 27 (0, 0)) (iBK BK615.out)) : gb615 ≠ gb629)); have n23_ := aa ((by rw [hg]; exact Nat.ne_of_gt (blk_lt (g := gb615) (o := .cells #[.int .i64 t613, .int .i64 t614] 27 (0, 0)) (iBK BK615.out)) : gb629 ≠ gb615)); have n24_ := aa ((by rw [hg]; exact Nat.ne_of_lt (blk_lt (g := gb622) (o := .cells #[.int .i64 t620, .int .i64 t621] 27 (0, 0)) (iBK BK622.out)) : gb622 ≠ gb629)); have n25_ := aa ((by rw [hg]; exact Nat.ne_of_gt (blk_lt (g := gb622) (o := .cells #[.int .i64 t620, .int .i64 t621] 27 (0, 0)) (iBK BK622.out)) : gb629 ≠ gb622)); clear HO596; clear HO600; clear HO607; clear HO611; clear BK586; clear BK593; clear BK604; clear BK615; clear BK622; clear HB; have HO596 := n0_; have HO600 := n1_; have HO607 := n2_; have HO611 := n3_; have BK586 := n5_; have BK593 := n6_; have BK604 := n7_; have BK615 := n8_; have BK622 := n9_; have HB := n10_; have BK629 := n11_; have GW629 := n12_; have GE629 := n13_; have NB586_629 := n16_; have NB629_586 := n17_; have NB593_629 := n18_; have NB629_593 := n19_; have NB604_629 := n20_; have NB629_604 := n21_; have NB615_629 := n22_; have NB629_615 := n23_; have NB622_629 := n24_; have NB629_622 := n25_; clear n0_ n1_ n2_ n3_ n5_ n6_ n7_ n8_ n9_ n10_ n11_ n12_ n13_ n16_ n17_ n18_ n19_ n20_ n21_ n22_ n23_ n24_ n25_; clear hb hbox hg; have hnb175 := NB629_586.out; have hnc175 := NB586_629.out; have hnb176 := NB629_593.out; have hnc176 := NB593_629.out; have hnb177 := NB629_604.out; have hnc177 := NB604_629.out; have hnb178 := NB629_615.out; have hnc178 := NB615_629.out; have hnb179 := NB629_622.out; have hnc179 := NB622_629.out; have hcz180_0 : w173.cell? ⟨gb629, 0, none⟩ = some (.int .i64 0) := (blk_cell BK629.out 0).trans rfl; have hcz180_1 : w173.cell? ⟨gb629, 1, none⟩ = some (.int .i64 0) := (blk_cell BK629.out 1).trans rfl; have hfz180_0 := blk_frozen BK629.out 0; have hfz180_1 := blk_frozen BK629.out 1) | (go_at_call 36; (with_reducible refine (impl_SpectrumOf.calls t627 t628 t630 t633 _ A111.out).mono ?_); rintro e w181 ⟨v631, rfl, ho0, hb⟩; have n0_ := aa (Kd.R_elder' (by (with_reducible repeat (first | apply Kd.R_alloc | apply Kd.R_drewN | apply Kd.R_drew)); exact (Kd.R_mono (Kd.R_far (p := ⟨gb629, 1, none⟩) (Kd.R_far (p := ⟨gb629, 0, none⟩) (Kd.R_types HO596.out BK629.out (by decide)) (fun _ hk => hk.2) (.int .i64 t627)) (fun _ hk => hk.2) (.int .i64 t628)) (fun _ h_ => h_.1))) (Kd.R_base ho0) hb); have n1_ := aa (Kd.R_elder' (by (with_reducible repeat (first | apply Kd.R_alloc | apply Kd.R_drewN | apply Kd.R_drew)); exact (Kd.R_mono (Kd.R_far (p := ⟨gb629, 1, none⟩) (Kd.R_far (p := ⟨gb629, 0, none⟩) (Kd.R_types HO600.out BK629.out (by decide)) (fun _ hk => hk.2) (.int .i64 t627)) (fun _ hk => hk.2) (.int .i64 t628)) (fun _ h_ => h_.1))) (Kd.R_base ho0) hb); have n2_ := aa (Kd.R_elder' (by (with_reducible repeat (first | apply Kd.R_alloc | apply Kd.R_drewN | apply Kd.R_drew)); exact (Kd.R_mono (Kd.R_far (p := ⟨gb629, 1, none⟩) (Kd.R_far (p := ⟨gb629, 0, none⟩) (Kd.R_types HO607.out BK629.out (by decide)) (fun _ hk => hk.2) (.int .i64 t627)) (fun _ hk => hk.2) (.int .i64 t628)) (fun _ h_ => h_.1))) (Kd.R_base ho0) hb); have n3_ := aa (Kd.R_elder' (by (with_reducible repeat (first | apply Kd.R_alloc | apply Kd.R_drewN | apply Kd.R_drew)); exact (Kd.R_mono (Kd.R_far (p := ⟨gb629, 1, none⟩) (Kd.R_far (p := ⟨gb629, 0, none⟩) (Kd.R_types HO611.out BK629.out (by decide)) (fun _ hk => hk.2) (.int .i64 t627)) (fun _ hk => hk.2) (.int .i64 t628)) (fun _ h_ => h_.1))) (Kd.R_base ho0) hb); have n4_ := aa (Kd.R_lower (Kd.R_new' (Kd.R_new' (Kd.R_new' (Kd.R_new' ho0 (Kd.R_lt (by (with_reducible repeat (first | apply Kd.R_alloc | apply Kd.R_drewN | apply Kd.R_drew)); exact (Kd.R_mono (Kd.R_far (p := ⟨gb629, 1, none⟩) (Kd.R_far (p := ⟨gb629, 0, none⟩) (Kd.R_types HO596.out BK629.out (by decide)) (fun _ hk => hk.2) (.int .i64 t627)) (fun _ hk => hk.2) (.int .i64 t628)) (fun _ h_ => h_.1))))) (Kd.R_lt (by (with_reducible repeat (first | apply Kd.R_alloc | apply Kd.R_drewN | apply Kd.R_drew)); exact (Kd.R_mono (Kd.R_far (p := ⟨gb629, 1, none⟩) (Kd.R_far (p := ⟨gb629, 0, none⟩) (Kd.R_types HO600.out BK629.out (by decide)) (fun _ hk => hk.2) (.int .i64 t627)) (fun _ hk => hk.2) (.int .i64 t628)) (fun _ h_ => h_.1))))) (Kd.R_lt (by (with_reducible repeat (first | apply Kd.R_alloc | apply Kd.R_drewN | apply Kd.R_drew)); exact (Kd.R_mono (Kd.R_far (p := ⟨gb629, 1, none⟩) (Kd.R_far (p := ⟨gb629, 0, none⟩) (Kd.R_types HO607.out BK629.out (by decide)) (fun _ hk => hk.2) (.int .i64 t627)) (fun _ hk => hk.2) (.int .i64 t628)) (fun _ h_ => h_.1))))) (Kd.R_lt (by (with_reducible repeat (first | apply Kd.R_alloc | apply Kd.R_drewN | apply Kd.R_drew)); exact (Kd.R_mono (Kd.R_far (p := ⟨gb629, 1, none⟩) (Kd.R_far (p := ⟨gb629, 0, none⟩) (Kd.R_types HO611.out BK629.out (by decide)) (fun _ hk => hk.2) (.int .i64 t627)) (fun _ hk => hk.2) (.int .i64 t628)) (fun _ h_ => h_.1))))) (below_size iHB)); have n6_ := aa (blk_below (g := gb586) (o := .cells #[.int .i64 t584, .int .i64 t585] 27 (0, 0)) (by (with_reducible repeat (first | refine blk_drewN ?_ _ | refine blk_drew ?_ | refine blk_alloc ?_ _)); refine blk_far ?_ NB586_629.out _; (with_reducible repeat (first | refine blk_drewN ?_ _ | refine blk_drew ?_ | refine blk_alloc ?_ _)); refine blk_far ?_ NB586_629.out _; exact iBK BK586.out) hb); have n7_ := aa (blk_below (g := gb593) (o := .cells #[.int .i64 t591, .int .i64 t592] 27 (0, 0)) (by (with_reducible repeat (first | refine blk_drewN ?_ _ | refine blk_drew ?_ | refine blk_alloc ?_ _)); refine blk_far ?_ NB593_629.out _; (with_reducible repeat (first | refine blk_drewN ?_ _ | refine blk_drew ?_ | refine blk_alloc ?_ _)); refine blk_far ?_ NB593_629.out _; exact iBK BK593.out) hb); have n8_ := aa (blk_below (g := gb604) (o := .cells #[.int .i64 t602, .int .i64 t603] 27 (0, 0)) (by (with_reducible repeat (first | refine blk_drewN ?_ _ | refine blk_drew ?_ | refine blk_alloc ?_ _)); refine blk_far ?_ NB604_629.out _; (with_reducible repeat (first | refine blk_drewN ?_ _ | refine blk_drew ?_ | refine blk_alloc ?_ _)); refine blk_far ?_ NB604_629.out _; exact iBK BK604.out) hb); have n9_ := aa (blk_below (g := gb615) (o := .cells #[.int .i64 t613, .int .i64 t614] 27 (0, 0)) (by (with_reducible repeat (first | refine blk_drewN ?_ _ | refine blk_drew ?_ | refine blk_alloc ?_ _)); refine blk_far ?_ NB615_629.out _; (with_reducible repeat (first | refine blk_drewN ?_ _ | refine blk_drew ?_ | refine blk_alloc ?_ _)); refine blk_far ?_ NB615_629.out _; exact iBK BK615.out) hb); have n10_ := aa (blk_below (g := gb622) (o := .cells #[.int .i64 t620, .int .i64 t621] 27 (0, 0)) (by (with_reducible repeat (first | refine blk_drewN ?_ _ | refine blk_drew ?_ | refine blk_alloc ?_ _)); refine blk_far ?_ NB622_629.out _; (with_reducible repeat (first | refine blk_drewN ?_ _ | refine blk_drew ?_ | refine blk_alloc ?_ _)); refine blk_far ?_ NB622_629.out _; exact iBK BK622.out) hb); have n11_ := aa (blk_below (g := gb629) (o := .cells #[.int .i64 t627, .int .i64 t628] 27 (0, 0)) (by (with_reducible repeat (first | refine blk_drewN ?_ _ | refine blk_drew ?_ | refine blk_alloc ?_ _)); refine blk_put (cs := #[.int .i64 t627, .int .i64 0]) ?_ 1 _ rfl; (with_reducible repeat (first | refine blk_drewN ?_ _ | refine blk_drew ?_ | refine blk_alloc ?_ _)); refine blk_put (cs := #[.int .i64 0, .int .i64 0]) ?_ 0 _ rfl; exact iBK BK629.out) hb); have n12_ := aa (below_step iHB hb); clear HO596; clear HO600; clear HO607; clear HO611; clear BK586; clear BK593; clear BK604; clear BK615; clear BK622; clear BK629; clear HB; have HO596 := n0_; have HO600 := n1_; have HO607 := n2_; have HO611 := n3_; have HO632 := n4_; have BK586 := n6_; have BK593 := n7_; have BK604 := n8_; have BK615 := n9_; have BK622 := n10_; have BK629 := n11_; have HB := n12_; clear n0_ n1_ n2_ n3_ n4_ n6_ n7_ n8_ n9_ n10_ n11_ n12_; (try clear hb); (try clear hb2); (try clear hk); (try clear hi); (try clear ho0); have hcz182_0 : w181.cell? ⟨gb629, 0, none⟩ = some (.int .i64 t627) := (blk_cell BK629.out 0).trans rfl; have hcz182_1 : w181.cell? ⟨gb629, 1, none⟩ = some (.int .i64 t628) := (blk_cell BK629.out 1).trans rfl; have hfz182_0 := blk_frozen BK629.out 0; have hfz182_1 := blk_frozen BK629.out 1) | (go_at_call 35; (with_reducible refine (spec_SpectrumOf.calls kj26 t627 t628 t634 t637 _ A112.out).mono ?_); rintro e w183 ⟨v635, rfl, ho0, hb⟩; have n0_ := aa (Kd.R_elder' (by (with_reducible repeat (first | apply Kd.R_alloc | apply Kd.R_drewN | apply Kd.R_drew)); exact HO596.out) (Kd.R_base ho0) hb); have n1_ := aa (Kd.R_elder' (by (with_reducible repeat (first | apply Kd.R_alloc | apply Kd.R_drewN | apply Kd.R_drew)); exact HO600.out) (Kd.R_base ho0) hb); have n2_ := aa (Kd.R_elder' (by (with_reducible repeat (first | apply Kd.R_alloc | apply Kd.R_drewN | apply Kd.R_drew)); exact HO607.out) (Kd.R_base ho0) hb); have n3_ := aa (Kd.R_elder' (by (with_reducible repeat (first | apply Kd.R_alloc | apply Kd.R_drewN | apply Kd.R_drew)); exact HO611.out) (Kd.R_base ho0) hb); have n4_ := aa (Kd.R_elder' (by (with_reducible repeat (first | apply Kd.R_alloc | apply Kd.R_drewN | apply Kd.R_drew)); exact HO632.out) (Kd.R_base ho0) hb); have n5_ := aa (Kd.R_lower (Kd.R_new' (Kd.R_new' (Kd.R_new' (Kd.R_new' (Kd.R_new' ho0 (Kd.R_lt (by (with_reducible repeat (first | apply Kd.R_alloc | apply Kd.R_drewN | apply Kd.R_drew)); exact HO596.out))) (Kd.R_lt (by (with_reducible repeat (first | apply Kd.R_alloc | apply Kd.R_drewN | apply Kd.R_drew)); exact HO600.out))) (Kd.R_lt (by (with_reducible repeat (first | apply Kd.R_alloc | apply Kd.R_drewN | apply Kd.R_drew)); exact HO607.out))) (Kd.R_lt (by (with_reducible repeat (first | apply Kd.R_alloc | apply Kd.R_drewN | apply Kd.R_drew)); exact HO611.out))) (Kd.R_lt (by (with_reducible repeat (first | apply Kd.R_alloc | apply Kd.R_drewN | apply Kd.R_drew)); exact HO632.out))) (below_size iHB)); have n7_ := aa (blk_below (g := gb586) (o := .cells #[.int .i64 t584, .int .i64 t585] 27 (0, 0)) (iBK BK586.out) hb); have n8_ := aa (blk_below (g := gb593) (o := .cells #[.int .i64 t591, .int .i64 t592] 27 (0, 0)) (iBK BK593.out) hb); have n9_ := aa (blk_below (g := gb604) (o := .cells #[.int .i64 t602, .int .i64 t603] 27 (0, 0)) (iBK BK604.out) hb); have n10_ := aa (blk_below (g := gb615) (o := .cells #[.int .i64 t613, .int .i64 t614] 27 (0, 0)) (iBK BK615.out) hb); have n11_ := aa (blk_below (g := gb622) (o := .cells #[.int .i64 t620, .int .i64 t621] 27 (0, 0)) (iBK BK622.out) hb); have n12_ := aa (blk_below (g := gb629) (o := .cells #[.int .i64 t627, .int .i64 t628] 27 (0, 0)) (iBK BK629.out) hb); have n13_ := aa (below_step iHB hb); clear HO596; clear HO600; clear HO607; clear HO611; clear HO632; clear BK586; clear BK593; clear BK604; clear BK615; clear BK622; clear BK629; clear HB; have HO596 := n0_; have HO600 := n1_; have HO607 := n2_; have HO611 := n3_; have HO632 := n4_; have HO636 := n5_; have BK586 := n7_; have BK593 := n8_; have BK604 := n9_; have BK615 := n10_; have BK622 := n11_; have BK629 := n12_; have HB := n13_; clear n0_ n1_ n2_ n3_ n4_ n5_ n7_ n8_ n9_ n10_ n11_ n12_ n13_; (try clear hb); (try clear hb2); (try clear hk); (try clear hi); (try clear ho0); obtain ⟨Ao184, co184, eo184⟩ := Kd.R_slice HO596.out; subst eo184; obtain ⟨Ao185, co185, eo185⟩ := Kd.R_slice HO600.out; subst eo185) | (go_at_call 43; (with_reducible refine (laws_likeInts.calls kj26 _ _ t594 _ _ t598 true _ ?side1 ?side2 ?side3 ?side4 A116.out).mono ?_); (case side1 => repeat (first | exact (Kd.R_reads' HO596.out).2.2 | (with_reducible refine Kd.C_alloc ?_ _) | (with_reducible refine Kd.C_drewN ?_ _) | (with_reducible refine Kd.C_drew ?_))); (case side2 => exact (Kd.R_reads' HO596.out).2.1); (case side3 => repeat (first | exact (Kd.R_reads' HO600.out).2.2 | (with_reducible refine Kd.C_alloc ?_ _) | (with_reducible refine Kd.C_drewN ?_ _) | (with_reducible refine Kd.C_drew ?_))); (case side4 => exact (Kd.R_reads' HO600.out).2.1); rintro e w' ⟨rfl, ⟨nd, rfl⟩⟩; (try first | exact ⟨rfl, _, World.drewN_drewN _ _ _⟩ | exact ⟨rfl, _, Eq.trans (World.drewN_drewN _ _ _) (congrArg (World.drewN _) (Nat.add_assoc _ _ _))⟩); obtain ⟨Ao186, co186, eo186⟩ := Kd.R_slice HO607.out; subst eo186; obtain ⟨Ao187, co187, eo187⟩ := Kd.R_slice HO611.out; subst eo187) | (go_at_call 43; (with_reducible refine (laws_likeInts.calls kj26 _ _ t605 _ _ t609 true _ ?side1 ?side2 ?side3 ?side4 A119.out).mono ?_); (case side1 => repeat (first | exact (Kd.R_reads' HO607.out).2.2 | (with_reducible refine Kd.C_alloc ?_ _) | (with_reducible refine Kd.C_drewN ?_ _) | (with_reducible refine Kd.C_drew ?_))); (case side2 => exact (Kd.R_reads' HO607.out).2.1); (case side3 => repeat (first | exact (Kd.R_reads' HO611.out).2.2 | (with_reducible refine Kd.C_alloc ?_ _) | (with_reducible refine Kd.C_drewN ?_ _) | (with_reducible refine Kd.C_drew ?_))); (case side4 => exact (Kd.R_reads' HO611.out).2.1); rintro e w' ⟨rfl, ⟨nd, rfl⟩⟩; (try first | exact ⟨rfl, _, World.drewN_drewN _ _ _⟩ | exact ⟨rfl, _, Eq.trans (World.drewN_drewN _ _ _) (congrArg (World.drewN _) (Nat.add_assoc _ _ _))⟩); obtain ⟨Ao188, co188, eo188⟩ := Kd.R_slice HO632.out; subst eo188; obtain ⟨Ao189, co189, eo189⟩ := Kd.R_slice HO636.out; subst eo189) | (go_at_call 43; (with_reducible refine (laws_likeInts.calls kj26 _ _ t630 _ _ t634 t640 _ ?side1 ?side2 ?side3 ?side4 A126.out).mono ?_); (case side1 => repeat (first | exact (Kd.R_reads' HO632.out).2.2 | (with_reducible refine Kd.C_alloc ?_ _) | (with_reducible refine Kd.C_drewN ?_ _) | (with_reducible refine Kd.C_drew ?_))); (case side2 => exact (Kd.R_reads' HO632.out).2.1); (case side3 => repeat (first | exact (Kd.R_reads' HO636.out).2.2 | (with_reducible refine Kd.C_alloc ?_ _) | (with_reducible refine Kd.C_drewN ?_ _) | (with_reducible refine Kd.C_drew ?_))); (case side4 => exact (Kd.R_reads' HO636.out).2.1); rintro e w' ⟨rfl, ⟨nd, rfl⟩⟩; (try first | exact ⟨rfl, _, World.drewN_drewN _ _ _⟩ | exact ⟨rfl, _, Eq.trans (World.drewN_drewN _ _ _) (congrArg (World.drewN _) (Nat.add_assoc _ _ _))⟩)))
                                    go_ret
                                    exact ⟨by first | rfl | (simp [errW_none, errW_some] <;> rfl) | (simp [*, errW_none, errW_some] <;> rfl), iHB⟩
                                  · rw [if_neg c125] at H
                                    have c125b0 : (t633 == t637) = false := beq_eq_false_iff_ne.mpr c125
                                    have c125b1 : (t633 != t637) = true := bne_iff_ne.mpr c125
                                    exact absurd (Option.some.inj H) (by decide)
                                · rw [if_neg c124] at H
                                  have c124b0 : (t623 == t625) = false := beq_eq_false_iff_ne.mpr c124
                                  have c124b1 : (t623 != t625) = true := bne_iff_ne.mpr c124
                                  exact absurd (Option.some.inj H) (by decide)
                              · rw [if_neg c123] at H
                                have c123b0 : (t624 == t626) = false := beq_eq_false_iff_ne.mpr c123
                                have c123b1 : (t624 != t626) = true := bne_iff_ne.mpr c123
                                exact absurd (Option.some.inj H) (by decide)
                            · rw [if_neg c122] at H
                              have c122b0 : (t616 == t618) = false := by simpa using c122
                              (try (have c122b1 : decide (t616 = t618) = false := by simpa using c122))
                              (try (have c122b2 : (t616 == t618) = false := by simpa using c122))
                              (try (have c122b3 : ¬ (t616 = t618) := by simpa using c122))
                              clear c122
                              exact absurd (Option.some.inj H) (by decide)
                          · rw [if_neg c121] at H
                            have c121b0 : (t617 == t619) = false := beq_eq_false_iff_ne.mpr c121
                            have c121b1 : (t617 != t619) = true := bne_iff_ne.mpr c121
                            exact absurd (Option.some.inj H) (by decide)
                        · replace c120 := Bool.eq_false_iff.mpr c120
                          subst c120
                          have H1 : (some false) = some true := by rw [if_neg (show ¬ (false = true) by decide)] at H; exact H
                          clear H
                          have H := H1
                          clear H1
                          exact absurd (Option.some.inj H) (by decide)
                      · rw [if_neg c118] at H
                        have c118b0 : (t608 == t612) = false := beq_eq_false_iff_ne.mpr c118
                        have c118b1 : (t608 != t612) = true := bne_iff_ne.mpr c118
                        exact absurd (Option.some.inj H) (by decide)
                    · replace c117 := Bool.eq_false_iff.mpr c117
                      subst c117
                      have H1 : (some false) = some true := by rw [if_neg (show ¬ (false = true) by decide)] at H; exact H
                      clear H
                      have H := H1
                      clear H1
                      exact absurd (Option.some.inj H) (by decide)
                  · rw [if_neg c115] at H
                    have c115b0 : (t597 == t601) = false := beq_eq_false_iff_ne.mpr c115
                    have c115b1 : (t597 != t601) = true := bne_iff_ne.mpr c115
                    exact absurd (Option.some.inj H) (by decide)
                · rw [if_neg c114] at H
                  have c114b0 : (t587 == t589) = false := beq_eq_false_iff_ne.mpr c114
                  have c114b1 : (t587 != t589) = true := bne_iff_ne.mpr c114
                  exact absurd (Option.some.inj H) (by decide)
              · rw [if_neg c113] at H
                have c113b0 : (t588 == t590) = false := beq_eq_false_iff_ne.mpr c113
                have c113b1 : (t588 != t590) = true := bne_iff_ne.mpr c113
                exact absurd (Option.some.inj H) (by decide)
end Go.Proofs.Ytdhfbgbclibagaa.P
