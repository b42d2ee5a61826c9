/- Functions of the given program and their contracts, written by a program of this session (gen.py) over the kit's print. -/
import Derived.Test.YtdhfbgbclibagaaSQx0
import Derived.Test.YtdhfbgbclibagaaSQx1
import Derived.Test.YtdhfbgbclibagaaSQx2
import Derived.Test.YtdhfbgbclibagaaSQx10
import Derived.Test.YtdhfbgbclibagaaSQx13
import Derived.Test.YtdhfbgbclibagaaSQx14
namespace Go.Proofs.Ytdhfbgbclibagaa.P
open Go.RowKit Go.Proofs.YtdhfbgbclibagaaW.PrintWords Go.Proofs.YtdhfbgbclibagaaW.PrintLast Go.Proofs.YtdhfbgbclibagaaW.PrintMore
attribute [local go_sem] max2_int min2_int max_two min_two max_three min_three max_four min_four   -- for this text's walks alone
set_option linter.unusedVariables false
set_option linter.unusedSimpArgs false
mutual
def spec_l03Bent.l0 : Nat → Int → List Int → Int → List Int → Int → Int → Option (Int × Int)
  | 0, _, _, _, _, _, _ => none
  | k + 1, x5, x6, x7, x430000, x430001, x430002 => if x7 < x5 then (if 0 ≤ (IntKind.u64.wrap (x7)) then ((spec_l01Next.f x430000 x430001 x430002 2).bind fun bt448 => (if 0 ≤ (shl .i64 1 (IntKind.u64.wrap (x7))) then (if (shl .i64 1 (IntKind.u64.wrap (x7))) < (x6.length : Int) then (spec_l03Bent.l0 k x5 (x6.set ((shl .i64 1 (IntKind.u64.wrap (x7))) : Int).toNat bt448.1) (wrap64 (x7 + 1)) x430000 bt448.2.1 bt448.2.2) else (none)) else (none))) else (none)) else ((spec_l01Next.f x430000 x430001 x430002 2).bind fun bt452 => (if 0 < (x6.length : Int) then (if 3 < (x6.length : Int) then ((some ((x6.set (0 : Int).toNat bt452.1).set (3 : Int).toNat 1 : List Int)).bind fun y456 => (if x5 = 4 then (if 12 < (x6.length : Int) then (spec_l03Bent.j1 k x5 (y456.set (12 : Int).toNat 1) x430000 bt452.2.1 bt452.2.2) else (none)) else (spec_l03Bent.j1 k x5 y456 x430000 bt452.2.1 bt452.2.2))) else (none)) else (none)))
def spec_l03Bent.j1 : Nat → Int → List Int → List Int → Int → Int → Option (Int × Int)
  | 0, _, _, _, _, _ => none
  | k + 1, x5, x6, x430000, x430001, x430002 => (spec_l03Sums.f k x6).bind fun t458 => ((spec_l01Of.f k x5 t458).bind fun bt461 => ((spec_l01DrawOrder.f k x430000 x430001 x430002 x5).bind fun bt463 => ((spec_l01Permute.f k bt461.1 bt461.2 bt463.1).bind fun bt468 => (some (bt468.1, bt468.2)))))
end
def spec_l03Bent.f (k : Nat) (l0 : List Int) : Option (Int × Int) := (spec_l01From.f k l0).bind fun bt426 => ((spec_l01Spoil.f k bt426.1 bt426.2.1 bt426.2.2).bind fun bt430 => ((spec_l01Next.f bt426.1 bt430.2.2.1 bt430.2.2.2 3).bind fun bt435 => (if bt435.1 = 0 then ((spec_l01Pick.f bt426.1 bt435.2.1 bt435.2.2 (([2, 4, 4] : List Int))).bind fun bt441 => ((spec_l01Rows.f bt441.1).bind fun t444 => (if 0 ≤ t444 then (if (t444 : Int).toNat ≤ 35184372088832 then (spec_l03Bent.l0 k bt441.1 (List.replicate (t444 : Int).toNat 0) 0 bt426.1 bt441.2.1 bt441.2.2) else (none)) else (none)))) else (some (bt430.1, bt430.2.1)))))
set_option maxHeartbeats 8000000 in
set_option maxRecDepth 100000 in
theorem spec_l03Bent.calls (k : Nat) (A0 : Option Addr) (c0 : Nat) (l0 : List Int) (r1 : Int) (r2 : Int) (w : World) (hr0 : Kd.C (Kd.int .u8) w A0 l0.length l0) (hc0 : l0.length ≤ c0) (h : spec_l03Bent.f k l0 = some (r1, r2)) :
    Calls Try.prog 93 #[.slice A0 l0.length c0] w fun e w' => e = .returned (.agg #[.int .i64 r1, .int .i64 r2]) ∧ Below w.heap.size w w' := by
  have hu27 := Try.underlying27
  have HR0 := Aside0.mk hr0
  have HC0 := Aside0.mk hc0
  clear hr0 hc0
  have HB := aa (Below.refl w.heap.size w)
  have H : ((spec_l01From.f k l0).bind fun bt426 => ((spec_l01Spoil.f k bt426.1 bt426.2.1 bt426.2.2).bind fun bt430 => ((spec_l01Next.f bt426.1 bt430.2.2.1 bt430.2.2.2 3).bind fun bt435 => (if bt435.1 = 0 then ((spec_l01Pick.f bt426.1 bt435.2.1 bt435.2.2 (([2, 4, 4] : List Int))).bind fun bt441 => ((spec_l01Rows.f bt441.1).bind fun t444 => (if 0 ≤ t444 then (if (t444 : Int).toNat ≤ 35184372088832 then (spec_l03Bent.l0 k bt441.1 (List.replicate (t444 : Int).toNat 0) 0 bt426.1 bt441.2.1 bt441.2.2) else (none)) else (none)))) else (some (bt430.1, bt430.2.1)))))) = some (r1, r2) := h
  clear h
  replace H := Option.bind_eq_some_iff.mp H
  obtain ⟨⟨t426, t427, t428⟩, A20, H⟩ := H
  replace H : ((spec_l01Spoil.f k t426 t427 t428).bind fun bt430 => ((spec_l01Next.f t426 bt430.2.2.1 bt430.2.2.2 3).bind fun bt435 => (if bt435.1 = 0 then ((spec_l01Pick.f t426 bt435.2.1 bt435.2.2 (([2, 4, 4] : List Int))).bind fun bt441 => ((spec_l01Rows.f bt441.1).bind fun t444 => (if 0 ≤ t444 then (if (t444 : Int).toNat ≤ 35184372088832 then (spec_l03Bent.l0 k bt441.1 (List.replicate (t444 : Int).toNat 0) 0 t426 bt441.2.1 bt441.2.2) else (none)) else (none)))) else (some (bt430.1, bt430.2.1))))) = some (r1, r2) := H
  have A2 := Aside0.mk A20
  clear A20
  replace H := Option.bind_eq_some_iff.mp H
  obtain ⟨⟨t430, t431, t432, t433⟩, A30, H⟩ := H
  replace H : ((spec_l01Next.f t426 t432 t433 3).bind fun bt435 => (if bt435.1 = 0 then ((spec_l01Pick.f t426 bt435.2.1 bt435.2.2 (([2, 4, 4] : List Int))).bind fun bt441 => ((spec_l01Rows.f bt441.1).bind fun t444 => (if 0 ≤ t444 then (if (t444 : Int).toNat ≤ 35184372088832 then (spec_l03Bent.l0 k bt441.1 (List.replicate (t444 : Int).toNat 0) 0 t426 bt441.2.1 bt441.2.2) else (none)) else (none)))) else (some (t430, t431)))) = some (r1, r2) := H
  have A3 := Aside0.mk A30
  clear A30
  replace H := Option.bind_eq_some_iff.mp H
  obtain ⟨⟨t435, t436, t437⟩, A40, H⟩ := H
  replace H : (if t435 = 0 then ((spec_l01Pick.f t426 t436 t437 (([2, 4, 4] : List Int))).bind fun bt441 => ((spec_l01Rows.f bt441.1).bind fun t444 => (if 0 ≤ t444 then (if (t444 : Int).toNat ≤ 35184372088832 then (spec_l03Bent.l0 k bt441.1 (List.replicate (t444 : Int).toNat 0) 0 t426 bt441.2.1 bt441.2.2) else (none)) else (none)))) else (some (t430, t431))) = some (r1, r2) := H
  have A4 := Aside0.mk A40
  clear A40
  by_cases c5 : t435 = 0
  · rw [if_pos c5] at H
    have c5b0 : (t435 == 0) = true := beq_iff_eq.mpr c5
    have c5b1 : (t435 != 0) = false := bne_eq_false_iff_eq.mpr c5
    clear c5
    obtain ⟨y438, hy438⟩ : ∃ y_ : List Int, y_ = (([2, 4, 4] : List Int)) := ⟨_, rfl⟩
    replace H : ((spec_l01Pick.f t426 t436 t437 y438).bind fun bt441 => ((spec_l01Rows.f bt441.1).bind fun t444 => (if 0 ≤ t444 then (if (t444 : Int).toNat ≤ 35184372088832 then (spec_l03Bent.l0 k bt441.1 (List.replicate (t444 : Int).toNat 0) 0 t426 bt441.2.1 bt441.2.2) else (none)) else (none)))) = some (r1, r2) := by first | (rw [hy438]; with_reducible exact H) | (have H2_ := (Option.bind_some _ _).symm.trans H; rw [hy438]; with_reducible exact H2_) | (have H2_ := (Option.bind_some _ _).symm.trans H; with_reducible exact H2_) | with_reducible exact H | (rw [hy438]; exact H) | exact H
    have Ny438 := Aside0.mk hy438
    clear hy438
    replace H := Option.bind_eq_some_iff.mp H
    obtain ⟨⟨t441, t442, t443⟩, A60, H⟩ := H
    replace H : ((spec_l01Rows.f t441).bind fun t444 => (if 0 ≤ t444 then (if (t444 : Int).toNat ≤ 35184372088832 then (spec_l03Bent.l0 k t441 (List.replicate (t444 : Int).toNat 0) 0 t426 t442 t443) else (none)) else (none))) = some (r1, r2) := H
    have A6 := Aside0.mk A60
    clear A60
    replace H := Option.bind_eq_some_iff.mp H
    obtain ⟨t444, A70, H⟩ := H
    replace H : (if 0 ≤ t444 then (if (t444 : Int).toNat ≤ 35184372088832 then (spec_l03Bent.l0 k t441 (List.replicate (t444 : Int).toNat 0) 0 t426 t442 t443) else (none)) else (none)) = some (r1, r2) := H
    have A7 := Aside0.mk A70
    clear A70
    by_cases c8 : 0 ≤ t444
    · rw [if_pos c8] at H
      have c8b0 := eq_true c8
      have c8b1 : decide (0 ≤ t444) = true := decide_eq_true c8
      clear c8
      by_cases c9 : (t444 : Int).toNat ≤ 35184372088832
      · rw [if_pos c9] at H
        have c9b0 := eq_true c9
        have c9b1 : decide ((t444 : Int).toNat ≤ 35184372088832) = true := decide_eq_true c9
        clear c9
        obtain ⟨y445, hy445⟩ : ∃ y_ : List Int, y_ = (List.replicate (t444 : Int).toNat 0) := ⟨_, rfl⟩
        replace H : (spec_l03Bent.l0 k t441 y445 0 t426 t442 t443) = some (r1, r2) := by first | (rw [hy445]; with_reducible exact H) | (have H2_ := (Option.bind_some _ _).symm.trans H; rw [hy445]; with_reducible exact H2_) | (have H2_ := (Option.bind_some _ _).symm.trans H; with_reducible exact H2_) | with_reducible exact H | (rw [hy445]; exact H) | exact H
        have Ny445 := Aside0.mk hy445
        clear hy445
        have H' := Aside0.mk H
        clear H
        go_enter Try.func93, Try.ntmps93
        go_wp2_with (first | ((with_reducible refine gate_dst (N := 2) rfl ?_); refine box_event ?hg (N := 2) ?hd (cs := #[.int .i64 0, .int .i64 0]) (t := 27) ?hr ?_; (case hd => rfl); (case hg => rfl); (case hr => first | (go_simp; done) | (go_simp; rfl)); intro gb425 hg w10 hbox hb; have n0_ := aa (below_step iHB hb); have n1_ := aa (hbox); have n2_ := aa ((by rw [hg]; exact (below_size iHB) : w.heap.size ≤ gb425)); have n3_ := aa ((by rw [hg]; exact (below_size iHB) : w.heap.size ≤ gb425)); clear HB; have HB := n0_; have BK425 := n1_; have GW425 := n2_; have GE425 := n3_; clear n0_ n1_ n2_ n3_; clear hb hbox hg) | ((with_reducible refine gate_callee (f := 96) rfl ?_); refine goesL_ (some 9) rfl rfl Try.func96 (by kernel_rfl) rfl #[.slice A0 l0.length c0] rfl iAR ?_; (with_reducible refine (spec_l01From.calls k _ _ l0 t426 t427 t428 w _ ?side1 ?side2 ?side3 A2.out).mono ?_); (case side1 => exact iHB); (case side2 => exact HR0.out); (case side3 => exact HC0.out); rintro e w11 ⟨g429, rfl, hi, hb, hb2⟩; refine ⟨_, rfl, ?_⟩; have n0_ := aa (blk_below (g := gb425) (o := .cells #[.int .i64 0, .int .i64 0] 27 (0, 0)) (iBK BK425.out) hb2); have n1_ := aa (hb); have n2_ := aa (hi); have n3_ := aa (IsS81.ne_blk hi (blk_below (g := gb425) (o := .cells #[.int .i64 0, .int .i64 0] 27 (0, 0)) (iBK BK425.out) hb2) (by decide)); have n4_ := aa (Ne.symm (IsS81.ne_blk hi (blk_below (g := gb425) (o := .cells #[.int .i64 0, .int .i64 0] 27 (0, 0)) (iBK BK425.out) hb2) (by decide))); clear BK425; clear HB; have BK425 := n0_; have HB := n1_; have HI429 := n2_; have NB429_425 := n3_; have NB425_429 := n4_; clear n0_ n1_ n2_ n3_ n4_; (try clear hb); (try clear hb2); (try clear hk); (try clear hi)) | ((with_reducible refine gate_callee (f := 95) rfl ?_); refine goesL_ (some 11) rfl rfl Try.func95 (by kernel_rfl) rfl #[.pointer (some ⟨g429, 0, none⟩)] rfl iAR ?_; (with_reducible refine (spec_l01Spoil.calls k g429 t426 t427 t428 t430 t431 t432 t433 w _ ?side1 ?side2 A3.out).mono ?_); (case side1 => exact iHI); (case side2 => exact iHS); rintro e w12 ⟨rfl, hi, hb, hk⟩; refine ⟨_, rfl, ?_⟩; have n0_ := aa (KeepBut.blk hk (g' := gb425) (o := .cells #[.int .i64 0, .int .i64 0] 27 (0, 0)) (iBK BK425.out) NB425_429.out (by simp)); have n1_ := aa (hb); have n2_ := aa (hi); clear BK425; clear HB; clear HI429; have BK425 := n0_; have HB := n1_; have HI429 := n2_; clear n0_ n1_ n2_; (try clear hb); (try clear hb2); (try clear hk); (try clear hi)) | ((with_reducible refine gate_dst (N := 4) rfl ?_); refine box_event ?hg (N := 4) ?hd (cs := #[.int .i64 0, .int .i64 0]) (t := 27) ?hr ?_; (case hd => rfl); (case hg => rfl); (case hr => first | (go_simp; done) | (go_simp; rfl)); intro gb434 hg w13 hbox hb; have n0_ := aa (blk_below (g := gb425) (o := .cells #[.int .i64 0, .int .i64 0] 27 (0, 0)) (iBK BK425.out) hb); have n1_ := aa (IsS81.below iHI hb); have n2_ := aa (below_step iHS hb); have n3_ := aa (hbox); have n4_ := aa ((by rw [hg]; exact (below_size iHS) : w.heap.size ≤ gb434)); have n5_ := aa ((by rw [hg]; exact (below_size iHS) : w.heap.size ≤ gb434)); have n6_ := aa ((by rw [hg]; exact Nat.ne_of_lt (blk_lt (g := gb425) (o := .cells #[.int .i64 0, .int .i64 0] 27 (0, 0)) (iBK BK425.out)) : gb425 ≠ gb434)); have n7_ := aa ((by rw [hg]; exact Nat.ne_of_gt (blk_lt (g := gb425) (o := .cells #[.int .i64 0, .int .i64 0] 27 (0, 0)) (iBK BK425.out)) : gb434 ≠ gb425)); have n8_ := aa ((by rw [hg]; exact Nat.ne_of_lt (IsS81.lt (show IsS81 w _ g429 t426 t432 t433 from iHI)) : g429 ≠ gb434)); have n9_ := aa ((by rw [hg]; exact Nat.ne_of_gt (IsS81.lt (show IsS81 w _ g429 t426 t432 t433 from iHI)) : gb434 ≠ g429)); clear BK425; clear HI429; clear HB; have BK425 := n0_; have HI429 := n1_; have HB := n2_; have BK434 := n3_; have GW434 := n4_; have GE434 := n5_; have NB425_434 := n6_; have NB434_425 := n7_; have NB429_434 := n8_; have NB434_429 := n9_; clear n0_ n1_ n2_ n3_ n4_ n5_ n6_ n7_ n8_ n9_; clear hb hbox hg; have hnb14 := NB434_425.out; have hnc14 := NB425_434.out; have hnb15 := NB434_429.out; have hnc15 := NB429_434.out; have hcz16_0 : w13.cell? ⟨gb434, 0, none⟩ = some (.int .i64 0) := (blk_cell BK434.out 0).trans rfl; have hcz16_1 : w13.cell? ⟨gb434, 1, none⟩ = some (.int .i64 0) := (blk_cell BK434.out 1).trans rfl; have hfz16_0 := blk_frozen BK434.out 0; have hfz16_1 := blk_frozen BK434.out 1) | ((with_reducible refine gate_callee (f := 118) rfl ?_); refine goesL_ (some 13) rfl rfl Try.func118 (by kernel_rfl) rfl #[.pointer (some ⟨g429, 0, none⟩), .int .i64 3] rfl iAR ?_; (with_reducible refine (spec_l01Next.calls g429 t426 t432 t433 3 t435 t436 t437 w _ ?side1 ?side2 A4.out).mono ?_); (case side1 => exact iHI); (case side2 => exact iHS); rintro e w17 ⟨rfl, hi, hb, hk⟩; refine ⟨_, rfl, ?_⟩; have n0_ := aa (KeepBut.blk hk (g' := gb425) (o := .cells #[.int .i64 0, .int .i64 0] 27 (0, 0)) (by (with_reducible repeat (first | refine blk_drewN ?_ _ | refine blk_drew ?_ | refine blk_alloc ?_ _)); refine blk_far ?_ NB425_434.out _; (with_reducible repeat (first | refine blk_drewN ?_ _ | refine blk_drew ?_ | refine blk_alloc ?_ _)); refine blk_far ?_ NB425_434.out _; exact iBK BK425.out) NB425_429.out (by simp)); have n1_ := aa (KeepBut.blk hk (g' := gb434) (o := .cells #[.int .i64 t430, .int .i64 t431] 27 (0, 0)) (by (with_reducible repeat (first | refine blk_drewN ?_ _ | refine blk_drew ?_ | refine blk_alloc ?_ _)); refine blk_put (cs := #[.int .i64 t430, .int .i64 0]) ?_ 1 _ rfl; (with_reducible repeat (first | refine blk_drewN ?_ _ | refine blk_drew ?_ | refine blk_alloc ?_ _)); refine blk_put (cs := #[.int .i64 0, .int .i64 0]) ?_ 0 _ rfl; exact iBK BK434.out) NB434_429.out (by simp)); have n2_ := aa (hb); have n3_ := aa (hi); clear BK425; clear BK434; clear HB; clear HI429; have BK425 := n0_; have BK434 := n1_; have HB := n2_; have HI429 := n3_; clear n0_ n1_ n2_ n3_; (try clear hb); (try clear hb2); (try clear hk); (try clear hi)) | ((with_reducible refine gate_dst (N := 16) rfl ?_); refine Kd.R_lit (Kd.int .i64) _ 2 ?hg (N := 16) ?hd (xs := ([2, 4, 4] : List Int)) (inner := [.int .i64 2, .int .i64 4, .int .i64 4]) (ok := fun _ => True) (okp := fun _ => True) ?hr ?hp (fun _ hk => hk) trivial (Below.refl _ _) (Nat.le_refl _) (by simp) ?_; (case hd => rfl); (case hg => rfl); (case hr => first | (go_simp; done) | (go_simp; rfl)); (case hp => exact (Reps.one (show Kd.M (Kd.int .i64) _ _ _ 2 [.int .i64 2] from rfl) (Reps.one (show Kd.M (Kd.int .i64) _ _ _ 4 [.int .i64 4] from rfl) (Reps.one (show Kd.M (Kd.int .i64) _ _ _ 4 [.int .i64 4] from rfl) (Reps.none _ _))))); intro v439 w18 ho19 hb hg_ hnew_; clear hg_ hnew_; (first | rw [← Ny438.out] at ho19 | (simp only [Int.reduceToNat] at ho19; rw [← Ny438.out] at ho19)); have n0_ := aa (Kd.R_lower ho19 (below_size iHS)); have n1_ := aa (blk_below (g := gb425) (o := .cells #[.int .i64 0, .int .i64 0] 27 (0, 0)) (iBK BK425.out) hb); have n2_ := aa (IsS81.below iHI hb); have n3_ := aa (blk_below (g := gb434) (o := .cells #[.int .i64 t430, .int .i64 t431] 27 (0, 0)) (iBK BK434.out) hb); have n4_ := aa (below_step iHS hb); clear BK425; clear HI429; clear BK434; clear HB; have HO440 := n0_; have BK425 := n1_; have HI429 := n2_; have BK434 := n3_; have HB := n4_; clear n0_ n1_ n2_ n3_ n4_; clear hb ho19; obtain ⟨Ao20, co20, eo20⟩ := Kd.R_slice HO440.out; subst eo20) | ((with_reducible refine gate_callee (f := 119) rfl ?_); refine goesL_ (some 17) rfl rfl Try.func119 (by kernel_rfl) rfl #[.pointer (some ⟨g429, 0, none⟩), .slice Ao20 y438.length co20] rfl iAR ?_; (with_reducible refine (spec_l01Pick.calls g429 t426 t436 t437 _ _ y438 t441 t442 t443 w _ ?side1 ?side2 ?side3 ?side4 ?side5 A6.out).mono ?_); (case side1 => exact iHI); (case side2 => exact iHS); (case side3 => repeat (first | exact (Kd.R_reads' HO440.out).2.2 | (with_reducible refine Kd.C_alloc ?_ _) | (with_reducible refine Kd.C_drewN ?_ _) | (with_reducible refine Kd.C_drew ?_))); (case side4 => exact (Kd.R_reads' HO440.out).2.1); (case side5 => exact far_slice (IsS81.own_ne HI429.out HO440.out (by decide))); rintro e w21 ⟨rfl, hi, hb, hk⟩; refine ⟨_, rfl, ?_⟩; have n0_ := aa (KeepBut.blk hk (g' := gb425) (o := .cells #[.int .i64 0, .int .i64 0] 27 (0, 0)) (iBK BK425.out) NB425_429.out (by simp)); have n1_ := aa (KeepBut.blk hk (g' := gb434) (o := .cells #[.int .i64 t430, .int .i64 t431] 27 (0, 0)) (iBK BK434.out) NB434_429.out (by simp)); have n2_ := aa (Kd.R_mono (Kd.R_keep (IsS81.apart (show IsS81 w _ g429 t426 t436 t437 from iHI) (by (with_reducible repeat (first | apply Kd.R_alloc | apply Kd.R_drewN | apply Kd.R_drew)); exact HO440.out) (by decide)) hk (fun _ h => h.2)) (fun _ h => h.1)); have n3_ := aa (hb); have n4_ := aa (hi); clear BK425; clear BK434; clear HO440; clear HB; clear HI429; have BK425 := n0_; have BK434 := n1_; have HO440 := n2_; have HB := n3_; have HI429 := n4_; clear n0_ n1_ n2_ n3_ n4_; (try clear hb); (try clear hb2); (try clear hk); (try clear hi)) | ((with_reducible refine gate_callee (f := 68) rfl ?_); refine goesL_ (some 19) rfl rfl Try.func68 (by kernel_rfl) rfl #[.int .i64 t441] rfl iAR ?_; (with_reducible refine (spec_l01Rows.calls t441 t444 _ A7.out).mono ?_); rintro e w' ⟨rfl, ⟨nd, rfl⟩⟩; refine ⟨_, rfl, ?_⟩) | ((with_reducible refine gate_dst (N := 20) rfl ?_); refine Kd.R_make (Kd.int .i64) _ 2 rfl (N := 20) rfl 24 _ _ rfl t444 rfl rfl Try.underlying24 (.int .i64 0) 8 info2 rfl (by decide) (by omega) 0 (ok := fun _ => True) (okp := fun _ => True) rfl (fun _ hk => hk) trivial (of_decide_eq_true (by first | (with_reducible assumption) | assumption)) (Nat.le_trans (Nat.mul_le_mul_right _ (of_decide_eq_true (by first | (with_reducible assumption) | assumption) : t444.toNat ≤ 35184372088832)) (by omega)) (Below.refl _ _) (Nat.le_refl _) ?_; intro v446 w22 ho23 hb hg_ hnew_; clear hg_ hnew_; (first | rw [← Ny445.out] at ho23 | (simp only [Int.reduceToNat] at ho23; rw [← Ny445.out] at ho23)); have n0_ := aa (Kd.R_elder' (by (with_reducible repeat (first | apply Kd.R_alloc | apply Kd.R_drewN | apply Kd.R_drew)); exact HO440.out) (Kd.R_base ho23) hb); have n1_ := aa (Kd.R_lower (Kd.R_new' ho23 (Kd.R_lt (by (with_reducible repeat (first | apply Kd.R_alloc | apply Kd.R_drewN | apply Kd.R_drew)); exact HO440.out))) (below_size iHS)); have n2_ := aa (blk_below (g := gb425) (o := .cells #[.int .i64 0, .int .i64 0] 27 (0, 0)) (iBK BK425.out) hb); have n3_ := aa (IsS81.below iHI hb); have n4_ := aa (blk_below (g := gb434) (o := .cells #[.int .i64 t430, .int .i64 t431] 27 (0, 0)) (iBK BK434.out) hb); have n5_ := aa (below_step iHS hb); clear HO440; clear BK425; clear HI429; clear BK434; clear HB; have HO440 := n0_; have HO447 := n1_; have BK425 := n2_; have HI429 := n3_; have BK434 := n4_; have HB := n5_; clear n0_ n1_ n2_ n3_ n4_ n5_; clear hb ho23))
        go_loopg [7] k (fun kq v7 w' => ∃ (x6_1 : List Int) (x7_1 : Int) (x430001_1 : Int) (x430002_1 : Int), v7 = .int .i64 x7_1 ∧ Aside0 (spec_l03Bent.l0 kq t441 x6_1 x7_1 t426 x430001_1 x430002_1 = some (r1, r2)) ∧ Aside0 (kq ≤ k) ∧ Aside0 (Kd.R (Kd.int .i64) 2 w' w.heap.size (fun _ => True) v446 x6_1) ∧ Aside0 (w'.heap[gb425]? = some (.cells #[.int .i64 0, .int .i64 0] 27 (0, 0))) ∧ Aside0 (w'.heap[gb434]? = some (.cells #[.int .i64 t430, .int .i64 t431] 27 (0, 0))) ∧ Aside0 (IsS81 w w' g429 t426 x430001_1 x430002_1) ∧ Aside0 (Below w.heap.size w w'))
        case atStart => exact ⟨(y445), (0), (t442), (t443), (by first | rfl | (simp; done) | (simp [*]; done)), H', ⟨Nat.le_refl _⟩, ⟨by (with_reducible repeat (first | apply Kd.R_alloc | apply Kd.R_drewN | apply Kd.R_drew)); exact Kd.R_mono HO447.out (fun _ hk => trivial)⟩, ⟨iBK BK425.out⟩, ⟨iBK BK434.out⟩, ⟨iHI⟩, ⟨iHS⟩⟩
        case round =>
          clear H'
          try clear c1
          try clear p2
          try clear c5
          try clear c5b0
          try clear c5b1
          try clear c6
          try clear c8
          try clear c8b0
          try clear c8b1
          try clear c9
          try clear c9b0
          try clear c9b1
          try clear c11
          try clear c14
          try clear c15
          try clear hcz16_0
          try clear hcz16_1
          try clear hfz16_0
          try clear hfz16_1
          obtain ⟨x6_1, x7_1, x430001_1, x430002_1, rfl, HA, HK1, HO_6, BK425, BK434, HI429, HB⟩ := hrel
          cases gk with
          | zero => exact absurd HA.out (by simp [spec_l03Bent.l0])
          | succ k1 =>
            have H := HA.out
            clear HA
            simp only [spec_l03Bent.l0] at H
            by_cases c24 : x7_1 < t441
            · rw [if_pos c24] at H
              have c24b0 : decide (x7_1 < t441) = true := decide_eq_true c24
              clear c24
              obtain ⟨ji25, hji25⟩ : ∃ j_ : Int, (IntKind.u64.wrap (x7_1)) = j_ := ⟨_, rfl⟩
              replace H : (if 0 ≤ (ji25) then ((spec_l01Next.f t426 x430001_1 x430002_1 2).bind fun bt448 => (if 0 ≤ (shl .i64 1 (ji25)) then (if (shl .i64 1 (ji25)) < (x6_1.length : Int) then (spec_l03Bent.l0 k1 t441 (x6_1.set ((shl .i64 1 (ji25)) : Int).toNat bt448.1) (wrap64 (x7_1 + 1)) t426 bt448.2.1 bt448.2.2) else (none)) else (none))) else (none)) = some (r1, r2) := by first | (rw [hji25] at H; exact H) | (simp only [hji25] at H ⊢; exact H)
              by_cases c26 : 0 ≤ (ji25)
              · rw [if_pos c26] at H
                have c26b0 := eq_true c26
                have c26b1 : decide (0 ≤ (ji25)) = true := decide_eq_true c26
                clear c26
                obtain ⟨ji27, hji27⟩ : ∃ j_ : Int, (shl .i64 1 (ji25)) = j_ := ⟨_, rfl⟩
                replace H : ((spec_l01Next.f t426 x430001_1 x430002_1 2).bind fun bt448 => (if 0 ≤ (ji27) then (if (ji27) < (x6_1.length : Int) then (spec_l03Bent.l0 k1 t441 (x6_1.set ((ji27) : Int).toNat bt448.1) (wrap64 (x7_1 + 1)) t426 bt448.2.1 bt448.2.2) else (none)) else (none))) = some (r1, r2) := by first | (rw [hji27] at H; exact H) | (simp only [hji27] at H ⊢; exact H)
                have hji27_ : (IntKind.i64.wrap (1 * 2 ^ min (ji25).toNat 64)) = ji27 := hji27
                have hji27z : (ji25) ≤ 64 → (IntKind.i64.wrap (1 * 2 ^ (ji25).toNat)) = ji27 := shl_small hji27
                have hji27u : (IntKind.i64.wrap (2 ^ min (ji25).toNat 64)) = ji27 := by have h_ := hji27_; rw [Int.one_mul] at h_; exact h_
                have hji27v : (ji25) ≤ 64 → (IntKind.i64.wrap (2 ^ (ji25).toNat)) = ji27 := fun hle_ => by have h_ := hji27z hle_; rw [Int.one_mul] at h_; exact h_
                have hji27y : (wrap64 (1 * 2 ^ min (ji25).toNat 64)) = ji27 := (i64_w _).symm.trans hji27_
                have hji27x : (ji25) ≤ 64 → (wrap64 (1 * 2 ^ (ji25).toNat)) = ji27 := fun h_ => (i64_w _).symm.trans (hji27z h_)
                replace H := Option.bind_eq_some_iff.mp H
                obtain ⟨⟨t448, t449, t450⟩, A280, H⟩ := H
                replace H : (if 0 ≤ (ji27) then (if (ji27) < (x6_1.length : Int) then (spec_l03Bent.l0 k1 t441 (x6_1.set ((ji27) : Int).toNat t448) (wrap64 (x7_1 + 1)) t426 t449 t450) else (none)) else (none)) = some (r1, r2) := H
                have A28 := Aside0.mk A280
                clear A280
                by_cases c29 : 0 ≤ (ji27)
                · rw [if_pos c29] at H
                  have c29b0 : decide (0 ≤ (ji27)) = true := decide_eq_true c29
                  clear c29
                  by_cases c30 : (ji27) < (x6_1.length : Int)
                  · rw [if_pos c30] at H
                    have c30b0 : decide ((ji27) < (x6_1.length : Int)) = true := decide_eq_true c30
                    clear c30
                    obtain ⟨y451, hy451⟩ : ∃ y_ : List Int, y_ = (x6_1.set ((ji27) : Int).toNat t448) := ⟨_, rfl⟩
                    replace H : (spec_l03Bent.l0 k1 t441 y451 (wrap64 (x7_1 + 1)) t426 t449 t450) = some (r1, r2) := by first | (rw [hy451]; with_reducible exact H) | (have H2_ := (Option.bind_some _ _).symm.trans H; rw [hy451]; with_reducible exact H2_) | (have H2_ := (Option.bind_some _ _).symm.trans H; with_reducible exact H2_) | with_reducible exact H | (rw [hy451]; exact H) | exact H
                    have Ny451 := Aside0.mk hy451
                    clear hy451
                    have H' := Aside0.mk H
                    clear H
                    go_wp2_with (first | ((with_reducible refine gate_callee (f := 118) rfl ?_); refine goesL_ (some 31) rfl rfl Try.func118 (by kernel_rfl) rfl #[.pointer (some ⟨g429, 0, none⟩), .int .i64 2] rfl iAR ?_; (with_reducible refine (spec_l01Next.calls g429 t426 x430001_1 x430002_1 2 t448 t449 t450 w _ ?side1 ?side2 A28.out).mono ?_); (case side1 => exact iHI); (case side2 => exact iHS); rintro e w32 ⟨rfl, hi, hb, hk⟩; refine ⟨_, rfl, ?_⟩; have n0_ := aa (Kd.R_mono (Kd.R_keep (IsS81.apart (show IsS81 w _ g429 t426 x430001_1 x430002_1 from iHI) (by (with_reducible repeat (first | apply Kd.R_alloc | apply Kd.R_drewN | apply Kd.R_drew)); exact HO_6.out) (by decide)) hk (fun _ h => h.2)) (fun _ h => h.1)); have n1_ := aa (KeepBut.blk hk (g' := gb425) (o := .cells #[.int .i64 0, .int .i64 0] 27 (0, 0)) (iBK BK425.out) NB425_429.out (by simp)); have n2_ := aa (KeepBut.blk hk (g' := gb434) (o := .cells #[.int .i64 t430, .int .i64 t431] 27 (0, 0)) (iBK BK434.out) NB434_429.out (by simp)); have n3_ := aa (hb); have n4_ := aa (hi); clear HO_6; clear BK425; clear BK434; clear HB; clear HI429; have HO_6 := n0_; have BK425 := n1_; have BK434 := n2_; have HB := n3_; have HI429 := n4_; clear n0_ n1_ n2_ n3_ n4_; (try clear hb); (try clear hb2); (try clear hk); (try clear hi); have p31 : 0 ≤ ((ji27) : Int) := of_decide_eq_true (by first | (with_reducible assumption) | assumption); have q31 : ((ji27) : Int) < ((x6_1.length : Int) : Int) := of_decide_eq_true (by first | (with_reducible assumption) | assumption); obtain ⟨go31, co31, eo31, gb31, gl31, cl31, HG31⟩ := Kd.R_form HO_6.out (by omega); (first | cases eo31 | (injection eo31 with ea_ en_ ec_; (first | subst ea_ | (injection ea_ with ea_; subst ea_)); subst ec_; clear en_)); have GB31 := Aside0.mk gb31; have GG31 := Aside0.mk HG31; clear gb31 gl31 HG31; obtain ⟨hx31_0, hf31_0⟩ := Kd.R_celln 0 HO_6.out ((ji27) : Int) p31 q31; replace p31 := eq_true p31; replace q31 := eq_true q31; obtain ⟨hy33_, hz33_⟩ := Kd.R_celln 0 HO_6.out ((ji27) : Int) (of_decide_eq_true (by first | (with_reducible assumption) | assumption)) (of_decide_eq_true (by first | (with_reducible assumption) | assumption)); have HP33 := Kd.R_putg HO_6.out ((ji27) : Int) t448) | ((with_reducible refine gate_store (t := 2) (p := 32) rfl ?_); refine store_event (t := 2) (p := 32) (v := ?vo_w34) (w1 := (w32.setCell ⟨go31, ((ji27) : Int).toNat, none⟩ (.int .i64 t448))) ?hg ?ho ?hn ?hr ?_; (case ho => rfl); (case hg => rfl); (case hn => rfl); (case hr => first | (go_simp; done) | (go_simp; rfl)); intro w34 hw; have hg : w32.grownBy w34 (some go31) := (by rw [hw]; exact HP33.2); have hp_ : Kd.R (Kd.int .i64) 2 w34 w.heap.size (fun _ => True) (.slice (some ⟨go31, 0, none⟩) x6_1.length co31) y451 := (by rw [hw, Ny451.out]; exact HP33.1); clear HP33; have n0_ := aa (hp_); have n1_ := aa (blk_grown (g := gb425) (o := .cells #[.int .i64 0, .int .i64 0] 27 (0, 0)) (iBK BK425.out) hg (Kd.R_ne HO_6.out BK425.out (by decide))); have n2_ := aa (blk_grown (g := gb434) (o := .cells #[.int .i64 t430, .int .i64 t431] 27 (0, 0)) (iBK BK434.out) hg (Kd.R_ne HO_6.out BK434.out (by decide))); have n3_ := aa (IsS81.grown iHI hg (IsS81.own_ne HI429.out HO_6.out (by decide))); have n4_ := aa ((by rw [hw]; exact below_set (HB.out) GB31.out : Below w.heap.size w w34)); clear HO_6; clear BK425; clear BK434; clear HI429; clear HB; have HO_6 := n0_; have BK425 := n1_; have BK434 := n2_; have HI429 := n3_; have HB := n4_; clear n0_ n1_ n2_ n3_ n4_; clear hg hw hp_))
                    go_roundg k1
                    case measure => have := HK1.out; omega
                    case rel => exact ⟨(y451), (wrap64 (x7_1 + 1)), (t449), (t450), (by first | rfl | (simp; done) | (simp [*]; done)), H', ⟨by have := HK1.out; omega⟩, ⟨by (with_reducible repeat (first | apply Kd.R_alloc | apply Kd.R_drewN | apply Kd.R_drew)); exact HO_6.out⟩, ⟨iBK BK425.out⟩, ⟨iBK BK434.out⟩, ⟨iHI⟩, ⟨iHS⟩⟩
                  · rw [if_neg c30] at H
                    exact absurd H (by simp)
                · rw [if_neg c29] at H
                  exact absurd H (by simp)
              · rw [if_neg c26] at H
                exact absurd H (by simp)
            · rw [if_neg c24] at H
              have c24b0 : decide (x7_1 < t441) = false := decide_eq_false c24
              clear c24
              replace H := Option.bind_eq_some_iff.mp H
              obtain ⟨⟨t452, t453, t454⟩, A350, H⟩ := H
              replace H : (if 0 < (x6_1.length : Int) then (if 3 < (x6_1.length : Int) then ((some ((x6_1.set (0 : Int).toNat t452).set (3 : Int).toNat 1 : List Int)).bind fun y456 => (if t441 = 4 then (if 12 < (x6_1.length : Int) then (spec_l03Bent.j1 k1 t441 (y456.set (12 : Int).toNat 1) t426 t453 t454) else (none)) else (spec_l03Bent.j1 k1 t441 y456 t426 t453 t454))) else (none)) else (none)) = some (r1, r2) := H
              have A35 := Aside0.mk A350
              clear A350
              by_cases c36 : 0 < (x6_1.length : Int)
              · rw [if_pos c36] at H
                have c36b0 : decide (0 < (x6_1.length : Int)) = true := decide_eq_true c36
                have c36b1 : decide (0 < x6_1.length) = true := decide_eq_true (by omega)
                clear c36
                obtain ⟨y455, hy455⟩ : ∃ y_ : List Int, y_ = (x6_1.set (0 : Int).toNat t452) := ⟨_, rfl⟩
                replace H : (if 3 < (x6_1.length : Int) then ((some (y455.set (3 : Int).toNat 1 : List Int)).bind fun y456 => (if t441 = 4 then (if 12 < (x6_1.length : Int) then (spec_l03Bent.j1 k1 t441 (y456.set (12 : Int).toNat 1) t426 t453 t454) else (none)) else (spec_l03Bent.j1 k1 t441 y456 t426 t453 t454))) else (none)) = some (r1, r2) := by first | (rw [hy455]; with_reducible exact H) | (have H2_ := (Option.bind_some _ _).symm.trans H; rw [hy455]; with_reducible exact H2_) | (have H2_ := (Option.bind_some _ _).symm.trans H; with_reducible exact H2_) | with_reducible exact H | (rw [hy455]; exact H) | exact H
                have Ny455 := Aside0.mk hy455
                clear hy455
                by_cases c38 : 3 < (x6_1.length : Int)
                · rw [if_pos c38] at H
                  have c38b0 : decide (3 < (x6_1.length : Int)) = true := decide_eq_true c38
                  have c38b1 : decide (3 < x6_1.length) = true := decide_eq_true (by omega)
                  clear c38
                  obtain ⟨y456, hy456⟩ : ∃ y_ : List Int, y_ = (y455.set (3 : Int).toNat 1) := ⟨_, rfl⟩
                  replace H : (if t441 = 4 then (if 12 < (x6_1.length : Int) then (spec_l03Bent.j1 k1 t441 (y456.set (12 : Int).toNat 1) t426 t453 t454) else (none)) else (spec_l03Bent.j1 k1 t441 y456 t426 t453 t454)) = some (r1, r2) := by first | (rw [hy456]; with_reducible exact H) | (have H2_ := (Option.bind_some _ _).symm.trans H; rw [hy456]; with_reducible exact H2_) | (have H2_ := (Option.bind_some _ _).symm.trans H; with_reducible exact H2_) | with_reducible exact H | (rw [hy456]; exact H) | exact H
                  have Ny456 := Aside0.mk hy456
                  clear hy456
                  have HC40 := Aside0.mk H
                  clear H
                  go_upto_if 40 with (first | ((with_reducible refine gate_callee (f := 118) rfl ?_); refine goesL_ (some 35) rfl rfl Try.func118 (by kernel_rfl) rfl #[.pointer (some ⟨g429, 0, none⟩), .int .i64 2] rfl iAR ?_; (with_reducible refine (spec_l01Next.calls g429 t426 x430001_1 x430002_1 2 t452 t453 t454 w _ ?side1 ?side2 A35.out).mono ?_); (case side1 => exact iHI); (case side2 => exact iHS); rintro e w41 ⟨rfl, hi, hb, hk⟩; refine ⟨_, rfl, ?_⟩; have n0_ := aa (Kd.R_mono (Kd.R_keep (IsS81.apart (show IsS81 w _ g429 t426 x430001_1 x430002_1 from iHI) (by (with_reducible repeat (first | apply Kd.R_alloc | apply Kd.R_drewN | apply Kd.R_drew)); exact HO_6.out) (by decide)) hk (fun _ h => h.2)) (fun _ h => h.1)); have n1_ := aa (KeepBut.blk hk (g' := gb425) (o := .cells #[.int .i64 0, .int .i64 0] 27 (0, 0)) (iBK BK425.out) NB425_429.out (by simp)); have n2_ := aa (KeepBut.blk hk (g' := gb434) (o := .cells #[.int .i64 t430, .int .i64 t431] 27 (0, 0)) (iBK BK434.out) NB434_429.out (by simp)); have n3_ := aa (hb); have n4_ := aa (hi); clear HO_6; clear BK425; clear BK434; clear HB; clear HI429; have HO_6 := n0_; have BK425 := n1_; have BK434 := n2_; have HB := n3_; have HI429 := n4_; clear n0_ n1_ n2_ n3_ n4_; (try clear hb); (try clear hb2); (try clear hk); (try clear hi); have p37 : 0 ≤ (0 : Int) := (by omega); have q37 : (0 : Int) < ((x6_1.length : Int) : Int) := of_decide_eq_true (by first | (with_reducible assumption) | assumption); have qi37 : (0 < x6_1.length) = True := eq_true (by omega); obtain ⟨go37, co37, eo37, gb37, gl37, cl37, HG37⟩ := Kd.R_form HO_6.out (by omega); (first | cases eo37 | (injection eo37 with ea_ en_ ec_; (first | subst ea_ | (injection ea_ with ea_; subst ea_)); subst ec_; clear en_)); have GB37 := Aside0.mk gb37; have GG37 := Aside0.mk HG37; clear gb37 gl37 HG37; obtain ⟨hx37_0, hf37_0⟩ := Kd.R_celln 0 HO_6.out (0 : Int) p37 q37; (try rw [show ((0 : Int)).toNat = 0 from rfl] at hx37_0); (try simp only [Nat.reduceMul, Nat.zero_mul, Nat.zero_add, Nat.reduceAdd] at hx37_0); (try rw [show ((0 : Int)).toNat = 0 from rfl] at hf37_0); (try simp only [Nat.reduceMul, Nat.zero_mul, Nat.zero_add, Nat.reduceAdd] at hf37_0); replace p37 := eq_true p37; replace q37 := eq_true q37; obtain ⟨hy42_, hz42_⟩ := Kd.R_celln 0 HO_6.out (0 : Int) (by omega) (of_decide_eq_true (by first | (with_reducible assumption) | assumption)); (try simp only [Int.reduceToNat, Int.toNat_zero, Int.toNat_ofNat, Nat.reduceMul, Nat.zero_mul, Nat.zero_add] at hy42_ hz42_); (try rw [show ((0 : Int)).toNat = 0 from rfl] at hy42_); (try rw [show ((0 : Int)).toNat = 0 from rfl] at hz42_); have HP42 := Kd.R_putg HO_6.out (0 : Int) t452) | ((with_reducible refine gate_store (t := 2) (p := 36) rfl ?_); refine store_event (t := 2) (p := 36) (v := ?vo_w43) (w1 := (w41.setCell ⟨go37, (0 : Int).toNat, none⟩ (.int .i64 t452))) ?hg ?ho ?hn ?hr ?_; (case ho => rfl); (case hg => rfl); (case hn => rfl); (case hr => first | (go_simp; done) | (go_simp; rfl)); intro w43 hw; have hg : w41.grownBy w43 (some go37) := (by rw [hw]; exact HP42.2); have hp_ : Kd.R (Kd.int .i64) 2 w43 w.heap.size (fun _ => True) (.slice (some ⟨go37, 0, none⟩) x6_1.length co37) y455 := (by rw [hw, Ny455.out]; exact HP42.1); clear HP42; have n0_ := aa (hp_); have n1_ := aa (blk_grown (g := gb425) (o := .cells #[.int .i64 0, .int .i64 0] 27 (0, 0)) (iBK BK425.out) hg (Kd.R_ne HO_6.out BK425.out (by decide))); have n2_ := aa (blk_grown (g := gb434) (o := .cells #[.int .i64 t430, .int .i64 t431] 27 (0, 0)) (iBK BK434.out) hg (Kd.R_ne HO_6.out BK434.out (by decide))); have n3_ := aa (IsS81.grown iHI hg (IsS81.own_ne HI429.out HO_6.out (by decide))); have n4_ := aa ((by rw [hw]; exact below_set (HB.out) GB37.out : Below w.heap.size w w43)); clear HO_6; clear BK425; clear BK434; clear HI429; clear HB; have HO_6 := n0_; have BK425 := n1_; have BK434 := n2_; have HI429 := n3_; have HB := n4_; clear n0_ n1_ n2_ n3_ n4_; clear hg hw hp_; have p39 : 0 ≤ (3 : Int) := (by omega); have q39 : (3 : Int) < ((x6_1.length : Int) : Int) := of_decide_eq_true (by first | (with_reducible assumption) | assumption); have qi39 : (3 < x6_1.length) = True := eq_true (by omega); obtain ⟨hx39_0, hf39_0⟩ := Kd.R_celln 0 HO_6.out (3 : Int) p39 q39; (try rw [show ((3 : Int)).toNat = 3 from rfl] at hx39_0); (try simp only [Nat.reduceMul, Nat.zero_mul, Nat.zero_add, Nat.reduceAdd] at hx39_0); (try rw [show ((3 : Int)).toNat = 3 from rfl] at hf39_0); (try simp only [Nat.reduceMul, Nat.zero_mul, Nat.zero_add, Nat.reduceAdd] at hf39_0); replace p39 := eq_true p39; replace q39 := eq_true q39; obtain ⟨hy44_, hz44_⟩ := Kd.R_celln 0 HO_6.out (3 : Int) (by omega) (of_decide_eq_true (by first | (with_reducible assumption) | assumption)); (try simp only [Int.reduceToNat, Int.toNat_zero, Int.toNat_ofNat, Nat.reduceMul, Nat.zero_mul, Nat.zero_add] at hy44_ hz44_); (try rw [show ((3 : Int)).toNat = 3 from rfl] at hy44_); (try rw [show ((3 : Int)).toNat = 3 from rfl] at hz44_); have HP44 := Kd.R_putg HO_6.out (3 : Int) 1) | ((with_reducible refine gate_store (t := 2) (p := 38) rfl ?_); refine store_event (t := 2) (p := 38) (v := ?vo_w45) (w1 := (w43.setCell ⟨go37, (3 : Int).toNat, none⟩ (.int .i64 1))) ?hg ?ho ?hn ?hr ?_; (case ho => rfl); (case hg => rfl); (case hn => rfl); (case hr => first | (go_simp; done) | (go_simp; rfl)); intro w45 hw; have hg : w43.grownBy w45 (some go37) := (by rw [hw]; exact HP44.2); have hp_ : Kd.R (Kd.int .i64) 2 w45 w.heap.size (fun _ => True) (.slice (some ⟨go37, 0, none⟩) x6_1.length co37) y456 := (by rw [hw, Ny456.out]; exact HP44.1); clear HP44; have n0_ := aa (hp_); have n1_ := aa (blk_grown (g := gb425) (o := .cells #[.int .i64 0, .int .i64 0] 27 (0, 0)) (iBK BK425.out) hg (Kd.R_ne HO_6.out BK425.out (by decide))); have n2_ := aa (blk_grown (g := gb434) (o := .cells #[.int .i64 t430, .int .i64 t431] 27 (0, 0)) (iBK BK434.out) hg (Kd.R_ne HO_6.out BK434.out (by decide))); have n3_ := aa (IsS81.grown iHI hg (IsS81.own_ne HI429.out HO_6.out (by decide))); have n4_ := aa ((by rw [hw]; exact below_set (HB.out) GB37.out : Below w.heap.size w w45)); clear HO_6; clear BK425; clear BK434; clear HI429; clear HB; have HO_6 := n0_; have BK425 := n1_; have BK434 := n2_; have HI429 := n3_; have HB := n4_; clear n0_ n1_ n2_ n3_ n4_; clear hg hw hp_))
                  (try simp only [Act.put, List.setIfInBounds_toArray, List.set_cons_zero, List.set_cons_succ])
                  go_cut [] (fun wc => ∃ (kq : Nat) (x6_39 : List Int), Aside0 (spec_l03Bent.j1 kq t441 x6_39 t426 t453 t454 = some (r1, r2)) ∧ Aside0 (kq ≤ k1) ∧ Aside0 (Kd.R (Kd.int .i64) 2 wc w.heap.size (fun _ => True) (.slice (some ⟨go37, 0, none⟩) x6_1.length co37) x6_39) ∧ Aside0 (wc.heap[gb425]? = some (.cells #[.int .i64 0, .int .i64 0] 27 (0, 0))) ∧ Aside0 (wc.heap[gb434]? = some (.cells #[.int .i64 t430, .int .i64 t431] 27 (0, 0))) ∧ Aside0 (IsS81 w wc g429 t426 t453 t454) ∧ Aside0 (Below w.heap.size w wc))
                  case first =>
                    have H := HC40.out
                    clear HC40
                    by_cases c46 : t441 = 4
                    · rw [if_pos c46] at H
                      have c46b0 : (t441 == 4) = true := beq_iff_eq.mpr c46
                      have c46b1 : (t441 != 4) = false := bne_eq_false_iff_eq.mpr c46
                      clear c46
                      (first | rw [c46b0] | (simp only [i64_w, i32_w]; rw [c46b0]) | skip)
                      by_cases c47 : 12 < (x6_1.length : Int)
                      · rw [if_pos c47] at H
                        have c47b0 : decide (12 < (x6_1.length : Int)) = true := decide_eq_true c47
                        have c47b1 : decide (12 < x6_1.length) = true := decide_eq_true (by omega)
                        clear c47
                        obtain ⟨y457, hy457⟩ : ∃ y_ : List Int, y_ = (y456.set (12 : Int).toNat 1) := ⟨_, rfl⟩
                        replace H : (spec_l03Bent.j1 k1 t441 y457 t426 t453 t454) = some (r1, r2) := by first | (rw [hy457]; with_reducible exact H) | (have H2_ := (Option.bind_some _ _).symm.trans H; rw [hy457]; with_reducible exact H2_) | (have H2_ := (Option.bind_some _ _).symm.trans H; with_reducible exact H2_) | with_reducible exact H | (rw [hy457]; exact H) | exact H
                        have Ny457 := Aside0.mk hy457
                        clear hy457
                        have H' := Aside0.mk H
                        clear H
                        have p48 : 0 ≤ (12 : Int) := (by omega)
                        have q48 : (12 : Int) < ((x6_1.length : Int) : Int) := of_decide_eq_true (by first | (with_reducible assumption) | assumption)
                        have qi48 : (12 < x6_1.length) = True := eq_true (by omega)
                        obtain ⟨hx48_0, hf48_0⟩ := Kd.R_celln 0 HO_6.out (12 : Int) p48 q48
                        (try rw [show ((12 : Int)).toNat = 12 from rfl] at hx48_0)
                        (try simp only [Nat.reduceMul, Nat.zero_mul, Nat.zero_add, Nat.reduceAdd] at hx48_0)
                        (try rw [show ((12 : Int)).toNat = 12 from rfl] at hf48_0)
                        (try simp only [Nat.reduceMul, Nat.zero_mul, Nat.zero_add, Nat.reduceAdd] at hf48_0)
                        replace p48 := eq_true p48
                        replace q48 := eq_true q48
                        have HP49 := Kd.R_putg HO_6.out (12 : Int) 1
                        go_wp2_with (first | ((with_reducible refine gate_store (t := 2) (p := 42) rfl ?_); refine store_event (t := 2) (p := 42) (v := ?vo_w50) (w1 := (w45.setCell ⟨go37, (12 : Int).toNat, none⟩ (.int .i64 1))) ?hg ?ho ?hn ?hr ?_; (case ho => rfl); (case hg => rfl); (case hn => rfl); (case hr => first | (go_simp; done) | (go_simp; rfl)); intro w50 hw; have hg : w45.grownBy w50 (some go37) := (by rw [hw]; exact HP49.2); have hp_ : Kd.R (Kd.int .i64) 2 w50 w.heap.size (fun _ => True) (.slice (some ⟨go37, 0, none⟩) x6_1.length co37) y457 := (by rw [hw, Ny457.out]; exact HP49.1); clear HP49; have n0_ := aa (hp_); have n1_ := aa (blk_grown (g := gb425) (o := .cells #[.int .i64 0, .int .i64 0] 27 (0, 0)) (iBK BK425.out) hg (Kd.R_ne HO_6.out BK425.out (by decide))); have n2_ := aa (blk_grown (g := gb434) (o := .cells #[.int .i64 t430, .int .i64 t431] 27 (0, 0)) (iBK BK434.out) hg (Kd.R_ne HO_6.out BK434.out (by decide))); have n3_ := aa (IsS81.grown iHI hg (IsS81.own_ne HI429.out HO_6.out (by decide))); have n4_ := aa ((by rw [hw]; exact below_set (HB.out) GB37.out : Below w.heap.size w w50)); clear HO_6; clear BK425; clear BK434; clear HI429; clear HB; have HO_6 := n0_; have BK425 := n1_; have BK434 := n2_; have HI429 := n3_; have HB := n4_; clear n0_ n1_ n2_ n3_ n4_; clear hg hw hp_))
                        go_meet
                        case rel => exact ⟨_, (y457), H', ⟨by have := HK1.out; first | omega | exact Nat.le_refl _⟩, ⟨by (with_reducible repeat (first | apply Kd.R_alloc | apply Kd.R_drewN | apply Kd.R_drew)); exact HO_6.out⟩, ⟨iBK BK425.out⟩, ⟨iBK BK434.out⟩, ⟨iHI⟩, ⟨iHS⟩⟩
                      · rw [if_neg c47] at H
                        exact absurd H (by simp)
                    · rw [if_neg c46] at H
                      have c46b0 : (t441 == 4) = false := beq_eq_false_iff_ne.mpr c46
                      have c46b1 : (t441 != 4) = true := bne_iff_ne.mpr c46
                      (first | rw [c46b0] | (simp only [i64_w, i32_w]; rw [c46b0]) | skip)
                      have H' := Aside0.mk H
                      clear H
                      go_wp2
                      go_meet
                      case rel => exact ⟨_, (y456), H', ⟨by have := HK1.out; first | omega | exact Nat.le_refl _⟩, ⟨by (with_reducible repeat (first | apply Kd.R_alloc | apply Kd.R_drewN | apply Kd.R_drew)); exact HO_6.out⟩, ⟨iBK BK425.out⟩, ⟨iBK BK434.out⟩, ⟨iHI⟩, ⟨iHS⟩⟩
                  case rest =>
                    clear HC40
                    try clear c1
                    try clear c2
                    try clear p2
                    try clear c3
                    try clear p3
                    try clear q3
                    try clear hx3
                    try clear qi3
                    try clear hf3
                    try clear c4
                    try clear p4
                    try clear q4
                    try clear hx4
                    try clear qi4
                    try clear hf4
                    try clear c5
                    try clear c5b0
                    try clear c5b1
                    try clear c6
                    try clear p6
                    try clear c8
                    try clear c8b0
                    try clear c8b1
                    try clear c9
                    try clear c9b0
                    try clear c9b1
                    try clear c11
                    try clear c14
                    try clear c15
                    try clear c24
                    try clear c24b0
                    try clear c26
                    try clear c26b0
                    try clear c26b1
                    try clear c29
                    try clear c29b0
                    try clear c30
                    try clear c30b0
                    try clear p31
                    try clear q31
                    try clear hx31
                    try clear hf31
                    try clear c36
                    try clear c36b0
                    try clear c36b1
                    try clear p37
                    try clear q37
                    try clear hx37
                    try clear qi37
                    try clear hf37
                    try clear c38
                    try clear c38b0
                    try clear c38b1
                    try clear p39
                    try clear q39
                    try clear hx39
                    try clear qi39
                    try clear hf39
                    try clear c46
                    try clear c46b0
                    try clear c46b1
                    try clear c47
                    try clear c47b0
                    try clear c47b1
                    try clear p48
                    try clear q48
                    try clear hx48
                    try clear qi48
                    try clear hf48
                    try clear hcz16_0
                    try clear hcz16_1
                    try clear hfz16_0
                    try clear hfz16_1
                    try clear hx31_0
                    try clear hx37_0
                    try clear hx39_0
                    try clear hx48_0
                    try clear p2
                    try clear p31
                    try clear p37
                    try clear p39
                    try clear p48
                    try clear q31
                    try clear q37
                    try clear q39
                    try clear q48
                    obtain ⟨kq, x6_39, HA, HJ39, HO_6, BK425, BK434, HI429, HB⟩ := hcut
                    have hl6_39 := (Kd.R_reads' HO_6.out).1
                    rw [hl6_39] at HO_6
                    (try simp only [hl6_39])
                    (try simp only [hl6_39] at BK425)
                    (try simp only [hl6_39] at BK434)
                    cases kq with
                    | zero => exact absurd HA.out (by simp [spec_l03Bent.j1])
                    | succ kj39 =>
                      have H := HA.out
                      clear HA
                      simp only [spec_l03Bent.j1] at H
                      replace H := Option.bind_eq_some_iff.mp H
                      obtain ⟨t458, A510, H⟩ := H
                      replace H : ((spec_l01Of.f kj39 t441 t458).bind fun bt461 => ((spec_l01DrawOrder.f kj39 t426 t453 t454 t441).bind fun bt463 => ((spec_l01Permute.f kj39 bt461.1 bt461.2 bt463.1).bind fun bt468 => (some (bt468.1, bt468.2))))) = some (r1, r2) := H
                      have A51 := Aside0.mk A510
                      clear A510
                      replace H := Option.bind_eq_some_iff.mp H
                      obtain ⟨⟨t461, t462⟩, A520, H⟩ := H
                      replace H : ((spec_l01DrawOrder.f kj39 t426 t453 t454 t441).bind fun bt463 => ((spec_l01Permute.f kj39 t461 t462 bt463.1).bind fun bt468 => (some (bt468.1, bt468.2)))) = some (r1, r2) := H
                      have A52 := Aside0.mk A520
                      clear A520
                      replace H := Option.bind_eq_some_iff.mp H
                      obtain ⟨⟨t463, t466, t467⟩, A530, H⟩ := H
                      replace H : ((spec_l01Permute.f kj39 t461 t462 t463).bind fun bt468 => (some (bt468.1, bt468.2))) = some (r1, r2) := H
                      have A53 := Aside0.mk A530
                      clear A530
                      replace H := Option.bind_eq_some_iff.mp H
                      obtain ⟨⟨t468, t469⟩, A540, H⟩ := H
                      replace H : (some (t468, t469)) = some (r1, r2) := H
                      have A54 := Aside0.mk A540
                      clear A540
                      simp only [Option.some.injEq, Prod.mk.injEq] at H
                      obtain ⟨rfl, rfl⟩ := H
                      go_wp2_with (first | ((with_reducible refine gate_callee (f := 87) rfl ?_); refine goesL_ (some 45) rfl rfl Try.func87 (by kernel_rfl) rfl #[.slice (some ⟨go37, 0, none⟩) x6_39.length co37] rfl iAR ?_; (with_reducible refine (spec_l03Sums.calls kj39 _ _ x6_39 t458 _ ?side1 ?side2 A51.out).mono ?_); (case side1 => repeat (first | exact (Kd.R_reads' HO_6.out).2.2 | (with_reducible refine Kd.C_alloc ?_ _) | (with_reducible refine Kd.C_drewN ?_ _) | (with_reducible refine Kd.C_drew ?_))); (case side2 => exact (Kd.R_reads' HO_6.out).2.1); rintro e w55 ⟨v459, rfl, ho0, hb⟩; refine ⟨_, rfl, ?_⟩; have n0_ := aa (Kd.R_elder' (by (with_reducible repeat (first | apply Kd.R_alloc | apply Kd.R_drewN | apply Kd.R_drew)); exact HO_6.out) (Kd.R_base ho0) hb); have n1_ := aa (Kd.R_lower (Kd.R_new' ho0 (Kd.R_lt (by (with_reducible repeat (first | apply Kd.R_alloc | apply Kd.R_drewN | apply Kd.R_drew)); exact HO_6.out))) (below_size iHS)); have n2_ := aa (blk_below (g := gb425) (o := .cells #[.int .i64 0, .int .i64 0] 27 (0, 0)) (iBK BK425.out) hb); have n3_ := aa (blk_below (g := gb434) (o := .cells #[.int .i64 t430, .int .i64 t431] 27 (0, 0)) (iBK BK434.out) hb); have n4_ := aa (IsS81.below iHI hb); have n5_ := aa (below_step iHS hb); clear HO_6; clear BK425; clear BK434; clear HI429; clear HB; have HO_6 := n0_; have HO460 := n1_; have BK425 := n2_; have BK434 := n3_; have HI429 := n4_; have HB := n5_; clear n0_ n1_ n2_ n3_ n4_ n5_; (try clear hb); (try clear hb2); (try clear hk); (try clear hi); (try clear ho0); obtain ⟨Ao56, co56, eo56⟩ := Kd.R_slice HO460.out; subst eo56) | ((with_reducible refine gate_callee (f := 86) rfl ?_); refine goesL_ (some 46) rfl rfl Try.func86 (by kernel_rfl) rfl #[.int .i64 t441, .slice Ao56 t458.length co56] rfl iAR ?_; (with_reducible refine (spec_l01Of.calls kj39 t441 _ _ t458 t461 t462 _ ?side1 ?side2 A52.out).mono ?_); (case side1 => repeat (first | exact (Kd.R_reads' HO460.out).2.2 | (with_reducible refine Kd.C_alloc ?_ _) | (with_reducible refine Kd.C_drewN ?_ _) | (with_reducible refine Kd.C_drew ?_))); (case side2 => exact (Kd.R_reads' HO460.out).2.1); rintro e w57 ⟨rfl, hb⟩; refine ⟨_, rfl, ?_⟩; have n0_ := aa (Kd.R_below (by (with_reducible repeat (first | apply Kd.R_alloc | apply Kd.R_drewN | apply Kd.R_drew)); exact HO_6.out) hb); have n1_ := aa (Kd.R_below (by (with_reducible repeat (first | apply Kd.R_alloc | apply Kd.R_drewN | apply Kd.R_drew)); exact HO460.out) hb); have n2_ := aa (blk_below (g := gb425) (o := .cells #[.int .i64 0, .int .i64 0] 27 (0, 0)) (iBK BK425.out) hb); have n3_ := aa (blk_below (g := gb434) (o := .cells #[.int .i64 t430, .int .i64 t431] 27 (0, 0)) (iBK BK434.out) hb); have n4_ := aa (IsS81.below iHI hb); have n5_ := aa (below_step iHS hb); clear HO_6; clear HO460; clear BK425; clear BK434; clear HI429; clear HB; have HO_6 := n0_; have HO460 := n1_; have BK425 := n2_; have BK434 := n3_; have HI429 := n4_; have HB := n5_; clear n0_ n1_ n2_ n3_ n4_ n5_; (try clear hb); (try clear hb2); (try clear hk); (try clear hi)) | ((with_reducible refine gate_callee (f := 121) rfl ?_); refine goesL_ (some 49) rfl rfl Try.func121 (by kernel_rfl) rfl #[.pointer (some ⟨g429, 0, none⟩), .int .i64 t441] rfl iAR ?_; (with_reducible refine (spec_l01DrawOrder.calls kj39 g429 t426 t453 t454 t441 t463 t466 t467 w _ ?side1 ?side2 A53.out).mono ?_); (case side1 => exact iHI); (case side2 => exact iHS); rintro e w58 ⟨v464, rfl, ho0, hi, hb, hk⟩; refine ⟨_, rfl, ?_⟩; have n0_ := aa (Kd.R_mono (Kd.R_told (Kd.R_oldK (IsS81.apart (show IsS81 w _ g429 t426 t453 t454 from iHI) (by (with_reducible repeat (first | apply Kd.R_alloc | apply Kd.R_drewN | apply Kd.R_drew)); exact HO_6.out) (by decide)) hk) (Kd.R_base ho0)) (fun _ h_ => h_.1)); have n1_ := aa (KeepBut.blk hk (g' := gb425) (o := .cells #[.int .i64 0, .int .i64 0] 27 (0, 0)) (iBK BK425.out) NB425_429.out (by simp)); have n2_ := aa (KeepBut.blk hk (g' := gb434) (o := .cells #[.int .i64 t430, .int .i64 t431] 27 (0, 0)) (iBK BK434.out) NB434_429.out (by simp)); have n3_ := aa (Kd.R_mono (Kd.R_told (Kd.R_oldK (IsS81.apart (show IsS81 w _ g429 t426 t453 t454 from iHI) (by (with_reducible repeat (first | apply Kd.R_alloc | apply Kd.R_drewN | apply Kd.R_drew)); exact HO460.out) (by decide)) hk) (Kd.R_base ho0)) (fun _ h_ => h_.1)); have n4_ := aa (Kd.R_lower (Kd.R_new' (Kd.R_new' ho0 (Kd.R_lt (by (with_reducible repeat (first | apply Kd.R_alloc | apply Kd.R_drewN | apply Kd.R_drew)); exact HO_6.out))) (Kd.R_lt (by (with_reducible repeat (first | apply Kd.R_alloc | apply Kd.R_drewN | apply Kd.R_drew)); exact HO460.out))) (below_size iHS)); have n5_ := aa (hb); have n6_ := aa (hi); clear HO_6; clear BK425; clear BK434; clear HO460; clear HB; clear HI429; have HO_6 := n0_; have BK425 := n1_; have BK434 := n2_; have HO460 := n3_; have HO465 := n4_; have HB := n5_; have HI429 := n6_; clear n0_ n1_ n2_ n3_ n4_ n5_ n6_; (try clear hb); (try clear hb2); (try clear hk); (try clear hi); (try clear ho0); obtain ⟨Ao59, co59, eo59⟩ := Kd.R_slice HO465.out; subst eo59) | ((with_reducible refine gate_callee (f := 120) rfl ?_); refine goesL_ (some 50) rfl rfl Try.func120 (by kernel_rfl) rfl #[.agg #[.int .i64 t461, .int .i64 t462], .slice Ao59 t463.length co59] rfl iAR ?_; (with_reducible refine (spec_l01Permute.calls kj39 t461 t462 _ _ t463 t468 t469 _ ?side1 ?side2 A54.out).mono ?_); (case side1 => repeat (first | exact (Kd.R_reads' HO465.out).2.2 | (with_reducible refine Kd.C_alloc ?_ _) | (with_reducible refine Kd.C_drewN ?_ _) | (with_reducible refine Kd.C_drew ?_))); (case side2 => exact (Kd.R_reads' HO465.out).2.1); rintro e w60 ⟨rfl, hb⟩; refine ⟨_, rfl, ?_⟩; have n0_ := aa (Kd.R_below (by (with_reducible repeat (first | apply Kd.R_alloc | apply Kd.R_drewN | apply Kd.R_drew)); exact HO_6.out) hb); have n1_ := aa (Kd.R_below (by (with_reducible repeat (first | apply Kd.R_alloc | apply Kd.R_drewN | apply Kd.R_drew)); exact HO460.out) hb); have n2_ := aa (Kd.R_below (by (with_reducible repeat (first | apply Kd.R_alloc | apply Kd.R_drewN | apply Kd.R_drew)); exact HO465.out) hb); have n3_ := aa (blk_below (g := gb425) (o := .cells #[.int .i64 0, .int .i64 0] 27 (0, 0)) (iBK BK425.out) hb); have n4_ := aa (blk_below (g := gb434) (o := .cells #[.int .i64 t430, .int .i64 t431] 27 (0, 0)) (iBK BK434.out) hb); have n5_ := aa (IsS81.below iHI hb); have n6_ := aa (below_step iHS hb); clear HO_6; clear HO460; clear HO465; clear BK425; clear BK434; clear HI429; clear HB; have HO_6 := n0_; have HO460 := n1_; have HO465 := n2_; have BK425 := n3_; have BK434 := n4_; have HI429 := n5_; have HB := n6_; clear n0_ n1_ n2_ n3_ n4_ n5_ n6_; (try clear hb); (try clear hb2); (try clear hk); (try clear hi); have hnb61 := NB434_425.out; have hnc61 := NB425_434.out; have hnb62 := NB434_429.out; have hnc62 := NB429_434.out; have hcz63_0 : w60.cell? ⟨gb434, 0, none⟩ = some (.int .i64 t430) := (blk_cell BK434.out 0).trans rfl; have hcz63_1 : w60.cell? ⟨gb434, 1, none⟩ = some (.int .i64 t431) := (blk_cell BK434.out 1).trans rfl; have hfz63_0 := blk_frozen BK434.out 0; have hfz63_1 := blk_frozen BK434.out 1; have hnb64 := NB425_429.out; have hnc64 := NB429_425.out; have hcz65_0 : w60.cell? ⟨gb425, 0, none⟩ = some (.int .i64 0) := (blk_cell BK425.out 0).trans rfl; have hcz65_1 : w60.cell? ⟨gb425, 1, none⟩ = some (.int .i64 0) := (blk_cell BK425.out 1).trans rfl; have hfz65_0 := blk_frozen BK425.out 0; have hfz65_1 := blk_frozen BK425.out 1))
                      refine bodyPost_ret (results_cell_row rfl _ _ gb425 27 #[.int .i64 t468, .int .i64 t469] (0, 0) _ rfl (by (with_reducible repeat (first | refine blk_drewN ?_ _ | refine blk_drew ?_ | refine blk_alloc ?_ _)); refine blk_put (cs := #[.int .i64 t468, .int .i64 0]) ?_ 1 _ rfl; (with_reducible repeat (first | refine blk_drewN ?_ _ | refine blk_drew ?_ | refine blk_alloc ?_ _)); refine blk_put (cs := #[.int .i64 0, .int .i64 0]) ?_ 0 _ rfl; (with_reducible repeat (first | refine blk_drewN ?_ _ | refine blk_drew ?_ | refine blk_alloc ?_ _)); refine blk_far ?_ NB425_434.out _; (with_reducible repeat (first | refine blk_drewN ?_ _ | refine blk_drew ?_ | refine blk_alloc ?_ _)); refine blk_far ?_ NB425_434.out _; exact iBK BK425.out) Try.underlying27 rfl (by kernel_rfl)) rfl ?_
                      exact ⟨by first | rfl | (simp [errW_none, errW_some] <;> rfl) | (simp [*, errW_none, errW_some] <;> rfl), iHS⟩
                · rw [if_neg c38] at H
                  exact absurd H (by simp)
              · rw [if_neg c36] at H
                exact absurd H (by simp)
      · rw [if_neg c9] at H
        exact absurd H (by simp)
    · rw [if_neg c8] at H
      exact absurd H (by simp)
  · rw [if_neg c5] at H
    have c5b0 : (t435 == 0) = false := beq_eq_false_iff_ne.mpr c5
    have c5b1 : (t435 != 0) = true := bne_iff_ne.mpr c5
    simp only [Option.some.injEq, Prod.mk.injEq] at H
    obtain ⟨rfl, rfl⟩ := H
    go_enter Try.func93, Try.ntmps93
    go_wp2_with (first | ((with_reducible refine gate_dst (N := 2) rfl ?_); refine box_event ?hg (N := 2) ?hd (cs := #[.int .i64 0, .int .i64 0]) (t := 27) ?hr ?_; (case hd => rfl); (case hg => rfl); (case hr => first | (go_simp; done) | (go_simp; rfl)); intro gb425 hg w66 hbox hb; have n0_ := aa (below_step iHB hb); have n1_ := aa (hbox); have n2_ := aa ((by rw [hg]; exact (below_size iHB) : w.heap.size ≤ gb425)); have n3_ := aa ((by rw [hg]; exact (below_size iHB) : w.heap.size ≤ gb425)); clear HB; have HB := n0_; have BK425 := n1_; have GW425 := n2_; have GE425 := n3_; clear n0_ n1_ n2_ n3_; clear hb hbox hg) | ((with_reducible refine gate_callee (f := 96) rfl ?_); refine goesL_ (some 9) rfl rfl Try.func96 (by kernel_rfl) rfl #[.slice A0 l0.length c0] rfl iAR ?_; (with_reducible refine (spec_l01From.calls k _ _ l0 t426 t427 t428 w _ ?side1 ?side2 ?side3 A2.out).mono ?_); (case side1 => exact iHB); (case side2 => exact HR0.out); (case side3 => exact HC0.out); rintro e w67 ⟨g429, rfl, hi, hb, hb2⟩; refine ⟨_, rfl, ?_⟩; have n0_ := aa (blk_below (g := gb425) (o := .cells #[.int .i64 0, .int .i64 0] 27 (0, 0)) (iBK BK425.out) hb2); have n1_ := aa (hb); have n2_ := aa (hi); have n3_ := aa (IsS81.ne_blk hi (blk_below (g := gb425) (o := .cells #[.int .i64 0, .int .i64 0] 27 (0, 0)) (iBK BK425.out) hb2) (by decide)); have n4_ := aa (Ne.symm (IsS81.ne_blk hi (blk_below (g := gb425) (o := .cells #[.int .i64 0, .int .i64 0] 27 (0, 0)) (iBK BK425.out) hb2) (by decide))); clear BK425; clear HB; have BK425 := n0_; have HB := n1_; have HI429 := n2_; have NB429_425 := n3_; have NB425_429 := n4_; clear n0_ n1_ n2_ n3_ n4_; (try clear hb); (try clear hb2); (try clear hk); (try clear hi)) | ((with_reducible refine gate_callee (f := 95) rfl ?_); refine goesL_ (some 11) rfl rfl Try.func95 (by kernel_rfl) rfl #[.pointer (some ⟨g429, 0, none⟩)] rfl iAR ?_; (with_reducible refine (spec_l01Spoil.calls k g429 t426 t427 t428 t430 t431 t432 t433 w _ ?side1 ?side2 A3.out).mono ?_); (case side1 => exact iHI); (case side2 => exact iHS); rintro e w68 ⟨rfl, hi, hb, hk⟩; refine ⟨_, rfl, ?_⟩; have n0_ := aa (KeepBut.blk hk (g' := gb425) (o := .cells #[.int .i64 0, .int .i64 0] 27 (0, 0)) (iBK BK425.out) NB425_429.out (by simp)); have n1_ := aa (hb); have n2_ := aa (hi); clear BK425; clear HB; clear HI429; have BK425 := n0_; have HB := n1_; have HI429 := n2_; clear n0_ n1_ n2_; (try clear hb); (try clear hb2); (try clear hk); (try clear hi)) | ((with_reducible refine gate_dst (N := 4) rfl ?_); refine box_event ?hg (N := 4) ?hd (cs := #[.int .i64 0, .int .i64 0]) (t := 27) ?hr ?_; (case hd => rfl); (case hg => rfl); (case hr => first | (go_simp; done) | (go_simp; rfl)); intro gb434 hg w69 hbox hb; have n0_ := aa (blk_below (g := gb425) (o := .cells #[.int .i64 0, .int .i64 0] 27 (0, 0)) (iBK BK425.out) hb); have n1_ := aa (IsS81.below iHI hb); have n2_ := aa (below_step iHS hb); have n3_ := aa (hbox); have n4_ := aa ((by rw [hg]; exact (below_size iHS) : w.heap.size ≤ gb434)); have n5_ := aa ((by rw [hg]; exact (below_size iHS) : w.heap.size ≤ gb434)); have n6_ := aa ((by rw [hg]; exact Nat.ne_of_lt (blk_lt (g := gb425) (o := .cells #[.int .i64 0, .int .i64 0] 27 (0, 0)) (iBK BK425.out)) : gb425 ≠ gb434)); have n7_ := aa ((by rw [hg]; exact Nat.ne_of_gt (blk_lt (g := gb425) (o := .cells #[.int .i64 0, .int .i64 0] 27 (0, 0)) (iBK BK425.out)) : gb434 ≠ gb425)); have n8_ := aa ((by rw [hg]; exact Nat.ne_of_lt (IsS81.lt (show IsS81 w _ g429 t426 t432 t433 from iHI)) : g429 ≠ gb434)); have n9_ := aa ((by rw [hg]; exact Nat.ne_of_gt (IsS81.lt (show IsS81 w _ g429 t426 t432 t433 from iHI)) : gb434 ≠ g429)); clear BK425; clear HI429; clear HB; have BK425 := n0_; have HI429 := n1_; have HB := n2_; have BK434 := n3_; have GW434 := n4_; have GE434 := n5_; have NB425_434 := n6_; have NB434_425 := n7_; have NB429_434 := n8_; have NB434_429 := n9_; clear n0_ n1_ n2_ n3_ n4_ n5_ n6_ n7_ n8_ n9_; clear hb hbox hg; have hnb70 := NB434_425.out; have hnc70 := NB425_434.out; have hnb71 := NB434_429.out; have hnc71 := NB429_434.out; have hcz72_0 : w69.cell? ⟨gb434, 0, none⟩ = some (.int .i64 0) := (blk_cell BK434.out 0).trans rfl; have hcz72_1 : w69.cell? ⟨gb434, 1, none⟩ = some (.int .i64 0) := (blk_cell BK434.out 1).trans rfl; have hfz72_0 := blk_frozen BK434.out 0; have hfz72_1 := blk_frozen BK434.out 1) | ((with_reducible refine gate_callee (f := 118) rfl ?_); refine goesL_ (some 13) rfl rfl Try.func118 (by kernel_rfl) rfl #[.pointer (some ⟨g429, 0, none⟩), .int .i64 3] rfl iAR ?_; (with_reducible refine (spec_l01Next.calls g429 t426 t432 t433 3 t435 t436 t437 w _ ?side1 ?side2 A4.out).mono ?_); (case side1 => exact iHI); (case side2 => exact iHS); rintro e w73 ⟨rfl, hi, hb, hk⟩; refine ⟨_, rfl, ?_⟩; have n0_ := aa (KeepBut.blk hk (g' := gb425) (o := .cells #[.int .i64 0, .int .i64 0] 27 (0, 0)) (by (with_reducible repeat (first | refine blk_drewN ?_ _ | refine blk_drew ?_ | refine blk_alloc ?_ _)); refine blk_far ?_ NB425_434.out _; (with_reducible repeat (first | refine blk_drewN ?_ _ | refine blk_drew ?_ | refine blk_alloc ?_ _)); refine blk_far ?_ NB425_434.out _; exact iBK BK425.out) NB425_429.out (by simp)); have n1_ := aa (KeepBut.blk hk (g' := gb434) (o := .cells #[.int .i64 t430, .int .i64 t431] 27 (0, 0)) (by (with_reducible repeat (first | refine blk_drewN ?_ _ | refine blk_drew ?_ | refine blk_alloc ?_ _)); refine blk_put (cs := #[.int .i64 t430, .int .i64 0]) ?_ 1 _ rfl; (with_reducible repeat (first | refine blk_drewN ?_ _ | refine blk_drew ?_ | refine blk_alloc ?_ _)); refine blk_put (cs := #[.int .i64 0, .int .i64 0]) ?_ 0 _ rfl; exact iBK BK434.out) NB434_429.out (by simp)); have n2_ := aa (hb); have n3_ := aa (hi); clear BK425; clear BK434; clear HB; clear HI429; have BK425 := n0_; have BK434 := n1_; have HB := n2_; have HI429 := n3_; clear n0_ n1_ n2_ n3_; (try clear hb); (try clear hb2); (try clear hk); (try clear hi); have hcz74_0 : w73.cell? ⟨gb434, 0, none⟩ = some (.int .i64 t430) := (blk_cell BK434.out 0).trans rfl; have hcz74_1 : w73.cell? ⟨gb434, 1, none⟩ = some (.int .i64 t431) := (blk_cell BK434.out 1).trans rfl; have hfz74_0 := blk_frozen BK434.out 0; have hfz74_1 := blk_frozen BK434.out 1; have hnb75 := NB425_429.out; have hnc75 := NB429_425.out; have hcz76_0 : w73.cell? ⟨gb425, 0, none⟩ = some (.int .i64 0) := (blk_cell BK425.out 0).trans rfl; have hcz76_1 : w73.cell? ⟨gb425, 1, none⟩ = some (.int .i64 0) := (blk_cell BK425.out 1).trans rfl; have hfz76_0 := blk_frozen BK425.out 0; have hfz76_1 := blk_frozen BK425.out 1))
    refine bodyPost_ret (results_cell_row rfl _ _ gb425 27 #[.int .i64 t430, .int .i64 t431] (0, 0) _ rfl (by (with_reducible repeat (first | refine blk_drewN ?_ _ | refine blk_drew ?_ | refine blk_alloc ?_ _)); refine blk_put (cs := #[.int .i64 t430, .int .i64 0]) ?_ 1 _ rfl; (with_reducible repeat (first | refine blk_drewN ?_ _ | refine blk_drew ?_ | refine blk_alloc ?_ _)); refine blk_put (cs := #[.int .i64 0, .int .i64 0]) ?_ 0 _ rfl; exact iBK BK425.out) Try.underlying27 rfl (by kernel_rfl)) rfl ?_
    exact ⟨by first | rfl | (simp [errW_none, errW_some] <;> rfl) | (simp [*, errW_none, errW_some] <;> rfl), iHS⟩
def spec_DrawIsBent.f (k : Nat) (l0 : List Int) : Option (Int × Int) := (spec_l03Bent.f k l0).bind fun bt471 => (some (bt471.1, bt471.2))
set_option maxHeartbeats 8000000 in
set_option maxRecDepth 100000 in
theorem spec_DrawIsBent.calls (k : Nat) (A0 : Option Addr) (c0 : Nat) (l0 : List Int) (r1 : Int) (r2 : Int) (w : World) (hr0 : Kd.C (Kd.int .u8) w A0 l0.length l0) (hc0 : l0.length ≤ c0) (h : spec_DrawIsBent.f k l0 = some (r1, r2)) :
    Calls Try.prog 42 #[.slice A0 l0.length c0] w fun e w' => e = .returned (.agg #[.int .i64 r1, .int .i64 r2]) ∧ Below w.heap.size w w' := by
  have hu27 := Try.underlying27
  have HR0 := Aside0.mk hr0
  have HC0 := Aside0.mk hc0
  clear hr0 hc0
  have HB := aa (Below.refl w.heap.size w)
  have H : ((spec_l03Bent.f k l0).bind fun bt471 => (some (bt471.1, bt471.2))) = some (r1, r2) := h
  clear h
  replace H := Option.bind_eq_some_iff.mp H
  obtain ⟨⟨t471, t472⟩, A20, H⟩ := H
  replace H : (some (t471, t472)) = some (r1, r2) := H
  have A2 := Aside0.mk A20
  clear A20
  simp only [Option.some.injEq, Prod.mk.injEq] at H
  obtain ⟨rfl, rfl⟩ := H
  go_enter Try.func42, Try.ntmps42
  go_wp2_with (first | ((with_reducible refine gate_dst (N := 2) rfl ?_); refine box_event ?hg (N := 2) ?hd (cs := #[.int .i64 0, .int .i64 0]) (t := 27) ?hr ?_; (case hd => rfl); (case hg => rfl); (case hr => first | (go_simp; done) | (go_simp; rfl)); intro gb470 hg w3 hbox hb; have n0_ := aa (below_step iHB hb); have n1_ := aa (hbox); have n2_ := aa ((by rw [hg]; exact (below_size iHB) : w.heap.size ≤ gb470)); have n3_ := aa ((by rw [hg]; exact (below_size iHB) : w.heap.size ≤ gb470)); clear HB; have HB := n0_; have BK470 := n1_; have GW470 := n2_; have GE470 := n3_; clear n0_ n1_ n2_ n3_; clear hb hbox hg) | ((with_reducible refine gate_callee (f := 93) rfl ?_); refine goesL_ (some 4) rfl rfl Try.func93 (by kernel_rfl) rfl #[.slice A0 l0.length c0] rfl iAR ?_; (with_reducible refine (spec_l03Bent.calls k _ _ l0 t471 t472 _ ?side1 ?side2 A2.out).mono ?_); (case side1 => repeat (first | exact (Kd.C_below HR0.out HB.out) | (with_reducible refine Kd.C_alloc ?_ _) | (with_reducible refine Kd.C_drewN ?_ _) | (with_reducible refine Kd.C_drew ?_))); (case side2 => exact HC0.out); rintro e w4 ⟨rfl, hb⟩; refine ⟨_, rfl, ?_⟩; have n0_ := aa (blk_below (g := gb470) (o := .cells #[.int .i64 0, .int .i64 0] 27 (0, 0)) (iBK BK470.out) hb); have n1_ := aa (below_step iHB hb); clear BK470; clear HB; have BK470 := n0_; have HB := n1_; clear n0_ n1_; (try clear hb); (try clear hb2); (try clear hk); (try clear hi); have hcz5_0 : w4.cell? ⟨gb470, 0, none⟩ = some (.int .i64 0) := (blk_cell BK470.out 0).trans rfl; have hcz5_1 : w4.cell? ⟨gb470, 1, none⟩ = some (.int .i64 0) := (blk_cell BK470.out 1).trans rfl; have hfz5_0 := blk_frozen BK470.out 0; have hfz5_1 := blk_frozen BK470.out 1))
  refine bodyPost_ret (results_cell_row rfl _ _ gb470 27 #[.int .i64 t471, .int .i64 t472] (0, 0) _ rfl (by (with_reducible repeat (first | refine blk_drewN ?_ _ | refine blk_drew ?_ | refine blk_alloc ?_ _)); refine blk_put (cs := #[.int .i64 t471, .int .i64 0]) ?_ 1 _ rfl; (with_reducible repeat (first | refine blk_drewN ?_ _ | refine blk_drew ?_ | refine blk_alloc ?_ _)); refine blk_put (cs := #[.int .i64 0, .int .i64 0]) ?_ 0 _ rfl; exact iBK BK470.out) Try.underlying27 rfl (by kernel_rfl)) rfl ?_
  exact ⟨by first | rfl | (simp [errW_none, errW_some] <;> rfl) | (simp [*, errW_none, errW_some] <;> rfl), iHB⟩
def laws_likeInts.l0 : Nat → List Int → List Int → Int → Option (Bool)
  | 0, _, _, _ => none
  | k + 1, x0, x1, x5 => if x5 < (x0.length : Int) then (if 0 ≤ x5 then (if x5 < (x1.length : Int) then (if (rd x0 x5) = (rd x1 x5) then (laws_likeInts.l0 k x0 x1 (wrap64 (x5 + 1))) else (some false)) else (none)) else (none)) else (some true)
def laws_likeInts.f (k : Nat) (l0 : List Int) (l1 : List Int) : Option (Bool) := if (l0.length : Int) = (l1.length : Int) then (laws_likeInts.l0 k l0 l1 0) else (some false)
set_option maxHeartbeats 8000000 in
set_option maxRecDepth 100000 in
theorem laws_likeInts.calls (k : Nat) (A0 : Option Addr) (c0 : Nat) (l0 : List Int) (A1 : Option Addr) (c1 : Nat) (l1 : List Int) (r : Bool) (w : World) (hr0 : Kd.C (Kd.int .i64) w A0 l0.length l0) (hc0 : l0.length ≤ c0) (hr1 : Kd.C (Kd.int .i64) w A1 l1.length l1) (hc1 : l1.length ≤ c1) (h : laws_likeInts.f k l0 l1 = some r) :
    Calls Try.prog 43 #[.slice A0 l0.length c0, .slice A1 l1.length c1] w fun e w' => e = .returned (.bool r) ∧ Drawn0 w w' := by
  have HR0 := Aside0.mk hr0
  have HC0 := Aside0.mk hc0
  clear hr0 hc0
  have HR1 := Aside0.mk hr1
  have HC1 := Aside0.mk hc1
  clear hr1 hc1
  have H : (if (l0.length : Int) = (l1.length : Int) then (laws_likeInts.l0 k l0 l1 0) else (some false)) = some r := h
  clear h
  by_cases c3 : (l0.length : Int) = (l1.length : Int)
  · rw [if_pos c3] at H
    have c3b0 : ((l0.length : Int) == (l1.length : Int)) = true := beq_iff_eq.mpr c3
    have c3b1 : ((l0.length : Int) != (l1.length : Int)) = false := bne_eq_false_iff_eq.mpr c3
    have c3b2 : (l0.length == l1.length) = true := by first | simpa using c3 | (simp at c3 ⊢; omega)
    clear c3
    have H' := Aside0.mk H
    clear H
    go_enter Try.func43, Try.ntmps43
    go_wp2
    repeat (go_quiet (fail); try go_wp2)
    go_loopg [5] k (fun kq v5 w' => ∃ (x5_1 : Int), v5 = .int .i64 x5_1 ∧ Aside0 (laws_likeInts.l0 kq l0 l1 x5_1 = some r) ∧ Aside0 (kq ≤ k) ∧ Drawn0 w w')
    case atStart => exact ⟨(0), (by first | rfl | (simp; done) | (simp [*]; done)), H', ⟨Nat.le_refl _⟩, by repeat (first | exact Drawn0.refl _ | apply Drawn0.step)⟩
    case round =>
      clear H'
      try clear c1
      try clear p2
      try clear c3
      try clear c3b0
      try clear c3b1
      try clear c3b2
      obtain ⟨x5_1, rfl, HA, HK1, ⟨m1, rfl⟩⟩ := hrel
      cases gk with
      | zero => exact absurd HA.out (by simp [laws_likeInts.l0])
      | succ k1 =>
        have H := HA.out
        clear HA
        simp only [laws_likeInts.l0] at H
        by_cases c4 : x5_1 < (l0.length : Int)
        · rw [if_pos c4] at H
          have c4b0 : decide (x5_1 < (l0.length : Int)) = true := decide_eq_true c4
          clear c4
          by_cases c5 : 0 ≤ x5_1
          · rw [if_pos c5] at H
            have c5b0 : decide (0 ≤ x5_1) = true := decide_eq_true c5
            clear c5
            by_cases c6 : x5_1 < (l1.length : Int)
            · rw [if_pos c6] at H
              have c6b0 : decide (x5_1 < (l1.length : Int)) = true := decide_eq_true c6
              clear c6
              by_cases c7 : (rd l0 x5_1) = (rd l1 x5_1)
              · rw [if_pos c7] at H
                have c7b0 : ((rd l0 x5_1) == (rd l1 x5_1)) = true := beq_iff_eq.mpr c7
                have c7b1 : ((rd l0 x5_1) != (rd l1 x5_1)) = false := bne_eq_false_iff_eq.mpr c7
                clear c7
                have H' := Aside0.mk H
                clear H
                have p473 : 0 ≤ (x5_1 : Int) := of_decide_eq_true (by first | (with_reducible assumption) | assumption)
                have q473 : x5_1 < (l0.length : Int) := of_decide_eq_true (by first | (with_reducible assumption) | assumption)
                obtain ⟨ad473, e473, hx473_0⟩ := Kd.at_int HR0.out x5_1 p473 q473
                cases e473
                replace p473 := eq_true p473
                replace q473 := eq_true q473
                have p474 : 0 ≤ (x5_1 : Int) := of_decide_eq_true (by first | (with_reducible assumption) | assumption)
                have q474 : x5_1 < (l1.length : Int) := of_decide_eq_true (by first | (with_reducible assumption) | assumption)
                obtain ⟨ad474, e474, hx474_0⟩ := Kd.at_int HR1.out x5_1 p474 q474
                cases e474
                replace p474 := eq_true p474
                replace q474 := eq_true q474
                go_wp2
                repeat (go_quiet (fail); try go_wp2)
                go_roundg k1
                case measure => have := HK1.out; omega
                case rel => exact ⟨(wrap64 (x5_1 + 1)), (by first | rfl | (simp; done) | (simp [*]; done)), H', ⟨by have := HK1.out; omega⟩, by repeat (first | exact Drawn0.refl _ | apply Drawn0.step)⟩
              · rw [if_neg c7] at H
                have c7b0 : ((rd l0 x5_1) == (rd l1 x5_1)) = false := beq_eq_false_iff_ne.mpr c7
                have c7b1 : ((rd l0 x5_1) != (rd l1 x5_1)) = true := bne_iff_ne.mpr c7
                obtain rfl := Option.some.inj H
                have p473 : 0 ≤ (x5_1 : Int) := of_decide_eq_true (by first | (with_reducible assumption) | assumption)
                have q473 : x5_1 < (l0.length : Int) := of_decide_eq_true (by first | (with_reducible assumption) | assumption)
                obtain ⟨ad473, e473, hx473_0⟩ := Kd.at_int HR0.out x5_1 p473 q473
                cases e473
                replace p473 := eq_true p473
                replace q473 := eq_true q473
                have p474 : 0 ≤ (x5_1 : Int) := of_decide_eq_true (by first | (with_reducible assumption) | assumption)
                have q474 : x5_1 < (l1.length : Int) := of_decide_eq_true (by first | (with_reducible assumption) | assumption)
                obtain ⟨ad474, e474, hx474_0⟩ := Kd.at_int HR1.out x5_1 p474 q474
                cases e474
                replace p474 := eq_true p474
                replace q474 := eq_true q474
                go_wp2
                repeat (go_quiet (fail); try go_wp2)
                go_ret
                exact ⟨by first | rfl | (simp; done) | (simp [*]; done), by repeat (first | exact Drawn0.refl _ | apply Drawn0.step)⟩
            · rw [if_neg c6] at H
              exact absurd H (by simp)
          · rw [if_neg c5] at H
            exact absurd H (by simp)
        · rw [if_neg c4] at H
          have c4b0 : decide (x5_1 < (l0.length : Int)) = false := decide_eq_false c4
          clear c4
          obtain rfl := Option.some.inj H
          go_wp2
          repeat (go_quiet (fail); try go_wp2)
          go_ret
          exact ⟨by first | rfl | (simp; done) | (simp [*]; done), by repeat (first | exact Drawn0.refl _ | apply Drawn0.step)⟩
  · rw [if_neg c3] at H
    have c3b0 : ((l0.length : Int) == (l1.length : Int)) = false := beq_eq_false_iff_ne.mpr c3
    have c3b1 : ((l0.length : Int) != (l1.length : Int)) = true := bne_iff_ne.mpr c3
    have c3b2 : (l0.length == l1.length) = false := by first | simpa using c3 | (simp at c3 ⊢; omega)
    obtain rfl := Option.some.inj H
    go_enter Try.func43, Try.ntmps43
    go_wp2
    repeat (go_quiet (fail); try go_wp2)
    go_ret
    exact ⟨by first | rfl | (simp; done) | (simp [*]; done), by repeat (first | exact Drawn0.refl _ | apply Drawn0.step)⟩
end Go.Proofs.Ytdhfbgbclibagaa.P
