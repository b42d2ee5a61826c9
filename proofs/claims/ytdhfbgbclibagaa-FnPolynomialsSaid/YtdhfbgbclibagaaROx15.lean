/- Functions of the given program and their contracts, written by a program of this session (gen.py) over the kit's print. -/
import Derived.Test.YtdhfbgbclibagaaROx0
import Derived.Test.YtdhfbgbclibagaaROx2
import Derived.Test.YtdhfbgbclibagaaROx3
import Derived.Test.YtdhfbgbclibagaaROx10
import Derived.Test.YtdhfbgbclibagaaROx13
import Derived.Test.YtdhfbgbclibagaaROx14
namespace Go.Proofs.Ytdhfbgbclibagaa.P
open Go.RowKit Go.Proofs.YtdhfbgbclibagaaW.PrintWords Go.Proofs.YtdhfbgbclibagaaW.PrintLast Go.Proofs.YtdhfbgbclibagaaW.PrintMore
attribute [local go_sem] max2_int min2_int max_two min_two max_three min_three max_four min_four   -- for this text's walks alone
set_option linter.unusedVariables false
set_option linter.unusedSimpArgs false
def impl_SumOfFuncs.f (a0_0 : Int) (a0_1 : Int) (a1_0 : Int) (a1_1 : Int) : Option (Int × Int × Int) := (impl_pairCode.f a0_0 a0_1 a1_0 a1_1).bind fun t439 => (if t439 = 0 then (some (a0_0, Go.bits .xor .i64 a0_1 a1_1, 0)) else (some (0, 0, t439)))
set_option maxHeartbeats 8000000 in
set_option maxRecDepth 100000 in
theorem impl_SumOfFuncs.calls (a0_0 : Int) (a0_1 : Int) (a1_0 : Int) (a1_1 : Int) (r1 : Int) (r2 : Int) (r3 : Int) (w : World) (h : impl_SumOfFuncs.f a0_0 a0_1 a1_0 a1_1 = some (r1, r2, r3)) :
    Calls Try.prog 54 #[.agg #[.int .i64 a0_0, .int .i64 a0_1], .agg #[.int .i64 a1_0, .int .i64 a1_1]] w fun e w' => e = .returned (.tuple #[.agg #[.int .i64 r1, .int .i64 r2], .int .i64 r3]) ∧ Below w.heap.size w w' := by
  have hu27 := Try.underlying27
  have HB := aa (Below.refl w.heap.size w)
  have H : ((impl_pairCode.f a0_0 a0_1 a1_0 a1_1).bind fun t439 => (if t439 = 0 then (some (a0_0, Go.bits .xor .i64 a0_1 a1_1, 0)) else (some (0, 0, t439)))) = some (r1, r2, r3) := h
  clear h
  replace H := Option.bind_eq_some_iff.mp H
  obtain ⟨t439, A30, H⟩ := H
  replace H : (if t439 = 0 then (some (a0_0, Go.bits .xor .i64 a0_1 a1_1, 0)) else (some (0, 0, t439))) = some (r1, r2, r3) := H
  have A3 := Aside0.mk A30
  clear A30
  by_cases c4 : t439 = 0
  · rw [if_pos c4] at H
    have c4b0 : (t439 == 0) = true := beq_iff_eq.mpr c4
    have c4b1 : (t439 != 0) = false := bne_eq_false_iff_eq.mpr c4
    clear c4
    simp only [Option.some.injEq, Prod.mk.injEq] at H
    obtain ⟨rfl, rfl, rfl⟩ := H
    go_enter Try.func54, Try.ntmps54
    go_wp2_with (first | ((with_reducible refine gate_dst (N := 2) rfl ?_); refine box_event ?hg (N := 2) ?hd (cs := #[.int .i64 a0_0, .int .i64 a0_1]) (t := 27) ?hr ?_; (case hd => rfl); (case hg => rfl); (case hr => first | (go_simp; done) | (go_simp; rfl)); intro gb436 hg w5 hbox hb; have BK436 := aa (hbox); have GW436 := gwB (w := w) hg iHB; have GE436 := gwB (w := w) hg iHB; replace HB := aa (below_step iHB hb); clear hb hbox hg) | ((with_reducible refine gate_dst (N := 3) rfl ?_); refine box_event ?hg (N := 3) ?hd (cs := #[.int .i64 a1_0, .int .i64 a1_1]) (t := 27) ?hr ?_; (case hd => rfl); (case hg => rfl); (case hr => first | (go_simp; done) | (go_simp; rfl)); intro gb437 hg w6 hbox hb; have BK437 := aa (hbox); have GW437 := gwB (w := w) hg iHB; have GE437 := gwB (w := w) hg iHB; replace HB := aa (below_step iHB hb); have NB436_437 := nbL hg (iBK BK436.out); have NB437_436 := nbR hg (iBK BK436.out); replace BK436 := aa (blk_below (iBK BK436.out) hb); clear hb hbox hg) | ((with_reducible refine gate_dst (N := 4) rfl ?_); refine box_event ?hg (N := 4) ?hd (cs := #[.int .i64 0, .int .i64 0]) (t := 27) ?hr ?_; (case hd => rfl); (case hg => rfl); (case hr => first | (go_simp; done) | (go_simp; rfl)); intro gb438 hg w7 hbox hb; have BK438 := aa (hbox); have GW438 := gwB (w := w) hg iHB; have GE438 := gwB (w := w) hg iHB; replace HB := aa (below_step iHB hb); have NB436_438 := nbL hg (iBK BK436.out); have NB438_436 := nbR hg (iBK BK436.out); replace BK436 := aa (blk_below (iBK BK436.out) hb); have NB437_438 := nbL hg (iBK BK437.out); have NB438_437 := nbR hg (iBK BK437.out); replace BK437 := aa (blk_below (iBK BK437.out) hb); clear hb hbox hg; have hnb8 := NB436_437.out; have hnc8 := NB437_436.out; have hnb9 := NB436_438.out; have hnc9 := NB438_436.out; have hcz10_0 : w7.cell? ⟨gb436, 0, none⟩ = some (.int .i64 a0_0) := (blk_cell BK436.out 0).trans rfl; have hcz10_1 : w7.cell? ⟨gb436, 1, none⟩ = some (.int .i64 a0_1) := (blk_cell BK436.out 1).trans rfl; have hfz10_0 := blk_frozen BK436.out 0; have hfz10_1 := blk_frozen BK436.out 1; have hnb11 := NB437_438.out; have hnc11 := NB438_437.out; have hcz12_0 : w7.cell? ⟨gb437, 0, none⟩ = some (.int .i64 a1_0) := (blk_cell BK437.out 0).trans rfl; have hcz12_1 : w7.cell? ⟨gb437, 1, none⟩ = some (.int .i64 a1_1) := (blk_cell BK437.out 1).trans rfl; have hfz12_0 := blk_frozen BK437.out 0; have hfz12_1 := blk_frozen BK437.out 1) | ((with_reducible refine gate_callee (f := 99) rfl ?_); refine goesL_ (some 9) rfl rfl Try.func99 (by kernel_rfl) rfl #[.agg #[.int .i64 a0_0, .int .i64 a0_1], .agg #[.int .i64 a1_0, .int .i64 a1_1]] rfl iAR ?_; (with_reducible refine (impl_pairCode.calls a0_0 a0_1 a1_0 a1_1 t439 _ A3.out).mono ?_); rintro e w13 ⟨rfl, hb⟩; refine ⟨_, rfl, ?_⟩; replace BK436 := aa (blk_below (iBK BK436.out) hb); replace BK437 := aa (blk_below (iBK BK437.out) hb); replace BK438 := aa (blk_below (iBK BK438.out) hb); replace HB := aa (below_step iHB hb); (try clear hb); have hcz14_0 : w13.cell? ⟨gb436, 0, none⟩ = some (.int .i64 a0_0) := (blk_cell BK436.out 0).trans rfl; have hcz14_1 : w13.cell? ⟨gb436, 1, none⟩ = some (.int .i64 a0_1) := (blk_cell BK436.out 1).trans rfl; have hfz14_0 := blk_frozen BK436.out 0; have hfz14_1 := blk_frozen BK436.out 1; have hcz15_0 : w13.cell? ⟨gb437, 0, none⟩ = some (.int .i64 a1_0) := (blk_cell BK437.out 0).trans rfl; have hcz15_1 : w13.cell? ⟨gb437, 1, none⟩ = some (.int .i64 a1_1) := (blk_cell BK437.out 1).trans rfl; have hfz15_0 := blk_frozen BK437.out 0; have hfz15_1 := blk_frozen BK437.out 1; have hcz16_0 : w13.cell? ⟨gb438, 0, none⟩ = some (.int .i64 0) := (blk_cell BK438.out 0).trans rfl; have hcz16_1 : w13.cell? ⟨gb438, 1, none⟩ = some (.int .i64 0) := (blk_cell BK438.out 1).trans rfl; have hfz16_0 := blk_frozen BK438.out 0; have hfz16_1 := blk_frozen BK438.out 1))
    refine bodyPost_ret (results_ct rfl _ _ gb438 27 #[.int .i64 a0_0, .int .i64 (Go.bits .xor .i64 a0_1 a1_1)] (0, 0) _ rfl (by (with_reducible repeat (first | refine blk_drewN ?_ _ | refine blk_drew ?_ | refine blk_alloc ?_ _)); refine blk_put (cs := #[.int .i64 a0_0, .int .i64 0]) ?_ 1 _ rfl; (with_reducible repeat (first | refine blk_drewN ?_ _ | refine blk_drew ?_ | refine blk_alloc ?_ _)); refine blk_put (cs := #[.int .i64 0, .int .i64 0]) ?_ 0 _ rfl; exact iBK BK438.out) Try.underlying27 rfl (by kernel_rfl)) rfl ?_
    exact ⟨by first | rfl | (simp [errW_none, errW_some] <;> rfl) | (simp [*, errW_none, errW_some] <;> rfl), iHB⟩
  · rw [if_neg c4] at H
    have c4b0 : (t439 == 0) = false := beq_eq_false_iff_ne.mpr c4
    have c4b1 : (t439 != 0) = true := bne_iff_ne.mpr c4
    simp only [Option.some.injEq, Prod.mk.injEq] at H
    obtain ⟨rfl, rfl, rfl⟩ := H
    go_enter Try.func54, Try.ntmps54
    go_wp2_with (first | ((with_reducible refine gate_dst (N := 2) rfl ?_); refine box_event ?hg (N := 2) ?hd (cs := #[.int .i64 a0_0, .int .i64 a0_1]) (t := 27) ?hr ?_; (case hd => rfl); (case hg => rfl); (case hr => first | (go_simp; done) | (go_simp; rfl)); intro gb436 hg w17 hbox hb; have BK436 := aa (hbox); have GW436 := gwB (w := w) hg iHB; have GE436 := gwB (w := w) hg iHB; replace HB := aa (below_step iHB hb); clear hb hbox hg) | ((with_reducible refine gate_dst (N := 3) rfl ?_); refine box_event ?hg (N := 3) ?hd (cs := #[.int .i64 a1_0, .int .i64 a1_1]) (t := 27) ?hr ?_; (case hd => rfl); (case hg => rfl); (case hr => first | (go_simp; done) | (go_simp; rfl)); intro gb437 hg w18 hbox hb; have BK437 := aa (hbox); have GW437 := gwB (w := w) hg iHB; have GE437 := gwB (w := w) hg iHB; replace HB := aa (below_step iHB hb); have NB436_437 := nbL hg (iBK BK436.out); have NB437_436 := nbR hg (iBK BK436.out); replace BK436 := aa (blk_below (iBK BK436.out) hb); clear hb hbox hg) | ((with_reducible refine gate_dst (N := 4) rfl ?_); refine box_event ?hg (N := 4) ?hd (cs := #[.int .i64 0, .int .i64 0]) (t := 27) ?hr ?_; (case hd => rfl); (case hg => rfl); (case hr => first | (go_simp; done) | (go_simp; rfl)); intro gb438 hg w19 hbox hb; have BK438 := aa (hbox); have GW438 := gwB (w := w) hg iHB; have GE438 := gwB (w := w) hg iHB; replace HB := aa (below_step iHB hb); have NB436_438 := nbL hg (iBK BK436.out); have NB438_436 := nbR hg (iBK BK436.out); replace BK436 := aa (blk_below (iBK BK436.out) hb); have NB437_438 := nbL hg (iBK BK437.out); have NB438_437 := nbR hg (iBK BK437.out); replace BK437 := aa (blk_below (iBK BK437.out) hb); clear hb hbox hg; have hnb20 := NB436_437.out; have hnc20 := NB437_436.out; have hnb21 := NB436_438.out; have hnc21 := NB438_436.out; have hcz22_0 : w19.cell? ⟨gb436, 0, none⟩ = some (.int .i64 a0_0) := (blk_cell BK436.out 0).trans rfl; have hcz22_1 : w19.cell? ⟨gb436, 1, none⟩ = some (.int .i64 a0_1) := (blk_cell BK436.out 1).trans rfl; have hfz22_0 := blk_frozen BK436.out 0; have hfz22_1 := blk_frozen BK436.out 1; have hnb23 := NB437_438.out; have hnc23 := NB438_437.out; have hcz24_0 : w19.cell? ⟨gb437, 0, none⟩ = some (.int .i64 a1_0) := (blk_cell BK437.out 0).trans rfl; have hcz24_1 : w19.cell? ⟨gb437, 1, none⟩ = some (.int .i64 a1_1) := (blk_cell BK437.out 1).trans rfl; have hfz24_0 := blk_frozen BK437.out 0; have hfz24_1 := blk_frozen BK437.out 1) | ((with_reducible refine gate_callee (f := 99) rfl ?_); refine goesL_ (some 9) rfl rfl Try.func99 (by kernel_rfl) rfl #[.agg #[.int .i64 a0_0, .int .i64 a0_1], .agg #[.int .i64 a1_0, .int .i64 a1_1]] rfl iAR ?_; (with_reducible refine (impl_pairCode.calls a0_0 a0_1 a1_0 a1_1 t439 _ A3.out).mono ?_); rintro e w25 ⟨rfl, hb⟩; refine ⟨_, rfl, ?_⟩; replace BK436 := aa (blk_below (iBK BK436.out) hb); replace BK437 := aa (blk_below (iBK BK437.out) hb); replace BK438 := aa (blk_below (iBK BK438.out) hb); replace HB := aa (below_step iHB hb); (try clear hb); have hcz26_0 : w25.cell? ⟨gb438, 0, none⟩ = some (.int .i64 0) := (blk_cell BK438.out 0).trans rfl; have hcz26_1 : w25.cell? ⟨gb438, 1, none⟩ = some (.int .i64 0) := (blk_cell BK438.out 1).trans rfl; have hfz26_0 := blk_frozen BK438.out 0; have hfz26_1 := blk_frozen BK438.out 1))
    refine bodyPost_ret (results_ct rfl _ _ gb438 27 #[.int .i64 0, .int .i64 0] (0, 0) _ rfl (by (with_reducible repeat (first | refine blk_drewN ?_ _ | refine blk_drew ?_ | refine blk_alloc ?_ _)); refine blk_put (cs := #[.int .i64 0, .int .i64 0]) ?_ 1 _ rfl; (with_reducible repeat (first | refine blk_drewN ?_ _ | refine blk_drew ?_ | refine blk_alloc ?_ _)); refine blk_put (cs := #[.int .i64 0, .int .i64 0]) ?_ 0 _ rfl; exact iBK BK438.out) Try.underlying27 rfl (by kernel_rfl)) rfl ?_
    exact ⟨by first | rfl | (simp [errW_none, errW_some] <;> rfl) | (simp [*, errW_none, errW_some] <;> rfl), iHB⟩
def spec_l03Like.j0 : Nat → Bool → Int → Int → Int → Int → Option (Int)
  | 0, _, _, _, _, _ => none
  | k + 1, x5, x441000, x441001, x442000, x442001 => if x5 = true then (some 1) else (if x441000 = x442000 then (some 0) else (some 2))
def spec_l03Like.f (k : Nat) (a0_0 : Int) (a0_1 : Int) (a1_0 : Int) (a1_1 : Int) : Option (Int) := (spec_l01Is.f a0_0 a0_1).bind fun t442 => (if t442 = true then ((spec_l01Is.f a1_0 a1_1).bind fun t443 => (spec_l03Like.j0 k (!t443) a0_0 a0_1 a1_0 a1_1)) else (spec_l03Like.j0 k true a0_0 a0_1 a1_0 a1_1))
set_option maxHeartbeats 8000000 in
set_option maxRecDepth 100000 in
theorem spec_l03Like.calls (k : Nat) (a0_0 : Int) (a0_1 : Int) (a1_0 : Int) (a1_1 : Int) (r : Int) (w : World) (h : spec_l03Like.f k a0_0 a0_1 a1_0 a1_1 = some r) :
    Calls Try.prog 100 #[.agg #[.int .i64 a0_0, .int .i64 a0_1], .agg #[.int .i64 a1_0, .int .i64 a1_1]] w fun e w' => e = .returned (.int .i64 r) ∧ Below w.heap.size w w' := by
  have hu27 := Try.underlying27
  have HB := aa (Below.refl w.heap.size w)
  have H : ((spec_l01Is.f a0_0 a0_1).bind fun t442 => (if t442 = true then ((spec_l01Is.f a1_0 a1_1).bind fun t443 => (spec_l03Like.j0 k (!t443) a0_0 a0_1 a1_0 a1_1)) else (spec_l03Like.j0 k true a0_0 a0_1 a1_0 a1_1))) = some r := h
  clear h
  have HC3 := Aside0.mk H
  clear H
  go_enter Try.func100, Try.ntmps100
  go_upto_region 1 with (first | ((with_reducible refine gate_dst (N := 2) rfl ?_); refine box_event ?hg (N := 2) ?hd (cs := #[.int .i64 a0_0, .int .i64 a0_1]) (t := 27) ?hr ?_; (case hd => rfl); (case hg => rfl); (case hr => first | (go_simp; done) | (go_simp; rfl)); intro gb440 hg w4 hbox hb; have BK440 := aa (hbox); have GW440 := gwB (w := w) hg iHB; have GE440 := gwB (w := w) hg iHB; replace HB := aa (below_step iHB hb); clear hb hbox hg) | ((with_reducible refine gate_dst (N := 3) rfl ?_); refine box_event ?hg (N := 3) ?hd (cs := #[.int .i64 a1_0, .int .i64 a1_1]) (t := 27) ?hr ?_; (case hd => rfl); (case hg => rfl); (case hr => first | (go_simp; done) | (go_simp; rfl)); intro gb441 hg w5 hbox hb; have BK441 := aa (hbox); have GW441 := gwB (w := w) hg iHB; have GE441 := gwB (w := w) hg iHB; replace HB := aa (below_step iHB hb); have NB440_441 := nbL hg (iBK BK440.out); have NB441_440 := nbR hg (iBK BK440.out); replace BK440 := aa (blk_below (iBK BK440.out) hb); clear hb hbox hg))
  (try simp only [Act.put, List.setIfInBounds_toArray, List.set_cons_zero, List.set_cons_succ])
  go_cut [5] (fun v5 wc => ∃ (kq : Nat) (x5_2 : Bool), v5 = .bool x5_2 ∧ Aside0 (spec_l03Like.j0 kq x5_2 a0_0 a0_1 a1_0 a1_1 = some r) ∧ Aside0 (kq ≤ k) ∧ Aside0 (wc.heap[gb440]? = some (.cells #[.int .i64 a0_0, .int .i64 a0_1] 27 (0, 0))) ∧ Aside0 (wc.heap[gb441]? = some (.cells #[.int .i64 a1_0, .int .i64 a1_1] 27 (0, 0))) ∧ Aside0 (Below w.heap.size w wc))
  case first =>
    have H := HC3.out
    clear HC3
    replace H := Option.bind_eq_some_iff.mp H
    obtain ⟨t442, A60, H⟩ := H
    replace H : (if t442 = true then ((spec_l01Is.f a1_0 a1_1).bind fun t443 => (spec_l03Like.j0 k (!t443) a0_0 a0_1 a1_0 a1_1)) else (spec_l03Like.j0 k true a0_0 a0_1 a1_0 a1_1)) = some r := H
    have A6 := Aside0.mk A60
    clear A60
    by_cases c7 : t442 = true
    · subst c7
      have H1 : ((spec_l01Is.f a1_0 a1_1).bind fun t443 => (spec_l03Like.j0 k (!t443) a0_0 a0_1 a1_0 a1_1)) = some r := by rw [if_pos rfl] at H; exact H
      clear H
      have H := H1
      clear H1
      replace H := Option.bind_eq_some_iff.mp H
      obtain ⟨t443, A80, H⟩ := H
      replace H : (spec_l03Like.j0 k (!t443) a0_0 a0_1 a1_0 a1_1) = some r := H
      have A8 := Aside0.mk A80
      clear A80
      have H' := Aside0.mk H
      clear H
      have hnb9 := NB440_441.out
      have hnc9 := NB441_440.out
      have hcz10_0 : w5.cell? ⟨gb440, 0, none⟩ = some (.int .i64 a0_0) := (blk_cell BK440.out 0).trans rfl
      have hcz10_1 : w5.cell? ⟨gb440, 1, none⟩ = some (.int .i64 a0_1) := (blk_cell BK440.out 1).trans rfl
      have hfz10_0 := blk_frozen BK440.out 0
      have hfz10_1 := blk_frozen BK440.out 1
      go_wp2_with (first | ((with_reducible refine gate_callee (f := 67) rfl ?_); refine goesL_ (some 7) rfl rfl Try.func67 (by kernel_rfl) rfl #[.agg #[.int .i64 a0_0, .int .i64 a0_1]] rfl iAR ?_; (with_reducible refine (spec_l01Is.calls a0_0 a0_1 true _ A6.out).mono ?_); rintro e w11 ⟨rfl, hb⟩; refine ⟨_, rfl, ?_⟩; replace BK440 := aa (blk_below (iBK BK440.out) hb); replace BK441 := aa (blk_below (iBK BK441.out) hb); replace HB := aa (below_step iHB hb); (try clear hb); have hcz12_0 : w11.cell? ⟨gb441, 0, none⟩ = some (.int .i64 a1_0) := (blk_cell BK441.out 0).trans rfl; have hcz12_1 : w11.cell? ⟨gb441, 1, none⟩ = some (.int .i64 a1_1) := (blk_cell BK441.out 1).trans rfl; have hfz12_0 := blk_frozen BK441.out 0; have hfz12_1 := blk_frozen BK441.out 1) | (go_at_call 67; (with_reducible refine (spec_l01Is.calls a1_0 a1_1 t443 _ A8.out).mono ?_); rintro e w13 ⟨rfl, hb⟩; replace BK440 := aa (blk_below (iBK BK440.out) hb); replace BK441 := aa (blk_below (iBK BK441.out) hb); replace HB := aa (below_step iHB hb); (try clear hb)))
      go_meet
      case rel => exact ⟨_, (!t443), (by first | rfl | (simp; done) | (simp [*]; done)), H', ⟨by first | omega | exact Nat.le_refl _⟩, ⟨iBK BK440.out⟩, ⟨iBK BK441.out⟩, ⟨iHB⟩⟩
    · replace c7 := Bool.eq_false_iff.mpr c7
      subst c7
      have H1 : (spec_l03Like.j0 k true a0_0 a0_1 a1_0 a1_1) = some r := by rw [if_neg (show ¬ (false = true) by decide)] at H; exact H
      clear H
      have H := H1
      clear H1
      have H' := Aside0.mk H
      clear H
      have hnb14 := NB440_441.out
      have hnc14 := NB441_440.out
      have hcz15_0 : w5.cell? ⟨gb440, 0, none⟩ = some (.int .i64 a0_0) := (blk_cell BK440.out 0).trans rfl
      have hcz15_1 : w5.cell? ⟨gb440, 1, none⟩ = some (.int .i64 a0_1) := (blk_cell BK440.out 1).trans rfl
      have hfz15_0 := blk_frozen BK440.out 0
      have hfz15_1 := blk_frozen BK440.out 1
      go_wp2_with (first | ((with_reducible refine gate_callee (f := 67) rfl ?_); refine goesL_ (some 7) rfl rfl Try.func67 (by kernel_rfl) rfl #[.agg #[.int .i64 a0_0, .int .i64 a0_1]] rfl iAR ?_; (with_reducible refine (spec_l01Is.calls a0_0 a0_1 false _ A6.out).mono ?_); rintro e w16 ⟨rfl, hb⟩; refine ⟨_, rfl, ?_⟩; replace BK440 := aa (blk_below (iBK BK440.out) hb); replace BK441 := aa (blk_below (iBK BK441.out) hb); replace HB := aa (below_step iHB hb); (try clear hb)))
      go_meet
      case rel => exact ⟨_, (true), (by first | rfl | (simp; done) | (simp [*]; done)), H', ⟨by first | omega | exact Nat.le_refl _⟩, ⟨iBK BK440.out⟩, ⟨iBK BK441.out⟩, ⟨iHB⟩⟩
  case rest =>
    clear HC3
    obtain ⟨kq, x5_2, rfl, HA, HJ2, BK440, BK441, HB⟩ := hcut
    cases kq with
    | zero => exact absurd HA.out (by simp [spec_l03Like.j0])
    | succ kj2 =>
      have H := HA.out
      clear HA
      simp only [spec_l03Like.j0] at H
      by_cases c17 : x5_2 = true
      · subst c17
        have H1 : (some 1) = some r := by rw [if_pos rfl] at H; exact H
        clear H
        have H := H1
        clear H1
        obtain rfl := Option.some.inj H
        go_wp2
        go_ret
        exact ⟨by first | rfl | (simp [errW_none, errW_some] <;> rfl) | (simp [*, errW_none, errW_some] <;> rfl), iHB⟩
      · replace c17 := Bool.eq_false_iff.mpr c17
        subst c17
        have H1 : (if a0_0 = a1_0 then (some 0) else (some 2)) = some r := by rw [if_neg (show ¬ (false = true) by decide)] at H; exact H
        clear H
        have H := H1
        clear H1
        by_cases c18 : a0_0 = a1_0
        · rw [if_pos c18] at H
          have c18b0 : (a0_0 == a1_0) = true := beq_iff_eq.mpr c18
          have c18b1 : (a0_0 != a1_0) = false := bne_eq_false_iff_eq.mpr c18
          clear c18
          obtain rfl := Option.some.inj H
          have hnb19 := NB440_441.out
          have hnc19 := NB441_440.out
          have hcz20_0 : wc.cell? ⟨gb440, 0, none⟩ = some (.int .i64 a0_0) := (blk_cell BK440.out 0).trans rfl
          have hcz20_1 : wc.cell? ⟨gb440, 1, none⟩ = some (.int .i64 a0_1) := (blk_cell BK440.out 1).trans rfl
          have hfz20_0 := blk_frozen BK440.out 0
          have hfz20_1 := blk_frozen BK440.out 1
          have hcz21_0 : wc.cell? ⟨gb441, 0, none⟩ = some (.int .i64 a1_0) := (blk_cell BK441.out 0).trans rfl
          have hcz21_1 : wc.cell? ⟨gb441, 1, none⟩ = some (.int .i64 a1_1) := (blk_cell BK441.out 1).trans rfl
          have hfz21_0 := blk_frozen BK441.out 0
          have hfz21_1 := blk_frozen BK441.out 1
          go_wp2
          go_ret
          exact ⟨by first | rfl | (simp [errW_none, errW_some] <;> rfl) | (simp [*, errW_none, errW_some] <;> rfl), iHB⟩
        · rw [if_neg c18] at H
          have c18b0 : (a0_0 == a1_0) = false := beq_eq_false_iff_ne.mpr c18
          have c18b1 : (a0_0 != a1_0) = true := bne_iff_ne.mpr c18
          obtain rfl := Option.some.inj H
          have hnb22 := NB440_441.out
          have hnc22 := NB441_440.out
          have hcz23_0 : wc.cell? ⟨gb440, 0, none⟩ = some (.int .i64 a0_0) := (blk_cell BK440.out 0).trans rfl
          have hcz23_1 : wc.cell? ⟨gb440, 1, none⟩ = some (.int .i64 a0_1) := (blk_cell BK440.out 1).trans rfl
          have hfz23_0 := blk_frozen BK440.out 0
          have hfz23_1 := blk_frozen BK440.out 1
          have hcz24_0 : wc.cell? ⟨gb441, 0, none⟩ = some (.int .i64 a1_0) := (blk_cell BK441.out 0).trans rfl
          have hcz24_1 : wc.cell? ⟨gb441, 1, none⟩ = some (.int .i64 a1_1) := (blk_cell BK441.out 1).trans rfl
          have hfz24_0 := blk_frozen BK441.out 0
          have hfz24_1 := blk_frozen BK441.out 1
          go_wp2
          go_ret
          exact ⟨by first | rfl | (simp [errW_none, errW_some] <;> rfl) | (simp [*, errW_none, errW_some] <;> rfl), iHB⟩
def spec_SumOfFuncs.f (k : Nat) (a0_0 : Int) (a0_1 : Int) (a1_0 : Int) (a1_1 : Int) : Option (Int × Int × Int) := (spec_l03Like.f k a0_0 a0_1 a1_0 a1_1).bind fun t447 => (if t447 = 0 then (some (a0_0, Go.bits .xor .i64 a0_1 a1_1, 0)) else (some (0, 0, t447)))
set_option maxHeartbeats 8000000 in
set_option maxRecDepth 100000 in
theorem spec_SumOfFuncs.calls (k : Nat) (a0_0 : Int) (a0_1 : Int) (a1_0 : Int) (a1_1 : Int) (r1 : Int) (r2 : Int) (r3 : Int) (w : World) (h : spec_SumOfFuncs.f k a0_0 a0_1 a1_0 a1_1 = some (r1, r2, r3)) :
    Calls Try.prog 55 #[.agg #[.int .i64 a0_0, .int .i64 a0_1], .agg #[.int .i64 a1_0, .int .i64 a1_1]] w fun e w' => e = .returned (.tuple #[.agg #[.int .i64 r1, .int .i64 r2], .int .i64 r3]) ∧ Below w.heap.size w w' := by
  have hu27 := Try.underlying27
  have HB := aa (Below.refl w.heap.size w)
  have H : ((spec_l03Like.f k a0_0 a0_1 a1_0 a1_1).bind fun t447 => (if t447 = 0 then (some (a0_0, Go.bits .xor .i64 a0_1 a1_1, 0)) else (some (0, 0, t447)))) = some (r1, r2, r3) := h
  clear h
  replace H := Option.bind_eq_some_iff.mp H
  obtain ⟨t447, A30, H⟩ := H
  replace H : (if t447 = 0 then (some (a0_0, Go.bits .xor .i64 a0_1 a1_1, 0)) else (some (0, 0, t447))) = some (r1, r2, r3) := H
  have A3 := Aside0.mk A30
  clear A30
  by_cases c4 : t447 = 0
  · rw [if_pos c4] at H
    have c4b0 : (t447 == 0) = true := beq_iff_eq.mpr c4
    have c4b1 : (t447 != 0) = false := bne_eq_false_iff_eq.mpr c4
    clear c4
    simp only [Option.some.injEq, Prod.mk.injEq] at H
    obtain ⟨rfl, rfl, rfl⟩ := H
    go_enter Try.func55, Try.ntmps55
    go_wp2_with (first | ((with_reducible refine gate_dst (N := 2) rfl ?_); refine box_event ?hg (N := 2) ?hd (cs := #[.int .i64 a0_0, .int .i64 a0_1]) (t := 27) ?hr ?_; (case hd => rfl); (case hg => rfl); (case hr => first | (go_simp; done) | (go_simp; rfl)); intro gb444 hg w5 hbox hb; have BK444 := aa (hbox); have GW444 := gwB (w := w) hg iHB; have GE444 := gwB (w := w) hg iHB; replace HB := aa (below_step iHB hb); clear hb hbox hg) | ((with_reducible refine gate_dst (N := 3) rfl ?_); refine box_event ?hg (N := 3) ?hd (cs := #[.int .i64 a1_0, .int .i64 a1_1]) (t := 27) ?hr ?_; (case hd => rfl); (case hg => rfl); (case hr => first | (go_simp; done) | (go_simp; rfl)); intro gb445 hg w6 hbox hb; have BK445 := aa (hbox); have GW445 := gwB (w := w) hg iHB; have GE445 := gwB (w := w) hg iHB; replace HB := aa (below_step iHB hb); have NB444_445 := nbL hg (iBK BK444.out); have NB445_444 := nbR hg (iBK BK444.out); replace BK444 := aa (blk_below (iBK BK444.out) hb); clear hb hbox hg) | ((with_reducible refine gate_dst (N := 4) rfl ?_); refine box_event ?hg (N := 4) ?hd (cs := #[.int .i64 0, .int .i64 0]) (t := 27) ?hr ?_; (case hd => rfl); (case hg => rfl); (case hr => first | (go_simp; done) | (go_simp; rfl)); intro gb446 hg w7 hbox hb; have BK446 := aa (hbox); have GW446 := gwB (w := w) hg iHB; have GE446 := gwB (w := w) hg iHB; replace HB := aa (below_step iHB hb); have NB444_446 := nbL hg (iBK BK444.out); have NB446_444 := nbR hg (iBK BK444.out); replace BK444 := aa (blk_below (iBK BK444.out) hb); have NB445_446 := nbL hg (iBK BK445.out); have NB446_445 := nbR hg (iBK BK445.out); replace BK445 := aa (blk_below (iBK BK445.out) hb); clear hb hbox hg; have hnb8 := NB444_445.out; have hnc8 := NB445_444.out; have hnb9 := NB444_446.out; have hnc9 := NB446_444.out; have hcz10_0 : w7.cell? ⟨gb444, 0, none⟩ = some (.int .i64 a0_0) := (blk_cell BK444.out 0).trans rfl; have hcz10_1 : w7.cell? ⟨gb444, 1, none⟩ = some (.int .i64 a0_1) := (blk_cell BK444.out 1).trans rfl; have hfz10_0 := blk_frozen BK444.out 0; have hfz10_1 := blk_frozen BK444.out 1; have hnb11 := NB445_446.out; have hnc11 := NB446_445.out; have hcz12_0 : w7.cell? ⟨gb445, 0, none⟩ = some (.int .i64 a1_0) := (blk_cell BK445.out 0).trans rfl; have hcz12_1 : w7.cell? ⟨gb445, 1, none⟩ = some (.int .i64 a1_1) := (blk_cell BK445.out 1).trans rfl; have hfz12_0 := blk_frozen BK445.out 0; have hfz12_1 := blk_frozen BK445.out 1) | ((with_reducible refine gate_callee (f := 100) rfl ?_); refine goesL_ (some 9) rfl rfl Try.func100 (by kernel_rfl) rfl #[.agg #[.int .i64 a0_0, .int .i64 a0_1], .agg #[.int .i64 a1_0, .int .i64 a1_1]] rfl iAR ?_; (with_reducible refine (spec_l03Like.calls k a0_0 a0_1 a1_0 a1_1 t447 _ A3.out).mono ?_); rintro e w13 ⟨rfl, hb⟩; refine ⟨_, rfl, ?_⟩; replace BK444 := aa (blk_below (iBK BK444.out) hb); replace BK445 := aa (blk_below (iBK BK445.out) hb); replace BK446 := aa (blk_below (iBK BK446.out) hb); replace HB := aa (below_step iHB hb); (try clear hb); have hcz14_0 : w13.cell? ⟨gb444, 0, none⟩ = some (.int .i64 a0_0) := (blk_cell BK444.out 0).trans rfl; have hcz14_1 : w13.cell? ⟨gb444, 1, none⟩ = some (.int .i64 a0_1) := (blk_cell BK444.out 1).trans rfl; have hfz14_0 := blk_frozen BK444.out 0; have hfz14_1 := blk_frozen BK444.out 1; have hcz15_0 : w13.cell? ⟨gb445, 0, none⟩ = some (.int .i64 a1_0) := (blk_cell BK445.out 0).trans rfl; have hcz15_1 : w13.cell? ⟨gb445, 1, none⟩ = some (.int .i64 a1_1) := (blk_cell BK445.out 1).trans rfl; have hfz15_0 := blk_frozen BK445.out 0; have hfz15_1 := blk_frozen BK445.out 1; have hcz16_0 : w13.cell? ⟨gb446, 0, none⟩ = some (.int .i64 0) := (blk_cell BK446.out 0).trans rfl; have hcz16_1 : w13.cell? ⟨gb446, 1, none⟩ = some (.int .i64 0) := (blk_cell BK446.out 1).trans rfl; have hfz16_0 := blk_frozen BK446.out 0; have hfz16_1 := blk_frozen BK446.out 1))
    refine bodyPost_ret (results_ct rfl _ _ gb446 27 #[.int .i64 a0_0, .int .i64 (Go.bits .xor .i64 a0_1 a1_1)] (0, 0) _ rfl (by (with_reducible repeat (first | refine blk_drewN ?_ _ | refine blk_drew ?_ | refine blk_alloc ?_ _)); refine blk_put (cs := #[.int .i64 a0_0, .int .i64 0]) ?_ 1 _ rfl; (with_reducible repeat (first | refine blk_drewN ?_ _ | refine blk_drew ?_ | refine blk_alloc ?_ _)); refine blk_put (cs := #[.int .i64 0, .int .i64 0]) ?_ 0 _ rfl; exact iBK BK446.out) Try.underlying27 rfl (by kernel_rfl)) rfl ?_
    exact ⟨by first | rfl | (simp [errW_none, errW_some] <;> rfl) | (simp [*, errW_none, errW_some] <;> rfl), iHB⟩
  · rw [if_neg c4] at H
    have c4b0 : (t447 == 0) = false := beq_eq_false_iff_ne.mpr c4
    have c4b1 : (t447 != 0) = true := bne_iff_ne.mpr c4
    simp only [Option.some.injEq, Prod.mk.injEq] at H
    obtain ⟨rfl, rfl, rfl⟩ := H
    go_enter Try.func55, Try.ntmps55
    go_wp2_with (first | ((with_reducible refine gate_dst (N := 2) rfl ?_); refine box_event ?hg (N := 2) ?hd (cs := #[.int .i64 a0_0, .int .i64 a0_1]) (t := 27) ?hr ?_; (case hd => rfl); (case hg => rfl); (case hr => first | (go_simp; done) | (go_simp; rfl)); intro gb444 hg w17 hbox hb; have BK444 := aa (hbox); have GW444 := gwB (w := w) hg iHB; have GE444 := gwB (w := w) hg iHB; replace HB := aa (below_step iHB hb); clear hb hbox hg) | ((with_reducible refine gate_dst (N := 3) rfl ?_); refine box_event ?hg (N := 3) ?hd (cs := #[.int .i64 a1_0, .int .i64 a1_1]) (t := 27) ?hr ?_; (case hd => rfl); (case hg => rfl); (case hr => first | (go_simp; done) | (go_simp; rfl)); intro gb445 hg w18 hbox hb; have BK445 := aa (hbox); have GW445 := gwB (w := w) hg iHB; have GE445 := gwB (w := w) hg iHB; replace HB := aa (below_step iHB hb); have NB444_445 := nbL hg (iBK BK444.out); have NB445_444 := nbR hg (iBK BK444.out); replace BK444 := aa (blk_below (iBK BK444.out) hb); clear hb hbox hg) | ((with_reducible refine gate_dst (N := 4) rfl ?_); refine box_event ?hg (N := 4) ?hd (cs := #[.int .i64 0, .int .i64 0]) (t := 27) ?hr ?_; (case hd => rfl); (case hg => rfl); (case hr => first | (go_simp; done) | (go_simp; rfl)); intro gb446 hg w19 hbox hb; have BK446 := aa (hbox); have GW446 := gwB (w := w) hg iHB; have GE446 := gwB (w := w) hg iHB; replace HB := aa (below_step iHB hb); have NB444_446 := nbL hg (iBK BK444.out); have NB446_444 := nbR hg (iBK BK444.out); replace BK444 := aa (blk_below (iBK BK444.out) hb); have NB445_446 := nbL hg (iBK BK445.out); have NB446_445 := nbR hg (iBK BK445.out); replace BK445 := aa (blk_below (iBK BK445.out) hb); clear hb hbox hg; have hnb20 := NB444_445.out; have hnc20 := NB445_444.out; have hnb21 := NB444_446.out; have hnc21 := NB446_444.out; have hcz22_0 : w19.cell? ⟨gb444, 0, none⟩ = some (.int .i64 a0_0) := (blk_cell BK444.out 0).trans rfl; have hcz22_1 : w19.cell? ⟨gb444, 1, none⟩ = some (.int .i64 a0_1) := (blk_cell BK444.out 1).trans rfl; have hfz22_0 := blk_frozen BK444.out 0; have hfz22_1 := blk_frozen BK444.out 1; have hnb23 := NB445_446.out; have hnc23 := NB446_445.out; have hcz24_0 : w19.cell? ⟨gb445, 0, none⟩ = some (.int .i64 a1_0) := (blk_cell BK445.out 0).trans rfl; have hcz24_1 : w19.cell? ⟨gb445, 1, none⟩ = some (.int .i64 a1_1) := (blk_cell BK445.out 1).trans rfl; have hfz24_0 := blk_frozen BK445.out 0; have hfz24_1 := blk_frozen BK445.out 1) | ((with_reducible refine gate_callee (f := 100) rfl ?_); refine goesL_ (some 9) rfl rfl Try.func100 (by kernel_rfl) rfl #[.agg #[.int .i64 a0_0, .int .i64 a0_1], .agg #[.int .i64 a1_0, .int .i64 a1_1]] rfl iAR ?_; (with_reducible refine (spec_l03Like.calls k a0_0 a0_1 a1_0 a1_1 t447 _ A3.out).mono ?_); rintro e w25 ⟨rfl, hb⟩; refine ⟨_, rfl, ?_⟩; replace BK444 := aa (blk_below (iBK BK444.out) hb); replace BK445 := aa (blk_below (iBK BK445.out) hb); replace BK446 := aa (blk_below (iBK BK446.out) hb); replace HB := aa (below_step iHB hb); (try clear hb); have hcz26_0 : w25.cell? ⟨gb446, 0, none⟩ = some (.int .i64 0) := (blk_cell BK446.out 0).trans rfl; have hcz26_1 : w25.cell? ⟨gb446, 1, none⟩ = some (.int .i64 0) := (blk_cell BK446.out 1).trans rfl; have hfz26_0 := blk_frozen BK446.out 0; have hfz26_1 := blk_frozen BK446.out 1))
    refine bodyPost_ret (results_ct rfl _ _ gb446 27 #[.int .i64 0, .int .i64 0] (0, 0) _ rfl (by (with_reducible repeat (first | refine blk_drewN ?_ _ | refine blk_drew ?_ | refine blk_alloc ?_ _)); refine blk_put (cs := #[.int .i64 0, .int .i64 0]) ?_ 1 _ rfl; (with_reducible repeat (first | refine blk_drewN ?_ _ | refine blk_drew ?_ | refine blk_alloc ?_ _)); refine blk_put (cs := #[.int .i64 0, .int .i64 0]) ?_ 0 _ rfl; exact iBK BK446.out) Try.underlying27 rfl (by kernel_rfl)) rfl ?_
    exact ⟨by first | rfl | (simp [errW_none, errW_some] <;> rfl) | (simp [*, errW_none, errW_some] <;> rfl), iHB⟩
def impl_ProductOfFuncs.f (a0_0 : Int) (a0_1 : Int) (a1_0 : Int) (a1_1 : Int) : Option (Int × Int × Int) := (impl_pairCode.f a0_0 a0_1 a1_0 a1_1).bind fun t451 => (if t451 = 0 then (some (a0_0, Go.bits .and .i64 a0_1 a1_1, 0)) else (some (0, 0, t451)))
set_option maxHeartbeats 8000000 in
set_option maxRecDepth 100000 in
theorem impl_ProductOfFuncs.calls (a0_0 : Int) (a0_1 : Int) (a1_0 : Int) (a1_1 : Int) (r1 : Int) (r2 : Int) (r3 : Int) (w : World) (h : impl_ProductOfFuncs.f a0_0 a0_1 a1_0 a1_1 = some (r1, r2, r3)) :
    Calls Try.prog 56 #[.agg #[.int .i64 a0_0, .int .i64 a0_1], .agg #[.int .i64 a1_0, .int .i64 a1_1]] w fun e w' => e = .returned (.tuple #[.agg #[.int .i64 r1, .int .i64 r2], .int .i64 r3]) ∧ Below w.heap.size w w' := by
  have hu27 := Try.underlying27
  have HB := aa (Below.refl w.heap.size w)
  have H : ((impl_pairCode.f a0_0 a0_1 a1_0 a1_1).bind fun t451 => (if t451 = 0 then (some (a0_0, Go.bits .and .i64 a0_1 a1_1, 0)) else (some (0, 0, t451)))) = some (r1, r2, r3) := h
  clear h
  replace H := Option.bind_eq_some_iff.mp H
  obtain ⟨t451, A30, H⟩ := H
  replace H : (if t451 = 0 then (some (a0_0, Go.bits .and .i64 a0_1 a1_1, 0)) else (some (0, 0, t451))) = some (r1, r2, r3) := H
  have A3 := Aside0.mk A30
  clear A30
  by_cases c4 : t451 = 0
  · rw [if_pos c4] at H
    have c4b0 : (t451 == 0) = true := beq_iff_eq.mpr c4
    have c4b1 : (t451 != 0) = false := bne_eq_false_iff_eq.mpr c4
    clear c4
    simp only [Option.some.injEq, Prod.mk.injEq] at H
    obtain ⟨rfl, rfl, rfl⟩ := H
    go_enter Try.func56, Try.ntmps56
    go_wp2_with (first | ((with_reducible refine gate_dst (N := 2) rfl ?_); refine box_event ?hg (N := 2) ?hd (cs := #[.int .i64 a0_0, .int .i64 a0_1]) (t := 27) ?hr ?_; (case hd => rfl); (case hg => rfl); (case hr => first | (go_simp; done) | (go_simp; rfl)); intro gb448 hg w5 hbox hb; have BK448 := aa (hbox); have GW448 := gwB (w := w) hg iHB; have GE448 := gwB (w := w) hg iHB; replace HB := aa (below_step iHB hb); clear hb hbox hg) | ((with_reducible refine gate_dst (N := 3) rfl ?_); refine box_event ?hg (N := 3) ?hd (cs := #[.int .i64 a1_0, .int .i64 a1_1]) (t := 27) ?hr ?_; (case hd => rfl); (case hg => rfl); (case hr => first | (go_simp; done) | (go_simp; rfl)); intro gb449 hg w6 hbox hb; have BK449 := aa (hbox); have GW449 := gwB (w := w) hg iHB; have GE449 := gwB (w := w) hg iHB; replace HB := aa (below_step iHB hb); have NB448_449 := nbL hg (iBK BK448.out); have NB449_448 := nbR hg (iBK BK448.out); replace BK448 := aa (blk_below (iBK BK448.out) hb); clear hb hbox hg) | ((with_reducible refine gate_dst (N := 4) rfl ?_); refine box_event ?hg (N := 4) ?hd (cs := #[.int .i64 0, .int .i64 0]) (t := 27) ?hr ?_; (case hd => rfl); (case hg => rfl); (case hr => first | (go_simp; done) | (go_simp; rfl)); intro gb450 hg w7 hbox hb; have BK450 := aa (hbox); have GW450 := gwB (w := w) hg iHB; have GE450 := gwB (w := w) hg iHB; replace HB := aa (below_step iHB hb); have NB448_450 := nbL hg (iBK BK448.out); have NB450_448 := nbR hg (iBK BK448.out); replace BK448 := aa (blk_below (iBK BK448.out) hb); have NB449_450 := nbL hg (iBK BK449.out); have NB450_449 := nbR hg (iBK BK449.out); replace BK449 := aa (blk_below (iBK BK449.out) hb); clear hb hbox hg; have hnb8 := NB448_449.out; have hnc8 := NB449_448.out; have hnb9 := NB448_450.out; have hnc9 := NB450_448.out; have hcz10_0 : w7.cell? ⟨gb448, 0, none⟩ = some (.int .i64 a0_0) := (blk_cell BK448.out 0).trans rfl; have hcz10_1 : w7.cell? ⟨gb448, 1, none⟩ = some (.int .i64 a0_1) := (blk_cell BK448.out 1).trans rfl; have hfz10_0 := blk_frozen BK448.out 0; have hfz10_1 := blk_frozen BK448.out 1; have hnb11 := NB449_450.out; have hnc11 := NB450_449.out; have hcz12_0 : w7.cell? ⟨gb449, 0, none⟩ = some (.int .i64 a1_0) := (blk_cell BK449.out 0).trans rfl; have hcz12_1 : w7.cell? ⟨gb449, 1, none⟩ = some (.int .i64 a1_1) := (blk_cell BK449.out 1).trans rfl; have hfz12_0 := blk_frozen BK449.out 0; have hfz12_1 := blk_frozen BK449.out 1) | ((with_reducible refine gate_callee (f := 99) rfl ?_); refine goesL_ (some 9) rfl rfl Try.func99 (by kernel_rfl) rfl #[.agg #[.int .i64 a0_0, .int .i64 a0_1], .agg #[.int .i64 a1_0, .int .i64 a1_1]] rfl iAR ?_; (with_reducible refine (impl_pairCode.calls a0_0 a0_1 a1_0 a1_1 t451 _ A3.out).mono ?_); rintro e w13 ⟨rfl, hb⟩; refine ⟨_, rfl, ?_⟩; replace BK448 := aa (blk_below (iBK BK448.out) hb); replace BK449 := aa (blk_below (iBK BK449.out) hb); replace BK450 := aa (blk_below (iBK BK450.out) hb); replace HB := aa (below_step iHB hb); (try clear hb); have hcz14_0 : w13.cell? ⟨gb448, 0, none⟩ = some (.int .i64 a0_0) := (blk_cell BK448.out 0).trans rfl; have hcz14_1 : w13.cell? ⟨gb448, 1, none⟩ = some (.int .i64 a0_1) := (blk_cell BK448.out 1).trans rfl; have hfz14_0 := blk_frozen BK448.out 0; have hfz14_1 := blk_frozen BK448.out 1; have hcz15_0 : w13.cell? ⟨gb449, 0, none⟩ = some (.int .i64 a1_0) := (blk_cell BK449.out 0).trans rfl; have hcz15_1 : w13.cell? ⟨gb449, 1, none⟩ = some (.int .i64 a1_1) := (blk_cell BK449.out 1).trans rfl; have hfz15_0 := blk_frozen BK449.out 0; have hfz15_1 := blk_frozen BK449.out 1; have hcz16_0 : w13.cell? ⟨gb450, 0, none⟩ = some (.int .i64 0) := (blk_cell BK450.out 0).trans rfl; have hcz16_1 : w13.cell? ⟨gb450, 1, none⟩ = some (.int .i64 0) := (blk_cell BK450.out 1).trans rfl; have hfz16_0 := blk_frozen BK450.out 0; have hfz16_1 := blk_frozen BK450.out 1))
    refine bodyPost_ret (results_ct rfl _ _ gb450 27 #[.int .i64 a0_0, .int .i64 (Go.bits .and .i64 a0_1 a1_1)] (0, 0) _ rfl (by (with_reducible repeat (first | refine blk_drewN ?_ _ | refine blk_drew ?_ | refine blk_alloc ?_ _)); refine blk_put (cs := #[.int .i64 a0_0, .int .i64 0]) ?_ 1 _ rfl; (with_reducible repeat (first | refine blk_drewN ?_ _ | refine blk_drew ?_ | refine blk_alloc ?_ _)); refine blk_put (cs := #[.int .i64 0, .int .i64 0]) ?_ 0 _ rfl; exact iBK BK450.out) Try.underlying27 rfl (by kernel_rfl)) rfl ?_
    exact ⟨by first | rfl | (simp [errW_none, errW_some] <;> rfl) | (simp [*, errW_none, errW_some] <;> rfl), iHB⟩
  · rw [if_neg c4] at H
    have c4b0 : (t451 == 0) = false := beq_eq_false_iff_ne.mpr c4
    have c4b1 : (t451 != 0) = true := bne_iff_ne.mpr c4
    simp only [Option.some.injEq, Prod.mk.injEq] at H
    obtain ⟨rfl, rfl, rfl⟩ := H
    go_enter Try.func56, Try.ntmps56
    go_wp2_with (first | ((with_reducible refine gate_dst (N := 2) rfl ?_); refine box_event ?hg (N := 2) ?hd (cs := #[.int .i64 a0_0, .int .i64 a0_1]) (t := 27) ?hr ?_; (case hd => rfl); (case hg => rfl); (case hr => first | (go_simp; done) | (go_simp; rfl)); intro gb448 hg w17 hbox hb; have BK448 := aa (hbox); have GW448 := gwB (w := w) hg iHB; have GE448 := gwB (w := w) hg iHB; replace HB := aa (below_step iHB hb); clear hb hbox hg) | ((with_reducible refine gate_dst (N := 3) rfl ?_); refine box_event ?hg (N := 3) ?hd (cs := #[.int .i64 a1_0, .int .i64 a1_1]) (t := 27) ?hr ?_; (case hd => rfl); (case hg => rfl); (case hr => first | (go_simp; done) | (go_simp; rfl)); intro gb449 hg w18 hbox hb; have BK449 := aa (hbox); have GW449 := gwB (w := w) hg iHB; have GE449 := gwB (w := w) hg iHB; replace HB := aa (below_step iHB hb); have NB448_449 := nbL hg (iBK BK448.out); have NB449_448 := nbR hg (iBK BK448.out); replace BK448 := aa (blk_below (iBK BK448.out) hb); clear hb hbox hg) | ((with_reducible refine gate_dst (N := 4) rfl ?_); refine box_event ?hg (N := 4) ?hd (cs := #[.int .i64 0, .int .i64 0]) (t := 27) ?hr ?_; (case hd => rfl); (case hg => rfl); (case hr => first | (go_simp; done) | (go_simp; rfl)); intro gb450 hg w19 hbox hb; have BK450 := aa (hbox); have GW450 := gwB (w := w) hg iHB; have GE450 := gwB (w := w) hg iHB; replace HB := aa (below_step iHB hb); have NB448_450 := nbL hg (iBK BK448.out); have NB450_448 := nbR hg (iBK BK448.out); replace BK448 := aa (blk_below (iBK BK448.out) hb); have NB449_450 := nbL hg (iBK BK449.out); have NB450_449 := nbR hg (iBK BK449.out); replace BK449 := aa (blk_below (iBK BK449.out) hb); clear hb hbox hg; have hnb20 := NB448_449.out; have hnc20 := NB449_448.out; have hnb21 := NB448_450.out; have hnc21 := NB450_448.out; have hcz22_0 : w19.cell? ⟨gb448, 0, none⟩ = some (.int .i64 a0_0) := (blk_cell BK448.out 0).trans rfl; have hcz22_1 : w19.cell? ⟨gb448, 1, none⟩ = some (.int .i64 a0_1) := (blk_cell BK448.out 1).trans rfl; have hfz22_0 := blk_frozen BK448.out 0; have hfz22_1 := blk_frozen BK448.out 1; have hnb23 := NB449_450.out; have hnc23 := NB450_449.out; have hcz24_0 : w19.cell? ⟨gb449, 0, none⟩ = some (.int .i64 a1_0) := (blk_cell BK449.out 0).trans rfl; have hcz24_1 : w19.cell? ⟨gb449, 1, none⟩ = some (.int .i64 a1_1) := (blk_cell BK449.out 1).trans rfl; have hfz24_0 := blk_frozen BK449.out 0; have hfz24_1 := blk_frozen BK449.out 1) | ((with_reducible refine gate_callee (f := 99) rfl ?_); refine goesL_ (some 9) rfl rfl Try.func99 (by kernel_rfl) rfl #[.agg #[.int .i64 a0_0, .int .i64 a0_1], .agg #[.int .i64 a1_0, .int .i64 a1_1]] rfl iAR ?_; (with_reducible refine (impl_pairCode.calls a0_0 a0_1 a1_0 a1_1 t451 _ A3.out).mono ?_); rintro e w25 ⟨rfl, hb⟩; refine ⟨_, rfl, ?_⟩; replace BK448 := aa (blk_below (iBK BK448.out) hb); replace BK449 := aa (blk_below (iBK BK449.out) hb); replace BK450 := aa (blk_below (iBK BK450.out) hb); replace HB := aa (below_step iHB hb); (try clear hb); have hcz26_0 : w25.cell? ⟨gb450, 0, none⟩ = some (.int .i64 0) := (blk_cell BK450.out 0).trans rfl; have hcz26_1 : w25.cell? ⟨gb450, 1, none⟩ = some (.int .i64 0) := (blk_cell BK450.out 1).trans rfl; have hfz26_0 := blk_frozen BK450.out 0; have hfz26_1 := blk_frozen BK450.out 1))
    refine bodyPost_ret (results_ct rfl _ _ gb450 27 #[.int .i64 0, .int .i64 0] (0, 0) _ rfl (by (with_reducible repeat (first | refine blk_drewN ?_ _ | refine blk_drew ?_ | refine blk_alloc ?_ _)); refine blk_put (cs := #[.int .i64 0, .int .i64 0]) ?_ 1 _ rfl; (with_reducible repeat (first | refine blk_drewN ?_ _ | refine blk_drew ?_ | refine blk_alloc ?_ _)); refine blk_put (cs := #[.int .i64 0, .int .i64 0]) ?_ 0 _ rfl; exact iBK BK450.out) Try.underlying27 rfl (by kernel_rfl)) rfl ?_
    exact ⟨by first | rfl | (simp [errW_none, errW_some] <;> rfl) | (simp [*, errW_none, errW_some] <;> rfl), iHB⟩
def spec_l01Near.f (s0_0 : List Int) (s0_1 : Int) (s0_2 : Int) (a1 : Int) : Option (Int × Int × Int) := (spec_l01Next.f s0_0 s0_1 s0_2 14).bind fun bt452 => (if bt452.1 = 0 then ((spec_l01Pick.f s0_0 bt452.2.1 bt452.2.2 (([(-1), wrap64 (a1 + 1), 1099511627776, (-4611686018427387904)] : List Int))).bind fun bt458 => (some (bt458.1, bt458.2.1, bt458.2.2))) else ((spec_l01Next.f s0_0 bt452.2.1 bt452.2.2 (wrap64 (a1 + 1))).bind fun bt461 => (some (bt461.1, bt461.2.1, bt461.2.2))))
set_option maxHeartbeats 8000000 in
set_option maxRecDepth 100000 in
theorem spec_l01Near.calls (g : Nat) (s0_0 : List Int) (s0_1 : Int) (s0_2 : Int) (a1 : Int) (r1 : Int) (r2 : Int) (r3 : Int) (w0 w : World) (hI : IsS81 w0 w g s0_0 s0_1 s0_2) (hB : Below w0.heap.size w0 w) (h : spec_l01Near.f s0_0 s0_1 s0_2 a1 = some (r1, r2, r3)) :
    Calls Try.prog 105 #[.pointer (some ⟨g, 0, none⟩), .int .i64 a1] w fun e w' => e = .returned (.int .i64 r1) ∧ IsS81 w0 w' g s0_0 r2 r3 ∧ Below w0.heap.size w0 w' ∧ KeepBut w w' g none := by
  have HI0 := Aside0.mk hI
  have HK := aa (KeepBut.refl w g none)
  have HL := Aside0.mk hB.size
  clear hI
  have HW0 := Aside0.mk hB.size
  have HB := Aside0.mk hB
  clear hB
  have H : ((spec_l01Next.f s0_0 s0_1 s0_2 14).bind fun bt452 => (if bt452.1 = 0 then ((spec_l01Pick.f s0_0 bt452.2.1 bt452.2.2 (([(-1), wrap64 (a1 + 1), 1099511627776, (-4611686018427387904)] : List Int))).bind fun bt458 => (some (bt458.1, bt458.2.1, bt458.2.2))) else ((spec_l01Next.f s0_0 bt452.2.1 bt452.2.2 (wrap64 (a1 + 1))).bind fun bt461 => (some (bt461.1, bt461.2.1, bt461.2.2))))) = some (r1, r2, r3) := h
  clear h
  replace H := Option.bind_eq_some_iff.mp H
  obtain ⟨⟨t452, t453, t454⟩, A30, H⟩ := H
  replace H : (if t452 = 0 then ((spec_l01Pick.f s0_0 t453 t454 (([(-1), wrap64 (a1 + 1), 1099511627776, (-4611686018427387904)] : List Int))).bind fun bt458 => (some (bt458.1, bt458.2.1, bt458.2.2))) else ((spec_l01Next.f s0_0 t453 t454 (wrap64 (a1 + 1))).bind fun bt461 => (some (bt461.1, bt461.2.1, bt461.2.2)))) = some (r1, r2, r3) := H
  have A3 := Aside0.mk A30
  clear A30
  by_cases c4 : t452 = 0
  · rw [if_pos c4] at H
    have c4b0 : (t452 == 0) = true := beq_iff_eq.mpr c4
    have c4b1 : (t452 != 0) = false := bne_eq_false_iff_eq.mpr c4
    clear c4
    obtain ⟨y455, hy455⟩ : ∃ y_ : List Int, y_ = (([(-1), wrap64 (a1 + 1), 1099511627776, (-4611686018427387904)] : List Int)) := ⟨_, rfl⟩
    replace H : ((spec_l01Pick.f s0_0 t453 t454 y455).bind fun bt458 => (some (bt458.1, bt458.2.1, bt458.2.2))) = some (r1, r2, r3) := by first | (rw [hy455]; with_reducible exact H) | (have H2_ := (Option.bind_some _ _).symm.trans H; rw [hy455]; with_reducible exact H2_) | (have H2_ := (Option.bind_some _ _).symm.trans H; with_reducible exact H2_) | with_reducible exact H | (rw [hy455]; exact H) | exact H
    have Ny455 := Aside0.mk hy455
    clear hy455
    replace H := Option.bind_eq_some_iff.mp H
    obtain ⟨⟨t458, t459, t460⟩, A50, H⟩ := H
    replace H : (some (t458, t459, t460)) = some (r1, r2, r3) := H
    have A5 := Aside0.mk A50
    clear A50
    simp only [Option.some.injEq, Prod.mk.injEq] at H
    obtain ⟨rfl, rfl, rfl⟩ := H
    go_enter Try.func105, Try.ntmps105
    go_wp2_with (first | ((with_reducible refine gate_callee (f := 118) rfl ?_); refine goesL_ (some 6) rfl rfl Try.func118 (by kernel_rfl) rfl #[.pointer (some ⟨g, 0, none⟩), .int .i64 14] rfl iAR ?_; (with_reducible refine (spec_l01Next.calls g s0_0 s0_1 s0_2 14 t452 t453 t454 w0 _ ?side1 ?side2 A3.out).mono ?_); (case side1 => exact iHI); (case side2 => exact iHS); rintro e w6 ⟨rfl, hi, hb, hk⟩; refine ⟨_, rfl, ?_⟩; replace HK := aa (KeepBut.trans (w := w) iHK hk (.inl rfl)); replace HB := aa (hb); replace HI0 := aa (hi); (try clear hb); (try clear hk); (try clear hi)) | ((with_reducible refine gate_dst (N := 11) rfl ?_); refine Kd.R_lit (Kd.int .i64) _ 2 ?hg (N := 11) ?hd (xs := ([(-1), wrap64 (a1 + 1), 1099511627776, (-4611686018427387904)] : List Int)) (inner := [.int .i64 (-1), .int .i64 (wrap64 (a1 + 1)), .int .i64 1099511627776, .int .i64 (-4611686018427387904)]) (ok := fun _ => True) (okp := fun _ => True) ?hr ?hp (fun _ hk => hk) trivial (Below.refl _ _) (Nat.le_refl _) (by simp) ?_; (case hd => rfl); (case hg => rfl); (case hr => first | (go_simp; done) | (go_simp; rfl)); (case hp => exact (Reps.one (show Kd.M (Kd.int .i64) _ _ _ (-1) [.int .i64 (-1)] from rfl) (Reps.one (show Kd.M (Kd.int .i64) _ _ _ (wrap64 (a1 + 1)) [.int .i64 (wrap64 (a1 + 1))] from rfl) (Reps.one (show Kd.M (Kd.int .i64) _ _ _ 1099511627776 [.int .i64 1099511627776] from rfl) (Reps.one (show Kd.M (Kd.int .i64) _ _ _ (-4611686018427387904) [.int .i64 (-4611686018427387904)] from rfl) (Reps.none _ _)))))); intro v456 w7 ho8 hb hg_ hnew_; clear hg_ hnew_; (first | rw [← Ny455.out] at ho8 | (simp only [Int.reduceToNat] at ho8; rw [← Ny455.out] at ho8)); have HO457 := aa (Kd.R_lower ho8 (keep_size (w := w) (g := g) (row := none) iHK)); replace HK := aa (KeepBut.trans (w := w) iHK (KeepBut.of_below hb g none) (.inl rfl)); replace HB := aa (below_step iHS hb); replace HI0 := aa (IsS81.below iHI hb); clear hb ho8; obtain ⟨Ao9, co9, eo9⟩ := Kd.R_slice HO457.out; subst eo9) | ((with_reducible refine gate_callee (f := 119) rfl ?_); refine goesL_ (some 12) rfl rfl Try.func119 (by kernel_rfl) rfl #[.pointer (some ⟨g, 0, none⟩), .slice Ao9 y455.length co9] rfl iAR ?_; (with_reducible refine (spec_l01Pick.calls g s0_0 t453 t454 _ _ y455 t458 t459 t460 w0 _ ?side1 ?side2 ?side3 ?side4 ?side5 A5.out).mono ?_); (case side1 => exact iHI); (case side2 => exact iHS); (case side3 => repeat (first | exact (Kd.R_reads' HO457.out).2.2 | (with_reducible refine Kd.C_alloc ?_ _) | (with_reducible refine Kd.C_drewN ?_ _) | (with_reducible refine Kd.C_drew ?_))); (case side4 => exact (Kd.R_reads' HO457.out).2.1); (case side5 => exact far_slice (IsS81.own_ne HI0.out HO457.out (by decide))); rintro e w10 ⟨rfl, hi, hb, hk⟩; refine ⟨_, rfl, ?_⟩; replace HO457 := aa (Kd.R_mono (Kd.R_keep (IsS81.apart (show IsS81 w0 _ g s0_0 t453 t454 from iHI) (by (with_reducible repeat (first | apply Kd.R_alloc | apply Kd.R_drewN | apply Kd.R_drew)); exact HO457.out) (by decide)) hk (fun _ h => h.2)) (fun _ h => h.1)); replace HK := aa (KeepBut.trans (w := w) iHK hk (.inl rfl)); replace HB := aa (hb); replace HI0 := aa (hi); (try clear hb); (try clear hk); (try clear hi)))
    go_ret
    exact ⟨by first | rfl | (simp [errW_none, errW_some] <;> rfl) | (simp [*, errW_none, errW_some] <;> rfl), iHI, iHS, iHK⟩
  · rw [if_neg c4] at H
    have c4b0 : (t452 == 0) = false := beq_eq_false_iff_ne.mpr c4
    have c4b1 : (t452 != 0) = true := bne_iff_ne.mpr c4
    replace H := Option.bind_eq_some_iff.mp H
    obtain ⟨⟨t461, t462, t463⟩, A110, H⟩ := H
    replace H : (some (t461, t462, t463)) = some (r1, r2, r3) := H
    have A11 := Aside0.mk A110
    clear A110
    simp only [Option.some.injEq, Prod.mk.injEq] at H
    obtain ⟨rfl, rfl, rfl⟩ := H
    go_enter Try.func105, Try.ntmps105
    go_wp2_with (first | ((with_reducible refine gate_callee (f := 118) rfl ?_); refine goesL_ (some 6) rfl rfl Try.func118 (by kernel_rfl) rfl #[.pointer (some ⟨g, 0, none⟩), .int .i64 14] rfl iAR ?_; (with_reducible refine (spec_l01Next.calls g s0_0 s0_1 s0_2 14 t452 t453 t454 w0 _ ?side1 ?side2 A3.out).mono ?_); (case side1 => exact iHI); (case side2 => exact iHS); rintro e w12 ⟨rfl, hi, hb, hk⟩; refine ⟨_, rfl, ?_⟩; replace HK := aa (KeepBut.trans (w := w) iHK hk (.inl rfl)); replace HB := aa (hb); replace HI0 := aa (hi); (try clear hb); (try clear hk); (try clear hi)) | ((with_reducible refine gate_callee (f := 118) rfl ?_); refine goesL_ (some 16) rfl rfl Try.func118 (by kernel_rfl) rfl #[.pointer (some ⟨g, 0, none⟩), .int .i64 (wrap64 (a1 + 1))] rfl iAR ?_; (with_reducible refine (spec_l01Next.calls g s0_0 t453 t454 (wrap64 (a1 + 1)) t461 t462 t463 w0 _ ?side1 ?side2 A11.out).mono ?_); (case side1 => exact iHI); (case side2 => exact iHS); rintro e w13 ⟨rfl, hi, hb, hk⟩; refine ⟨_, rfl, ?_⟩; replace HK := aa (KeepBut.trans (w := w) iHK hk (.inl rfl)); replace HB := aa (hb); replace HI0 := aa (hi); (try clear hb); (try clear hk); (try clear hi)))
    go_ret
    exact ⟨by first | rfl | (simp [errW_none, errW_some] <;> rfl) | (simp [*, errW_none, errW_some] <;> rfl), iHI, iHS, iHK⟩
def spec_DrawDerivativeBy.f (k : Nat) (l0 : List Int) : Option (Int × Int × Int) := (spec_l01From.f k l0).bind fun bt465 => ((spec_l01Draw.f k bt465.1 bt465.2.1 bt465.2.2).bind fun bt469 => ((spec_l01Rows.f bt469.1).bind fun t474 => ((spec_l01Near.f bt465.1 bt469.2.2.1 bt469.2.2.2 (wrap64 (t474 - 1))).bind fun bt475 => ((spec_l01Bad.f bt465.1 bt475.2.1 bt475.2.2 bt469.1 bt469.2.1).bind fun bt478 => (some (bt478.1, bt478.2.1, bt475.1))))))
set_option maxHeartbeats 8000000 in
set_option maxRecDepth 100000 in
theorem spec_DrawDerivativeBy.calls (k : Nat) (A0 : Option Addr) (c0 : Nat) (l0 : List Int) (r1 : Int) (r2 : Int) (r3 : Int) (w : World) (hr0 : Kd.C (Kd.int .u8) w A0 l0.length l0) (hc0 : l0.length ≤ c0) (h : spec_DrawDerivativeBy.f k l0 = some (r1, r2, r3)) :
    Calls Try.prog 58 #[.slice A0 l0.length c0] w fun e w' => e = .returned (.tuple #[.agg #[.int .i64 r1, .int .i64 r2], .int .i64 r3]) ∧ Below w.heap.size w w' := by
  have hu27 := Try.underlying27
  have HR0 := Aside0.mk hr0
  have HC0 := Aside0.mk hc0
  clear hr0 hc0
  have HB := aa (Below.refl w.heap.size w)
  have H : ((spec_l01From.f k l0).bind fun bt465 => ((spec_l01Draw.f k bt465.1 bt465.2.1 bt465.2.2).bind fun bt469 => ((spec_l01Rows.f bt469.1).bind fun t474 => ((spec_l01Near.f bt465.1 bt469.2.2.1 bt469.2.2.2 (wrap64 (t474 - 1))).bind fun bt475 => ((spec_l01Bad.f bt465.1 bt475.2.1 bt475.2.2 bt469.1 bt469.2.1).bind fun bt478 => (some (bt478.1, bt478.2.1, bt475.1))))))) = some (r1, r2, r3) := h
  clear h
  replace H := Option.bind_eq_some_iff.mp H
  obtain ⟨⟨t465, t466, t467⟩, A20, H⟩ := H
  replace H : ((spec_l01Draw.f k t465 t466 t467).bind fun bt469 => ((spec_l01Rows.f bt469.1).bind fun t474 => ((spec_l01Near.f t465 bt469.2.2.1 bt469.2.2.2 (wrap64 (t474 - 1))).bind fun bt475 => ((spec_l01Bad.f t465 bt475.2.1 bt475.2.2 bt469.1 bt469.2.1).bind fun bt478 => (some (bt478.1, bt478.2.1, bt475.1)))))) = some (r1, r2, r3) := H
  have A2 := Aside0.mk A20
  clear A20
  replace H := Option.bind_eq_some_iff.mp H
  obtain ⟨⟨t469, t470, t471, t472⟩, A30, H⟩ := H
  replace H : ((spec_l01Rows.f t469).bind fun t474 => ((spec_l01Near.f t465 t471 t472 (wrap64 (t474 - 1))).bind fun bt475 => ((spec_l01Bad.f t465 bt475.2.1 bt475.2.2 t469 t470).bind fun bt478 => (some (bt478.1, bt478.2.1, bt475.1))))) = some (r1, r2, r3) := H
  have A3 := Aside0.mk A30
  clear A30
  replace H := Option.bind_eq_some_iff.mp H
  obtain ⟨t474, A40, H⟩ := H
  replace H : ((spec_l01Near.f t465 t471 t472 (wrap64 (t474 - 1))).bind fun bt475 => ((spec_l01Bad.f t465 bt475.2.1 bt475.2.2 t469 t470).bind fun bt478 => (some (bt478.1, bt478.2.1, bt475.1)))) = some (r1, r2, r3) := H
  have A4 := Aside0.mk A40
  clear A40
  replace H := Option.bind_eq_some_iff.mp H
  obtain ⟨⟨t475, t476, t477⟩, A50, H⟩ := H
  replace H : ((spec_l01Bad.f t465 t476 t477 t469 t470).bind fun bt478 => (some (bt478.1, bt478.2.1, t475))) = some (r1, r2, r3) := H
  have A5 := Aside0.mk A50
  clear A50
  replace H := Option.bind_eq_some_iff.mp H
  obtain ⟨⟨t478, t479, t480, t481⟩, A60, H⟩ := H
  replace H : (some (t478, t479, t475)) = some (r1, r2, r3) := H
  have A6 := Aside0.mk A60
  clear A60
  simp only [Option.some.injEq, Prod.mk.injEq] at H
  obtain ⟨rfl, rfl, rfl⟩ := H
  go_enter Try.func58, Try.ntmps58
  go_wp2_with (first | ((with_reducible refine gate_dst (N := 2) rfl ?_); refine box_event ?hg (N := 2) ?hd (cs := #[.int .i64 0, .int .i64 0]) (t := 27) ?hr ?_; (case hd => rfl); (case hg => rfl); (case hr => first | (go_simp; done) | (go_simp; rfl)); intro gb464 hg w7 hbox hb; have BK464 := aa (hbox); have GW464 := gwB (w := w) hg iHB; have GE464 := gwB (w := w) hg iHB; replace HB := aa (below_step iHB hb); clear hb hbox hg) | ((with_reducible refine gate_callee (f := 96) rfl ?_); refine goesL_ (some 8) rfl rfl Try.func96 (by kernel_rfl) rfl #[.slice A0 l0.length c0] rfl iAR ?_; (with_reducible refine (spec_l01From.calls k _ _ l0 t465 t466 t467 w _ ?side1 ?side2 ?side3 A2.out).mono ?_); (case side1 => exact iHB); (case side2 => exact HR0.out); (case side3 => exact HC0.out); rintro e w8 ⟨g468, rfl, hi, hb, hb2⟩; refine ⟨_, rfl, ?_⟩; replace HB := aa (hb); have HI468 := aa (hi); have NB468_464 := aa (IsS81.ne_blk hi (blk_below (iBK BK464.out) hb2) (by decide)); have NB464_468 := aa (Ne.symm (IsS81.ne_blk hi (blk_below (iBK BK464.out) hb2) (by decide))); replace BK464 := aa (blk_below (iBK BK464.out) hb2); (try clear hb); (try clear hb2); (try clear hi)) | ((with_reducible refine gate_callee (f := 104) rfl ?_); refine goesL_ (some 10) rfl rfl Try.func104 (by kernel_rfl) rfl #[.pointer (some ⟨g468, 0, none⟩)] rfl iAR ?_; (with_reducible refine (spec_l01Draw.calls k g468 t465 t466 t467 t469 t470 t471 t472 w _ ?side1 ?side2 A3.out).mono ?_); (case side1 => exact iHI); (case side2 => exact iHS); rintro e w9 ⟨rfl, hi, hb, hk⟩; refine ⟨_, rfl, ?_⟩; replace BK464 := aa (KeepBut.blk hk (iBK BK464.out) NB464_468.out (by simp)); replace HB := aa (hb); replace HI468 := aa (hi); (try clear hb); (try clear hk); (try clear hi)) | ((with_reducible refine gate_dst (N := 5) rfl ?_); refine box_event ?hg (N := 5) ?hd (cs := #[.int .i64 0, .int .i64 0]) (t := 27) ?hr ?_; (case hd => rfl); (case hg => rfl); (case hr => first | (go_simp; done) | (go_simp; rfl)); intro gb473 hg w10 hbox hb; have BK473 := aa (hbox); have GW473 := gwB (w := w) hg iHS; have GE473 := gwB (w := w) hg iHS; replace HB := aa (below_step iHS hb); have NB464_473 := nbL hg (iBK BK464.out); have NB473_464 := nbR hg (iBK BK464.out); replace BK464 := aa (blk_below (iBK BK464.out) hb); have NB468_473 := aa ((by rw [hg]; exact Nat.ne_of_lt (IsS81.lt (show IsS81 w _ g468 t465 t471 t472 from iHI)) : g468 ≠ gb473)); have NB473_468 := aa ((by rw [hg]; exact Nat.ne_of_gt (IsS81.lt (show IsS81 w _ g468 t465 t471 t472 from iHI)) : gb473 ≠ g468)); replace HI468 := aa (IsS81.below iHI hb); clear hb hbox hg; have hnb11 := NB473_464.out; have hnc11 := NB464_473.out; have hnb12 := NB473_468.out; have hnc12 := NB468_473.out; have hcz13_0 : w10.cell? ⟨gb473, 0, none⟩ = some (.int .i64 0) := (blk_cell BK473.out 0).trans rfl; have hcz13_1 : w10.cell? ⟨gb473, 1, none⟩ = some (.int .i64 0) := (blk_cell BK473.out 1).trans rfl; have hfz13_0 := blk_frozen BK473.out 0; have hfz13_1 := blk_frozen BK473.out 1) | ((with_reducible refine gate_callee (f := 68) rfl ?_); refine goesL_ (some 14) rfl rfl Try.func68 (by kernel_rfl) rfl #[.int .i64 t469] rfl iAR ?_; (with_reducible refine (spec_l01Rows.calls t469 t474 _ A4.out).mono ?_); rintro e w' ⟨rfl, ⟨nd, rfl⟩⟩; refine ⟨_, rfl, ?_⟩) | ((with_reducible refine gate_callee (f := 105) rfl ?_); refine goesL_ (some 16) rfl rfl Try.func105 (by kernel_rfl) rfl #[.pointer (some ⟨g468, 0, none⟩), .int .i64 (wrap64 (t474 - 1))] rfl iAR ?_; (with_reducible refine (spec_l01Near.calls g468 t465 t471 t472 (wrap64 (t474 - 1)) t475 t476 t477 w _ ?side1 ?side2 A5.out).mono ?_); (case side1 => exact iHI); (case side2 => exact iHS); rintro e w14 ⟨rfl, hi, hb, hk⟩; refine ⟨_, rfl, ?_⟩; replace BK464 := aa (KeepBut.blk hk (g' := gb464) (o := .cells #[.int .i64 0, .int .i64 0] 27 (0, 0)) (by (with_reducible repeat (first | refine blk_drewN ?_ _ | refine blk_drew ?_ | refine blk_alloc ?_ _)); refine blk_far ?_ NB464_473.out _; (with_reducible repeat (first | refine blk_drewN ?_ _ | refine blk_drew ?_ | refine blk_alloc ?_ _)); refine blk_far ?_ NB464_473.out _; exact iBK BK464.out) NB464_468.out (by simp)); replace BK473 := aa (KeepBut.blk hk (g' := gb473) (o := .cells #[.int .i64 t469, .int .i64 t470] 27 (0, 0)) (by (with_reducible repeat (first | refine blk_drewN ?_ _ | refine blk_drew ?_ | refine blk_alloc ?_ _)); refine blk_put (cs := #[.int .i64 t469, .int .i64 0]) ?_ 1 _ rfl; (with_reducible repeat (first | refine blk_drewN ?_ _ | refine blk_drew ?_ | refine blk_alloc ?_ _)); refine blk_put (cs := #[.int .i64 0, .int .i64 0]) ?_ 0 _ rfl; exact iBK BK473.out) NB473_468.out (by simp)); replace HB := aa (hb); replace HI468 := aa (hi); (try clear hb); (try clear hk); (try clear hi); have hcz15_0 : w14.cell? ⟨gb473, 0, none⟩ = some (.int .i64 t469) := (blk_cell BK473.out 0).trans rfl; have hcz15_1 : w14.cell? ⟨gb473, 1, none⟩ = some (.int .i64 t470) := (blk_cell BK473.out 1).trans rfl; have hfz15_0 := blk_frozen BK473.out 0; have hfz15_1 := blk_frozen BK473.out 1) | ((with_reducible refine gate_callee (f := 106) rfl ?_); refine goesL_ (some 19) rfl rfl Try.func106 (by kernel_rfl) rfl #[.pointer (some ⟨g468, 0, none⟩), .agg #[.int .i64 t469, .int .i64 t470]] rfl iAR ?_; (with_reducible refine (spec_l01Bad.calls g468 t465 t476 t477 t469 t470 t478 t479 t480 t481 w _ ?side1 ?side2 A6.out).mono ?_); (case side1 => exact iHI); (case side2 => exact iHS); rintro e w16 ⟨rfl, hi, hb, hk⟩; refine ⟨_, rfl, ?_⟩; replace BK464 := aa (KeepBut.blk hk (iBK BK464.out) NB464_468.out (by simp)); replace BK473 := aa (KeepBut.blk hk (iBK BK473.out) NB473_468.out (by simp)); replace HB := aa (hb); replace HI468 := aa (hi); (try clear hb); (try clear hk); (try clear hi); have hnb17 := NB464_468.out; have hnc17 := NB468_464.out; have hcz18_0 : w16.cell? ⟨gb464, 0, none⟩ = some (.int .i64 0) := (blk_cell BK464.out 0).trans rfl; have hcz18_1 : w16.cell? ⟨gb464, 1, none⟩ = some (.int .i64 0) := (blk_cell BK464.out 1).trans rfl; have hfz18_0 := blk_frozen BK464.out 0; have hfz18_1 := blk_frozen BK464.out 1))
  refine bodyPost_ret (results_ct rfl _ _ gb464 27 #[.int .i64 t478, .int .i64 t479] (0, 0) _ rfl (by (with_reducible repeat (first | refine blk_drewN ?_ _ | refine blk_drew ?_ | refine blk_alloc ?_ _)); refine blk_put (cs := #[.int .i64 t478, .int .i64 0]) ?_ 1 _ rfl; (with_reducible repeat (first | refine blk_drewN ?_ _ | refine blk_drew ?_ | refine blk_alloc ?_ _)); refine blk_put (cs := #[.int .i64 0, .int .i64 0]) ?_ 0 _ rfl; exact iBK BK464.out) Try.underlying27 rfl (by kernel_rfl)) rfl ?_
  exact ⟨by first | rfl | (simp [errW_none, errW_some] <;> rfl) | (simp [*, errW_none, errW_some] <;> rfl), iHS⟩
-- NOT PRINTED: function 107 (impl_DerivativeBy_1)
set_option maxHeartbeats 8000000 in
set_option maxRecDepth 100000 in
theorem der_lit (B D n b a : Nat) (hn : n ≤ 4) (hb : b < 2 ^ 62) (ha : a < 2 ^ n) (w : World) (hB : B < w.heap.size) (hD : D < w.heap.size) (hc : w.heap[B]? = some (.cells #[.int .i64 (n : Int), .int .i64 (b : Int)] 27 (0, 0))) (hd : w.heap[D]? = some (.cells #[.int .i64 (a : Int)] 2 (0, 0))) :
    GivesRow 107 #[.pointer (some ⟨B, 0, none⟩), .pointer (some ⟨D, 0, none⟩)] (2 ^ n) (fun r => M.atN b r ^^^ M.atN b (r ^^^ a)) w := by
  intro W r hr hbW
  have BK := aa ((hbW.block B hB).trans hc)
  have BD := aa ((hbW.block D hD).trans hd)
  have h16 := M.pow_le16 hn
  have hat := M.atN_le b r
  have hat2 := M.atN_le b (r ^^^ a)
  have hx16 : r ^^^ a < 2 ^ 4 := Nat.xor_lt_two_pow (by omega) (by omega)
  have HA1 := aa (Func_at_some (n : Int) b r hb (by omega))
  have HA2 : Aside0 (impl_Func_at.f (n : Int) (b : Int) (Go.bits .xor .i64 (r : Int) (a : Int)) = some ((M.atN b (r ^^^ a) : Nat) : Int)) := ⟨by rw [M.xor_nat r a (by omega) (by omega)]; exact Func_at_some (n : Int) b _ hb (by omega)⟩
  have HX := aa (M.xor_nat (M.atN b r) (M.atN b (r ^^^ a)) (by omega) (by omega))
  show Calls Try.prog 107 #[.int .i64 (r : Int), .pointer (some ⟨B, 0, none⟩), .pointer (some ⟨D, 0, none⟩)] W fun e W' => e = .returned (.int .i64 ((M.atN b r ^^^ M.atN b (r ^^^ a) : Nat) : Int)) ∧ Below W.heap.size W W'
  clear hn hb hB hD hc hd ha hr hbW h16 hat hat2 hx16
  generalize ((M.atN b r ^^^ M.atN b (r ^^^ a) : Nat) : Int) = z at HX ⊢
  generalize hx : ((M.atN b r : Nat) : Int) = x at HA1 HX
  generalize ((M.atN b (r ^^^ a) : Nat) : Int) = y at HA2 HX
  clear hx
  go_enter Try.func107, Try.ntmps107
  go_wp2_with fail
  refine start_ (n := 10) (S := fun w' => w'.cell? ⟨B, 0, none⟩ = some (.int .i64 (n : Int)) ∧ w'.cell? ⟨B, 1, none⟩ = some (.int .i64 (b : Int)) ∧ w'.cell? ⟨D, 0, none⟩ = some (.int .i64 (a : Int))) (ds := []) #[false, false, false, false, false, false, false, false, false, false] (by kernel_rfl) rfl rfl ⟨(blk_cell (blk_drew BK.out) 0).trans rfl, (blk_cell (blk_drew BK.out) 1).trans rfl, (blk_cell (blk_drew BD.out) 0).trans rfl⟩ (fun hHeld => ?_)
  refine pure_ (i := 1) (N := some 6) (v := ?_) (a' := ?_) #[false, true, false, false, false, false, false, false, false, false] rfl rfl (by kernel_rfl) (fun _ _ _ h => h) (Or.inl ⟨by rfl, ?_⟩) ?_ ?_
  rotate_left
  · intro w'
    go_simp
    with_reducible rfl
  rotate_left
  · simp only [Act.put, List.setIfInBounds_toArray, List.set_cons_zero, List.set_cons_succ, i64_w, i32_w]
    rfl
  refine pure_ (i := 4) (N := some 9) (v := ?_) (a' := ?_) #[false, true, false, false, true, false, false, false, false, false] rfl rfl (by kernel_rfl) (fun _ _ _ h => h) (Or.inl ⟨by rfl, ?_⟩) ?_ ?_
  rotate_left
  · intro w'
    go_simp
    with_reducible rfl
  rotate_left
  · simp only [Act.put, List.setIfInBounds_toArray, List.set_cons_zero, List.set_cons_succ, i64_w, i32_w]
    rfl
  refine take_ (i := 0) (N := some 5) (v := ?_) (a' := ?_) #[true, true, false, false, true, false, false, false, false, false] rfl rfl (by kernel_rfl) (fun _ _ _ h => h) (Or.inl ⟨by rfl, ?_⟩) hHeld ?_ ?_
  rotate_left
  · rintro w' ⟨s0, s1, s2⟩
    go_simp
    with_reducible rfl
  rotate_left
  · simp only [Act.put, List.setIfInBounds_toArray, List.set_cons_zero, List.set_cons_succ, i64_w, i32_w]
    rfl
  refine take_ (i := 3) (N := some 8) (v := ?_) (a' := ?_) #[true, true, false, true, true, false, false, false, false, false] rfl rfl (by kernel_rfl) (fun _ _ _ h => h) (Or.inl ⟨by rfl, ?_⟩) hHeld ?_ ?_
  rotate_left
  · rintro w' ⟨s0, s1, s2⟩
    go_simp
    with_reducible rfl
  rotate_left
  · simp only [Act.put, List.setIfInBounds_toArray, List.set_cons_zero, List.set_cons_succ, i64_w, i32_w]
    rfl
  refine take_ (i := 5) (N := some 10) (v := ?_) (a' := ?_) #[true, true, false, true, true, true, false, false, false, false] rfl rfl (by kernel_rfl) (fun _ _ _ h => h) (Or.inl ⟨by rfl, ?_⟩) hHeld ?_ ?_
  rotate_left
  · rintro w' ⟨s0, s1, s2⟩
    go_simp
    with_reducible rfl
  rotate_left
  · simp only [Act.put, List.setIfInBounds_toArray, List.set_cons_zero, List.set_cons_succ, i64_w, i32_w]
    rfl
  refine pure_ (i := 6) (N := some 11) (v := ?_) (a' := ?_) #[true, true, false, true, true, true, true, false, false, false] rfl rfl (by kernel_rfl) (fun _ _ _ h => h) (Or.inl ⟨by rfl, ?_⟩) ?_ ?_
  rotate_left
  · intro w'
    go_simp
    with_reducible rfl
  rotate_left
  · simp only [Act.put, List.setIfInBounds_toArray, List.set_cons_zero, List.set_cons_succ, i64_w, i32_w]
    rfl
  refine one_ (i := 2) (N := some 7) #[true, true, true, true, true, true, true, false, false, false] rfl rfl (by kernel_rfl) (by decide) (fun K hK => ?_)
  refine goes_ Try.func73 (by kernel_rfl) rfl #[(.agg #[.int .i64 (n : Int), .int .i64 (b : Int)]), .int .i64 (r : Int)] (by rfl) rfl rfl (by simp only [List.map_toArray, List.map_cons, List.map_nil]; rfl) ?_
  with_reducible refine (impl_Func_at.calls (n : Int) (b : Int) _ _ _ HA1.out).mono ?_
  rintro e w1 ⟨rfl, hb1⟩
  refine ⟨_, rfl, ?_⟩
  have BK1 := aa (blk_below (blk_drew BK.out) hb1)
  have BD1 := aa (blk_below (blk_drew BD.out) hb1)
  have HB1 := aa (below_step (below_drew1 (Below.refl W.heap.size W)) hb1)
  refine hK.out _ _ ⟨(blk_cell BK1.out 0).trans rfl, (blk_cell BK1.out 1).trans rfl, (blk_cell BD1.out 0).trans rfl⟩ (fun hHeld => ?_)
  clear hK K
  refine norm_ (a' := ?_) ?_ ?_
  rotate_left
  · show Act.put _ (some 7) _ = _
    simp only [Act.put, List.setIfInBounds_toArray, List.set_cons_zero, List.set_cons_succ, i64_w, i32_w]
    rfl
  refine one_ (i := 7) (N := some 12) #[true, true, true, true, true, true, true, true, false, false] rfl rfl (by kernel_rfl) (by decide) (fun K hK => ?_)
  refine goes_ Try.func73 (by kernel_rfl) rfl #[(.agg #[.int .i64 (n : Int), .int .i64 (b : Int)]), .int .i64 (Go.bits .xor .i64 (r : Int) (a : Int))] (by rfl) rfl rfl (by simp only [List.map_toArray, List.map_cons, List.map_nil]; rfl) ?_
  with_reducible refine (impl_Func_at.calls (n : Int) (b : Int) _ _ _ HA2.out).mono ?_
  rintro e w2 ⟨rfl, hb2⟩
  refine ⟨_, rfl, ?_⟩
  have BK2 := aa (blk_below BK1.out hb2)
  have BD2 := aa (blk_below BD1.out hb2)
  have HB2 := aa (below_step HB1.out hb2)
  refine hK.out _ _ ⟨(blk_cell BK2.out 0).trans rfl, (blk_cell BK2.out 1).trans rfl, (blk_cell BD2.out 0).trans rfl⟩ (fun hHeld => ?_)
  clear hK K
  refine norm_ (a' := ?_) ?_ ?_
  rotate_left
  · show Act.put _ (some 12) _ = _
    simp only [Act.put, List.setIfInBounds_toArray, List.set_cons_zero, List.set_cons_succ, i64_w, i32_w]
    rfl
  refine pure_ (i := 8) (N := some 13) (v := ?_) (a' := ?_) #[true, true, true, true, true, true, true, true, true, false] rfl rfl (by kernel_rfl) (fun _ _ _ h => h) (Or.inl ⟨by rfl, ?_⟩) ?_ ?_
  rotate_left
  · intro w'
    go_simp
    with_reducible rfl
  rotate_left
  · simp only [Act.put, List.setIfInBounds_toArray, List.set_cons_zero, List.set_cons_succ, i64_w, i32_w]
    rfl
  refine pure_ (i := 9) (N := some 4) (v := ?_) (a' := ?_) #[true, true, true, true, true, true, true, true, true, true] rfl rfl (by kernel_rfl) (fun _ _ _ h => h) (Or.inl ⟨by rfl, ?_⟩) ?_ ?_
  rotate_left
  · intro w'
    go_simp
    with_reducible rfl
  rotate_left
  · simp only [Act.put, List.setIfInBounds_toArray, List.set_cons_zero, List.set_cons_succ, i64_w, i32_w]
    rfl
  refine done_ (by kernel_rfl) ?_
  go_wp2
  go_ret
  exact ⟨by rw [← HX.out]; rfl, HB2.out⟩
def impl_DerivativeBy.f (a0_0 a0_1 a1 : Int) : Option (Int × Int × Int) :=
  if M.valid a0_0 a0_1 = true then (if 0 ≤ a1 ∧ a1 < ((2 ^ a0_0.toNat : Nat) : Int) then some (a0_0, ((M.derN a0_0.toNat a0_1.toNat a1.toNat : Nat) : Int), 0) else some (0, 0, 2)) else some (0, 0, 1)
set_option maxHeartbeats 8000000 in
set_option maxRecDepth 100000 in
theorem impl_DerivativeBy.calls (a0_0 a0_1 a1 : Int) (r1 r2 r3 : Int) (w : World) (h : impl_DerivativeBy.f a0_0 a0_1 a1 = some (r1, r2, r3)) :
    Calls Try.prog 59 #[.agg #[.int .i64 a0_0, .int .i64 a0_1], .int .i64 a1] w fun e w' => e = .returned (.tuple #[.agg #[.int .i64 r1, .int .i64 r2], .int .i64 r3]) ∧ Below w.heap.size w w' := by
  unfold impl_DerivativeBy.f at h
  have HI := aa (isFunc_some a0_0 a0_1)
  have HB0 := aa (below_alloc (below_alloc (below_alloc (Below.refl w.heap.size w) (.cells #[.int .i64 a0_0, .int .i64 a0_1] 27)) (.cells #[.int .i64 a1] 2)) (.cells #[.int .i64 0, .int .i64 0] 27))
  have F0 := aa (blk_alloc (blk_alloc (blk_new w (.cells #[.int .i64 a0_0, .int .i64 a0_1] 27)) (.cells #[.int .i64 a1] 2)) (.cells #[.int .i64 0, .int .i64 0] 27))
  have d0 := blk_alloc (blk_new (w.alloc (.cells #[.int .i64 a0_0, .int .i64 a0_1] 27)) (.cells #[.int .i64 a1] 2)) (.cells #[.int .i64 0, .int .i64 0] 27)
  have r0 := blk_new ((w.alloc (.cells #[.int .i64 a0_0, .int .i64 a0_1] 27)).alloc (.cells #[.int .i64 a1] 2)) (.cells #[.int .i64 0, .int .i64 0] 27)
  rw [World.size_alloc_] at d0
  rw [World.size_alloc_, World.size_alloc_] at r0
  have D0 := Aside0.mk d0
  have R0 := Aside0.mk r0
  clear d0 r0
  have hu := Try.underlying27
  by_cases hv : M.valid a0_0 a0_1 = true
  · rw [if_pos hv] at h
    rw [hv] at HI
    obtain ⟨n, b, hn, hb, rfl, rfl⟩ := (M.valid_iff _ _).1 hv
    have hb6 : b < 2 ^ 62 := Nat.lt_trans (M.bits_lt hn hb) (by decide)
    have h16 := M.pow_le16 hn
    have h1p := M.pow_pos n
    have HRW := aa (Func_rows_some n (b : Int) hn)
    simp only [Int.toNat_natCast] at h
    have HW : Aside0 (impl_within.f a1 0 (wrap64 (((2 ^ n : Nat) : Int) - 1)) = some (decide (0 ≤ a1 ∧ a1 < ((2 ^ n : Nat) : Int)))) := ⟨by
      rw [M.w64_in _ (by omega) (by omega), within_some]
      congr 1
      rw [Bool.eq_iff_iff]
      simp only [Bool.and_eq_true, decide_eq_true_eq]
      omega⟩
    by_cases ha : 0 ≤ a1 ∧ a1 < ((2 ^ n : Nat) : Int)
    · rw [if_pos ha] at h
      simp only [Option.some.injEq, Prod.mk.injEq] at h
      obtain ⟨rfl, rfl, rfl⟩ := h
      rw [decide_eq_true ha] at HW
      obtain ⟨a, rfl⟩ := Int.eq_ofNat_of_zero_le ha.1
      have ha2 : a < 2 ^ n := by omega
      simp only [Int.toNat_natCast]
      have HC := aa (fun W hB hD hc hd => impl_funcBy.calls 107 #[.pointer (some ⟨w.heap.size, 0, none⟩), .pointer (some ⟨w.heap.size + 1, 0, none⟩)] (fun args w => enters_ Try.func107 (by kernel_rfl) rfl args w) n hn (fun r => M.atN b r ^^^ M.atN b (r ^^^ a)) (fun r _ => M.der_le _ _ _) W (der_lit w.heap.size (w.heap.size + 1) n b a hn hb6 ha2 W hB hD hc hd))
      show Calls _ _ _ _ fun e w' => e = .returned (.tuple #[.agg #[.int .i64 (n : Int), .int .i64 ((M.tab (2 ^ n) (fun r => M.atN b r ^^^ M.atN b (r ^^^ a)) : Nat) : Int)], .int .i64 0]) ∧ Below w.heap.size w w'
      generalize M.tab (2 ^ n) (fun r => M.atN b r ^^^ M.atN b (r ^^^ a)) = q at HC ⊢
      generalize 2 ^ n = m at HRW HW
      clear hv hn hb hb6 h16 h1p ha ha2
      obtain ⟨a1, ha1⟩ : ∃ x : Int, x = (a : Int) := ⟨_, rfl⟩
      rw [← ha1] at HB0 F0 D0 R0 HW HC ⊢
      clear ha1
      go_enter Try.func59, Try.ntmps59
      go_wp2_with (first | (go_at_call 57; (with_reducible refine (impl_IsFunc.calls _ _ _ _ HI.out).mono ?_); rintro e w1 ⟨rfl, hb⟩; have HB1 := aa (below_step HB0.out hb); have F1 := aa (blk_below F0.out hb); have D1 := aa (blk_below D0.out hb); have R1 := aa (blk_below R0.out hb); clear hb HB0 F0 D0 R0))
      refine start_ (n := 6) (S := fun w' => w'.cell? ⟨w.heap.size, 0, none⟩ = some (.int .i64 (n : Int)) ∧ w'.cell? ⟨w.heap.size, 1, none⟩ = some (.int .i64 (b : Int)) ∧ w'.cell? ⟨w.heap.size + 1, 0, none⟩ = some (.int .i64 a1)) (ds := []) #[false, false, false, false, false, false] (by kernel_rfl) rfl rfl ⟨(blk_cell (blk_drew F1.out) 0).trans rfl, (blk_cell (blk_drew F1.out) 1).trans rfl, (blk_cell (blk_drew D1.out) 0).trans rfl⟩ (fun hHeld => ?_)
      refine take_ (i := 0) (N := some 10) (v := ?_) (a' := ?_) #[true, false, false, false, false, false] rfl rfl (by kernel_rfl) (fun _ _ _ h => h) (Or.inl ⟨by rfl, ?_⟩) hHeld ?_ ?_
      rotate_left
      · rintro w' ⟨s0, s1, s2⟩
        go_simp
        with_reducible rfl
      rotate_left
      · simp only [Act.put, List.setIfInBounds_toArray, List.set_cons_zero, List.set_cons_succ, i64_w, i32_w]
        rfl
      refine take_ (i := 1) (N := some 11) (v := ?_) (a' := ?_) #[true, true, false, false, false, false] rfl rfl (by kernel_rfl) (fun _ _ _ h => h) (Or.inl ⟨by rfl, ?_⟩) hHeld ?_ ?_
      rotate_left
      · rintro w' ⟨s0, s1, s2⟩
        go_simp
        with_reducible rfl
      rotate_left
      · simp only [Act.put, List.setIfInBounds_toArray, List.set_cons_zero, List.set_cons_succ, i64_w, i32_w]
        rfl
      refine one_ (i := 2) (N := some 12) #[true, true, true, false, false, false] rfl rfl (by kernel_rfl) (by decide) (fun K hK => ?_)
      refine goes_ Try.func75 (by kernel_rfl) rfl #[(.agg #[.int .i64 (n : Int), .int .i64 (b : Int)])] (by rfl) rfl rfl (by simp only [List.map_toArray, List.map_cons, List.map_nil]; rfl) ?_
      with_reducible refine (impl_Func_rows.calls (n : Int) (b : Int) _ _ HRW.out).mono ?_
      rintro e w2 ⟨rfl, hb2⟩
      refine ⟨_, rfl, ?_⟩
      have F2 := aa (blk_below (blk_drew F1.out) hb2)
      have D2 := aa (blk_below (blk_drew D1.out) hb2)
      have R2 := aa (blk_below (blk_drew R1.out) hb2)
      have HB2 := aa (below_step (below_drew1 HB1.out) hb2)
      refine hK.out _ _ ⟨(blk_cell F2.out 0).trans rfl, (blk_cell F2.out 1).trans rfl, (blk_cell D2.out 0).trans rfl⟩ (fun hHeld => ?_)
      clear hK K
      refine norm_ (a' := ?_) ?_ ?_
      rotate_left
      · show Act.put _ (some 12) _ = _
        simp only [Act.put, List.setIfInBounds_toArray, List.set_cons_zero, List.set_cons_succ, i64_w, i32_w]
        rfl
      refine pure_ (i := 3) (N := some 13) (v := ?_) (a' := ?_) #[true, true, true, true, false, false] rfl rfl (by kernel_rfl) (fun _ _ _ h => h) (Or.inl ⟨by rfl, ?_⟩) ?_ ?_
      rotate_left
      · intro w'
        go_simp
        with_reducible rfl
      rotate_left
      · simp only [Act.put, List.setIfInBounds_toArray, List.set_cons_zero, List.set_cons_succ, i64_w, i32_w]
        rfl
      refine one_ (i := 4) (N := some 14) #[true, true, true, true, true, false] rfl rfl (by kernel_rfl) (by decide) (fun K hK => ?_)
      refine goes_ Try.func102 (by kernel_rfl) rfl #[.int .i64 a1, .int .i64 0, .int .i64 (wrap64 ((m : Int) - 1))] (by rfl) rfl rfl (by simp only [List.map_toArray, List.map_cons, List.map_nil]; rfl) ?_
      with_reducible refine (impl_within.calls _ _ _ _ _ HW.out).mono ?_
      rintro e w3 ⟨rfl, ⟨nd, rfl⟩⟩
      refine ⟨_, rfl, ?_⟩
      have F3 := aa (blk_drewN F2.out nd)
      have D3 := aa (blk_drewN D2.out nd)
      have R3 := aa (blk_drewN R2.out nd)
      have HB3 := aa (pw_below_drewN HB2.out nd)
      refine hK.out _ _ ⟨(blk_cell F3.out 0).trans rfl, (blk_cell F3.out 1).trans rfl, (blk_cell D3.out 0).trans rfl⟩ (fun hHeld => ?_)
      clear hK K
      refine norm_ (a' := ?_) ?_ ?_
      rotate_left
      · show Act.put _ (some 14) _ = _
        simp only [Act.put, List.setIfInBounds_toArray, List.set_cons_zero, List.set_cons_succ, i64_w, i32_w]
        rfl
      refine pure_ (i := 5) (N := some 15) (v := ?_) (a' := ?_) #[true, true, true, true, true, true] rfl rfl (by kernel_rfl) (fun _ _ _ h => h) (Or.inl ⟨by rfl, ?_⟩) ?_ ?_
      rotate_left
      · intro w'
        go_simp
        with_reducible rfl
      rotate_left
      · simp only [Act.put, List.setIfInBounds_toArray, List.set_cons_zero, List.set_cons_succ, i64_w, i32_w]
        rfl
      refine done_ (by kernel_rfl) ?_
      have hc0 := blk_cell F3.out 0
      have hc1 := blk_cell F3.out 1
      have hc2 := blk_cell D3.out 0
      simp at hc0 hc1 hc2
      clear hHeld
      go_wp2_with fail
      refine (HC.out _ (blk_lt F3.out) (blk_lt D3.out) F3.out D3.out).mono ?_
      rintro e w4 ⟨rfl, hb⟩
      have HB4 := aa (below_step HB3.out hb)
      have R4 := aa (blk_below R3.out hb)
      have hz0 := blk_cell R4.out 0
      have hz1 := blk_cell R4.out 1
      simp at hz0 hz1
      have hy0 := blk_frozen R4.out 0
      have hy1 := blk_frozen R4.out 1
      clear hc0 hc1 hc2 hb HB3 R3 F3 D3
      go_wp2_with fail
      refine bodyPost_ret (results_ct rfl _ _ (w.heap.size + 1 + 1) 27 #[.int .i64 (n : Int), .int .i64 (q : Int)] (0, 0) _ rfl (blk_put (cs := #[.int .i64 (n : Int), .int .i64 0]) (blk_put R4.out 0 _ rfl) 1 _ rfl) Try.underlying27 rfl (by kernel_rfl)) rfl ⟨rfl, ?_⟩
      exact (HB4.out.setCell (by simp <;> omega) _).setCell (by simp <;> omega) _
    · rw [if_neg ha] at h
      simp only [Option.some.injEq, Prod.mk.injEq] at h
      obtain ⟨rfl, rfl, rfl⟩ := h
      rw [decide_eq_false ha] at HW
      generalize 2 ^ n = m at HRW HW
      clear hv hn hb hb6 h16 h1p ha
      go_enter Try.func59, Try.ntmps59
      go_wp2_with (first | (go_at_call 57; (with_reducible refine (impl_IsFunc.calls _ _ _ _ HI.out).mono ?_); rintro e w1 ⟨rfl, hb⟩; have HB1 := aa (below_step HB0.out hb); have F1 := aa (blk_below F0.out hb); have D1 := aa (blk_below D0.out hb); have R1 := aa (blk_below R0.out hb); clear hb HB0 F0 D0 R0))
      refine start_ (n := 6) (S := fun w' => w'.cell? ⟨w.heap.size, 0, none⟩ = some (.int .i64 (n : Int)) ∧ w'.cell? ⟨w.heap.size, 1, none⟩ = some (.int .i64 (b : Int)) ∧ w'.cell? ⟨w.heap.size + 1, 0, none⟩ = some (.int .i64 a1)) (ds := []) #[false, false, false, false, false, false] (by kernel_rfl) rfl rfl ⟨(blk_cell (blk_drew F1.out) 0).trans rfl, (blk_cell (blk_drew F1.out) 1).trans rfl, (blk_cell (blk_drew D1.out) 0).trans rfl⟩ (fun hHeld => ?_)
      refine take_ (i := 0) (N := some 10) (v := ?_) (a' := ?_) #[true, false, false, false, false, false] rfl rfl (by kernel_rfl) (fun _ _ _ h => h) (Or.inl ⟨by rfl, ?_⟩) hHeld ?_ ?_
      rotate_left
      · rintro w' ⟨s0, s1, s2⟩
        go_simp
        with_reducible rfl
      rotate_left
      · simp only [Act.put, List.setIfInBounds_toArray, List.set_cons_zero, List.set_cons_succ, i64_w, i32_w]
        rfl
      refine take_ (i := 1) (N := some 11) (v := ?_) (a' := ?_) #[true, true, false, false, false, false] rfl rfl (by kernel_rfl) (fun _ _ _ h => h) (Or.inl ⟨by rfl, ?_⟩) hHeld ?_ ?_
      rotate_left
      · rintro w' ⟨s0, s1, s2⟩
        go_simp
        with_reducible rfl
      rotate_left
      · simp only [Act.put, List.setIfInBounds_toArray, List.set_cons_zero, List.set_cons_succ, i64_w, i32_w]
        rfl
      refine one_ (i := 2) (N := some 12) #[true, true, true, false, false, false] rfl rfl (by kernel_rfl) (by decide) (fun K hK => ?_)
      refine goes_ Try.func75 (by kernel_rfl) rfl #[(.agg #[.int .i64 (n : Int), .int .i64 (b : Int)])] (by rfl) rfl rfl (by simp only [List.map_toArray, List.map_cons, List.map_nil]; rfl) ?_
      with_reducible refine (impl_Func_rows.calls (n : Int) (b : Int) _ _ HRW.out).mono ?_
      rintro e w2 ⟨rfl, hb2⟩
      refine ⟨_, rfl, ?_⟩
      have F2 := aa (blk_below (blk_drew F1.out) hb2)
      have D2 := aa (blk_below (blk_drew D1.out) hb2)
      have R2 := aa (blk_below (blk_drew R1.out) hb2)
      have HB2 := aa (below_step (below_drew1 HB1.out) hb2)
      refine hK.out _ _ ⟨(blk_cell F2.out 0).trans rfl, (blk_cell F2.out 1).trans rfl, (blk_cell D2.out 0).trans rfl⟩ (fun hHeld => ?_)
      clear hK K
      refine norm_ (a' := ?_) ?_ ?_
      rotate_left
      · show Act.put _ (some 12) _ = _
        simp only [Act.put, List.setIfInBounds_toArray, List.set_cons_zero, List.set_cons_succ, i64_w, i32_w]
        rfl
      refine pure_ (i := 3) (N := some 13) (v := ?_) (a' := ?_) #[true, true, true, true, false, false] rfl rfl (by kernel_rfl) (fun _ _ _ h => h) (Or.inl ⟨by rfl, ?_⟩) ?_ ?_
      rotate_left
      · intro w'
        go_simp
        with_reducible rfl
      rotate_left
      · simp only [Act.put, List.setIfInBounds_toArray, List.set_cons_zero, List.set_cons_succ, i64_w, i32_w]
        rfl
      refine one_ (i := 4) (N := some 14) #[true, true, true, true, true, false] rfl rfl (by kernel_rfl) (by decide) (fun K hK => ?_)
      refine goes_ Try.func102 (by kernel_rfl) rfl #[.int .i64 a1, .int .i64 0, .int .i64 (wrap64 ((m : Int) - 1))] (by rfl) rfl rfl (by simp only [List.map_toArray, List.map_cons, List.map_nil]; rfl) ?_
      with_reducible refine (impl_within.calls _ _ _ _ _ HW.out).mono ?_
      rintro e w3 ⟨rfl, ⟨nd, rfl⟩⟩
      refine ⟨_, rfl, ?_⟩
      have F3 := aa (blk_drewN F2.out nd)
      have D3 := aa (blk_drewN D2.out nd)
      have R3 := aa (blk_drewN R2.out nd)
      have HB3 := aa (pw_below_drewN HB2.out nd)
      refine hK.out _ _ ⟨(blk_cell F3.out 0).trans rfl, (blk_cell F3.out 1).trans rfl, (blk_cell D3.out 0).trans rfl⟩ (fun hHeld => ?_)
      clear hK K
      refine norm_ (a' := ?_) ?_ ?_
      rotate_left
      · show Act.put _ (some 14) _ = _
        simp only [Act.put, List.setIfInBounds_toArray, List.set_cons_zero, List.set_cons_succ, i64_w, i32_w]
        rfl
      refine pure_ (i := 5) (N := some 15) (v := ?_) (a' := ?_) #[true, true, true, true, true, true] rfl rfl (by kernel_rfl) (fun _ _ _ h => h) (Or.inl ⟨by rfl, ?_⟩) ?_ ?_
      rotate_left
      · intro w'
        go_simp
        with_reducible rfl
      rotate_left
      · simp only [Act.put, List.setIfInBounds_toArray, List.set_cons_zero, List.set_cons_succ, i64_w, i32_w]
        rfl
      refine done_ (by kernel_rfl) ?_
      have hz0 := blk_cell R3.out 0
      have hz1 := blk_cell R3.out 1
      simp at hz0 hz1
      have hy0 := blk_frozen R3.out 0
      have hy1 := blk_frozen R3.out 1
      clear hHeld
      go_wp2_with fail
      refine bodyPost_ret (results_ct rfl _ _ (w.heap.size + 1 + 1) 27 #[.int .i64 0, .int .i64 0] (0, 0) _ rfl (blk_put (cs := #[.int .i64 0, .int .i64 0]) (blk_put R3.out 0 _ rfl) 1 _ rfl) Try.underlying27 rfl (by kernel_rfl)) rfl ⟨rfl, ?_⟩
      exact (HB3.out.setCell (by simp <;> omega) _).setCell (by simp <;> omega) _
  · rw [if_neg hv] at h
    simp only [Option.some.injEq, Prod.mk.injEq] at h
    obtain ⟨rfl, rfl, rfl⟩ := h
    simp only [Bool.not_eq_true] at hv
    rw [hv] at HI
    clear hv
    go_enter Try.func59, Try.ntmps59
    go_wp2_with (first | (go_at_call 57; (with_reducible refine (impl_IsFunc.calls _ _ _ _ HI.out).mono ?_); rintro e w1 ⟨rfl, hb⟩; have HB1 := aa (below_step HB0.out hb); have F1 := aa (blk_below F0.out hb); have D1 := aa (blk_below D0.out hb); have R1 := aa (blk_below R0.out hb); have hz0 := blk_cell R1.out 0; have hz1 := blk_cell R1.out 1; simp at hz0 hz1; have hy0 := blk_frozen R1.out 0; have hy1 := blk_frozen R1.out 1; clear hb HB0 F0 D0 R0))
    refine bodyPost_ret (results_ct rfl _ _ (w.heap.size + 1 + 1) 27 #[.int .i64 0, .int .i64 0] (0, 0) _ rfl (blk_put (cs := #[.int .i64 0, .int .i64 0]) (blk_put R1.out 0 _ rfl) 1 _ rfl) Try.underlying27 rfl (by kernel_rfl)) rfl ⟨rfl, ?_⟩
    exact (HB1.out.setCell (by simp <;> omega) _).setCell (by simp <;> omega) _
end Go.Proofs.Ytdhfbgbclibagaa.P
