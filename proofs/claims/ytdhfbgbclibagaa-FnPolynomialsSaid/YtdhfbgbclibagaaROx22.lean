/- Functions of the given program and their contracts, written by a program of this session (gen.py) over the kit's print. -/
import Derived.Test.YtdhfbgbclibagaaROx0
import Derived.Test.YtdhfbgbclibagaaROx1
import Derived.Test.YtdhfbgbclibagaaROx2
import Derived.Test.YtdhfbgbclibagaaROx8
import Derived.Test.YtdhfbgbclibagaaROx9
import Derived.Test.YtdhfbgbclibagaaROx10
import Derived.Test.YtdhfbgbclibagaaROx14
import Derived.Test.YtdhfbgbclibagaaROx15
import Derived.Test.YtdhfbgbclibagaaROx16
import Derived.Test.YtdhfbgbclibagaaROx17
import Derived.Test.YtdhfbgbclibagaaROx21
namespace Go.Proofs.Ytdhfbgbclibagaa.P
open Go.RowKit Go.Proofs.YtdhfbgbclibagaaW.PrintWords Go.Proofs.YtdhfbgbclibagaaW.PrintLast Go.Proofs.YtdhfbgbclibagaaW.PrintMore
attribute [local go_sem] max2_int min2_int max_two min_two max_three min_three max_four min_four   -- for this text's walks alone
set_option linter.unusedVariables false
set_option linter.unusedSimpArgs false
attribute [local go_sem high] eqA27
set_option maxHeartbeats 8000000 in
set_option maxRecDepth 100000 in
theorem laws_FnPolynomials.calls (k : Nat) (A0 : Option Addr) (c0 : Nat) (l0 : List Int) (r : Bool) (w : World) (hr0 : Kd.C (Kd.int .u8) w A0 l0.length l0) (hc0 : l0.length ≤ c0) (h : laws_FnPolynomials.f k l0 = some true) :
  Calls Try.prog 14 #[.slice A0 l0.length c0] w fun e w' => e = .returned (.bool true) ∧ Below w.heap.size w w' := by
 have hu27 := Try.underlying27
 have HR0 := Aside0.mk hr0
 have HC0 := Aside0.mk hc0
 clear hr0 hc0
 have HB := aa (Below.refl w.heap.size w)
 have H : ((laws_big.f l0).bind fun t586 => (if t586 = true then (some true) else ((spec_DrawSumOfFuncs.f k l0).bind fun bt587 => ((impl_SumOfFuncs.f bt587.1 bt587.2.1 bt587.2.2.1 bt587.2.2.2).bind fun bt593 => ((spec_SumOfFuncs.f k bt587.1 bt587.2.1 bt587.2.2.1 bt587.2.2.2).bind fun bt597 => (if bt593.2.2 = bt597.2.2 then (laws_FnPolynomials.j0 k l0 bt593.2.2 (!(bt593.1 == bt597.1) || (!(bt593.2.1 == bt597.2.1))) bt587.1 bt587.2.1 bt587.2.2.1 bt587.2.2.2 bt593.1 bt593.2.1) else (laws_FnPolynomials.j0 k l0 bt593.2.2 true bt587.1 bt587.2.1 bt587.2.2.1 bt587.2.2.2 bt593.1 bt593.2.1))))))) = some true := h
 clear h
 replace H := Option.bind_eq_some_iff.mp H
 obtain ⟨t586, A20, H⟩ := H
 replace H : (if t586 = true then (some true) else ((spec_DrawSumOfFuncs.f k l0).bind fun bt587 => ((impl_SumOfFuncs.f bt587.1 bt587.2.1 bt587.2.2.1 bt587.2.2.2).bind fun bt593 => ((spec_SumOfFuncs.f k bt587.1 bt587.2.1 bt587.2.2.1 bt587.2.2.2).bind fun bt597 => (if bt593.2.2 = bt597.2.2 then (laws_FnPolynomials.j0 k l0 bt593.2.2 (!(bt593.1 == bt597.1) || (!(bt593.2.1 == bt597.2.1))) bt587.1 bt587.2.1 bt587.2.2.1 bt587.2.2.2 bt593.1 bt593.2.1) else (laws_FnPolynomials.j0 k l0 bt593.2.2 true bt587.1 bt587.2.1 bt587.2.2.1 bt587.2.2.2 bt593.1 bt593.2.1)))))) = some true := H
 have A2 := Aside0.mk A20
 clear A20
 by_cases c3 : t586 = true
 ·subst c3
  have H1 : (some true) = some true := by first | (rw [if_pos rfl] at H; exact H) | rfl
  clear H
  have H := H1
  clear H1
  clear H
  go_enter Try.func14, Try.ntmps14
  go_wp2_with (first | (go_at_call 41; (with_reducible refine (laws_big.calls _ _ l0 true _ ?side1 ?side2 A2.out).mono ?_); (case side1 => repeat (first | exact HR0.out | (with_reducible refine Kd.C_alloc ?_ _) | (with_reducible refine Kd.C_drewN ?_ _) | (with_reducible refine Kd.C_drew ?_))); (case side2 => exact HC0.out); rintro e w' ⟨rfl, ⟨nd, rfl⟩⟩; (try first | exact ⟨rfl, _, World.drewN_drewN _ _ _⟩ | exact ⟨rfl, _, Eq.trans (World.drewN_drewN _ _ _) (congrArg (World.drewN _) (Nat.add_assoc _ _ _))⟩)))
  repeat (go_quiet (first | (go_at_call 41; (with_reducible refine (laws_big.calls _ _ l0 true _ ?side1 ?side2 A2.out).mono ?_); (case side1 => repeat (first | exact HR0.out | (with_reducible refine Kd.C_alloc ?_ _) | (with_reducible refine Kd.C_drewN ?_ _) | (with_reducible refine Kd.C_drew ?_))); (case side2 => exact HC0.out); rintro e w' ⟨rfl, ⟨nd, rfl⟩⟩; (try first | exact ⟨rfl, _, World.drewN_drewN _ _ _⟩ | exact ⟨rfl, _, Eq.trans (World.drewN_drewN _ _ _) (congrArg (World.drewN _) (Nat.add_assoc _ _ _))⟩))); try go_wp2_with (first | (go_at_call 41; (with_reducible refine (laws_big.calls _ _ l0 true _ ?side1 ?side2 A2.out).mono ?_); (case side1 => repeat (first | exact HR0.out | (with_reducible refine Kd.C_alloc ?_ _) | (with_reducible refine Kd.C_drewN ?_ _) | (with_reducible refine Kd.C_drew ?_))); (case side2 => exact HC0.out); rintro e w' ⟨rfl, ⟨nd, rfl⟩⟩; (try first | exact ⟨rfl, _, World.drewN_drewN _ _ _⟩ | exact ⟨rfl, _, Eq.trans (World.drewN_drewN _ _ _) (congrArg (World.drewN _) (Nat.add_assoc _ _ _))⟩))))
  go_ret
  exact ⟨by first | rfl | (simp [errW_none, errW_some] <;> rfl) | (simp [*, errW_none, errW_some] <;> rfl), iHB⟩
 ·replace c3 := Bool.eq_false_iff.mpr c3
  subst c3
  have H1 : ((spec_DrawSumOfFuncs.f k l0).bind fun bt587 => ((impl_SumOfFuncs.f bt587.1 bt587.2.1 bt587.2.2.1 bt587.2.2.2).bind fun bt593 => ((spec_SumOfFuncs.f k bt587.1 bt587.2.1 bt587.2.2.1 bt587.2.2.2).bind fun bt597 => (if bt593.2.2 = bt597.2.2 then (laws_FnPolynomials.j0 k l0 bt593.2.2 (!(bt593.1 == bt597.1) || (!(bt593.2.1 == bt597.2.1))) bt587.1 bt587.2.1 bt587.2.2.1 bt587.2.2.2 bt593.1 bt593.2.1) else (laws_FnPolynomials.j0 k l0 bt593.2.2 true bt587.1 bt587.2.1 bt587.2.2.1 bt587.2.2.2 bt593.1 bt593.2.1))))) = some true := by rw [if_neg (show ¬ (false = true) by decide)] at H; exact H
  clear H
  have H := H1
  clear H1
  replace H := Option.bind_eq_some_iff.mp H
  obtain ⟨⟨t587, t588, t589, t590⟩, A40, H⟩ := H
  replace H : ((impl_SumOfFuncs.f t587 t588 t589 t590).bind fun bt593 => ((spec_SumOfFuncs.f k t587 t588 t589 t590).bind fun bt597 => (if bt593.2.2 = bt597.2.2 then (laws_FnPolynomials.j0 k l0 bt593.2.2 (!(bt593.1 == bt597.1) || (!(bt593.2.1 == bt597.2.1))) t587 t588 t589 t590 bt593.1 bt593.2.1) else (laws_FnPolynomials.j0 k l0 bt593.2.2 true t587 t588 t589 t590 bt593.1 bt593.2.1)))) = some true := H
  have A4 := Aside0.mk A40
  clear A40
  replace H := Option.bind_eq_some_iff.mp H
  obtain ⟨⟨t593, t594, t595⟩, A50, H⟩ := H
  replace H : ((spec_SumOfFuncs.f k t587 t588 t589 t590).bind fun bt597 => (if t595 = bt597.2.2 then (laws_FnPolynomials.j0 k l0 t595 (!(t593 == bt597.1) || (!(t594 == bt597.2.1))) t587 t588 t589 t590 t593 t594) else (laws_FnPolynomials.j0 k l0 t595 true t587 t588 t589 t590 t593 t594))) = some true := H
  have A5 := Aside0.mk A50
  clear A50
  replace H := Option.bind_eq_some_iff.mp H
  obtain ⟨⟨t597, t598, t599⟩, A60, H⟩ := H
  replace H : (if t595 = t599 then (laws_FnPolynomials.j0 k l0 t595 (!(t593 == t597) || (!(t594 == t598))) t587 t588 t589 t590 t593 t594) else (laws_FnPolynomials.j0 k l0 t595 true t587 t588 t589 t590 t593 t594)) = some true := H
  have A6 := Aside0.mk A60
  clear A60
  have HC7 := Aside0.mk H
  clear H
  go_enter Try.func14, Try.ntmps14
  go_upto_region 6 with (first | (go_at_call 41; (with_reducible refine (laws_big.calls _ _ l0 false _ ?side1 ?side2 A2.out).mono ?_); (case side1 => repeat (first | exact HR0.out | (with_reducible refine Kd.C_alloc ?_ _) | (with_reducible refine Kd.C_drewN ?_ _) | (with_reducible refine Kd.C_drew ?_))); (case side2 => exact HC0.out); rintro e w' ⟨rfl, ⟨nd, rfl⟩⟩; (try first | exact ⟨rfl, _, World.drewN_drewN _ _ _⟩ | exact ⟨rfl, _, Eq.trans (World.drewN_drewN _ _ _) (congrArg (World.drewN _) (Nat.add_assoc _ _ _))⟩)) | (go_at_call 53; (with_reducible refine (spec_DrawSumOfFuncs.calls k _ _ l0 t587 t588 t589 t590 _ ?side1 ?side2 A4.out).mono ?_); (case side1 => repeat (first | exact HR0.out | (with_reducible refine Kd.C_alloc ?_ _) | (with_reducible refine Kd.C_drewN ?_ _) | (with_reducible refine Kd.C_drew ?_))); (case side2 => exact HC0.out); rintro e w8 ⟨rfl, hb⟩; replace HB := aa (below_step iHB hb); (try clear hb)) | ((with_reducible refine gate_dst (N := 3) rfl ?_); (try (refine gate_guard (by rfl) ?_; dsimp only)); refine box_event ?hg (N := 3) ?hd (cs := #[.int .i64 0, .int .i64 0]) (t := 27) ?hr ?_; (case hd => rfl); (case hg => rfl); (case hr => first | (go_simp; done) | (go_simp; rfl)); intro gb591 hg w9 hbox hb; have BK591 := aa (hbox); have GW591 := gwB (w := w) hg iHB; have GE591 := gwB (w := w) hg iHB; replace HB := aa (below_step iHB hb); clear hb hbox hg) | ((with_reducible refine gate_dst (N := 4) rfl ?_); (try (refine gate_guard (by rfl) ?_; dsimp only)); refine box_event ?hg (N := 4) ?hd (cs := #[.int .i64 0, .int .i64 0]) (t := 27) ?hr ?_; (case hd => rfl); (case hg => rfl); (case hr => first | (go_simp; done) | (go_simp; rfl)); intro gb592 hg w10 hbox hb; have BK592 := aa (hbox); have GW592 := gwB (w := w) hg iHB; have GE592 := gwB (w := w) hg iHB; replace HB := aa (below_step iHB hb); have NB591_592 := nbL hg (iBK BK591.out); have NB592_591 := nbR hg (iBK BK591.out); replace BK591 := aa (blk_below (iBK BK591.out) hb); clear hb hbox hg; have hnb11 := NB591_592.out; have hnc11 := NB592_591.out; have hcz12_0 : w10.cell? ⟨gb591, 0, none⟩ = some (.int .i64 0) := (blk_cell BK591.out 0).trans rfl; have hcz12_1 : w10.cell? ⟨gb591, 1, none⟩ = some (.int .i64 0) := (blk_cell BK591.out 1).trans rfl; have hfz12_0 := blk_frozen BK591.out 0; have hfz12_1 := blk_frozen BK591.out 1; have hcz13_0 : w10.cell? ⟨gb592, 0, none⟩ = some (.int .i64 0) := (blk_cell BK592.out 0).trans rfl; have hcz13_1 : w10.cell? ⟨gb592, 1, none⟩ = some (.int .i64 0) := (blk_cell BK592.out 1).trans rfl; have hfz13_0 := blk_frozen BK592.out 0; have hfz13_1 := blk_frozen BK592.out 1) | (go_at_call 54; (with_reducible refine (impl_SumOfFuncs.calls t587 t588 t589 t590 t593 t594 t595 _ A5.out).mono ?_); rintro e w14 ⟨rfl, hb⟩; replace BK591 := aa (blk_below (g := gb591) (o := .cells #[.int .i64 t587, .int .i64 t588] 27 (0, 0)) (by (with_reducible repeat (first | refine blk_drewN ?_ _ | refine blk_drew ?_ | refine blk_alloc ?_ _)); refine blk_far ?_ NB591_592.out _; (with_reducible repeat (first | refine blk_drewN ?_ _ | refine blk_drew ?_ | refine blk_alloc ?_ _)); refine blk_far ?_ NB591_592.out _; (with_reducible repeat (first | refine blk_drewN ?_ _ | refine blk_drew ?_ | refine blk_alloc ?_ _)); refine blk_put (cs := #[.int .i64 t587, .int .i64 0]) ?_ 1 _ rfl; (with_reducible repeat (first | refine blk_drewN ?_ _ | refine blk_drew ?_ | refine blk_alloc ?_ _)); refine blk_put (cs := #[.int .i64 0, .int .i64 0]) ?_ 0 _ rfl; exact iBK BK591.out) hb); replace BK592 := aa (blk_below (g := gb592) (o := .cells #[.int .i64 t589, .int .i64 t590] 27 (0, 0)) (by (with_reducible repeat (first | refine blk_drewN ?_ _ | refine blk_drew ?_ | refine blk_alloc ?_ _)); refine blk_put (cs := #[.int .i64 t589, .int .i64 0]) ?_ 1 _ rfl; (with_reducible repeat (first | refine blk_drewN ?_ _ | refine blk_drew ?_ | refine blk_alloc ?_ _)); refine blk_put (cs := #[.int .i64 0, .int .i64 0]) ?_ 0 _ rfl; (with_reducible repeat (first | refine blk_drewN ?_ _ | refine blk_drew ?_ | refine blk_alloc ?_ _)); refine blk_far ?_ NB592_591.out _; (with_reducible repeat (first | refine blk_drewN ?_ _ | refine blk_drew ?_ | refine blk_alloc ?_ _)); refine blk_far ?_ NB592_591.out _; exact iBK BK592.out) hb); replace HB := aa (below_step iHB hb); (try clear hb)) | ((with_reducible refine gate_dst (N := 5) rfl ?_); (try (refine gate_guard (by rfl) ?_; dsimp only)); refine box_event ?hg (N := 5) ?hd (cs := #[.int .i64 0, .int .i64 0]) (t := 27) ?hr ?_; (case hd => rfl); (case hg => rfl); (case hr => first | (go_simp; done) | (go_simp; rfl)); intro gb596 hg w15 hbox hb; have BK596 := aa (hbox); have GW596 := gwB (w := w) hg iHB; have GE596 := gwB (w := w) hg iHB; replace HB := aa (below_step iHB hb); have NB591_596 := nbL hg (iBK BK591.out); have NB596_591 := nbR hg (iBK BK591.out); replace BK591 := aa (blk_below (iBK BK591.out) hb); have NB592_596 := nbL hg (iBK BK592.out); have NB596_592 := nbR hg (iBK BK592.out); replace BK592 := aa (blk_below (iBK BK592.out) hb); clear hb hbox hg; have hnb16 := NB596_591.out; have hnc16 := NB591_596.out; have hnb17 := NB596_592.out; have hnc17 := NB592_596.out; have hcz18_0 : w15.cell? ⟨gb596, 0, none⟩ = some (.int .i64 0) := (blk_cell BK596.out 0).trans rfl; have hcz18_1 : w15.cell? ⟨gb596, 1, none⟩ = some (.int .i64 0) := (blk_cell BK596.out 1).trans rfl; have hfz18_0 := blk_frozen BK596.out 0; have hfz18_1 := blk_frozen BK596.out 1; have hcz19_0 : w15.cell? ⟨gb591, 0, none⟩ = some (.int .i64 t587) := (blk_cell BK591.out 0).trans rfl; have hcz19_1 : w15.cell? ⟨gb591, 1, none⟩ = some (.int .i64 t588) := (blk_cell BK591.out 1).trans rfl; have hfz19_0 := blk_frozen BK591.out 0; have hfz19_1 := blk_frozen BK591.out 1; have hcz20_0 : w15.cell? ⟨gb592, 0, none⟩ = some (.int .i64 t589) := (blk_cell BK592.out 0).trans rfl; have hcz20_1 : w15.cell? ⟨gb592, 1, none⟩ = some (.int .i64 t590) := (blk_cell BK592.out 1).trans rfl; have hfz20_0 := blk_frozen BK592.out 0; have hfz20_1 := blk_frozen BK592.out 1) | (go_at_call 55; (with_reducible refine (spec_SumOfFuncs.calls k t587 t588 t589 t590 t597 t598 t599 _ A6.out).mono ?_); rintro e w21 ⟨rfl, hb⟩; replace BK591 := aa (blk_below (g := gb591) (o := .cells #[.int .i64 t587, .int .i64 t588] 27 (0, 0)) (by (with_reducible repeat (first | refine blk_drewN ?_ _ | refine blk_drew ?_ | refine blk_alloc ?_ _)); refine blk_far ?_ NB591_596.out _; (with_reducible repeat (first | refine blk_drewN ?_ _ | refine blk_drew ?_ | refine blk_alloc ?_ _)); refine blk_far ?_ NB591_596.out _; exact iBK BK591.out) hb); replace BK592 := aa (blk_below (g := gb592) (o := .cells #[.int .i64 t589, .int .i64 t590] 27 (0, 0)) (by (with_reducible repeat (first | refine blk_drewN ?_ _ | refine blk_drew ?_ | refine blk_alloc ?_ _)); refine blk_far ?_ NB592_596.out _; (with_reducible repeat (first | refine blk_drewN ?_ _ | refine blk_drew ?_ | refine blk_alloc ?_ _)); refine blk_far ?_ NB592_596.out _; exact iBK BK592.out) hb); replace BK596 := aa (blk_below (g := gb596) (o := .cells #[.int .i64 t593, .int .i64 t594] 27 (0, 0)) (by (with_reducible repeat (first | refine blk_drewN ?_ _ | refine blk_drew ?_ | refine blk_alloc ?_ _)); refine blk_put (cs := #[.int .i64 t593, .int .i64 0]) ?_ 1 _ rfl; (with_reducible repeat (first | refine blk_drewN ?_ _ | refine blk_drew ?_ | refine blk_alloc ?_ _)); refine blk_put (cs := #[.int .i64 0, .int .i64 0]) ?_ 0 _ rfl; exact iBK BK596.out) hb); replace HB := aa (below_step iHB hb); (try clear hb)) | ((with_reducible refine gate_dst (N := 7) rfl ?_); (try (refine gate_guard (by rfl) ?_; dsimp only)); refine box_event ?hg (N := 7) ?hd (cs := #[.int .i64 0, .int .i64 0]) (t := 27) ?hr ?_; (case hd => rfl); (case hg => rfl); (case hr => first | (go_simp; done) | (go_simp; rfl)); intro gb600 hg w22 hbox hb; have BK600 := aa (hbox); have GW600 := gwB (w := w) hg iHB; have GE600 := gwB (w := w) hg iHB; replace HB := aa (below_step iHB hb); have NB591_600 := nbL hg (iBK BK591.out); have NB600_591 := nbR hg (iBK BK591.out); replace BK591 := aa (blk_below (iBK BK591.out) hb); have NB592_600 := nbL hg (iBK BK592.out); have NB600_592 := nbR hg (iBK BK592.out); replace BK592 := aa (blk_below (iBK BK592.out) hb); have NB596_600 := nbL hg (iBK BK596.out); have NB600_596 := nbR hg (iBK BK596.out); replace BK596 := aa (blk_below (iBK BK596.out) hb); clear hb hbox hg; have hnb23 := NB600_591.out; have hnc23 := NB591_600.out; have hnb24 := NB600_592.out; have hnc24 := NB592_600.out; have hnb25 := NB600_596.out; have hnc25 := NB596_600.out; have hcz26_0 : w22.cell? ⟨gb600, 0, none⟩ = some (.int .i64 0) := (blk_cell BK600.out 0).trans rfl; have hcz26_1 : w22.cell? ⟨gb600, 1, none⟩ = some (.int .i64 0) := (blk_cell BK600.out 1).trans rfl; have hfz26_0 := blk_frozen BK600.out 0; have hfz26_1 := blk_frozen BK600.out 1))
  (try simp only [Act.put, List.setIfInBounds_toArray, List.set_cons_zero, List.set_cons_succ])
  go_cut [93] from 86 to 93 (fun v93 wc => ∃ (kq : Nat) (x93_6 : Bool), v93 = .bool x93_6 ∧ Aside0 (laws_FnPolynomials.j0 kq l0 t595 x93_6 t587 t588 t589 t590 t593 t594 = some true) ∧ Aside0 (kq ≤ k) ∧ Aside0 (wc.heap[gb591]? = some (.cells #[.int .i64 t587, .int .i64 t588] 27 (0, 0))) ∧ Aside0 (wc.heap[gb592]? = some (.cells #[.int .i64 t589, .int .i64 t590] 27 (0, 0))) ∧ Aside0 (wc.heap[gb596]? = some (.cells #[.int .i64 t593, .int .i64 t594] 27 (0, 0))) ∧ Aside0 (wc.heap[gb600]? = some (.cells #[.int .i64 t597, .int .i64 t598] 27 (0, 0))) ∧ Aside0 (Below w.heap.size w wc))
  case first =>
   have H := HC7.out
   clear HC7
   by_cases c27 : t595 = t599
   ·rw [if_pos c27] at H
    have c27b0 : (t595 == t599) = true := beq_iff_eq.mpr c27
    have c27b1 : (t595 != t599) = false := bne_eq_false_iff_eq.mpr c27
    clear c27
    (first | rw [c27b0] | (simp only [i64_w, i32_w]; rw [c27b0]) | skip)
    have H' := Aside0.mk H
    clear H
    have hnb28 := NB596_591.out
    have hnc28 := NB591_596.out
    have hnb29 := NB596_592.out
    have hnc29 := NB592_596.out
    have hnb30 := NB596_600.out
    have hnc30 := NB600_596.out
    have hcz31_0 : w22.cell? ⟨gb596, 0, none⟩ = some (.int .i64 t593) := (blk_cell BK596.out 0).trans rfl
    have hcz31_1 : w22.cell? ⟨gb596, 1, none⟩ = some (.int .i64 t594) := (blk_cell BK596.out 1).trans rfl
    have hfz31_0 := blk_frozen BK596.out 0
    have hfz31_1 := blk_frozen BK596.out 1
    have hnb32 := NB600_591.out
    have hnc32 := NB591_600.out
    have hnb33 := NB600_592.out
    have hnc33 := NB592_600.out
    have hcz34_0 : w22.cell? ⟨gb600, 0, none⟩ = some (.int .i64 0) := (blk_cell BK600.out 0).trans rfl
    have hcz34_1 : w22.cell? ⟨gb600, 1, none⟩ = some (.int .i64 0) := (blk_cell BK600.out 1).trans rfl
    have hfz34_0 := blk_frozen BK600.out 0
    have hfz34_1 := blk_frozen BK600.out 1
    go_wp2
    repeat (go_quiet (fail); try go_wp2)
    go_meet
    case rel => exact ⟨_, ((!(t593 == t597) || (!(t594 == t598)))), (by first | rfl | (simp; done) | (simp [*]; done)), H', ⟨by first | omega | exact Nat.le_refl _⟩, ⟨by (with_reducible repeat (first | refine blk_drewN ?_ _ | refine blk_drew ?_ | refine blk_alloc ?_ _)); refine blk_far ?_ NB591_600.out _; (with_reducible repeat (first | refine blk_drewN ?_ _ | refine blk_drew ?_ | refine blk_alloc ?_ _)); refine blk_far ?_ NB591_600.out _; exact iBK BK591.out⟩, ⟨by (with_reducible repeat (first | refine blk_drewN ?_ _ | refine blk_drew ?_ | refine blk_alloc ?_ _)); refine blk_far ?_ NB592_600.out _; (with_reducible repeat (first | refine blk_drewN ?_ _ | refine blk_drew ?_ | refine blk_alloc ?_ _)); refine blk_far ?_ NB592_600.out _; exact iBK BK592.out⟩, ⟨by (with_reducible repeat (first | refine blk_drewN ?_ _ | refine blk_drew ?_ | refine blk_alloc ?_ _)); refine blk_far ?_ NB596_600.out _; (with_reducible repeat (first | refine blk_drewN ?_ _ | refine blk_drew ?_ | refine blk_alloc ?_ _)); refine blk_far ?_ NB596_600.out _; exact iBK BK596.out⟩, ⟨by (with_reducible repeat (first | refine blk_drewN ?_ _ | refine blk_drew ?_ | refine blk_alloc ?_ _)); refine blk_put (cs := #[.int .i64 t597, .int .i64 0]) ?_ 1 _ rfl; (with_reducible repeat (first | refine blk_drewN ?_ _ | refine blk_drew ?_ | refine blk_alloc ?_ _)); refine blk_put (cs := #[.int .i64 0, .int .i64 0]) ?_ 0 _ rfl; exact iBK BK600.out⟩, ⟨iHB⟩⟩
   ·rw [if_neg c27] at H
    have c27b0 : (t595 == t599) = false := beq_eq_false_iff_ne.mpr c27
    have c27b1 : (t595 != t599) = true := bne_iff_ne.mpr c27
    (first | rw [c27b0] | (simp only [i64_w, i32_w]; rw [c27b0]) | skip)
    exact (laws_FnPolynomials.j0_not _ H).elim
  case rest =>
   clear HC7
   try clear c3
   try clear hcz12_0
   try clear hcz12_1
   try clear hcz13_0
   try clear hcz13_1
   try clear hcz18_0
   try clear hcz18_1
   try clear hcz19_0
   try clear hcz19_1
   try clear hcz20_0
   try clear hcz20_1
   try clear hcz26_0
   try clear hcz26_1
   try clear hfz12_0
   try clear hfz12_1
   try clear hfz13_0
   try clear hfz13_1
   try clear hfz18_0
   try clear hfz18_1
   try clear hfz19_0
   try clear hfz19_1
   try clear hfz20_0
   try clear hfz20_1
   try clear hfz26_0
   try clear hfz26_1
   obtain ⟨kq, x93_6, rfl, HA, HJ6, BK591, BK592, BK596, BK600, HB⟩ := hcut
   cases kq with
   | zero => exact absurd HA.out (by simp [laws_FnPolynomials.j0])
   | succ kj6 =>
    have H := HA.out
    clear HA
    simp only [laws_FnPolynomials.j0] at H
    by_cases c35 : x93_6 = true
    ·subst c35
     have H1 : (some false) = some true := by first | (rw [if_pos rfl] at H; exact H) | rfl
     clear H
     have H := H1
     clear H1
     exact absurd (Option.some.inj H) (by decide)
    ·replace c35 := Bool.eq_false_iff.mpr c35
     subst c35
     have H1 : (if t595 = 0 then ((impl_PolynomialOf.f kj6 t587 t588).bind fun bt601 => ((impl_PolynomialOf.f kj6 t589 t590).bind fun bt605 => ((impl_PolynomialOf.f kj6 t593 t594).bind fun bt609 => ((impl_FuncOfPolynomial.f kj6 t587 bt601.1).bind fun bt613 => ((impl_ProductOfFuncs.f t587 t588 t589 t590).bind fun bt617 => (if bt601.2 = 0 then (if bt605.2 = 0 then (if bt609.2 = 0 then (if bt613.2.2 = 0 then (if bt617.2.2 = 0 then (if (!(bt613.1 == t587) || (!(bt613.2.1 == t588))) = true then (laws_FnPolynomials.j1 kj6 l0 bt601.1 bt605.1 bt609.1 true t587 t588 t589 t590 t593 t594) else (if (bt601.1.length : Int) = (bt609.1.length : Int) then (if (bt605.1.length : Int) = (bt609.1.length : Int) then ((impl_IsFunc.f bt617.1 bt617.2.1).bind fun t621 => (laws_FnPolynomials.j1 kj6 l0 bt601.1 bt605.1 bt609.1 (!t621) t587 t588 t589 t590 t593 t594)) else (laws_FnPolynomials.j1 kj6 l0 bt601.1 bt605.1 bt609.1 true t587 t588 t589 t590 t593 t594)) else (laws_FnPolynomials.j1 kj6 l0 bt601.1 bt605.1 bt609.1 true t587 t588 t589 t590 t593 t594))) else (laws_FnPolynomials.j1 kj6 l0 bt601.1 bt605.1 bt609.1 true t587 t588 t589 t590 t593 t594)) else (laws_FnPolynomials.j1 kj6 l0 bt601.1 bt605.1 bt609.1 true t587 t588 t589 t590 t593 t594)) else (laws_FnPolynomials.j1 kj6 l0 bt601.1 bt605.1 bt609.1 true t587 t588 t589 t590 t593 t594)) else (laws_FnPolynomials.j1 kj6 l0 bt601.1 bt605.1 bt609.1 true t587 t588 t589 t590 t593 t594)) else (laws_FnPolynomials.j1 kj6 l0 bt601.1 bt605.1 bt609.1 true t587 t588 t589 t590 t593 t594))))))) else (laws_FnPolynomials.j3 kj6 l0)) = some true := by rw [if_neg (show ¬ (false = true) by decide)] at H; exact H
     clear H
     have H := H1
     clear H1
     have HC36 := Aside0.mk H
     clear H
     go_upto_if 95 with (fail)
     repeat (go_quiet (fail); go_upto_if 95 with (fail))
     go_cut [] from 9 to 221 (fun wc => ∃ (kq : Nat), Aside0 (laws_FnPolynomials.j3 kq l0 = some true) ∧ Aside0 (kq ≤ kj6) ∧ Aside0 (Below w.heap.size w wc))
     case first =>
      have H := HC36.out
      clear HC36
      by_cases c37 : t595 = 0
      ·rw [if_pos c37] at H
       have c37b0 : (t595 == 0) = true := beq_iff_eq.mpr c37
       have c37b1 : (t595 != 0) = false := bne_eq_false_iff_eq.mpr c37
       clear c37
       (first | rw [c37b0] | (simp only [i64_w, i32_w]; rw [c37b0]) | skip)
       replace H := Option.bind_eq_some_iff.mp H
       obtain ⟨⟨t601, t604⟩, A380, H⟩ := H
       replace H : ((impl_PolynomialOf.f kj6 t589 t590).bind fun bt605 => ((impl_PolynomialOf.f kj6 t593 t594).bind fun bt609 => ((impl_FuncOfPolynomial.f kj6 t587 t601).bind fun bt613 => ((impl_ProductOfFuncs.f t587 t588 t589 t590).bind fun bt617 => (if t604 = 0 then (if bt605.2 = 0 then (if bt609.2 = 0 then (if bt613.2.2 = 0 then (if bt617.2.2 = 0 then (if (!(bt613.1 == t587) || (!(bt613.2.1 == t588))) = true then (laws_FnPolynomials.j1 kj6 l0 t601 bt605.1 bt609.1 true t587 t588 t589 t590 t593 t594) else (if (t601.length : Int) = (bt609.1.length : Int) then (if (bt605.1.length : Int) = (bt609.1.length : Int) then ((impl_IsFunc.f bt617.1 bt617.2.1).bind fun t621 => (laws_FnPolynomials.j1 kj6 l0 t601 bt605.1 bt609.1 (!t621) t587 t588 t589 t590 t593 t594)) else (laws_FnPolynomials.j1 kj6 l0 t601 bt605.1 bt609.1 true t587 t588 t589 t590 t593 t594)) else (laws_FnPolynomials.j1 kj6 l0 t601 bt605.1 bt609.1 true t587 t588 t589 t590 t593 t594))) else (laws_FnPolynomials.j1 kj6 l0 t601 bt605.1 bt609.1 true t587 t588 t589 t590 t593 t594)) else (laws_FnPolynomials.j1 kj6 l0 t601 bt605.1 bt609.1 true t587 t588 t589 t590 t593 t594)) else (laws_FnPolynomials.j1 kj6 l0 t601 bt605.1 bt609.1 true t587 t588 t589 t590 t593 t594)) else (laws_FnPolynomials.j1 kj6 l0 t601 bt605.1 bt609.1 true t587 t588 t589 t590 t593 t594)) else (laws_FnPolynomials.j1 kj6 l0 t601 bt605.1 bt609.1 true t587 t588 t589 t590 t593 t594)))))) = some true := H
       have A38 := Aside0.mk A380
       clear A380
       replace H := Option.bind_eq_some_iff.mp H
       obtain ⟨⟨t605, t608⟩, A390, H⟩ := H
       replace H : ((impl_PolynomialOf.f kj6 t593 t594).bind fun bt609 => ((impl_FuncOfPolynomial.f kj6 t587 t601).bind fun bt613 => ((impl_ProductOfFuncs.f t587 t588 t589 t590).bind fun bt617 => (if t604 = 0 then (if t608 = 0 then (if bt609.2 = 0 then (if bt613.2.2 = 0 then (if bt617.2.2 = 0 then (if (!(bt613.1 == t587) || (!(bt613.2.1 == t588))) = true then (laws_FnPolynomials.j1 kj6 l0 t601 t605 bt609.1 true t587 t588 t589 t590 t593 t594) else (if (t601.length : Int) = (bt609.1.length : Int) then (if (t605.length : Int) = (bt609.1.length : Int) then ((impl_IsFunc.f bt617.1 bt617.2.1).bind fun t621 => (laws_FnPolynomials.j1 kj6 l0 t601 t605 bt609.1 (!t621) t587 t588 t589 t590 t593 t594)) else (laws_FnPolynomials.j1 kj6 l0 t601 t605 bt609.1 true t587 t588 t589 t590 t593 t594)) else (laws_FnPolynomials.j1 kj6 l0 t601 t605 bt609.1 true t587 t588 t589 t590 t593 t594))) else (laws_FnPolynomials.j1 kj6 l0 t601 t605 bt609.1 true t587 t588 t589 t590 t593 t594)) else (laws_FnPolynomials.j1 kj6 l0 t601 t605 bt609.1 true t587 t588 t589 t590 t593 t594)) else (laws_FnPolynomials.j1 kj6 l0 t601 t605 bt609.1 true t587 t588 t589 t590 t593 t594)) else (laws_FnPolynomials.j1 kj6 l0 t601 t605 bt609.1 true t587 t588 t589 t590 t593 t594)) else (laws_FnPolynomials.j1 kj6 l0 t601 t605 bt609.1 true t587 t588 t589 t590 t593 t594))))) = some true := H
       have A39 := Aside0.mk A390
       clear A390
       replace H := Option.bind_eq_some_iff.mp H
       obtain ⟨⟨t609, t612⟩, A400, H⟩ := H
       replace H : ((impl_FuncOfPolynomial.f kj6 t587 t601).bind fun bt613 => ((impl_ProductOfFuncs.f t587 t588 t589 t590).bind fun bt617 => (if t604 = 0 then (if t608 = 0 then (if t612 = 0 then (if bt613.2.2 = 0 then (if bt617.2.2 = 0 then (if (!(bt613.1 == t587) || (!(bt613.2.1 == t588))) = true then (laws_FnPolynomials.j1 kj6 l0 t601 t605 t609 true t587 t588 t589 t590 t593 t594) else (if (t601.length : Int) = (t609.length : Int) then (if (t605.length : Int) = (t609.length : Int) then ((impl_IsFunc.f bt617.1 bt617.2.1).bind fun t621 => (laws_FnPolynomials.j1 kj6 l0 t601 t605 t609 (!t621) t587 t588 t589 t590 t593 t594)) else (laws_FnPolynomials.j1 kj6 l0 t601 t605 t609 true t587 t588 t589 t590 t593 t594)) else (laws_FnPolynomials.j1 kj6 l0 t601 t605 t609 true t587 t588 t589 t590 t593 t594))) else (laws_FnPolynomials.j1 kj6 l0 t601 t605 t609 true t587 t588 t589 t590 t593 t594)) else (laws_FnPolynomials.j1 kj6 l0 t601 t605 t609 true t587 t588 t589 t590 t593 t594)) else (laws_FnPolynomials.j1 kj6 l0 t601 t605 t609 true t587 t588 t589 t590 t593 t594)) else (laws_FnPolynomials.j1 kj6 l0 t601 t605 t609 true t587 t588 t589 t590 t593 t594)) else (laws_FnPolynomials.j1 kj6 l0 t601 t605 t609 true t587 t588 t589 t590 t593 t594)))) = some true := H
       have A40 := Aside0.mk A400
       clear A400
       replace H := Option.bind_eq_some_iff.mp H
       obtain ⟨⟨t613, t614, t615⟩, A410, H⟩ := H
       replace H : ((impl_ProductOfFuncs.f t587 t588 t589 t590).bind fun bt617 => (if t604 = 0 then (if t608 = 0 then (if t612 = 0 then (if t615 = 0 then (if bt617.2.2 = 0 then (if (!(t613 == t587) || (!(t614 == t588))) = true then (laws_FnPolynomials.j1 kj6 l0 t601 t605 t609 true t587 t588 t589 t590 t593 t594) else (if (t601.length : Int) = (t609.length : Int) then (if (t605.length : Int) = (t609.length : Int) then ((impl_IsFunc.f bt617.1 bt617.2.1).bind fun t621 => (laws_FnPolynomials.j1 kj6 l0 t601 t605 t609 (!t621) t587 t588 t589 t590 t593 t594)) else (laws_FnPolynomials.j1 kj6 l0 t601 t605 t609 true t587 t588 t589 t590 t593 t594)) else (laws_FnPolynomials.j1 kj6 l0 t601 t605 t609 true t587 t588 t589 t590 t593 t594))) else (laws_FnPolynomials.j1 kj6 l0 t601 t605 t609 true t587 t588 t589 t590 t593 t594)) else (laws_FnPolynomials.j1 kj6 l0 t601 t605 t609 true t587 t588 t589 t590 t593 t594)) else (laws_FnPolynomials.j1 kj6 l0 t601 t605 t609 true t587 t588 t589 t590 t593 t594)) else (laws_FnPolynomials.j1 kj6 l0 t601 t605 t609 true t587 t588 t589 t590 t593 t594)) else (laws_FnPolynomials.j1 kj6 l0 t601 t605 t609 true t587 t588 t589 t590 t593 t594))) = some true := H
       have A41 := Aside0.mk A410
       clear A410
       replace H := Option.bind_eq_some_iff.mp H
       obtain ⟨⟨t617, t618, t619⟩, A420, H⟩ := H
       replace H : (if t604 = 0 then (if t608 = 0 then (if t612 = 0 then (if t615 = 0 then (if t619 = 0 then (if (!(t613 == t587) || (!(t614 == t588))) = true then (laws_FnPolynomials.j1 kj6 l0 t601 t605 t609 true t587 t588 t589 t590 t593 t594) else (if (t601.length : Int) = (t609.length : Int) then (if (t605.length : Int) = (t609.length : Int) then ((impl_IsFunc.f t617 t618).bind fun t621 => (laws_FnPolynomials.j1 kj6 l0 t601 t605 t609 (!t621) t587 t588 t589 t590 t593 t594)) else (laws_FnPolynomials.j1 kj6 l0 t601 t605 t609 true t587 t588 t589 t590 t593 t594)) else (laws_FnPolynomials.j1 kj6 l0 t601 t605 t609 true t587 t588 t589 t590 t593 t594))) else (laws_FnPolynomials.j1 kj6 l0 t601 t605 t609 true t587 t588 t589 t590 t593 t594)) else (laws_FnPolynomials.j1 kj6 l0 t601 t605 t609 true t587 t588 t589 t590 t593 t594)) else (laws_FnPolynomials.j1 kj6 l0 t601 t605 t609 true t587 t588 t589 t590 t593 t594)) else (laws_FnPolynomials.j1 kj6 l0 t601 t605 t609 true t587 t588 t589 t590 t593 t594)) else (laws_FnPolynomials.j1 kj6 l0 t601 t605 t609 true t587 t588 t589 t590 t593 t594)) = some true := H
       have A42 := Aside0.mk A420
       clear A420
       have HC43 := Aside0.mk H
       clear H
       have hnb44 := NB591_592.out
       have hnc44 := NB592_591.out
       have hnb45 := NB591_596.out
       have hnc45 := NB596_591.out
       have hnb46 := NB591_600.out
       have hnc46 := NB600_591.out
       have hcz47_0 : wc.cell? ⟨gb591, 0, none⟩ = some (.int .i64 t587) := (blk_cell BK591.out 0).trans rfl
       have hcz47_1 : wc.cell? ⟨gb591, 1, none⟩ = some (.int .i64 t588) := (blk_cell BK591.out 1).trans rfl
       have hfz47_0 := blk_frozen BK591.out 0
       have hfz47_1 := blk_frozen BK591.out 1
       go_upto_region 14 with (first | (go_at_call 24; (with_reducible refine (impl_PolynomialOf.calls kj6 t587 t588 t601 t604 _ A38.out).mono ?_); rintro e w48 ⟨v602, rfl, ho0, hb⟩; have HO603 := aa (Kd.R_lower ho0 (below_size iHB)); replace BK591 := aa (blk_below (iBK BK591.out) hb); replace BK592 := aa (blk_below (iBK BK592.out) hb); replace BK596 := aa (blk_below (iBK BK596.out) hb); replace BK600 := aa (blk_below (iBK BK600.out) hb); replace HB := aa (below_step iHB hb); (try clear hb); (try clear ho0); have hnb49 := NB592_596.out; have hnc49 := NB596_592.out; have hnb50 := NB592_600.out; have hnc50 := NB600_592.out; have hcz51_0 : w48.cell? ⟨gb592, 0, none⟩ = some (.int .i64 t589) := (blk_cell BK592.out 0).trans rfl; have hcz51_1 : w48.cell? ⟨gb592, 1, none⟩ = some (.int .i64 t590) := (blk_cell BK592.out 1).trans rfl; have hfz51_0 := blk_frozen BK592.out 0; have hfz51_1 := blk_frozen BK592.out 1) | (go_at_call 24; (with_reducible refine (impl_PolynomialOf.calls kj6 t589 t590 t605 t608 _ A39.out).mono ?_); rintro e w52 ⟨v606, rfl, ho0, hb⟩; have HO607 := aa (Kd.R_lower (Kd.R_new' ho0 (Kd.R_lt (by (with_reducible repeat (first | apply Kd.R_alloc | apply Kd.R_drewN | apply Kd.R_drew)); exact HO603.out))) (below_size iHB)); replace HO603 := aa (Kd.R_elder' (by (with_reducible repeat (first | apply Kd.R_alloc | apply Kd.R_drewN | apply Kd.R_drew)); exact HO603.out) (Kd.R_base ho0) hb); replace BK591 := aa (blk_below (iBK BK591.out) hb); replace BK592 := aa (blk_below (iBK BK592.out) hb); replace BK596 := aa (blk_below (iBK BK596.out) hb); replace BK600 := aa (blk_below (iBK BK600.out) hb); replace HB := aa (below_step iHB hb); (try clear hb); (try clear ho0); have hnb53 := NB596_600.out; have hnc53 := NB600_596.out; have hcz54_0 : w52.cell? ⟨gb596, 0, none⟩ = some (.int .i64 t593) := (blk_cell BK596.out 0).trans rfl; have hcz54_1 : w52.cell? ⟨gb596, 1, none⟩ = some (.int .i64 t594) := (blk_cell BK596.out 1).trans rfl; have hfz54_0 := blk_frozen BK596.out 0; have hfz54_1 := blk_frozen BK596.out 1) | (go_at_call 24; (with_reducible refine (impl_PolynomialOf.calls kj6 t593 t594 t609 t612 _ A40.out).mono ?_); rintro e w55 ⟨v610, rfl, ho0, hb⟩; have HO611 := aa (Kd.R_lower (Kd.R_new' (Kd.R_new' ho0 (Kd.R_lt (by (with_reducible repeat (first | apply Kd.R_alloc | apply Kd.R_drewN | apply Kd.R_drew)); exact HO603.out))) (Kd.R_lt (by (with_reducible repeat (first | apply Kd.R_alloc | apply Kd.R_drewN | apply Kd.R_drew)); exact HO607.out))) (below_size iHB)); replace HO603 := aa (Kd.R_elder' (by (with_reducible repeat (first | apply Kd.R_alloc | apply Kd.R_drewN | apply Kd.R_drew)); exact HO603.out) (Kd.R_base ho0) hb); replace HO607 := aa (Kd.R_elder' (by (with_reducible repeat (first | apply Kd.R_alloc | apply Kd.R_drewN | apply Kd.R_drew)); exact HO607.out) (Kd.R_base ho0) hb); replace BK591 := aa (blk_below (iBK BK591.out) hb); replace BK592 := aa (blk_below (iBK BK592.out) hb); replace BK596 := aa (blk_below (iBK BK596.out) hb); replace BK600 := aa (blk_below (iBK BK600.out) hb); replace HB := aa (below_step iHB hb); (try clear hb); (try clear ho0); have hcz56_0 : w55.cell? ⟨gb591, 0, none⟩ = some (.int .i64 t587) := (blk_cell BK591.out 0).trans rfl; have hcz56_1 : w55.cell? ⟨gb591, 1, none⟩ = some (.int .i64 t588) := (blk_cell BK591.out 1).trans rfl; have hfz56_0 := blk_frozen BK591.out 0; have hfz56_1 := blk_frozen BK591.out 1; obtain ⟨Ao57, co57, eo57⟩ := Kd.R_slice HO603.out; subst eo57) | (go_at_call 33; (with_reducible refine (impl_FuncOfPolynomial.calls kj6 t587 _ _ t601 t613 t614 t615 _ ?side1 ?side2 A41.out).mono ?_); (case side1 => repeat (first | exact (Kd.R_reads' HO603.out).2.2 | (with_reducible refine Kd.C_alloc ?_ _) | (with_reducible refine Kd.C_drewN ?_ _) | (with_reducible refine Kd.C_drew ?_))); (case side2 => exact (Kd.R_reads' HO603.out).2.1); rintro e w58 ⟨rfl, hb⟩; replace HO603 := aa (Kd.R_below (by (with_reducible repeat (first | apply Kd.R_alloc | apply Kd.R_drewN | apply Kd.R_drew)); exact HO603.out) hb); replace HO607 := aa (Kd.R_below (by (with_reducible repeat (first | apply Kd.R_alloc | apply Kd.R_drewN | apply Kd.R_drew)); exact HO607.out) hb); replace HO611 := aa (Kd.R_below (by (with_reducible repeat (first | apply Kd.R_alloc | apply Kd.R_drewN | apply Kd.R_drew)); exact HO611.out) hb); replace BK591 := aa (blk_below (iBK BK591.out) hb); replace BK592 := aa (blk_below (iBK BK592.out) hb); replace BK596 := aa (blk_below (iBK BK596.out) hb); replace BK600 := aa (blk_below (iBK BK600.out) hb); replace HB := aa (below_step iHB hb); (try clear hb)) | ((with_reducible refine gate_dst (N := 15) rfl ?_); (try (refine gate_guard (by rfl) ?_; dsimp only)); refine box_event ?hg (N := 15) ?hd (cs := #[.int .i64 0, .int .i64 0]) (t := 27) ?hr ?_; (case hd => rfl); (case hg => rfl); (case hr => first | (go_simp; done) | (go_simp; rfl)); intro gb616 hg w59 hbox hb; replace HO603 := aa (Kd.R_below (by (with_reducible repeat (first | apply Kd.R_alloc | apply Kd.R_drewN | apply Kd.R_drew)); exact HO603.out) hb); replace HO607 := aa (Kd.R_below (by (with_reducible repeat (first | apply Kd.R_alloc | apply Kd.R_drewN | apply Kd.R_drew)); exact HO607.out) hb); replace HO611 := aa (Kd.R_below (by (with_reducible repeat (first | apply Kd.R_alloc | apply Kd.R_drewN | apply Kd.R_drew)); exact HO611.out) hb); have BK616 := aa (hbox); have GW616 := gwB (w := w) hg iHB; have GE616 := gwB (w := w) hg iHB; replace HB := aa (below_step iHB hb); have NB591_616 := nbL hg (iBK BK591.out); have NB616_591 := nbR hg (iBK BK591.out); replace BK591 := aa (blk_below (iBK BK591.out) hb); have NB592_616 := nbL hg (iBK BK592.out); have NB616_592 := nbR hg (iBK BK592.out); replace BK592 := aa (blk_below (iBK BK592.out) hb); have NB596_616 := nbL hg (iBK BK596.out); have NB616_596 := nbR hg (iBK BK596.out); replace BK596 := aa (blk_below (iBK BK596.out) hb); have NB600_616 := nbL hg (iBK BK600.out); have NB616_600 := nbR hg (iBK BK600.out); replace BK600 := aa (blk_below (iBK BK600.out) hb); clear hb hbox hg; have hnb60 := NB616_591.out; have hnc60 := NB591_616.out; have hnb61 := NB616_592.out; have hnc61 := NB592_616.out; have hnb62 := NB616_596.out; have hnc62 := NB596_616.out; have hnb63 := NB616_600.out; have hnc63 := NB600_616.out; have hcz64_0 : w59.cell? ⟨gb616, 0, none⟩ = some (.int .i64 0) := (blk_cell BK616.out 0).trans rfl; have hcz64_1 : w59.cell? ⟨gb616, 1, none⟩ = some (.int .i64 0) := (blk_cell BK616.out 1).trans rfl; have hfz64_0 := blk_frozen BK616.out 0; have hfz64_1 := blk_frozen BK616.out 1; have hcz65_0 : w59.cell? ⟨gb591, 0, none⟩ = some (.int .i64 t587) := (blk_cell BK591.out 0).trans rfl; have hcz65_1 : w59.cell? ⟨gb591, 1, none⟩ = some (.int .i64 t588) := (blk_cell BK591.out 1).trans rfl; have hfz65_0 := blk_frozen BK591.out 0; have hfz65_1 := blk_frozen BK591.out 1; have hcz66_0 : w59.cell? ⟨gb592, 0, none⟩ = some (.int .i64 t589) := (blk_cell BK592.out 0).trans rfl; have hcz66_1 : w59.cell? ⟨gb592, 1, none⟩ = some (.int .i64 t590) := (blk_cell BK592.out 1).trans rfl; have hfz66_0 := blk_frozen BK592.out 0; have hfz66_1 := blk_frozen BK592.out 1) | (go_at_call 56; (with_reducible refine (impl_ProductOfFuncs.calls t587 t588 t589 t590 t617 t618 t619 _ A42.out).mono ?_); rintro e w67 ⟨rfl, hb⟩; replace HO603 := aa (Kd.R_below (by (with_reducible repeat (first | apply Kd.R_alloc | apply Kd.R_drewN | apply Kd.R_drew)); exact (Kd.R_mono (Kd.R_far (p := ⟨gb616, 1, none⟩) (Kd.R_far (p := ⟨gb616, 0, none⟩) (Kd.R_types HO603.out BK616.out (by decide)) (fun _ hk => hk.2) (.int .i64 t613)) (fun _ hk => hk.2) (.int .i64 t614)) (fun _ h_ => h_.1))) hb); replace HO607 := aa (Kd.R_below (by (with_reducible repeat (first | apply Kd.R_alloc | apply Kd.R_drewN | apply Kd.R_drew)); exact (Kd.R_mono (Kd.R_far (p := ⟨gb616, 1, none⟩) (Kd.R_far (p := ⟨gb616, 0, none⟩) (Kd.R_types HO607.out BK616.out (by decide)) (fun _ hk => hk.2) (.int .i64 t613)) (fun _ hk => hk.2) (.int .i64 t614)) (fun _ h_ => h_.1))) hb); replace HO611 := aa (Kd.R_below (by (with_reducible repeat (first | apply Kd.R_alloc | apply Kd.R_drewN | apply Kd.R_drew)); exact (Kd.R_mono (Kd.R_far (p := ⟨gb616, 1, none⟩) (Kd.R_far (p := ⟨gb616, 0, none⟩) (Kd.R_types HO611.out BK616.out (by decide)) (fun _ hk => hk.2) (.int .i64 t613)) (fun _ hk => hk.2) (.int .i64 t614)) (fun _ h_ => h_.1))) hb); replace BK591 := aa (blk_below (g := gb591) (o := .cells #[.int .i64 t587, .int .i64 t588] 27 (0, 0)) (by (with_reducible repeat (first | refine blk_drewN ?_ _ | refine blk_drew ?_ | refine blk_alloc ?_ _)); refine blk_far ?_ NB591_616.out _; (with_reducible repeat (first | refine blk_drewN ?_ _ | refine blk_drew ?_ | refine blk_alloc ?_ _)); refine blk_far ?_ NB591_616.out _; exact iBK BK591.out) hb); replace BK592 := aa (blk_below (g := gb592) (o := .cells #[.int .i64 t589, .int .i64 t590] 27 (0, 0)) (by (with_reducible repeat (first | refine blk_drewN ?_ _ | refine blk_drew ?_ | refine blk_alloc ?_ _)); refine blk_far ?_ NB592_616.out _; (with_reducible repeat (first | refine blk_drewN ?_ _ | refine blk_drew ?_ | refine blk_alloc ?_ _)); refine blk_far ?_ NB592_616.out _; exact iBK BK592.out) hb); replace BK596 := aa (blk_below (g := gb596) (o := .cells #[.int .i64 t593, .int .i64 t594] 27 (0, 0)) (by (with_reducible repeat (first | refine blk_drewN ?_ _ | refine blk_drew ?_ | refine blk_alloc ?_ _)); refine blk_far ?_ NB596_616.out _; (with_reducible repeat (first | refine blk_drewN ?_ _ | refine blk_drew ?_ | refine blk_alloc ?_ _)); refine blk_far ?_ NB596_616.out _; exact iBK BK596.out) hb); replace BK600 := aa (blk_below (g := gb600) (o := .cells #[.int .i64 t597, .int .i64 t598] 27 (0, 0)) (by (with_reducible repeat (first | refine blk_drewN ?_ _ | refine blk_drew ?_ | refine blk_alloc ?_ _)); refine blk_far ?_ NB600_616.out _; (with_reducible repeat (first | refine blk_drewN ?_ _ | refine blk_drew ?_ | refine blk_alloc ?_ _)); refine blk_far ?_ NB600_616.out _; exact iBK BK600.out) hb); replace BK616 := aa (blk_below (g := gb616) (o := .cells #[.int .i64 t613, .int .i64 t614] 27 (0, 0)) (by (with_reducible repeat (first | refine blk_drewN ?_ _ | refine blk_drew ?_ | refine blk_alloc ?_ _)); refine blk_put (cs := #[.int .i64 t613, .int .i64 0]) ?_ 1 _ rfl; (with_reducible repeat (first | refine blk_drewN ?_ _ | refine blk_drew ?_ | refine blk_alloc ?_ _)); refine blk_put (cs := #[.int .i64 0, .int .i64 0]) ?_ 0 _ rfl; exact iBK BK616.out) hb); replace HB := aa (below_step iHB hb); (try clear hb)) | ((with_reducible refine gate_dst (N := 17) rfl ?_); (try (refine gate_guard (by rfl) ?_; dsimp only)); refine box_event ?hg (N := 17) ?hd (cs := #[.int .i64 0, .int .i64 0]) (t := 27) ?hr ?_; (case hd => rfl); (case hg => rfl); (case hr => first | (go_simp; done) | (go_simp; rfl)); intro gb620 hg w68 hbox hb; replace HO603 := aa (Kd.R_below (by (with_reducible repeat (first | apply Kd.R_alloc | apply Kd.R_drewN | apply Kd.R_drew)); exact HO603.out) hb); replace HO607 := aa (Kd.R_below (by (with_reducible repeat (first | apply Kd.R_alloc | apply Kd.R_drewN | apply Kd.R_drew)); exact HO607.out) hb); replace HO611 := aa (Kd.R_below (by (with_reducible repeat (first | apply Kd.R_alloc | apply Kd.R_drewN | apply Kd.R_drew)); exact HO611.out) hb); have BK620 := aa (hbox); have GW620 := gwB (w := w) hg iHB; have GE620 := gwB (w := w) hg iHB; replace HB := aa (below_step iHB hb); have NB591_620 := nbL hg (iBK BK591.out); have NB620_591 := nbR hg (iBK BK591.out); replace BK591 := aa (blk_below (iBK BK591.out) hb); have NB592_620 := nbL hg (iBK BK592.out); have NB620_592 := nbR hg (iBK BK592.out); replace BK592 := aa (blk_below (iBK BK592.out) hb); have NB596_620 := nbL hg (iBK BK596.out); have NB620_596 := nbR hg (iBK BK596.out); replace BK596 := aa (blk_below (iBK BK596.out) hb); have NB600_620 := nbL hg (iBK BK600.out); have NB620_600 := nbR hg (iBK BK600.out); replace BK600 := aa (blk_below (iBK BK600.out) hb); have NB616_620 := nbL hg (iBK BK616.out); have NB620_616 := nbR hg (iBK BK616.out); replace BK616 := aa (blk_below (iBK BK616.out) hb); clear hb hbox hg; have hnb69 := NB620_591.out; have hnc69 := NB591_620.out; have hnb70 := NB620_592.out; have hnc70 := NB592_620.out; have hnb71 := NB620_596.out; have hnc71 := NB596_620.out; have hnb72 := NB620_600.out; have hnc72 := NB600_620.out; have hnb73 := NB620_616.out; have hnc73 := NB616_620.out; have hcz74_0 : w68.cell? ⟨gb620, 0, none⟩ = some (.int .i64 0) := (blk_cell BK620.out 0).trans rfl; have hcz74_1 : w68.cell? ⟨gb620, 1, none⟩ = some (.int .i64 0) := (blk_cell BK620.out 1).trans rfl; have hfz74_0 := blk_frozen BK620.out 0; have hfz74_1 := blk_frozen BK620.out 1))
       (try simp only [Act.put, List.setIfInBounds_toArray, List.set_cons_zero, List.set_cons_succ])
       go_cut [165] from 124 to 165 (fun v165 wc => ∃ (kq : Nat) (x165_42 : Bool), v165 = .bool x165_42 ∧ Aside0 (laws_FnPolynomials.j1 kq l0 t601 t605 t609 x165_42 t587 t588 t589 t590 t593 t594 = some true) ∧ Aside0 (kq ≤ kj6) ∧ Aside0 (Kd.R (Kd.int .i64) 2 wc w.heap.size (fun k_ => some k_ ≠ (v606 : Value).ownBlock ∧ some k_ ≠ (v610 : Value).ownBlock) (.slice Ao57 t601.length co57) t601) ∧ Aside0 (Kd.R (Kd.int .i64) 2 wc w.heap.size (fun k_ => some k_ ≠ ((.slice Ao57 t601.length co57) : Value).ownBlock ∧ some k_ ≠ (v610 : Value).ownBlock) v606 t605) ∧ Aside0 (Kd.R (Kd.int .i64) 2 wc w.heap.size (fun k_ => some k_ ≠ ((.slice Ao57 t601.length co57) : Value).ownBlock ∧ some k_ ≠ (v606 : Value).ownBlock) v610 t609) ∧ Aside0 (wc.heap[gb591]? = some (.cells #[.int .i64 t587, .int .i64 t588] 27 (0, 0))) ∧ Aside0 (wc.heap[gb592]? = some (.cells #[.int .i64 t589, .int .i64 t590] 27 (0, 0))) ∧ Aside0 (wc.heap[gb596]? = some (.cells #[.int .i64 t593, .int .i64 t594] 27 (0, 0))) ∧ Aside0 (wc.heap[gb600]? = some (.cells #[.int .i64 t597, .int .i64 t598] 27 (0, 0))) ∧ Aside0 (wc.heap[gb616]? = some (.cells #[.int .i64 t613, .int .i64 t614] 27 (0, 0))) ∧ Aside0 (wc.heap[gb620]? = some (.cells #[.int .i64 t617, .int .i64 t618] 27 (0, 0))) ∧ Aside0 (Below w.heap.size w wc))
       case first =>
        have H := HC43.out
        clear HC43
        by_cases c75 : t604 = 0
        ·rw [if_pos c75] at H
         have c75b0 : (t604 == 0) = true := beq_iff_eq.mpr c75
         have c75b1 : (t604 != 0) = false := bne_eq_false_iff_eq.mpr c75
         clear c75
         (first | rw [c75b0] | (simp only [i64_w, i32_w]; rw [c75b0]) | skip)
         by_cases c76 : t608 = 0
         ·rw [if_pos c76] at H
          have c76b0 : (t608 == 0) = true := beq_iff_eq.mpr c76
          have c76b1 : (t608 != 0) = false := bne_eq_false_iff_eq.mpr c76
          clear c76
          by_cases c77 : t612 = 0
          ·rw [if_pos c77] at H
           have c77b0 : (t612 == 0) = true := beq_iff_eq.mpr c77
           have c77b1 : (t612 != 0) = false := bne_eq_false_iff_eq.mpr c77
           clear c77
           by_cases c78 : t615 = 0
           ·rw [if_pos c78] at H
            have c78b0 : (t615 == 0) = true := beq_iff_eq.mpr c78
            have c78b1 : (t615 != 0) = false := bne_eq_false_iff_eq.mpr c78
            clear c78
            by_cases c79 : t619 = 0
            ·rw [if_pos c79] at H
             have c79b0 : (t619 == 0) = true := beq_iff_eq.mpr c79
             have c79b1 : (t619 != 0) = false := bne_eq_false_iff_eq.mpr c79
             clear c79
             by_cases c80 : (!(t613 == t587) || (!(t614 == t588))) = true
             ·rw [if_pos c80] at H
              have c80b0 : (!(t613 == t587) || (!(t614 == t588))) = true := c80
              clear c80
              exact (laws_FnPolynomials.j1_not _ H).elim
             ·rw [if_neg c80] at H
              have c80b0 : (!(t613 == t587) || (!(t614 == t588))) = false := by simpa using c80
              clear c80
              by_cases c92 : (t601.length : Int) = (t609.length : Int)
              ·rw [if_pos c92] at H
               have c92b0 : ((t601.length : Int) == (t609.length : Int)) = true := beq_iff_eq.mpr c92
               have c92b1 : ((t601.length : Int) != (t609.length : Int)) = false := bne_eq_false_iff_eq.mpr c92
               have c92b2 : (t601.length == t609.length) = true := by first | simpa using c92 | (simp at c92 ⊢; omega)
               clear c92
               by_cases c93 : (t605.length : Int) = (t609.length : Int)
               ·rw [if_pos c93] at H
                have c93b0 : ((t605.length : Int) == (t609.length : Int)) = true := beq_iff_eq.mpr c93
                have c93b1 : ((t605.length : Int) != (t609.length : Int)) = false := bne_eq_false_iff_eq.mpr c93
                have c93b2 : (t605.length == t609.length) = true := by first | simpa using c93 | (simp at c93 ⊢; omega)
                clear c93
                replace H := Option.bind_eq_some_iff.mp H
                obtain ⟨t621, A940, H⟩ := H
                replace H : (laws_FnPolynomials.j1 kj6 l0 t601 t605 t609 (!t621) t587 t588 t589 t590 t593 t594) = some true := H
                have A94 := Aside0.mk A940
                clear A940
                have H' := Aside0.mk H
                clear H
                have hnb95 := NB616_591.out
                have hnc95 := NB591_616.out
                have hnb96 := NB616_592.out
                have hnc96 := NB592_616.out
                have hnb97 := NB616_596.out
                have hnc97 := NB596_616.out
                have hnb98 := NB616_600.out
                have hnc98 := NB600_616.out
                have hnb99 := NB616_620.out
                have hnc99 := NB620_616.out
                have hcz100_0 : w68.cell? ⟨gb616, 0, none⟩ = some (.int .i64 t613) := (blk_cell BK616.out 0).trans rfl
                have hcz100_1 : w68.cell? ⟨gb616, 1, none⟩ = some (.int .i64 t614) := (blk_cell BK616.out 1).trans rfl
                have hfz100_0 := blk_frozen BK616.out 0
                have hfz100_1 := blk_frozen BK616.out 1
                have hnb101 := NB591_592.out
                have hnc101 := NB592_591.out
                have hnb102 := NB591_596.out
                have hnc102 := NB596_591.out
                have hnb103 := NB591_600.out
                have hnc103 := NB600_591.out
                have hnb104 := NB591_620.out
                have hnc104 := NB620_591.out
                have hcz105_0 : w68.cell? ⟨gb591, 0, none⟩ = some (.int .i64 t587) := (blk_cell BK591.out 0).trans rfl
                have hcz105_1 : w68.cell? ⟨gb591, 1, none⟩ = some (.int .i64 t588) := (blk_cell BK591.out 1).trans rfl
                have hfz105_0 := blk_frozen BK591.out 0
                have hfz105_1 := blk_frozen BK591.out 1
                obtain ⟨Ao106, co106, eo106⟩ := Kd.R_slice HO611.out
                subst eo106
                obtain ⟨Ao107, co107, eo107⟩ := Kd.R_slice HO607.out
                subst eo107
                have hnb108 := NB620_592.out
                have hnc108 := NB592_620.out
                have hnb109 := NB620_596.out
                have hnc109 := NB596_620.out
                have hnb110 := NB620_600.out
                have hnc110 := NB600_620.out
                have hcz111_0 : w68.cell? ⟨gb620, 0, none⟩ = some (.int .i64 0) := (blk_cell BK620.out 0).trans rfl
                have hcz111_1 : w68.cell? ⟨gb620, 1, none⟩ = some (.int .i64 0) := (blk_cell BK620.out 1).trans rfl
                have hfz111_0 := blk_frozen BK620.out 0
                have hfz111_1 := blk_frozen BK620.out 1
                go_wp2_with (first | (go_at_call 57; (with_reducible refine (impl_IsFunc.calls t617 t618 t621 _ A94.out).mono ?_); rintro e w112 ⟨rfl, hb⟩; replace HO603 := aa (Kd.R_below (by (with_reducible repeat (first | apply Kd.R_alloc | apply Kd.R_drewN | apply Kd.R_drew)); exact (Kd.R_mono (Kd.R_far (p := ⟨gb620, 1, none⟩) (Kd.R_far (p := ⟨gb620, 0, none⟩) (Kd.R_types HO603.out BK620.out (by decide)) (fun _ hk => hk.2) (.int .i64 t617)) (fun _ hk => hk.2) (.int .i64 t618)) (fun _ h_ => h_.1))) hb); replace HO607 := aa (Kd.R_below (by (with_reducible repeat (first | apply Kd.R_alloc | apply Kd.R_drewN | apply Kd.R_drew)); exact (Kd.R_mono (Kd.R_far (p := ⟨gb620, 1, none⟩) (Kd.R_far (p := ⟨gb620, 0, none⟩) (Kd.R_types HO607.out BK620.out (by decide)) (fun _ hk => hk.2) (.int .i64 t617)) (fun _ hk => hk.2) (.int .i64 t618)) (fun _ h_ => h_.1))) hb); replace HO611 := aa (Kd.R_below (by (with_reducible repeat (first | apply Kd.R_alloc | apply Kd.R_drewN | apply Kd.R_drew)); exact (Kd.R_mono (Kd.R_far (p := ⟨gb620, 1, none⟩) (Kd.R_far (p := ⟨gb620, 0, none⟩) (Kd.R_types HO611.out BK620.out (by decide)) (fun _ hk => hk.2) (.int .i64 t617)) (fun _ hk => hk.2) (.int .i64 t618)) (fun _ h_ => h_.1))) hb); replace BK591 := aa (blk_below (g := gb591) (o := .cells #[.int .i64 t587, .int .i64 t588] 27 (0, 0)) (by (with_reducible repeat (first | refine blk_drewN ?_ _ | refine blk_drew ?_ | refine blk_alloc ?_ _)); refine blk_far ?_ NB591_620.out _; (with_reducible repeat (first | refine blk_drewN ?_ _ | refine blk_drew ?_ | refine blk_alloc ?_ _)); refine blk_far ?_ NB591_620.out _; exact iBK BK591.out) hb); replace BK592 := aa (blk_below (g := gb592) (o := .cells #[.int .i64 t589, .int .i64 t590] 27 (0, 0)) (by (with_reducible repeat (first | refine blk_drewN ?_ _ | refine blk_drew ?_ | refine blk_alloc ?_ _)); refine blk_far ?_ NB592_620.out _; (with_reducible repeat (first | refine blk_drewN ?_ _ | refine blk_drew ?_ | refine blk_alloc ?_ _)); refine blk_far ?_ NB592_620.out _; exact iBK BK592.out) hb); replace BK596 := aa (blk_below (g := gb596) (o := .cells #[.int .i64 t593, .int .i64 t594] 27 (0, 0)) (by (with_reducible repeat (first | refine blk_drewN ?_ _ | refine blk_drew ?_ | refine blk_alloc ?_ _)); refine blk_far ?_ NB596_620.out _; (with_reducible repeat (first | refine blk_drewN ?_ _ | refine blk_drew ?_ | refine blk_alloc ?_ _)); refine blk_far ?_ NB596_620.out _; exact iBK BK596.out) hb); replace BK600 := aa (blk_below (g := gb600) (o := .cells #[.int .i64 t597, .int .i64 t598] 27 (0, 0)) (by (with_reducible repeat (first | refine blk_drewN ?_ _ | refine blk_drew ?_ | refine blk_alloc ?_ _)); refine blk_far ?_ NB600_620.out _; (with_reducible repeat (first | refine blk_drewN ?_ _ | refine blk_drew ?_ | refine blk_alloc ?_ _)); refine blk_far ?_ NB600_620.out _; exact iBK BK600.out) hb); replace BK616 := aa (blk_below (g := gb616) (o := .cells #[.int .i64 t613, .int .i64 t614] 27 (0, 0)) (by (with_reducible repeat (first | refine blk_drewN ?_ _ | refine blk_drew ?_ | refine blk_alloc ?_ _)); refine blk_far ?_ NB616_620.out _; (with_reducible repeat (first | refine blk_drewN ?_ _ | refine blk_drew ?_ | refine blk_alloc ?_ _)); refine blk_far ?_ NB616_620.out _; exact iBK BK616.out) hb); replace BK620 := aa (blk_below (g := gb620) (o := .cells #[.int .i64 t617, .int .i64 t618] 27 (0, 0)) (by (with_reducible repeat (first | refine blk_drewN ?_ _ | refine blk_drew ?_ | refine blk_alloc ?_ _)); refine blk_put (cs := #[.int .i64 t617, .int .i64 0]) ?_ 1 _ rfl; (with_reducible repeat (first | refine blk_drewN ?_ _ | refine blk_drew ?_ | refine blk_alloc ?_ _)); refine blk_put (cs := #[.int .i64 0, .int .i64 0]) ?_ 0 _ rfl; exact iBK BK620.out) hb); replace HB := aa (below_step iHB hb); (try clear hb)))
                go_meet
                case rel => exact ⟨_, (!t621), (by first | rfl | (simp; done) | (simp [*]; done)), H', ⟨by have := HJ6.out; first | omega | exact Nat.le_refl _⟩, ⟨by (with_reducible repeat (first | apply Kd.R_alloc | apply Kd.R_drewN | apply Kd.R_drew)); exact Kd.R_mono HO603.out (fun _ hk => ⟨hk.1.2, hk.2⟩)⟩, ⟨by (with_reducible repeat (first | apply Kd.R_alloc | apply Kd.R_drewN | apply Kd.R_drew)); exact Kd.R_mono HO607.out (fun _ hk => ⟨hk.1.2, hk.2⟩)⟩, ⟨by (with_reducible repeat (first | apply Kd.R_alloc | apply Kd.R_drewN | apply Kd.R_drew)); exact Kd.R_mono HO611.out (fun _ hk => ⟨hk.1.2, hk.2⟩)⟩, ⟨iBK BK591.out⟩, ⟨iBK BK592.out⟩, ⟨iBK BK596.out⟩, ⟨iBK BK600.out⟩, ⟨iBK BK616.out⟩, ⟨iBK BK620.out⟩, ⟨iHB⟩⟩
               ·rw [if_neg c93] at H
                have c93b0 : ((t605.length : Int) == (t609.length : Int)) = false := beq_eq_false_iff_ne.mpr c93
                have c93b1 : ((t605.length : Int) != (t609.length : Int)) = true := bne_iff_ne.mpr c93
                have c93b2 : (t605.length == t609.length) = false := by first | simpa using c93 | (simp at c93 ⊢; omega)
                exact (laws_FnPolynomials.j1_not _ H).elim
              ·rw [if_neg c92] at H
               have c92b0 : ((t601.length : Int) == (t609.length : Int)) = false := beq_eq_false_iff_ne.mpr c92
               have c92b1 : ((t601.length : Int) != (t609.length : Int)) = true := bne_iff_ne.mpr c92
               have c92b2 : (t601.length == t609.length) = false := by first | simpa using c92 | (simp at c92 ⊢; omega)
               exact (laws_FnPolynomials.j1_not _ H).elim
            ·rw [if_neg c79] at H
             have c79b0 : (t619 == 0) = false := beq_eq_false_iff_ne.mpr c79
             have c79b1 : (t619 != 0) = true := bne_iff_ne.mpr c79
             exact (laws_FnPolynomials.j1_not _ H).elim
           ·rw [if_neg c78] at H
            have c78b0 : (t615 == 0) = false := beq_eq_false_iff_ne.mpr c78
            have c78b1 : (t615 != 0) = true := bne_iff_ne.mpr c78
            exact (laws_FnPolynomials.j1_not _ H).elim
          ·rw [if_neg c77] at H
           have c77b0 : (t612 == 0) = false := beq_eq_false_iff_ne.mpr c77
           have c77b1 : (t612 != 0) = true := bne_iff_ne.mpr c77
           exact (laws_FnPolynomials.j1_not _ H).elim
         ·rw [if_neg c76] at H
          have c76b0 : (t608 == 0) = false := beq_eq_false_iff_ne.mpr c76
          have c76b1 : (t608 != 0) = true := bne_iff_ne.mpr c76
          exact (laws_FnPolynomials.j1_not _ H).elim
        ·rw [if_neg c75] at H
         have c75b0 : (t604 == 0) = false := beq_eq_false_iff_ne.mpr c75
         have c75b1 : (t604 != 0) = true := bne_iff_ne.mpr c75
         (first | rw [c75b0] | (simp only [i64_w, i32_w]; rw [c75b0]) | skip)
         exact (laws_FnPolynomials.j1_not _ H).elim
       case rest =>
        clear HC43
        try clear c35
        try clear c37
        try clear c37b0
        try clear c37b1
        try clear hcz47_0
        try clear hcz47_1
        try clear hcz51_0
        try clear hcz51_1
        try clear hcz54_0
        try clear hcz54_1
        try clear hcz56_0
        try clear hcz56_1
        try clear hcz64_0
        try clear hcz64_1
        try clear hcz65_0
        try clear hcz65_1
        try clear hcz66_0
        try clear hcz66_1
        try clear hcz74_0
        try clear hcz74_1
        try clear hfz47_0
        try clear hfz47_1
        try clear hfz51_0
        try clear hfz51_1
        try clear hfz54_0
        try clear hfz54_1
        try clear hfz56_0
        try clear hfz56_1
        try clear hfz64_0
        try clear hfz64_1
        try clear hfz65_0
        try clear hfz65_1
        try clear hfz66_0
        try clear hfz66_1
        try clear hfz74_0
        try clear hfz74_1
        obtain ⟨kq, x165_42, rfl, HA, HJ42, HO_9, HO_11, HO_13, BK591, BK592, BK596, BK600, BK616, BK620, HB⟩ := hcut
        cases kq with
        | zero => exact absurd HA.out (by simp [laws_FnPolynomials.j1])
        | succ kj42 =>
         have H := HA.out
         clear HA
         simp only [laws_FnPolynomials.j1] at H
         by_cases c138 : x165_42 = true
         ·subst c138
          have H1 : (some false) = some true := by first | (rw [if_pos rfl] at H; exact H) | rfl
          clear H
          have H := H1
          clear H1
          exact absurd (Option.some.inj H) (by decide)
         ·replace c138 := Bool.eq_false_iff.mpr c138
          subst c138
          have H1 : (laws_FnPolynomials.l0 kj42 l0 t601 t605 t609 0 t587 t588 t589 t590 t593 t594) = some true := by rw [if_neg (show ¬ (false = true) by decide)] at H; exact H
          clear H
          have H := H1
          clear H1
          have H' := Aside0.mk H
          clear H
          go_wp2
          repeat (go_quiet (fail); try go_wp2)
          go_loopg [19] kj42 (fun kq v19 w' => ∃ (x19_3 : Int), v19 = .int .i64 x19_3 ∧ Aside0 (laws_FnPolynomials.l0 kq l0 t601 t605 t609 x19_3 t587 t588 t589 t590 t593 t594 = some true) ∧ Aside0 (kq ≤ kj42) ∧ Aside0 (Kd.R (Kd.int .i64) 2 w' w.heap.size (fun k_ => some k_ ≠ (v606 : Value).ownBlock ∧ some k_ ≠ (v610 : Value).ownBlock) (.slice Ao57 t601.length co57) t601) ∧ Aside0 (Kd.R (Kd.int .i64) 2 w' w.heap.size (fun k_ => some k_ ≠ ((.slice Ao57 t601.length co57) : Value).ownBlock ∧ some k_ ≠ (v610 : Value).ownBlock) v606 t605) ∧ Aside0 (Kd.R (Kd.int .i64) 2 w' w.heap.size (fun k_ => some k_ ≠ ((.slice Ao57 t601.length co57) : Value).ownBlock ∧ some k_ ≠ (v606 : Value).ownBlock) v610 t609) ∧ Aside0 (w'.heap[gb591]? = some (.cells #[.int .i64 t587, .int .i64 t588] 27 (0, 0))) ∧ Aside0 (w'.heap[gb592]? = some (.cells #[.int .i64 t589, .int .i64 t590] 27 (0, 0))) ∧ Aside0 (w'.heap[gb596]? = some (.cells #[.int .i64 t593, .int .i64 t594] 27 (0, 0))) ∧ Aside0 (w'.heap[gb600]? = some (.cells #[.int .i64 t597, .int .i64 t598] 27 (0, 0))) ∧ Aside0 (w'.heap[gb616]? = some (.cells #[.int .i64 t613, .int .i64 t614] 27 (0, 0))) ∧ Aside0 (w'.heap[gb620]? = some (.cells #[.int .i64 t617, .int .i64 t618] 27 (0, 0))) ∧ Aside0 (Below w.heap.size w w'))
          case atStart => exact ⟨(0), (by first | rfl | (simp; done) | (simp [*]; done)), H', ⟨Nat.le_refl _⟩, ⟨by (with_reducible repeat (first | apply Kd.R_alloc | apply Kd.R_drewN | apply Kd.R_drew)); exact HO_9.out⟩, ⟨by (with_reducible repeat (first | apply Kd.R_alloc | apply Kd.R_drewN | apply Kd.R_drew)); exact HO_11.out⟩, ⟨by (with_reducible repeat (first | apply Kd.R_alloc | apply Kd.R_drewN | apply Kd.R_drew)); exact HO_13.out⟩, ⟨iBK BK591.out⟩, ⟨iBK BK592.out⟩, ⟨iBK BK596.out⟩, ⟨iBK BK600.out⟩, ⟨iBK BK616.out⟩, ⟨iBK BK620.out⟩, ⟨iHB⟩⟩
          case round =>
           clear H'
           try clear c138
           obtain ⟨x19_3, rfl, HA, HK3, HO_9, HO_11, HO_13, BK591, BK592, BK596, BK600, BK616, BK620, HB⟩ := hrel
           cases gk with
           | zero => exact absurd HA.out (by simp [laws_FnPolynomials.l0])
           | succ k3 =>
            have H := HA.out
            clear HA
            simp only [laws_FnPolynomials.l0] at H
            by_cases c139 : x19_3 < (t601.length : Int)
            ·rw [if_pos c139] at H
             have c139b0 : decide (x19_3 < (t601.length : Int)) = true := decide_eq_true c139
             clear c139
             by_cases c140 : 0 ≤ x19_3
             ·rw [if_pos c140] at H
              have c140b0 : decide (0 ≤ x19_3) = true := decide_eq_true c140
              clear c140
              by_cases c141 : x19_3 < (t605.length : Int)
              ·rw [if_pos c141] at H
               have c141b0 : decide (x19_3 < (t605.length : Int)) = true := decide_eq_true c141
               clear c141
               by_cases c142 : x19_3 < (t609.length : Int)
               ·rw [if_pos c142] at H
                have c142b0 : decide (x19_3 < (t609.length : Int)) = true := decide_eq_true c142
                clear c142
                by_cases c143 : (Int.tmod (wrap64 ((rd t601 x19_3) + (rd t605 x19_3))) 2) = (rd t609 x19_3)
                ·rw [if_pos c143] at H
                 have c143b0 : ((Int.tmod (wrap64 ((rd t601 x19_3) + (rd t605 x19_3))) 2) == (rd t609 x19_3)) = true := beq_iff_eq.mpr c143
                 have c143b1 : ((Int.tmod (wrap64 ((rd t601 x19_3) + (rd t605 x19_3))) 2) != (rd t609 x19_3)) = false := bne_eq_false_iff_eq.mpr c143
                 clear c143
                 have H' := Aside0.mk H
                 clear H
                 have p622 : 0 ≤ (x19_3 : Int) := of_decide_eq_true (by first | (with_reducible assumption) | assumption)
                 have q622 : x19_3 < (t601.length : Int) := of_decide_eq_true (by first | (with_reducible assumption) | assumption)
                 obtain ⟨ad622, e622, hx622_0⟩ := Kd.at_int (Kd.R_reads' HO_9.out).2.2 x19_3 p622 q622
                 cases e622
                 replace p622 := eq_true p622
                 replace q622 := eq_true q622
                 obtain ⟨Ao144, co144, eo144⟩ := Kd.R_slice HO_11.out
                 subst eo144
                 have p623 : 0 ≤ (x19_3 : Int) := of_decide_eq_true (by first | (with_reducible assumption) | assumption)
                 have q623 : x19_3 < (t605.length : Int) := of_decide_eq_true (by first | (with_reducible assumption) | assumption)
                 obtain ⟨ad623, e623, hx623_0⟩ := Kd.at_int (Kd.R_reads' HO_11.out).2.2 x19_3 p623 q623
                 cases e623
                 replace p623 := eq_true p623
                 replace q623 := eq_true q623
                 obtain ⟨Ao145, co145, eo145⟩ := Kd.R_slice HO_13.out
                 subst eo145
                 have p624 : 0 ≤ (x19_3 : Int) := of_decide_eq_true (by first | (with_reducible assumption) | assumption)
                 have q624 : x19_3 < (t609.length : Int) := of_decide_eq_true (by first | (with_reducible assumption) | assumption)
                 obtain ⟨ad624, e624, hx624_0⟩ := Kd.at_int (Kd.R_reads' HO_13.out).2.2 x19_3 p624 q624
                 cases e624
                 replace p624 := eq_true p624
                 replace q624 := eq_true q624
                 go_wp2
                 repeat (go_quiet (fail); try go_wp2)
                 go_roundg k3
                 case measure => have := HJ6.out; have := HJ42.out; have := HK3.out; omega
                 case rel => exact ⟨(wrap64 (x19_3 + 1)), (by first | rfl | (simp; done) | (simp [*]; done)), H', ⟨by have := HJ6.out; have := HJ42.out; have := HK3.out; omega⟩, ⟨by (with_reducible repeat (first | apply Kd.R_alloc | apply Kd.R_drewN | apply Kd.R_drew)); exact HO_9.out⟩, ⟨by (with_reducible repeat (first | apply Kd.R_alloc | apply Kd.R_drewN | apply Kd.R_drew)); exact HO_11.out⟩, ⟨by (with_reducible repeat (first | apply Kd.R_alloc | apply Kd.R_drewN | apply Kd.R_drew)); exact HO_13.out⟩, ⟨iBK BK591.out⟩, ⟨iBK BK592.out⟩, ⟨iBK BK596.out⟩, ⟨iBK BK600.out⟩, ⟨iBK BK616.out⟩, ⟨iBK BK620.out⟩, ⟨iHB⟩⟩
                ·rw [if_neg c143] at H
                 have c143b0 : ((Int.tmod (wrap64 ((rd t601 x19_3) + (rd t605 x19_3))) 2) == (rd t609 x19_3)) = false := beq_eq_false_iff_ne.mpr c143
                 have c143b1 : ((Int.tmod (wrap64 ((rd t601 x19_3) + (rd t605 x19_3))) 2) != (rd t609 x19_3)) = true := bne_iff_ne.mpr c143
                 exact absurd (Option.some.inj H) (by decide)
               ·rw [if_neg c142] at H
                exact absurd H (by simp)
              ·rw [if_neg c141] at H
               exact absurd H (by simp)
             ·rw [if_neg c140] at H
              exact absurd H (by simp)
            ·rw [if_neg c139] at H
             have c139b0 : decide (x19_3 < (t601.length : Int)) = false := decide_eq_false c139
             clear c139
             replace H := Option.bind_eq_some_iff.mp H
             obtain ⟨⟨t625, t626⟩, A1480, H⟩ := H
             replace H : ((impl_DegreeOfFunc.f k3 t589 t590).bind fun bt627 => ((impl_DegreeOfFunc.f k3 t593 t594).bind fun bt629 => (if t626 = 0 then (if bt627.2 = 0 then (if bt629.2 = 0 then (if bt629.1 > t625 then (if bt629.1 > bt627.1 then (some false) else (laws_FnPolynomials.j3 k3 l0)) else (laws_FnPolynomials.j3 k3 l0)) else (some false)) else (some false)) else (some false)))) = some true := H
             have A148 := Aside0.mk A1480
             clear A1480
             replace H := Option.bind_eq_some_iff.mp H
             obtain ⟨⟨t627, t628⟩, A1490, H⟩ := H
             replace H : ((impl_DegreeOfFunc.f k3 t593 t594).bind fun bt629 => (if t626 = 0 then (if t628 = 0 then (if bt629.2 = 0 then (if bt629.1 > t625 then (if bt629.1 > t627 then (some false) else (laws_FnPolynomials.j3 k3 l0)) else (laws_FnPolynomials.j3 k3 l0)) else (some false)) else (some false)) else (some false))) = some true := H
             have A149 := Aside0.mk A1490
             clear A1490
             replace H := Option.bind_eq_some_iff.mp H
             obtain ⟨⟨t629, t630⟩, A1500, H⟩ := H
             replace H : (if t626 = 0 then (if t628 = 0 then (if t630 = 0 then (if t629 > t625 then (if t629 > t627 then (some false) else (laws_FnPolynomials.j3 k3 l0)) else (laws_FnPolynomials.j3 k3 l0)) else (some false)) else (some false)) else (some false)) = some true := H
             have A150 := Aside0.mk A1500
             clear A1500
             by_cases c151 : t626 = 0
             ·rw [if_pos c151] at H
              have c151b0 : (t626 == 0) = true := beq_iff_eq.mpr c151
              have c151b1 : (t626 != 0) = false := bne_eq_false_iff_eq.mpr c151
              clear c151
              by_cases c152 : t628 = 0
              ·rw [if_pos c152] at H
               have c152b0 : (t628 == 0) = true := beq_iff_eq.mpr c152
               have c152b1 : (t628 != 0) = false := bne_eq_false_iff_eq.mpr c152
               clear c152
               by_cases c153 : t630 = 0
               ·rw [if_pos c153] at H
                have c153b0 : (t630 == 0) = true := beq_iff_eq.mpr c153
                have c153b1 : (t630 != 0) = false := bne_eq_false_iff_eq.mpr c153
                clear c153
                by_cases c154 : t629 > t625
                ·rw [if_pos c154] at H
                 have c154b0 : decide (t625 < t629) = true := decide_eq_true c154
                 clear c154
                 by_cases c155 : t629 > t627
                 ·rw [if_pos c155] at H
                  have c155b0 : decide (t627 < t629) = true := decide_eq_true c155
                  clear c155
                  exact absurd (Option.some.inj H) (by decide)
                 ·rw [if_neg c155] at H
                  have c155b0 : decide (t627 < t629) = false := decide_eq_false c155
                  clear c155
                  have H' := Aside0.mk H
                  clear H
                  have hnb174 := NB591_592.out
                  have hnc174 := NB592_591.out
                  have hnb175 := NB591_596.out
                  have hnc175 := NB596_591.out
                  have hnb176 := NB591_600.out
                  have hnc176 := NB600_591.out
                  have hnb177 := NB591_616.out
                  have hnc177 := NB616_591.out
                  have hnb178 := NB591_620.out
                  have hnc178 := NB620_591.out
                  have hcz179_0 : wr.cell? ⟨gb591, 0, none⟩ = some (.int .i64 t587) := (blk_cell BK591.out 0).trans rfl
                  have hcz179_1 : wr.cell? ⟨gb591, 1, none⟩ = some (.int .i64 t588) := (blk_cell BK591.out 1).trans rfl
                  have hfz179_0 := blk_frozen BK591.out 0
                  have hfz179_1 := blk_frozen BK591.out 1
                  go_wp2_with (first | (go_at_call 38; (with_reducible refine (impl_DegreeOfFunc.calls k3 t587 t588 t625 t626 _ A148.out).mono ?_); rintro e w180 ⟨rfl, hb⟩; replace HO_9 := aa (Kd.R_below (by (with_reducible repeat (first | apply Kd.R_alloc | apply Kd.R_drewN | apply Kd.R_drew)); exact HO_9.out) hb); replace HO_11 := aa (Kd.R_below (by (with_reducible repeat (first | apply Kd.R_alloc | apply Kd.R_drewN | apply Kd.R_drew)); exact HO_11.out) hb); replace HO_13 := aa (Kd.R_below (by (with_reducible repeat (first | apply Kd.R_alloc | apply Kd.R_drewN | apply Kd.R_drew)); exact HO_13.out) hb); replace BK591 := aa (blk_below (iBK BK591.out) hb); replace BK592 := aa (blk_below (iBK BK592.out) hb); replace BK596 := aa (blk_below (iBK BK596.out) hb); replace BK600 := aa (blk_below (iBK BK600.out) hb); replace BK616 := aa (blk_below (iBK BK616.out) hb); replace BK620 := aa (blk_below (iBK BK620.out) hb); replace HB := aa (below_step iHB hb); (try clear hb); have hnb181 := NB592_596.out; have hnc181 := NB596_592.out; have hnb182 := NB592_600.out; have hnc182 := NB600_592.out; have hnb183 := NB592_616.out; have hnc183 := NB616_592.out; have hnb184 := NB592_620.out; have hnc184 := NB620_592.out; have hcz185_0 : w180.cell? ⟨gb592, 0, none⟩ = some (.int .i64 t589) := (blk_cell BK592.out 0).trans rfl; have hcz185_1 : w180.cell? ⟨gb592, 1, none⟩ = some (.int .i64 t590) := (blk_cell BK592.out 1).trans rfl; have hfz185_0 := blk_frozen BK592.out 0; have hfz185_1 := blk_frozen BK592.out 1) | (go_at_call 38; (with_reducible refine (impl_DegreeOfFunc.calls k3 t589 t590 t627 t628 _ A149.out).mono ?_); rintro e w186 ⟨rfl, hb⟩; replace HO_9 := aa (Kd.R_below (by (with_reducible repeat (first | apply Kd.R_alloc | apply Kd.R_drewN | apply Kd.R_drew)); exact HO_9.out) hb); replace HO_11 := aa (Kd.R_below (by (with_reducible repeat (first | apply Kd.R_alloc | apply Kd.R_drewN | apply Kd.R_drew)); exact HO_11.out) hb); replace HO_13 := aa (Kd.R_below (by (with_reducible repeat (first | apply Kd.R_alloc | apply Kd.R_drewN | apply Kd.R_drew)); exact HO_13.out) hb); replace BK591 := aa (blk_below (iBK BK591.out) hb); replace BK592 := aa (blk_below (iBK BK592.out) hb); replace BK596 := aa (blk_below (iBK BK596.out) hb); replace BK600 := aa (blk_below (iBK BK600.out) hb); replace BK616 := aa (blk_below (iBK BK616.out) hb); replace BK620 := aa (blk_below (iBK BK620.out) hb); replace HB := aa (below_step iHB hb); (try clear hb); have hnb187 := NB596_600.out; have hnc187 := NB600_596.out; have hnb188 := NB596_616.out; have hnc188 := NB616_596.out; have hnb189 := NB596_620.out; have hnc189 := NB620_596.out; have hcz190_0 : w186.cell? ⟨gb596, 0, none⟩ = some (.int .i64 t593) := (blk_cell BK596.out 0).trans rfl; have hcz190_1 : w186.cell? ⟨gb596, 1, none⟩ = some (.int .i64 t594) := (blk_cell BK596.out 1).trans rfl; have hfz190_0 := blk_frozen BK596.out 0; have hfz190_1 := blk_frozen BK596.out 1) | (go_at_call 38; (with_reducible refine (impl_DegreeOfFunc.calls k3 t593 t594 t629 t630 _ A150.out).mono ?_); rintro e w191 ⟨rfl, hb⟩; replace HO_9 := aa (Kd.R_below (by (with_reducible repeat (first | apply Kd.R_alloc | apply Kd.R_drewN | apply Kd.R_drew)); exact HO_9.out) hb); replace HO_11 := aa (Kd.R_below (by (with_reducible repeat (first | apply Kd.R_alloc | apply Kd.R_drewN | apply Kd.R_drew)); exact HO_11.out) hb); replace HO_13 := aa (Kd.R_below (by (with_reducible repeat (first | apply Kd.R_alloc | apply Kd.R_drewN | apply Kd.R_drew)); exact HO_13.out) hb); replace BK591 := aa (blk_below (iBK BK591.out) hb); replace BK592 := aa (blk_below (iBK BK592.out) hb); replace BK596 := aa (blk_below (iBK BK596.out) hb); replace BK600 := aa (blk_below (iBK BK600.out) hb); replace BK616 := aa (blk_below (iBK BK616.out) hb); replace BK620 := aa (blk_below (iBK BK620.out) hb); replace HB := aa (below_step iHB hb); (try clear hb)))
                  go_meet
                  case rel => exact ⟨_, H', ⟨by have := HJ6.out; have := HJ42.out; have := HK3.out; first | omega | exact Nat.le_refl _⟩, ⟨iHB⟩⟩
                ·rw [if_neg c154] at H
                 have c154b0 : decide (t625 < t629) = false := decide_eq_false c154
                 clear c154
                 have H' := Aside0.mk H
                 clear H
                 have hnb192 := NB591_592.out
                 have hnc192 := NB592_591.out
                 have hnb193 := NB591_596.out
                 have hnc193 := NB596_591.out
                 have hnb194 := NB591_600.out
                 have hnc194 := NB600_591.out
                 have hnb195 := NB591_616.out
                 have hnc195 := NB616_591.out
                 have hnb196 := NB591_620.out
                 have hnc196 := NB620_591.out
                 have hcz197_0 : wr.cell? ⟨gb591, 0, none⟩ = some (.int .i64 t587) := (blk_cell BK591.out 0).trans rfl
                 have hcz197_1 : wr.cell? ⟨gb591, 1, none⟩ = some (.int .i64 t588) := (blk_cell BK591.out 1).trans rfl
                 have hfz197_0 := blk_frozen BK591.out 0
                 have hfz197_1 := blk_frozen BK591.out 1
                 go_wp2_with (first | (go_at_call 38; (with_reducible refine (impl_DegreeOfFunc.calls k3 t587 t588 t625 t626 _ A148.out).mono ?_); rintro e w198 ⟨rfl, hb⟩; replace HO_9 := aa (Kd.R_below (by (with_reducible repeat (first | apply Kd.R_alloc | apply Kd.R_drewN | apply Kd.R_drew)); exact HO_9.out) hb); replace HO_11 := aa (Kd.R_below (by (with_reducible repeat (first | apply Kd.R_alloc | apply Kd.R_drewN | apply Kd.R_drew)); exact HO_11.out) hb); replace HO_13 := aa (Kd.R_below (by (with_reducible repeat (first | apply Kd.R_alloc | apply Kd.R_drewN | apply Kd.R_drew)); exact HO_13.out) hb); replace BK591 := aa (blk_below (iBK BK591.out) hb); replace BK592 := aa (blk_below (iBK BK592.out) hb); replace BK596 := aa (blk_below (iBK BK596.out) hb); replace BK600 := aa (blk_below (iBK BK600.out) hb); replace BK616 := aa (blk_below (iBK BK616.out) hb); replace BK620 := aa (blk_below (iBK BK620.out) hb); replace HB := aa (below_step iHB hb); (try clear hb); have hnb199 := NB592_596.out; have hnc199 := NB596_592.out; have hnb200 := NB592_600.out; have hnc200 := NB600_592.out; have hnb201 := NB592_616.out; have hnc201 := NB616_592.out; have hnb202 := NB592_620.out; have hnc202 := NB620_592.out; have hcz203_0 : w198.cell? ⟨gb592, 0, none⟩ = some (.int .i64 t589) := (blk_cell BK592.out 0).trans rfl; have hcz203_1 : w198.cell? ⟨gb592, 1, none⟩ = some (.int .i64 t590) := (blk_cell BK592.out 1).trans rfl; have hfz203_0 := blk_frozen BK592.out 0; have hfz203_1 := blk_frozen BK592.out 1) | (go_at_call 38; (with_reducible refine (impl_DegreeOfFunc.calls k3 t589 t590 t627 t628 _ A149.out).mono ?_); rintro e w204 ⟨rfl, hb⟩; replace HO_9 := aa (Kd.R_below (by (with_reducible repeat (first | apply Kd.R_alloc | apply Kd.R_drewN | apply Kd.R_drew)); exact HO_9.out) hb); replace HO_11 := aa (Kd.R_below (by (with_reducible repeat (first | apply Kd.R_alloc | apply Kd.R_drewN | apply Kd.R_drew)); exact HO_11.out) hb); replace HO_13 := aa (Kd.R_below (by (with_reducible repeat (first | apply Kd.R_alloc | apply Kd.R_drewN | apply Kd.R_drew)); exact HO_13.out) hb); replace BK591 := aa (blk_below (iBK BK591.out) hb); replace BK592 := aa (blk_below (iBK BK592.out) hb); replace BK596 := aa (blk_below (iBK BK596.out) hb); replace BK600 := aa (blk_below (iBK BK600.out) hb); replace BK616 := aa (blk_below (iBK BK616.out) hb); replace BK620 := aa (blk_below (iBK BK620.out) hb); replace HB := aa (below_step iHB hb); (try clear hb); have hnb205 := NB596_600.out; have hnc205 := NB600_596.out; have hnb206 := NB596_616.out; have hnc206 := NB616_596.out; have hnb207 := NB596_620.out; have hnc207 := NB620_596.out; have hcz208_0 : w204.cell? ⟨gb596, 0, none⟩ = some (.int .i64 t593) := (blk_cell BK596.out 0).trans rfl; have hcz208_1 : w204.cell? ⟨gb596, 1, none⟩ = some (.int .i64 t594) := (blk_cell BK596.out 1).trans rfl; have hfz208_0 := blk_frozen BK596.out 0; have hfz208_1 := blk_frozen BK596.out 1) | (go_at_call 38; (with_reducible refine (impl_DegreeOfFunc.calls k3 t593 t594 t629 t630 _ A150.out).mono ?_); rintro e w209 ⟨rfl, hb⟩; replace HO_9 := aa (Kd.R_below (by (with_reducible repeat (first | apply Kd.R_alloc | apply Kd.R_drewN | apply Kd.R_drew)); exact HO_9.out) hb); replace HO_11 := aa (Kd.R_below (by (with_reducible repeat (first | apply Kd.R_alloc | apply Kd.R_drewN | apply Kd.R_drew)); exact HO_11.out) hb); replace HO_13 := aa (Kd.R_below (by (with_reducible repeat (first | apply Kd.R_alloc | apply Kd.R_drewN | apply Kd.R_drew)); exact HO_13.out) hb); replace BK591 := aa (blk_below (iBK BK591.out) hb); replace BK592 := aa (blk_below (iBK BK592.out) hb); replace BK596 := aa (blk_below (iBK BK596.out) hb); replace BK600 := aa (blk_below (iBK BK600.out) hb); replace BK616 := aa (blk_below (iBK BK616.out) hb); replace BK620 := aa (blk_below (iBK BK620.out) hb); replace HB := aa (below_step iHB hb); (try clear hb)))
                 go_meet
                 case rel => exact ⟨_, H', ⟨by have := HJ6.out; have := HJ42.out; have := HK3.out; first | omega | exact Nat.le_refl _⟩, ⟨iHB⟩⟩
               ·rw [if_neg c153] at H
                have c153b0 : (t630 == 0) = false := beq_eq_false_iff_ne.mpr c153
                have c153b1 : (t630 != 0) = true := bne_iff_ne.mpr c153
                exact absurd (Option.some.inj H) (by decide)
              ·rw [if_neg c152] at H
               have c152b0 : (t628 == 0) = false := beq_eq_false_iff_ne.mpr c152
               have c152b1 : (t628 != 0) = true := bne_iff_ne.mpr c152
               exact absurd (Option.some.inj H) (by decide)
             ·rw [if_neg c151] at H
              have c151b0 : (t626 == 0) = false := beq_eq_false_iff_ne.mpr c151
              have c151b1 : (t626 != 0) = true := bne_iff_ne.mpr c151
              exact absurd (Option.some.inj H) (by decide)
      ·rw [if_neg c37] at H
       have c37b0 : (t595 == 0) = false := beq_eq_false_iff_ne.mpr c37
       have c37b1 : (t595 != 0) = true := bne_iff_ne.mpr c37
       (first | rw [c37b0] | (simp only [i64_w, i32_w]; rw [c37b0]) | skip)
       have H' := Aside0.mk H
       clear H
       go_wp2
       repeat (go_quiet (fail); try go_wp2)
       go_meet
       case rel => exact ⟨_, H', ⟨by have := HJ6.out; first | omega | exact Nat.le_refl _⟩, ⟨iHB⟩⟩
     case rest =>
      obtain ⟨kq, HA, _, HB⟩ := hcut
      go_step
      exact laws_FnPolynomials.s3 kq A0 c0 l0 w _ HR0 HC0 HA HB _ _ _ _ _ _ _ _ _ _ _ _ _ _ _ _ _ _ _ _ _ _ _ _ _ _ _ _ _ _ _ _ _ _ _ _ _ _ _ _ _ _ _ _ _ _ _ _ _ _ _ _ _ _ _ _ _ _ _ _ _ _ _ _ _ _ _ _ _ _ _ _ _ _ _ _ _ _ _ _ _ _ _ _ _ _ _ _ _ _ _ _ _ _ _ _ _ _ _ _ _ _ _ _ _ _ _ _ _ _ _ _ _ _ _ _ _ _ _ _ _ _ _ _ _ _ _ _ _ _ _ _ _ _ _ _ _ _ _ _ _ _ _ _ _ _ _ _ _ _ _ _ _ _ _ _ _ _ _ _ _ _ _ _ _ _ _ _ _ _ _ _ _ _ _ _ _ _ _ _ _ _ _ _ _ _ _ _ _ _ _ _ _ _ _ _ _ _ _ _ _ _ _ _ _ _ _ _ _ _ _ _ _ _ _ _ _ _ _ _ _ _ _ _ _ _ _ _ _ _ _ _ _ _ _ _ _ _ _ _ _ _ _ _ _ _ _ _ _ _ _ _ _ _ _ _ _ _ _ _ _ _ _ _ _ _ _ _ _ _ _ _ _ _ _ _ _ _ _ _ _ _ _ _ _ _ _ _ _ _ _ _ _ _ _ _ _ _ _ _ _ _ _ _ _ _ _ _ _ _ _ _ _ _ _ _ _ _ _ _ _ _ _ _ _ _ _ _ _ _ _ _ _ _ _ _ _ _ _ _ _ _ _ _ _ _ _ _ _ _ _ _ _ _ _ _ _ _ _ _ _ _ _ _ _ _ _ _ _ _ _ _ _ _ _ _ _ _ _ _ _ _ _ _ _ _ _ _ _ _ _ _ _ _ _ _ _ _ _ _ _ _ _ _ _ _ _ _ _ _ _ _ _ _ _ _ _ _ _ _
end Go.Proofs.Ytdhfbgbclibagaa.P
