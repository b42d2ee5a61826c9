/- Functions of the given program and their contracts, written by a program of this session (gen.py) over the kit's print. -/
import Derived.Test.YtdhfbgbclibagaaSQx0
import Derived.Test.YtdhfbgbclibagaaSQx6
import Derived.Test.YtdhfbgbclibagaaSQx7
import Derived.Test.YtdhfbgbclibagaaSQx8
import Derived.Test.YtdhfbgbclibagaaSQx9
import Derived.Test.YtdhfbgbclibagaaSQx15
import Derived.Test.YtdhfbgbclibagaaSQx16
import Derived.Test.YtdhfbgbclibagaaSQx17
import Derived.Test.YtdhfbgbclibagaaSQx19
namespace Go.Proofs.Ytdhfbgbclibagaa.P
open Go.RowKit Go.Proofs.YtdhfbgbclibagaaW.PrintWords Go.Proofs.YtdhfbgbclibagaaW.PrintLast Go.Proofs.YtdhfbgbclibagaaW.PrintMore
attribute [local go_sem] max2_int min2_int max_two min_two max_three min_three max_four min_four   -- for this text's walks alone
set_option linter.unusedVariables false
set_option linter.unusedSimpArgs false
set_option maxHeartbeats 8000000 in
set_option maxRecDepth 100000 in
theorem laws_FnSpectrum.calls (k : Nat) (A0 : Option Addr) (c0 : Nat) (l0 : List Int) (r : Bool) (w : World) (hr0 : Kd.C (Kd.int .u8) w A0 l0.length l0) (hc0 : l0.length ≤ c0) (h : laws_FnSpectrum.f k l0 = some true) :
    Calls Try.prog 13 #[.slice A0 l0.length c0] w fun e w' => e = .returned (.bool true) ∧ Below w.heap.size w w' := by
  have hu27 := Try.underlying27
  have HR0 := Aside0.mk hr0
  have HC0 := Aside0.mk hc0
  clear hr0 hc0
  have HB := aa (Below.refl w.heap.size w)
  have H : ((laws_big.f l0).bind fun t539 => (if t539 = true then (some true) else ((spec_DrawIsBent.f k l0).bind fun bt540 => ((impl_IsBent.f k bt540.1 bt540.2).bind fun bt543 => ((spec_IsBent.f k bt540.1 bt540.2).bind fun bt545 => ((impl_SpectrumOf.f bt540.1 bt540.2).bind fun bt547 => ((spec_SpectrumOf.f k bt540.1 bt540.2).bind fun bt551 => (if bt543.2 = bt545.2 then (if (bt543.1 != bt545.1) = true then (laws_FnSpectrum.j0 k l0 bt543.1 bt543.2 bt547.1 true bt540.1 bt540.2) else (if bt547.2 = bt551.2 then ((laws_likeInts.f k bt547.1 bt551.1).bind fun t555 => (laws_FnSpectrum.j0 k l0 bt543.1 bt543.2 bt547.1 (!t555) bt540.1 bt540.2)) else (laws_FnSpectrum.j0 k l0 bt543.1 bt543.2 bt547.1 true bt540.1 bt540.2))) else (laws_FnSpectrum.j0 k l0 bt543.1 bt543.2 bt547.1 true bt540.1 bt540.2))))))))) = some true := h
  clear h
  replace H := Option.bind_eq_some_iff.mp H
  obtain ⟨t539, A20, H⟩ := H
  replace H : (if t539 = true then (some true) else ((spec_DrawIsBent.f k l0).bind fun bt540 => ((impl_IsBent.f k bt540.1 bt540.2).bind fun bt543 => ((spec_IsBent.f k bt540.1 bt540.2).bind fun bt545 => ((impl_SpectrumOf.f bt540.1 bt540.2).bind fun bt547 => ((spec_SpectrumOf.f k bt540.1 bt540.2).bind fun bt551 => (if bt543.2 = bt545.2 then (if (bt543.1 != bt545.1) = true then (laws_FnSpectrum.j0 k l0 bt543.1 bt543.2 bt547.1 true bt540.1 bt540.2) else (if bt547.2 = bt551.2 then ((laws_likeInts.f k bt547.1 bt551.1).bind fun t555 => (laws_FnSpectrum.j0 k l0 bt543.1 bt543.2 bt547.1 (!t555) bt540.1 bt540.2)) else (laws_FnSpectrum.j0 k l0 bt543.1 bt543.2 bt547.1 true bt540.1 bt540.2))) else (laws_FnSpectrum.j0 k l0 bt543.1 bt543.2 bt547.1 true bt540.1 bt540.2)))))))) = some true := H
  have A2 := Aside0.mk A20
  clear A20
  by_cases c3 : t539 = true
  · subst c3
    have H1 : (some true) = some true := by first | (rw [if_pos rfl] at H; exact H) | rfl
    clear H
    have H := H1
    clear H1
    clear H
    go_enter Try.func13, Try.ntmps13
    go_wp2_with (first | (go_at_call 41; (with_reducible refine (laws_big.calls _ _ l0 true _ ?side1 ?side2 A2.out).mono ?_); (case side1 => repeat (first | exact HR0.out | (with_reducible refine Kd.C_alloc ?_ _) | (with_reducible refine Kd.C_drewN ?_ _) | (with_reducible refine Kd.C_drew ?_))); (case side2 => exact HC0.out); rintro e w' ⟨rfl, ⟨nd, rfl⟩⟩; (try first | exact ⟨rfl, _, World.drewN_drewN _ _ _⟩ | exact ⟨rfl, _, Eq.trans (World.drewN_drewN _ _ _) (congrArg (World.drewN _) (Nat.add_assoc _ _ _))⟩)))
    repeat (go_quiet (first | (go_at_call 41; (with_reducible refine (laws_big.calls _ _ l0 true _ ?side1 ?side2 A2.out).mono ?_); (case side1 => repeat (first | exact HR0.out | (with_reducible refine Kd.C_alloc ?_ _) | (with_reducible refine Kd.C_drewN ?_ _) | (with_reducible refine Kd.C_drew ?_))); (case side2 => exact HC0.out); rintro e w' ⟨rfl, ⟨nd, rfl⟩⟩; (try first | exact ⟨rfl, _, World.drewN_drewN _ _ _⟩ | exact ⟨rfl, _, Eq.trans (World.drewN_drewN _ _ _) (congrArg (World.drewN _) (Nat.add_assoc _ _ _))⟩))); try go_wp2_with (first | (go_at_call 41; (with_reducible refine (laws_big.calls _ _ l0 true _ ?side1 ?side2 A2.out).mono ?_); (case side1 => repeat (first | exact HR0.out | (with_reducible refine Kd.C_alloc ?_ _) | (with_reducible refine Kd.C_drewN ?_ _) | (with_reducible refine Kd.C_drew ?_))); (case side2 => exact HC0.out); rintro e w' ⟨rfl, ⟨nd, rfl⟩⟩; (try first | exact ⟨rfl, _, World.drewN_drewN _ _ _⟩ | exact ⟨rfl, _, Eq.trans (World.drewN_drewN _ _ _) (congrArg (World.drewN _) (Nat.add_assoc _ _ _))⟩))))
    go_ret
    exact ⟨by first | rfl | (simp [errW_none, errW_some] <;> rfl) | (simp [*, errW_none, errW_some] <;> rfl), iHB⟩
  · replace c3 := Bool.eq_false_iff.mpr c3
    subst c3
    have H1 : ((spec_DrawIsBent.f k l0).bind fun bt540 => ((impl_IsBent.f k bt540.1 bt540.2).bind fun bt543 => ((spec_IsBent.f k bt540.1 bt540.2).bind fun bt545 => ((impl_SpectrumOf.f bt540.1 bt540.2).bind fun bt547 => ((spec_SpectrumOf.f k bt540.1 bt540.2).bind fun bt551 => (if bt543.2 = bt545.2 then (if (bt543.1 != bt545.1) = true then (laws_FnSpectrum.j0 k l0 bt543.1 bt543.2 bt547.1 true bt540.1 bt540.2) else (if bt547.2 = bt551.2 then ((laws_likeInts.f k bt547.1 bt551.1).bind fun t555 => (laws_FnSpectrum.j0 k l0 bt543.1 bt543.2 bt547.1 (!t555) bt540.1 bt540.2)) else (laws_FnSpectrum.j0 k l0 bt543.1 bt543.2 bt547.1 true bt540.1 bt540.2))) else (laws_FnSpectrum.j0 k l0 bt543.1 bt543.2 bt547.1 true bt540.1 bt540.2))))))) = some true := by rw [if_neg (show ¬ (false = true) by decide)] at H; exact H
    clear H
    have H := H1
    clear H1
    replace H := Option.bind_eq_some_iff.mp H
    obtain ⟨⟨t540, t541⟩, A40, H⟩ := H
    replace H : ((impl_IsBent.f k t540 t541).bind fun bt543 => ((spec_IsBent.f k t540 t541).bind fun bt545 => ((impl_SpectrumOf.f t540 t541).bind fun bt547 => ((spec_SpectrumOf.f k t540 t541).bind fun bt551 => (if bt543.2 = bt545.2 then (if (bt543.1 != bt545.1) = true then (laws_FnSpectrum.j0 k l0 bt543.1 bt543.2 bt547.1 true t540 t541) else (if bt547.2 = bt551.2 then ((laws_likeInts.f k bt547.1 bt551.1).bind fun t555 => (laws_FnSpectrum.j0 k l0 bt543.1 bt543.2 bt547.1 (!t555) t540 t541)) else (laws_FnSpectrum.j0 k l0 bt543.1 bt543.2 bt547.1 true t540 t541))) else (laws_FnSpectrum.j0 k l0 bt543.1 bt543.2 bt547.1 true t540 t541)))))) = some true := H
    have A4 := Aside0.mk A40
    clear A40
    replace H := Option.bind_eq_some_iff.mp H
    obtain ⟨⟨t543, t544⟩, A50, H⟩ := H
    replace H : ((spec_IsBent.f k t540 t541).bind fun bt545 => ((impl_SpectrumOf.f t540 t541).bind fun bt547 => ((spec_SpectrumOf.f k t540 t541).bind fun bt551 => (if t544 = bt545.2 then (if (t543 != bt545.1) = true then (laws_FnSpectrum.j0 k l0 t543 t544 bt547.1 true t540 t541) else (if bt547.2 = bt551.2 then ((laws_likeInts.f k bt547.1 bt551.1).bind fun t555 => (laws_FnSpectrum.j0 k l0 t543 t544 bt547.1 (!t555) t540 t541)) else (laws_FnSpectrum.j0 k l0 t543 t544 bt547.1 true t540 t541))) else (laws_FnSpectrum.j0 k l0 t543 t544 bt547.1 true t540 t541))))) = some true := H
    have A5 := Aside0.mk A50
    clear A50
    replace H := Option.bind_eq_some_iff.mp H
    obtain ⟨⟨t545, t546⟩, A60, H⟩ := H
    replace H : ((impl_SpectrumOf.f t540 t541).bind fun bt547 => ((spec_SpectrumOf.f k t540 t541).bind fun bt551 => (if t544 = t546 then (if (t543 != t545) = true then (laws_FnSpectrum.j0 k l0 t543 t544 bt547.1 true t540 t541) else (if bt547.2 = bt551.2 then ((laws_likeInts.f k bt547.1 bt551.1).bind fun t555 => (laws_FnSpectrum.j0 k l0 t543 t544 bt547.1 (!t555) t540 t541)) else (laws_FnSpectrum.j0 k l0 t543 t544 bt547.1 true t540 t541))) else (laws_FnSpectrum.j0 k l0 t543 t544 bt547.1 true t540 t541)))) = some true := H
    have A6 := Aside0.mk A60
    clear A60
    replace H := Option.bind_eq_some_iff.mp H
    obtain ⟨⟨t547, t550⟩, A70, H⟩ := H
    replace H : ((spec_SpectrumOf.f k t540 t541).bind fun bt551 => (if t544 = t546 then (if (t543 != t545) = true then (laws_FnSpectrum.j0 k l0 t543 t544 t547 true t540 t541) else (if t550 = bt551.2 then ((laws_likeInts.f k t547 bt551.1).bind fun t555 => (laws_FnSpectrum.j0 k l0 t543 t544 t547 (!t555) t540 t541)) else (laws_FnSpectrum.j0 k l0 t543 t544 t547 true t540 t541))) else (laws_FnSpectrum.j0 k l0 t543 t544 t547 true t540 t541))) = some true := H
    have A7 := Aside0.mk A70
    clear A70
    replace H := Option.bind_eq_some_iff.mp H
    obtain ⟨⟨t551, t554⟩, A80, H⟩ := H
    replace H : (if t544 = t546 then (if (t543 != t545) = true then (laws_FnSpectrum.j0 k l0 t543 t544 t547 true t540 t541) else (if t550 = t554 then ((laws_likeInts.f k t547 t551).bind fun t555 => (laws_FnSpectrum.j0 k l0 t543 t544 t547 (!t555) t540 t541)) else (laws_FnSpectrum.j0 k l0 t543 t544 t547 true t540 t541))) else (laws_FnSpectrum.j0 k l0 t543 t544 t547 true t540 t541)) = some true := H
    have A8 := Aside0.mk A80
    clear A80
    have HC9 := Aside0.mk H
    clear H
    go_enter Try.func13, Try.ntmps13
    go_upto_region 8 with (first | (go_at_call 41; (with_reducible refine (laws_big.calls _ _ l0 false _ ?side1 ?side2 A2.out).mono ?_); (case side1 => repeat (first | exact HR0.out | (with_reducible refine Kd.C_alloc ?_ _) | (with_reducible refine Kd.C_drewN ?_ _) | (with_reducible refine Kd.C_drew ?_))); (case side2 => exact HC0.out); rintro e w' ⟨rfl, ⟨nd, rfl⟩⟩; (try first | exact ⟨rfl, _, World.drewN_drewN _ _ _⟩ | exact ⟨rfl, _, Eq.trans (World.drewN_drewN _ _ _) (congrArg (World.drewN _) (Nat.add_assoc _ _ _))⟩)) | (go_at_call 42; (with_reducible refine (spec_DrawIsBent.calls k _ _ l0 t540 t541 _ ?side1 ?side2 A4.out).mono ?_); (case side1 => repeat (first | exact HR0.out | (with_reducible refine Kd.C_alloc ?_ _) | (with_reducible refine Kd.C_drewN ?_ _) | (with_reducible refine Kd.C_drew ?_))); (case side2 => exact HC0.out); rintro e w10 ⟨rfl, hb⟩; have n0_ := aa (below_step iHB hb); clear HB; have HB := n0_; clear n0_; (try clear hb); (try clear hb2); (try clear hk); (try clear hi)) | ((with_reducible refine gate_dst (N := 3) rfl ?_); (try (refine gate_guard (by rfl) ?_; dsimp only)); refine box_event ?hg (N := 3) ?hd (cs := #[.int .i64 0, .int .i64 0]) (t := 27) ?hr ?_; (case hd => rfl); (case hg => rfl); (case hr => first | (go_simp; done) | (go_simp; rfl)); intro gb542 hg w11 hbox hb; have n0_ := aa (below_step iHB hb); have n1_ := aa (hbox); have n2_ := aa ((by rw [hg]; exact (below_size iHB) : w.heap.size ≤ gb542)); have n3_ := aa ((by rw [hg]; exact (below_size iHB) : w.heap.size ≤ gb542)); clear HB; have HB := n0_; have BK542 := n1_; have GW542 := n2_; have GE542 := n3_; clear n0_ n1_ n2_ n3_; clear hb hbox hg; have hcz12_0 : w11.cell? ⟨gb542, 0, none⟩ = some (.int .i64 0) := (blk_cell BK542.out 0).trans rfl; have hcz12_1 : w11.cell? ⟨gb542, 1, none⟩ = some (.int .i64 0) := (blk_cell BK542.out 1).trans rfl; have hfz12_0 := blk_frozen BK542.out 0; have hfz12_1 := blk_frozen BK542.out 1) | (go_at_call 30; (with_reducible refine (impl_IsBent.calls k t540 t541 t543 t544 _ A5.out).mono ?_); rintro e w13 ⟨rfl, hb⟩; have n0_ := aa (blk_below (g := gb542) (o := .cells #[.int .i64 t540, .int .i64 t541] 27 (0, 0)) (by (with_reducible repeat (first | refine blk_drewN ?_ _ | refine blk_drew ?_ | refine blk_alloc ?_ _)); refine blk_put (cs := #[.int .i64 t540, .int .i64 0]) ?_ 1 _ rfl; (with_reducible repeat (first | refine blk_drewN ?_ _ | refine blk_drew ?_ | refine blk_alloc ?_ _)); refine blk_put (cs := #[.int .i64 0, .int .i64 0]) ?_ 0 _ rfl; exact iBK BK542.out) hb); have n1_ := aa (below_step iHB hb); clear BK542; clear HB; have BK542 := n0_; have HB := n1_; clear n0_ n1_; (try clear hb); (try clear hb2); (try clear hk); (try clear hi); have hcz14_0 : w13.cell? ⟨gb542, 0, none⟩ = some (.int .i64 t540) := (blk_cell BK542.out 0).trans rfl; have hcz14_1 : w13.cell? ⟨gb542, 1, none⟩ = some (.int .i64 t541) := (blk_cell BK542.out 1).trans rfl; have hfz14_0 := blk_frozen BK542.out 0; have hfz14_1 := blk_frozen BK542.out 1) | (go_at_call 29; (with_reducible refine (spec_IsBent.calls k t540 t541 t545 t546 _ A6.out).mono ?_); rintro e w15 ⟨rfl, hb⟩; have n0_ := aa (blk_below (g := gb542) (o := .cells #[.int .i64 t540, .int .i64 t541] 27 (0, 0)) (iBK BK542.out) hb); have n1_ := aa (below_step iHB hb); clear BK542; clear HB; have BK542 := n0_; have HB := n1_; clear n0_ n1_; (try clear hb); (try clear hb2); (try clear hk); (try clear hi); have hcz16_0 : w15.cell? ⟨gb542, 0, none⟩ = some (.int .i64 t540) := (blk_cell BK542.out 0).trans rfl; have hcz16_1 : w15.cell? ⟨gb542, 1, none⟩ = some (.int .i64 t541) := (blk_cell BK542.out 1).trans rfl; have hfz16_0 := blk_frozen BK542.out 0; have hfz16_1 := blk_frozen BK542.out 1) | (go_at_call 36; (with_reducible refine (impl_SpectrumOf.calls t540 t541 t547 t550 _ A7.out).mono ?_); rintro e w17 ⟨v548, rfl, ho0, hb⟩; have n0_ := aa (Kd.R_lower ho0 (below_size iHB)); have n1_ := aa (blk_below (g := gb542) (o := .cells #[.int .i64 t540, .int .i64 t541] 27 (0, 0)) (iBK BK542.out) hb); have n2_ := aa (below_step iHB hb); clear BK542; clear HB; have HO549 := n0_; have BK542 := n1_; have HB := n2_; clear n0_ n1_ n2_; (try clear hb); (try clear hb2); (try clear hk); (try clear hi); (try clear ho0); have hcz18_0 : w17.cell? ⟨gb542, 0, none⟩ = some (.int .i64 t540) := (blk_cell BK542.out 0).trans rfl; have hcz18_1 : w17.cell? ⟨gb542, 1, none⟩ = some (.int .i64 t541) := (blk_cell BK542.out 1).trans rfl; have hfz18_0 := blk_frozen BK542.out 0; have hfz18_1 := blk_frozen BK542.out 1) | (go_at_call 35; (with_reducible refine (spec_SpectrumOf.calls k t540 t541 t551 t554 _ A8.out).mono ?_); rintro e w19 ⟨v552, rfl, ho0, hb⟩; have n0_ := aa (Kd.R_elder' (by (with_reducible repeat (first | apply Kd.R_alloc | apply Kd.R_drewN | apply Kd.R_drew)); exact HO549.out) (Kd.R_base ho0) hb); have n1_ := aa (Kd.R_lower (Kd.R_new' ho0 (Kd.R_lt (by (with_reducible repeat (first | apply Kd.R_alloc | apply Kd.R_drewN | apply Kd.R_drew)); exact HO549.out))) (below_size iHB)); have n2_ := aa (blk_below (g := gb542) (o := .cells #[.int .i64 t540, .int .i64 t541] 27 (0, 0)) (iBK BK542.out) hb); have n3_ := aa (below_step iHB hb); clear HO549; clear BK542; clear HB; have HO549 := n0_; have HO553 := n1_; have BK542 := n2_; have HB := n3_; clear n0_ n1_ n2_ n3_; (try clear hb); (try clear hb2); (try clear hk); (try clear hi); (try clear ho0)))
    (try simp only [Act.put, List.setIfInBounds_toArray, List.set_cons_zero, List.set_cons_succ])
    go_cut [101] from 83 to 101 (fun v101 wc => ∃ (kq : Nat) (x101_8 : Bool), v101 = .bool x101_8 ∧ Aside0 (laws_FnSpectrum.j0 kq l0 t543 t544 t547 x101_8 t540 t541 = some true) ∧ Aside0 (kq ≤ k) ∧ Aside0 (Kd.R (Kd.int .i64) 2 wc w.heap.size (fun _ => True) v548 t547) ∧ Aside0 (wc.heap[gb542]? = some (.cells #[.int .i64 t540, .int .i64 t541] 27 (0, 0))) ∧ Aside0 (Below w.heap.size w wc))
    case first =>
      have H := HC9.out
      clear HC9
      by_cases c20 : t544 = t546
      · rw [if_pos c20] at H
        have c20b0 : (t544 == t546) = true := beq_iff_eq.mpr c20
        have c20b1 : (t544 != t546) = false := bne_eq_false_iff_eq.mpr c20
        clear c20
        (first | rw [c20b0] | (simp only [i64_w, i32_w]; rw [c20b0]) | skip)
        by_cases c21 : (t543 != t545) = true
        · rw [if_pos c21] at H
          have c21b0 : (t543 != t545) = true := c21
          (try (have c21b1 : decide (t543 = t545) = false := by simpa using c21))
          (try (have c21b2 : (t543 == t545) = false := by simpa using c21))
          (try (have c21b3 : ¬ (t543 = t545) := by simpa using c21))
          clear c21
          exact (laws_FnSpectrum.j0_not _ H).elim
        · rw [if_neg c21] at H
          have c21b0 : (t543 != t545) = false := by simpa using c21
          (try (have c21b1 : decide (t543 = t545) = true := by simpa using c21))
          (try (have c21b2 : (t543 == t545) = true := by simpa using c21))
          clear c21
          by_cases c22 : t550 = t554
          · rw [if_pos c22] at H
            have c22b0 : (t550 == t554) = true := beq_iff_eq.mpr c22
            have c22b1 : (t550 != t554) = false := bne_eq_false_iff_eq.mpr c22
            clear c22
            replace H := Option.bind_eq_some_iff.mp H
            obtain ⟨t555, A230, H⟩ := H
            replace H : (laws_FnSpectrum.j0 k l0 t543 t544 t547 (!t555) t540 t541) = some true := H
            have A23 := Aside0.mk A230
            clear A230
            have H' := Aside0.mk H
            clear H
            obtain ⟨Ao24, co24, eo24⟩ := Kd.R_slice HO549.out
            subst eo24
            obtain ⟨Ao25, co25, eo25⟩ := Kd.R_slice HO553.out
            subst eo25
            go_wp2_with (first | (go_at_call 43; (with_reducible refine (laws_likeInts.calls k _ _ t547 _ _ t551 t555 _ ?side1 ?side2 ?side3 ?side4 A23.out).mono ?_); (case side1 => repeat (first | exact (Kd.R_reads' HO549.out).2.2 | (with_reducible refine Kd.C_alloc ?_ _) | (with_reducible refine Kd.C_drewN ?_ _) | (with_reducible refine Kd.C_drew ?_))); (case side2 => exact (Kd.R_reads' HO549.out).2.1); (case side3 => repeat (first | exact (Kd.R_reads' HO553.out).2.2 | (with_reducible refine Kd.C_alloc ?_ _) | (with_reducible refine Kd.C_drewN ?_ _) | (with_reducible refine Kd.C_drew ?_))); (case side4 => exact (Kd.R_reads' HO553.out).2.1); rintro e w' ⟨rfl, ⟨nd, rfl⟩⟩; (try first | exact ⟨rfl, _, World.drewN_drewN _ _ _⟩ | exact ⟨rfl, _, Eq.trans (World.drewN_drewN _ _ _) (congrArg (World.drewN _) (Nat.add_assoc _ _ _))⟩)))
            go_meet
            case rel => exact ⟨_, (!t555), (by first | rfl | (simp; done) | (simp [*]; done)), H', ⟨by first | omega | exact Nat.le_refl _⟩, ⟨by (with_reducible repeat (first | apply Kd.R_alloc | apply Kd.R_drewN | apply Kd.R_drew)); exact Kd.R_mono HO549.out (fun _ hk => trivial)⟩, ⟨iBK BK542.out⟩, ⟨iHB⟩⟩
          · rw [if_neg c22] at H
            have c22b0 : (t550 == t554) = false := beq_eq_false_iff_ne.mpr c22
            have c22b1 : (t550 != t554) = true := bne_iff_ne.mpr c22
            exact (laws_FnSpectrum.j0_not _ H).elim
      · rw [if_neg c20] at H
        have c20b0 : (t544 == t546) = false := beq_eq_false_iff_ne.mpr c20
        have c20b1 : (t544 != t546) = true := bne_iff_ne.mpr c20
        (first | rw [c20b0] | (simp only [i64_w, i32_w]; rw [c20b0]) | skip)
        exact (laws_FnSpectrum.j0_not _ H).elim
    case rest =>
      clear HC9
      try clear c3
      try clear hcz12_0
      try clear hcz12_1
      try clear hcz14_0
      try clear hcz14_1
      try clear hcz16_0
      try clear hcz16_1
      try clear hcz18_0
      try clear hcz18_1
      try clear hfz12_0
      try clear hfz12_1
      try clear hfz14_0
      try clear hfz14_1
      try clear hfz16_0
      try clear hfz16_1
      try clear hfz18_0
      try clear hfz18_1
      obtain ⟨kq, x101_8, rfl, HA, HJ8, HO_8, BK542, HB⟩ := hcut
      cases kq with
      | zero => exact absurd HA.out (by simp [laws_FnSpectrum.j0])
      | succ kj8 =>
        have H := HA.out
        clear HA
        simp only [laws_FnSpectrum.j0] at H
        by_cases c26 : x101_8 = true
        · subst c26
          have H1 : (some false) = some true := by first | (rw [if_pos rfl] at H; exact H) | rfl
          clear H
          have H := H1
          clear H1
          exact absurd (Option.some.inj H) (by decide)
        · replace c26 := Bool.eq_false_iff.mpr c26
          subst c26
          have H1 : (if t544 = 0 then (if 0 ≤ (IntKind.u64.wrap (t540)) then (laws_FnSpectrum.l0 kj8 l0 t543 t547 (shl .i64 1 (IntKind.u64.wrap (t540))) 0 0 0 t540 t541) else (none)) else (laws_FnSpectrum.j6 kj8 l0)) = some true := by rw [if_neg (show ¬ (false = true) by decide)] at H; exact H
          clear H
          have H := H1
          clear H1
          have HC27 := Aside0.mk H
          clear H
          go_upto_if 103 with (fail)
          repeat (go_quiet (fail); go_upto_if 103 with (fail))
          go_cut [] from 12 to 256 (fun wc => ∃ (kq : Nat), Aside0 (laws_FnSpectrum.j6 kq l0 = some true) ∧ Aside0 (kq ≤ kj8) ∧ Aside0 (Below w.heap.size w wc))
          case first =>
            have H := HC27.out
            clear HC27
            by_cases c28 : t544 = 0
            · rw [if_pos c28] at H
              have c28b0 : (t544 == 0) = true := beq_iff_eq.mpr c28
              have c28b1 : (t544 != 0) = false := bne_eq_false_iff_eq.mpr c28
              clear c28
              (first | rw [c28b0] | (simp only [i64_w, i32_w]; rw [c28b0]) | skip)
              obtain ⟨ji29, hji29⟩ : ∃ j_ : Int, (IntKind.u64.wrap (t540)) = j_ := ⟨_, rfl⟩
              replace H : (if 0 ≤ (ji29) then (laws_FnSpectrum.l0 kj8 l0 t543 t547 (shl .i64 1 (ji29)) 0 0 0 t540 t541) else (none)) = some true := by first | (rw [hji29] at H; exact H) | (simp only [hji29] at H ⊢; exact H)
              by_cases c30 : 0 ≤ (ji29)
              · rw [if_pos c30] at H
                have c30b0 := eq_true c30
                have c30b1 : decide (0 ≤ (ji29)) = true := decide_eq_true c30
                clear c30
                obtain ⟨ji31, hji31⟩ : ∃ j_ : Int, (shl .i64 1 (ji29)) = j_ := ⟨_, rfl⟩
                replace H : (laws_FnSpectrum.l0 kj8 l0 t543 t547 ji31 0 0 0 t540 t541) = some true := by first | (rw [hji31] at H; exact H) | (simp only [hji31] at H ⊢; exact H)
                have hji31_ : (IntKind.i64.wrap (1 * 2 ^ min (ji29).toNat 64)) = ji31 := hji31
                have hji31z : (ji29) ≤ 64 → (IntKind.i64.wrap (1 * 2 ^ (ji29).toNat)) = ji31 := shl_small hji31
                have hji31u : (IntKind.i64.wrap (2 ^ min (ji29).toNat 64)) = ji31 := by have h_ := hji31_; rw [Int.one_mul] at h_; exact h_
                have hji31v : (ji29) ≤ 64 → (IntKind.i64.wrap (2 ^ (ji29).toNat)) = ji31 := fun hle_ => by have h_ := hji31z hle_; rw [Int.one_mul] at h_; exact h_
                have hji31y : (wrap64 (1 * 2 ^ min (ji29).toNat 64)) = ji31 := (i64_w _).symm.trans hji31_
                have hji31x : (ji29) ≤ 64 → (wrap64 (1 * 2 ^ (ji29).toNat)) = ji31 := fun h_ => (i64_w _).symm.trans (hji31z h_)
                have H' := Aside0.mk H
                clear H
                have hcz32_0 : wc.cell? ⟨gb542, 0, none⟩ = some (.int .i64 t540) := (blk_cell BK542.out 0).trans rfl
                have hcz32_1 : wc.cell? ⟨gb542, 1, none⟩ = some (.int .i64 t541) := (blk_cell BK542.out 1).trans rfl
                have hfz32_0 := blk_frozen BK542.out 0
                have hfz32_1 := blk_frozen BK542.out 1
                go_wp2
                repeat (go_quiet (fail); try go_wp2)
                go_loopg [13, 14, 15] kj8 (fun kq v13 v14 v15 w' => ∃ (x13_2 : Int) (x14_2 : Int) (x15_2 : Int), v13 = .int .i64 x13_2 ∧ v14 = .int .i64 x14_2 ∧ v15 = .int .i64 x15_2 ∧ Aside0 (laws_FnSpectrum.l0 kq l0 t543 t547 ji31 x13_2 x14_2 x15_2 t540 t541 = some true) ∧ Aside0 (kq ≤ kj8) ∧ Aside0 (Kd.R (Kd.int .i64) 2 w' w.heap.size (fun _ => True) v548 t547) ∧ Aside0 (w'.heap[gb542]? = some (.cells #[.int .i64 t540, .int .i64 t541] 27 (0, 0))) ∧ Aside0 (Below w.heap.size w w'))
                case atStart => exact ⟨(0), (0), (0), (by first | rfl | (simp; done) | (simp [*]; done)), (by first | rfl | (simp; done) | (simp [*]; done)), (by first | rfl | (simp; done) | (simp [*]; done)), H', ⟨Nat.le_refl _⟩, ⟨by (with_reducible repeat (first | apply Kd.R_alloc | apply Kd.R_drewN | apply Kd.R_drew)); exact HO_8.out⟩, ⟨iBK BK542.out⟩, ⟨iHB⟩⟩
                case round =>
                  clear H'
                  try clear c26
                  try clear c28
                  try clear c28b0
                  try clear c28b1
                  try clear c30
                  try clear c30b0
                  try clear c30b1
                  try clear hcz32_0
                  try clear hcz32_1
                  try clear hfz32_0
                  try clear hfz32_1
                  obtain ⟨x13_2, x14_2, x15_2, rfl, rfl, rfl, HA, HK2, HO_8, BK542, HB⟩ := hrel
                  cases gk with
                  | zero => exact absurd HA.out (by simp [laws_FnSpectrum.l0])
                  | succ k2 =>
                    have H := HA.out
                    clear HA
                    simp only [laws_FnSpectrum.l0] at H
                    by_cases c33 : x15_2 < (t547.length : Int)
                    · rw [if_pos c33] at H
                      have c33b0 : decide (x15_2 < (t547.length : Int)) = true := decide_eq_true c33
                      clear c33
                      by_cases c34 : 0 ≤ x15_2
                      · rw [if_pos c34] at H
                        have c34b0 : decide (0 ≤ x15_2) = true := decide_eq_true c34
                        clear c34
                        by_cases c35 : (rd t547 x15_2) > x14_2
                        · rw [if_pos c35] at H
                          have c35b0 : decide (x14_2 < (rd t547 x15_2)) = true := decide_eq_true c35
                          clear c35
                          by_cases c36 : (wrap64 (-(rd t547 x15_2))) > (rd t547 x15_2)
                          · rw [if_pos c36] at H
                            have c36b0 : decide ((rd t547 x15_2) < (wrap64 (-(rd t547 x15_2)))) = true := decide_eq_true c36
                            clear c36
                            have H' := Aside0.mk H
                            clear H
                            obtain ⟨Ao37, co37, eo37⟩ := Kd.R_slice HO_8.out
                            subst eo37
                            have p556 : 0 ≤ (x15_2 : Int) := of_decide_eq_true (by first | (with_reducible assumption) | assumption)
                            have q556 : x15_2 < (t547.length : Int) := of_decide_eq_true (by first | (with_reducible assumption) | assumption)
                            obtain ⟨ad556, e556, hx556_0⟩ := Kd.at_int (Kd.R_reads' HO_8.out).2.2 x15_2 p556 q556
                            cases e556
                            replace p556 := eq_true p556
                            replace q556 := eq_true q556
                            have p557 : 0 ≤ (x15_2 : Int) := of_decide_eq_true (by first | (with_reducible assumption) | assumption)
                            have q557 : x15_2 < (t547.length : Int) := of_decide_eq_true (by first | (with_reducible assumption) | assumption)
                            obtain ⟨ad557, e557, hx557_0⟩ := Kd.at_int (Kd.R_reads' HO_8.out).2.2 x15_2 p557 q557
                            obtain rfl : ad556 = ad557 := (by injection e557)
                            replace p557 := eq_true p557
                            replace q557 := eq_true q557
                            have p558 : 0 ≤ (x15_2 : Int) := of_decide_eq_true (by first | (with_reducible assumption) | assumption)
                            have q558 : x15_2 < (t547.length : Int) := of_decide_eq_true (by first | (with_reducible assumption) | assumption)
                            obtain ⟨ad558, e558, hx558_0⟩ := Kd.at_int (Kd.R_reads' HO_8.out).2.2 x15_2 p558 q558
                            obtain rfl : ad556 = ad558 := (by injection e558)
                            replace p558 := eq_true p558
                            replace q558 := eq_true q558
                            have p559 : 0 ≤ (x15_2 : Int) := of_decide_eq_true (by first | (with_reducible assumption) | assumption)
                            have q559 : x15_2 < (t547.length : Int) := of_decide_eq_true (by first | (with_reducible assumption) | assumption)
                            obtain ⟨ad559, e559, hx559_0⟩ := Kd.at_int (Kd.R_reads' HO_8.out).2.2 x15_2 p559 q559
                            obtain rfl : ad556 = ad559 := (by injection e559)
                            replace p559 := eq_true p559
                            replace q559 := eq_true q559
                            have p560 : 0 ≤ (x15_2 : Int) := of_decide_eq_true (by first | (with_reducible assumption) | assumption)
                            have q560 : x15_2 < (t547.length : Int) := of_decide_eq_true (by first | (with_reducible assumption) | assumption)
                            obtain ⟨ad560, e560, hx560_0⟩ := Kd.at_int (Kd.R_reads' HO_8.out).2.2 x15_2 p560 q560
                            obtain rfl : ad556 = ad560 := (by injection e560)
                            replace p560 := eq_true p560
                            replace q560 := eq_true q560
                            have p561 : 0 ≤ (x15_2 : Int) := of_decide_eq_true (by first | (with_reducible assumption) | assumption)
                            have q561 : x15_2 < (t547.length : Int) := of_decide_eq_true (by first | (with_reducible assumption) | assumption)
                            obtain ⟨ad561, e561, hx561_0⟩ := Kd.at_int (Kd.R_reads' HO_8.out).2.2 x15_2 p561 q561
                            obtain rfl : ad556 = ad561 := (by injection e561)
                            replace p561 := eq_true p561
                            replace q561 := eq_true q561
                            go_wp2
                            repeat (go_quiet (fail); try go_wp2)
                            go_roundg k2
                            case measure => have := HJ8.out; have := HK2.out; omega
                            case rel => exact ⟨(wrap64 (x13_2 + (wrap64 ((rd t547 x15_2) * (rd t547 x15_2))))), (wrap64 (-(rd t547 x15_2))), (wrap64 (x15_2 + 1)), (by first | rfl | (simp; done) | (simp [*]; done)), (by first | rfl | (simp; done) | (simp [*]; done)), (by first | rfl | (simp; done) | (simp [*]; done)), H', ⟨by have := HJ8.out; have := HK2.out; omega⟩, ⟨by (with_reducible repeat (first | apply Kd.R_alloc | apply Kd.R_drewN | apply Kd.R_drew)); exact HO_8.out⟩, ⟨iBK BK542.out⟩, ⟨iHB⟩⟩
                          · rw [if_neg c36] at H
                            have c36b0 : decide ((rd t547 x15_2) < (wrap64 (-(rd t547 x15_2)))) = false := decide_eq_false c36
                            clear c36
                            have H' := Aside0.mk H
                            clear H
                            obtain ⟨Ao38, co38, eo38⟩ := Kd.R_slice HO_8.out
                            subst eo38
                            have p556 : 0 ≤ (x15_2 : Int) := of_decide_eq_true (by first | (with_reducible assumption) | assumption)
                            have q556 : x15_2 < (t547.length : Int) := of_decide_eq_true (by first | (with_reducible assumption) | assumption)
                            obtain ⟨ad556, e556, hx556_0⟩ := Kd.at_int (Kd.R_reads' HO_8.out).2.2 x15_2 p556 q556
                            cases e556
                            replace p556 := eq_true p556
                            replace q556 := eq_true q556
                            have p557 : 0 ≤ (x15_2 : Int) := of_decide_eq_true (by first | (with_reducible assumption) | assumption)
                            have q557 : x15_2 < (t547.length : Int) := of_decide_eq_true (by first | (with_reducible assumption) | assumption)
                            obtain ⟨ad557, e557, hx557_0⟩ := Kd.at_int (Kd.R_reads' HO_8.out).2.2 x15_2 p557 q557
                            obtain rfl : ad556 = ad557 := (by injection e557)
                            replace p557 := eq_true p557
                            replace q557 := eq_true q557
                            have p558 : 0 ≤ (x15_2 : Int) := of_decide_eq_true (by first | (with_reducible assumption) | assumption)
                            have q558 : x15_2 < (t547.length : Int) := of_decide_eq_true (by first | (with_reducible assumption) | assumption)
                            obtain ⟨ad558, e558, hx558_0⟩ := Kd.at_int (Kd.R_reads' HO_8.out).2.2 x15_2 p558 q558
                            obtain rfl : ad556 = ad558 := (by injection e558)
                            replace p558 := eq_true p558
                            replace q558 := eq_true q558
                            have p559 : 0 ≤ (x15_2 : Int) := of_decide_eq_true (by first | (with_reducible assumption) | assumption)
                            have q559 : x15_2 < (t547.length : Int) := of_decide_eq_true (by first | (with_reducible assumption) | assumption)
                            obtain ⟨ad559, e559, hx559_0⟩ := Kd.at_int (Kd.R_reads' HO_8.out).2.2 x15_2 p559 q559
                            obtain rfl : ad556 = ad559 := (by injection e559)
                            replace p559 := eq_true p559
                            replace q559 := eq_true q559
                            have p560 : 0 ≤ (x15_2 : Int) := of_decide_eq_true (by first | (with_reducible assumption) | assumption)
                            have q560 : x15_2 < (t547.length : Int) := of_decide_eq_true (by first | (with_reducible assumption) | assumption)
                            obtain ⟨ad560, e560, hx560_0⟩ := Kd.at_int (Kd.R_reads' HO_8.out).2.2 x15_2 p560 q560
                            obtain rfl : ad556 = ad560 := (by injection e560)
                            replace p560 := eq_true p560
                            replace q560 := eq_true q560
                            go_wp2
                            repeat (go_quiet (fail); try go_wp2)
                            go_roundg k2
                            case measure => have := HJ8.out; have := HK2.out; omega
                            case rel => exact ⟨(wrap64 (x13_2 + (wrap64 ((rd t547 x15_2) * (rd t547 x15_2))))), (rd t547 x15_2), (wrap64 (x15_2 + 1)), (by first | rfl | (simp; done) | (simp [*]; done)), (by first | rfl | (simp; done) | (simp [*]; done)), (by first | rfl | (simp; done) | (simp [*]; done)), H', ⟨by have := HJ8.out; have := HK2.out; omega⟩, ⟨by (with_reducible repeat (first | apply Kd.R_alloc | apply Kd.R_drewN | apply Kd.R_drew)); exact HO_8.out⟩, ⟨iBK BK542.out⟩, ⟨iHB⟩⟩
                        · rw [if_neg c35] at H
                          have c35b0 : decide (x14_2 < (rd t547 x15_2)) = false := decide_eq_false c35
                          clear c35
                          by_cases c39 : (wrap64 (-(rd t547 x15_2))) > x14_2
                          · rw [if_pos c39] at H
                            have c39b0 : decide (x14_2 < (wrap64 (-(rd t547 x15_2)))) = true := decide_eq_true c39
                            clear c39
                            have H' := Aside0.mk H
                            clear H
                            obtain ⟨Ao40, co40, eo40⟩ := Kd.R_slice HO_8.out
                            subst eo40
                            have p556 : 0 ≤ (x15_2 : Int) := of_decide_eq_true (by first | (with_reducible assumption) | assumption)
                            have q556 : x15_2 < (t547.length : Int) := of_decide_eq_true (by first | (with_reducible assumption) | assumption)
                            obtain ⟨ad556, e556, hx556_0⟩ := Kd.at_int (Kd.R_reads' HO_8.out).2.2 x15_2 p556 q556
                            cases e556
                            replace p556 := eq_true p556
                            replace q556 := eq_true q556
                            have p557 : 0 ≤ (x15_2 : Int) := of_decide_eq_true (by first | (with_reducible assumption) | assumption)
                            have q557 : x15_2 < (t547.length : Int) := of_decide_eq_true (by first | (with_reducible assumption) | assumption)
                            obtain ⟨ad557, e557, hx557_0⟩ := Kd.at_int (Kd.R_reads' HO_8.out).2.2 x15_2 p557 q557
                            obtain rfl : ad556 = ad557 := (by injection e557)
                            replace p557 := eq_true p557
                            replace q557 := eq_true q557
                            have p558 : 0 ≤ (x15_2 : Int) := of_decide_eq_true (by first | (with_reducible assumption) | assumption)
                            have q558 : x15_2 < (t547.length : Int) := of_decide_eq_true (by first | (with_reducible assumption) | assumption)
                            obtain ⟨ad558, e558, hx558_0⟩ := Kd.at_int (Kd.R_reads' HO_8.out).2.2 x15_2 p558 q558
                            obtain rfl : ad556 = ad558 := (by injection e558)
                            replace p558 := eq_true p558
                            replace q558 := eq_true q558
                            have p562 : 0 ≤ (x15_2 : Int) := of_decide_eq_true (by first | (with_reducible assumption) | assumption)
                            have q562 : x15_2 < (t547.length : Int) := of_decide_eq_true (by first | (with_reducible assumption) | assumption)
                            obtain ⟨ad562, e562, hx562_0⟩ := Kd.at_int (Kd.R_reads' HO_8.out).2.2 x15_2 p562 q562
                            obtain rfl : ad556 = ad562 := (by injection e562)
                            replace p562 := eq_true p562
                            replace q562 := eq_true q562
                            have p563 : 0 ≤ (x15_2 : Int) := of_decide_eq_true (by first | (with_reducible assumption) | assumption)
                            have q563 : x15_2 < (t547.length : Int) := of_decide_eq_true (by first | (with_reducible assumption) | assumption)
                            obtain ⟨ad563, e563, hx563_0⟩ := Kd.at_int (Kd.R_reads' HO_8.out).2.2 x15_2 p563 q563
                            obtain rfl : ad556 = ad563 := (by injection e563)
                            replace p563 := eq_true p563
                            replace q563 := eq_true q563
                            go_wp2
                            repeat (go_quiet (fail); try go_wp2)
                            go_roundg k2
                            case measure => have := HJ8.out; have := HK2.out; omega
                            case rel => exact ⟨(wrap64 (x13_2 + (wrap64 ((rd t547 x15_2) * (rd t547 x15_2))))), (wrap64 (-(rd t547 x15_2))), (wrap64 (x15_2 + 1)), (by first | rfl | (simp; done) | (simp [*]; done)), (by first | rfl | (simp; done) | (simp [*]; done)), (by first | rfl | (simp; done) | (simp [*]; done)), H', ⟨by have := HJ8.out; have := HK2.out; omega⟩, ⟨by (with_reducible repeat (first | apply Kd.R_alloc | apply Kd.R_drewN | apply Kd.R_drew)); exact HO_8.out⟩, ⟨iBK BK542.out⟩, ⟨iHB⟩⟩
                          · rw [if_neg c39] at H
                            have c39b0 : decide (x14_2 < (wrap64 (-(rd t547 x15_2)))) = false := decide_eq_false c39
                            clear c39
                            have H' := Aside0.mk H
                            clear H
                            obtain ⟨Ao41, co41, eo41⟩ := Kd.R_slice HO_8.out
                            subst eo41
                            have p556 : 0 ≤ (x15_2 : Int) := of_decide_eq_true (by first | (with_reducible assumption) | assumption)
                            have q556 : x15_2 < (t547.length : Int) := of_decide_eq_true (by first | (with_reducible assumption) | assumption)
                            obtain ⟨ad556, e556, hx556_0⟩ := Kd.at_int (Kd.R_reads' HO_8.out).2.2 x15_2 p556 q556
                            cases e556
                            replace p556 := eq_true p556
                            replace q556 := eq_true q556
                            have p557 : 0 ≤ (x15_2 : Int) := of_decide_eq_true (by first | (with_reducible assumption) | assumption)
                            have q557 : x15_2 < (t547.length : Int) := of_decide_eq_true (by first | (with_reducible assumption) | assumption)
                            obtain ⟨ad557, e557, hx557_0⟩ := Kd.at_int (Kd.R_reads' HO_8.out).2.2 x15_2 p557 q557
                            obtain rfl : ad556 = ad557 := (by injection e557)
                            replace p557 := eq_true p557
                            replace q557 := eq_true q557
                            have p558 : 0 ≤ (x15_2 : Int) := of_decide_eq_true (by first | (with_reducible assumption) | assumption)
                            have q558 : x15_2 < (t547.length : Int) := of_decide_eq_true (by first | (with_reducible assumption) | assumption)
                            obtain ⟨ad558, e558, hx558_0⟩ := Kd.at_int (Kd.R_reads' HO_8.out).2.2 x15_2 p558 q558
                            obtain rfl : ad556 = ad558 := (by injection e558)
                            replace p558 := eq_true p558
                            replace q558 := eq_true q558
                            have p562 : 0 ≤ (x15_2 : Int) := of_decide_eq_true (by first | (with_reducible assumption) | assumption)
                            have q562 : x15_2 < (t547.length : Int) := of_decide_eq_true (by first | (with_reducible assumption) | assumption)
                            obtain ⟨ad562, e562, hx562_0⟩ := Kd.at_int (Kd.R_reads' HO_8.out).2.2 x15_2 p562 q562
                            obtain rfl : ad556 = ad562 := (by injection e562)
                            replace p562 := eq_true p562
                            replace q562 := eq_true q562
                            go_wp2
                            repeat (go_quiet (fail); try go_wp2)
                            go_roundg k2
                            case measure => have := HJ8.out; have := HK2.out; omega
                            case rel => exact ⟨(wrap64 (x13_2 + (wrap64 ((rd t547 x15_2) * (rd t547 x15_2))))), (x14_2), (wrap64 (x15_2 + 1)), (by first | rfl | (simp; done) | (simp [*]; done)), (by first | rfl | (simp; done) | (simp [*]; done)), (by first | rfl | (simp; done) | (simp [*]; done)), H', ⟨by have := HJ8.out; have := HK2.out; omega⟩, ⟨by (with_reducible repeat (first | apply Kd.R_alloc | apply Kd.R_drewN | apply Kd.R_drew)); exact HO_8.out⟩, ⟨iBK BK542.out⟩, ⟨iHB⟩⟩
                      · rw [if_neg c34] at H
                        exact absurd H (by simp)
                    · rw [if_neg c33] at H
                      have c33b0 : decide (x15_2 < (t547.length : Int)) = false := decide_eq_false c33
                      clear c33
                      replace H := Option.bind_eq_some_iff.mp H
                      obtain ⟨⟨t564, t567⟩, A420, H⟩ := H
                      replace H : ((impl_InfluencesOf.f k2 t540 t541).bind fun bt568 => ((impl_EssentialOf.f k2 t540 t541).bind fun bt572 => ((impl_IsBalanced.f t540 t541).bind fun bt576 => ((impl_AffineDistance.f k2 t540 t541).bind fun bt578 => (if t567 = 0 then (if bt568.2 = 0 then (if bt572.2 = 0 then (if bt576.2 = 0 then (if bt578.2 = 0 then (if x13_2 = (wrap64 (ji31 * ji31)) then (if (t564.length : Int) = ji31 then (if 0 < (t564.length : Int) then (if (rd t564 0) = ji31 then (if 0 < (t547.length : Int) then (if (bt576.1 != ((rd t547 0) == 0)) = true then (laws_FnSpectrum.j2 k2 l0 t543 t564 bt568.1 bt572.1 true) else (laws_FnSpectrum.j2 k2 l0 t543 t564 bt568.1 bt572.1 ((wrap64 ((wrap64 (2 * bt578.1)) + x14_2)) != ji31))) else (none)) else (laws_FnSpectrum.j2 k2 l0 t543 t564 bt568.1 bt572.1 true)) else (none)) else (laws_FnSpectrum.j2 k2 l0 t543 t564 bt568.1 bt572.1 true)) else (laws_FnSpectrum.j2 k2 l0 t543 t564 bt568.1 bt572.1 true)) else (laws_FnSpectrum.j2 k2 l0 t543 t564 bt568.1 bt572.1 true)) else (laws_FnSpectrum.j2 k2 l0 t543 t564 bt568.1 bt572.1 true)) else (laws_FnSpectrum.j2 k2 l0 t543 t564 bt568.1 bt572.1 true)) else (laws_FnSpectrum.j2 k2 l0 t543 t564 bt568.1 bt572.1 true)) else (laws_FnSpectrum.j2 k2 l0 t543 t564 bt568.1 bt572.1 true)))))) = some true := H
                      have A42 := Aside0.mk A420
                      clear A420
                      replace H := Option.bind_eq_some_iff.mp H
                      obtain ⟨⟨t568, t571⟩, A430, H⟩ := H
                      replace H : ((impl_EssentialOf.f k2 t540 t541).bind fun bt572 => ((impl_IsBalanced.f t540 t541).bind fun bt576 => ((impl_AffineDistance.f k2 t540 t541).bind fun bt578 => (if t567 = 0 then (if t571 = 0 then (if bt572.2 = 0 then (if bt576.2 = 0 then (if bt578.2 = 0 then (if x13_2 = (wrap64 (ji31 * ji31)) then (if (t564.length : Int) = ji31 then (if 0 < (t564.length : Int) then (if (rd t564 0) = ji31 then (if 0 < (t547.length : Int) then (if (bt576.1 != ((rd t547 0) == 0)) = true then (laws_FnSpectrum.j2 k2 l0 t543 t564 t568 bt572.1 true) else (laws_FnSpectrum.j2 k2 l0 t543 t564 t568 bt572.1 ((wrap64 ((wrap64 (2 * bt578.1)) + x14_2)) != ji31))) else (none)) else (laws_FnSpectrum.j2 k2 l0 t543 t564 t568 bt572.1 true)) else (none)) else (laws_FnSpectrum.j2 k2 l0 t543 t564 t568 bt572.1 true)) else (laws_FnSpectrum.j2 k2 l0 t543 t564 t568 bt572.1 true)) else (laws_FnSpectrum.j2 k2 l0 t543 t564 t568 bt572.1 true)) else (laws_FnSpectrum.j2 k2 l0 t543 t564 t568 bt572.1 true)) else (laws_FnSpectrum.j2 k2 l0 t543 t564 t568 bt572.1 true)) else (laws_FnSpectrum.j2 k2 l0 t543 t564 t568 bt572.1 true)) else (laws_FnSpectrum.j2 k2 l0 t543 t564 t568 bt572.1 true))))) = some true := H
                      have A43 := Aside0.mk A430
                      clear A430
                      replace H := Option.bind_eq_some_iff.mp H
                      obtain ⟨⟨t572, t575⟩, A440, H⟩ := H
                      replace H : ((impl_IsBalanced.f t540 t541).bind fun bt576 => ((impl_AffineDistance.f k2 t540 t541).bind fun bt578 => (if t567 = 0 then (if t571 = 0 then (if t575 = 0 then (if bt576.2 = 0 then (if bt578.2 = 0 then (if x13_2 = (wrap64 (ji31 * ji31)) then (if (t564.length : Int) = ji31 then (if 0 < (t564.length : Int) then (if (rd t564 0) = ji31 then (if 0 < (t547.length : Int) then (if (bt576.1 != ((rd t547 0) == 0)) = true then (laws_FnSpectrum.j2 k2 l0 t543 t564 t568 t572 true) else (laws_FnSpectrum.j2 k2 l0 t543 t564 t568 t572 ((wrap64 ((wrap64 (2 * bt578.1)) + x14_2)) != ji31))) else (none)) else (laws_FnSpectrum.j2 k2 l0 t543 t564 t568 t572 true)) else (none)) else (laws_FnSpectrum.j2 k2 l0 t543 t564 t568 t572 true)) else (laws_FnSpectrum.j2 k2 l0 t543 t564 t568 t572 true)) else (laws_FnSpectrum.j2 k2 l0 t543 t564 t568 t572 true)) else (laws_FnSpectrum.j2 k2 l0 t543 t564 t568 t572 true)) else (laws_FnSpectrum.j2 k2 l0 t543 t564 t568 t572 true)) else (laws_FnSpectrum.j2 k2 l0 t543 t564 t568 t572 true)) else (laws_FnSpectrum.j2 k2 l0 t543 t564 t568 t572 true)))) = some true := H
                      have A44 := Aside0.mk A440
                      clear A440
                      replace H := Option.bind_eq_some_iff.mp H
                      obtain ⟨⟨t576, t577⟩, A450, H⟩ := H
                      replace H : ((impl_AffineDistance.f k2 t540 t541).bind fun bt578 => (if t567 = 0 then (if t571 = 0 then (if t575 = 0 then (if t577 = 0 then (if bt578.2 = 0 then (if x13_2 = (wrap64 (ji31 * ji31)) then (if (t564.length : Int) = ji31 then (if 0 < (t564.length : Int) then (if (rd t564 0) = ji31 then (if 0 < (t547.length : Int) then (if (t576 != ((rd t547 0) == 0)) = true then (laws_FnSpectrum.j2 k2 l0 t543 t564 t568 t572 true) else (laws_FnSpectrum.j2 k2 l0 t543 t564 t568 t572 ((wrap64 ((wrap64 (2 * bt578.1)) + x14_2)) != ji31))) else (none)) else (laws_FnSpectrum.j2 k2 l0 t543 t564 t568 t572 true)) else (none)) else (laws_FnSpectrum.j2 k2 l0 t543 t564 t568 t572 true)) else (laws_FnSpectrum.j2 k2 l0 t543 t564 t568 t572 true)) else (laws_FnSpectrum.j2 k2 l0 t543 t564 t568 t572 true)) else (laws_FnSpectrum.j2 k2 l0 t543 t564 t568 t572 true)) else (laws_FnSpectrum.j2 k2 l0 t543 t564 t568 t572 true)) else (laws_FnSpectrum.j2 k2 l0 t543 t564 t568 t572 true)) else (laws_FnSpectrum.j2 k2 l0 t543 t564 t568 t572 true))) = some true := H
                      have A45 := Aside0.mk A450
                      clear A450
                      replace H := Option.bind_eq_some_iff.mp H
                      obtain ⟨⟨t578, t579⟩, A460, H⟩ := H
                      replace H : (if t567 = 0 then (if t571 = 0 then (if t575 = 0 then (if t577 = 0 then (if t579 = 0 then (if x13_2 = (wrap64 (ji31 * ji31)) then (if (t564.length : Int) = ji31 then (if 0 < (t564.length : Int) then (if (rd t564 0) = ji31 then (if 0 < (t547.length : Int) then (if (t576 != ((rd t547 0) == 0)) = true then (laws_FnSpectrum.j2 k2 l0 t543 t564 t568 t572 true) else (laws_FnSpectrum.j2 k2 l0 t543 t564 t568 t572 ((wrap64 ((wrap64 (2 * t578)) + x14_2)) != ji31))) else (none)) else (laws_FnSpectrum.j2 k2 l0 t543 t564 t568 t572 true)) else (none)) else (laws_FnSpectrum.j2 k2 l0 t543 t564 t568 t572 true)) else (laws_FnSpectrum.j2 k2 l0 t543 t564 t568 t572 true)) else (laws_FnSpectrum.j2 k2 l0 t543 t564 t568 t572 true)) else (laws_FnSpectrum.j2 k2 l0 t543 t564 t568 t572 true)) else (laws_FnSpectrum.j2 k2 l0 t543 t564 t568 t572 true)) else (laws_FnSpectrum.j2 k2 l0 t543 t564 t568 t572 true)) else (laws_FnSpectrum.j2 k2 l0 t543 t564 t568 t572 true)) = some true := H
                      have A46 := Aside0.mk A460
                      clear A460
                      have HC47 := Aside0.mk H
                      clear H
                      obtain ⟨Ao48, co48, eo48⟩ := Kd.R_slice HO_8.out
                      subst eo48
                      have hcz49_0 : wr.cell? ⟨gb542, 0, none⟩ = some (.int .i64 t540) := (blk_cell BK542.out 0).trans rfl
                      have hcz49_1 : wr.cell? ⟨gb542, 1, none⟩ = some (.int .i64 t541) := (blk_cell BK542.out 1).trans rfl
                      have hfz49_0 := blk_frozen BK542.out 0
                      have hfz49_1 := blk_frozen BK542.out 1
                      go_upto_region 25 with (first | (go_at_call 17; (with_reducible refine (impl_CorrelationsOf.calls t540 t541 t564 t567 _ A42.out).mono ?_); rintro e w50 ⟨v565, rfl, ho0, hb⟩; have n0_ := aa (Kd.R_elder' (by (with_reducible repeat (first | apply Kd.R_alloc | apply Kd.R_drewN | apply Kd.R_drew)); exact HO_8.out) (Kd.R_base ho0) hb); have n1_ := aa (Kd.R_lower (Kd.R_new' ho0 (Kd.R_lt (by (with_reducible repeat (first | apply Kd.R_alloc | apply Kd.R_drewN | apply Kd.R_drew)); exact HO_8.out))) (below_size iHB)); have n2_ := aa (blk_below (g := gb542) (o := .cells #[.int .i64 t540, .int .i64 t541] 27 (0, 0)) (iBK BK542.out) hb); have n3_ := aa (below_step iHB hb); clear HO_8; clear BK542; clear HB; have HO_8 := n0_; have HO566 := n1_; have BK542 := n2_; have HB := n3_; clear n0_ n1_ n2_ n3_; (try clear hb); (try clear hb2); (try clear hk); (try clear hi); (try clear ho0); have hcz51_0 : w50.cell? ⟨gb542, 0, none⟩ = some (.int .i64 t540) := (blk_cell BK542.out 0).trans rfl; have hcz51_1 : w50.cell? ⟨gb542, 1, none⟩ = some (.int .i64 t541) := (blk_cell BK542.out 1).trans rfl; have hfz51_0 := blk_frozen BK542.out 0; have hfz51_1 := blk_frozen BK542.out 1) | (go_at_call 22; (with_reducible refine (impl_InfluencesOf.calls k2 t540 t541 t568 t571 _ A43.out).mono ?_); rintro e w52 ⟨v569, rfl, ho0, hb⟩; have n0_ := aa (Kd.R_elder' (by (with_reducible repeat (first | apply Kd.R_alloc | apply Kd.R_drewN | apply Kd.R_drew)); exact HO_8.out) (Kd.R_base ho0) hb); have n1_ := aa (Kd.R_elder' (by (with_reducible repeat (first | apply Kd.R_alloc | apply Kd.R_drewN | apply Kd.R_drew)); exact HO566.out) (Kd.R_base ho0) hb); have n2_ := aa (Kd.R_lower (Kd.R_new' (Kd.R_new' ho0 (Kd.R_lt (by (with_reducible repeat (first | apply Kd.R_alloc | apply Kd.R_drewN | apply Kd.R_drew)); exact HO_8.out))) (Kd.R_lt (by (with_reducible repeat (first | apply Kd.R_alloc | apply Kd.R_drewN | apply Kd.R_drew)); exact HO566.out))) (below_size iHB)); have n3_ := aa (blk_below (g := gb542) (o := .cells #[.int .i64 t540, .int .i64 t541] 27 (0, 0)) (iBK BK542.out) hb); have n4_ := aa (below_step iHB hb); clear HO_8; clear HO566; clear BK542; clear HB; have HO_8 := n0_; have HO566 := n1_; have HO570 := n2_; have BK542 := n3_; have HB := n4_; clear n0_ n1_ n2_ n3_ n4_; (try clear hb); (try clear hb2); (try clear hk); (try clear hi); (try clear ho0); have hcz53_0 : w52.cell? ⟨gb542, 0, none⟩ = some (.int .i64 t540) := (blk_cell BK542.out 0).trans rfl; have hcz53_1 : w52.cell? ⟨gb542, 1, none⟩ = some (.int .i64 t541) := (blk_cell BK542.out 1).trans rfl; have hfz53_0 := blk_frozen BK542.out 0; have hfz53_1 := blk_frozen BK542.out 1) | (go_at_call 44; (with_reducible refine (impl_EssentialOf.calls k2 t540 t541 t572 t575 _ A44.out).mono ?_); rintro e w54 ⟨v573, rfl, ho0, hb⟩; have n0_ := aa (Kd.R_elder' (by (with_reducible repeat (first | apply Kd.R_alloc | apply Kd.R_drewN | apply Kd.R_drew)); exact HO_8.out) (Kd.R_base ho0) hb); have n1_ := aa (Kd.R_elder' (by (with_reducible repeat (first | apply Kd.R_alloc | apply Kd.R_drewN | apply Kd.R_drew)); exact HO566.out) (Kd.R_base ho0) hb); have n2_ := aa (Kd.R_elder' (by (with_reducible repeat (first | apply Kd.R_alloc | apply Kd.R_drewN | apply Kd.R_drew)); exact HO570.out) (Kd.R_base ho0) hb); have n3_ := aa (Kd.R_lower (Kd.R_new' (Kd.R_new' (Kd.R_new' ho0 (Kd.R_lt (by (with_reducible repeat (first | apply Kd.R_alloc | apply Kd.R_drewN | apply Kd.R_drew)); exact HO_8.out))) (Kd.R_lt (by (with_reducible repeat (first | apply Kd.R_alloc | apply Kd.R_drewN | apply Kd.R_drew)); exact HO566.out))) (Kd.R_lt (by (with_reducible repeat (first | apply Kd.R_alloc | apply Kd.R_drewN | apply Kd.R_drew)); exact HO570.out))) (below_size iHB)); have n4_ := aa (blk_below (g := gb542) (o := .cells #[.int .i64 t540, .int .i64 t541] 27 (0, 0)) (iBK BK542.out) hb); have n5_ := aa (below_step iHB hb); clear HO_8; clear HO566; clear HO570; clear BK542; clear HB; have HO_8 := n0_; have HO566 := n1_; have HO570 := n2_; have HO574 := n3_; have BK542 := n4_; have HB := n5_; clear n0_ n1_ n2_ n3_ n4_ n5_; (try clear hb); (try clear hb2); (try clear hk); (try clear hi); (try clear ho0); have hcz55_0 : w54.cell? ⟨gb542, 0, none⟩ = some (.int .i64 t540) := (blk_cell BK542.out 0).trans rfl; have hcz55_1 : w54.cell? ⟨gb542, 1, none⟩ = some (.int .i64 t541) := (blk_cell BK542.out 1).trans rfl; have hfz55_0 := blk_frozen BK542.out 0; have hfz55_1 := blk_frozen BK542.out 1) | (go_at_call 45; (with_reducible refine (impl_IsBalanced.calls t540 t541 t576 t577 _ A45.out).mono ?_); rintro e w56 ⟨rfl, hb⟩; have n0_ := aa (Kd.R_below (by (with_reducible repeat (first | apply Kd.R_alloc | apply Kd.R_drewN | apply Kd.R_drew)); exact HO_8.out) hb); have n1_ := aa (Kd.R_below (by (with_reducible repeat (first | apply Kd.R_alloc | apply Kd.R_drewN | apply Kd.R_drew)); exact HO566.out) hb); have n2_ := aa (Kd.R_below (by (with_reducible repeat (first | apply Kd.R_alloc | apply Kd.R_drewN | apply Kd.R_drew)); exact HO570.out) hb); have n3_ := aa (Kd.R_below (by (with_reducible repeat (first | apply Kd.R_alloc | apply Kd.R_drewN | apply Kd.R_drew)); exact HO574.out) hb); have n4_ := aa (blk_below (g := gb542) (o := .cells #[.int .i64 t540, .int .i64 t541] 27 (0, 0)) (iBK BK542.out) hb); have n5_ := aa (below_step iHB hb); clear HO_8; clear HO566; clear HO570; clear HO574; clear BK542; clear HB; have HO_8 := n0_; have HO566 := n1_; have HO570 := n2_; have HO574 := n3_; have BK542 := n4_; have HB := n5_; clear n0_ n1_ n2_ n3_ n4_ n5_; (try clear hb); (try clear hb2); (try clear hk); (try clear hi); have hcz57_0 : w56.cell? ⟨gb542, 0, none⟩ = some (.int .i64 t540) := (blk_cell BK542.out 0).trans rfl; have hcz57_1 : w56.cell? ⟨gb542, 1, none⟩ = some (.int .i64 t541) := (blk_cell BK542.out 1).trans rfl; have hfz57_0 := blk_frozen BK542.out 0; have hfz57_1 := blk_frozen BK542.out 1) | (go_at_call 28; (with_reducible refine (impl_AffineDistance.calls k2 t540 t541 t578 t579 _ A46.out).mono ?_); rintro e w58 ⟨rfl, hb⟩; have n0_ := aa (Kd.R_below (by (with_reducible repeat (first | apply Kd.R_alloc | apply Kd.R_drewN | apply Kd.R_drew)); exact HO_8.out) hb); have n1_ := aa (Kd.R_below (by (with_reducible repeat (first | apply Kd.R_alloc | apply Kd.R_drewN | apply Kd.R_drew)); exact HO566.out) hb); have n2_ := aa (Kd.R_below (by (with_reducible repeat (first | apply Kd.R_alloc | apply Kd.R_drewN | apply Kd.R_drew)); exact HO570.out) hb); have n3_ := aa (Kd.R_below (by (with_reducible repeat (first | apply Kd.R_alloc | apply Kd.R_drewN | apply Kd.R_drew)); exact HO574.out) hb); have n4_ := aa (blk_below (g := gb542) (o := .cells #[.int .i64 t540, .int .i64 t541] 27 (0, 0)) (iBK BK542.out) hb); have n5_ := aa (below_step iHB hb); clear HO_8; clear HO566; clear HO570; clear HO574; clear BK542; clear HB; have HO_8 := n0_; have HO566 := n1_; have HO570 := n2_; have HO574 := n3_; have BK542 := n4_; have HB := n5_; clear n0_ n1_ n2_ n3_ n4_ n5_; (try clear hb); (try clear hb2); (try clear hk); (try clear hi)))
                      (try simp only [Act.put, List.setIfInBounds_toArray, List.set_cons_zero, List.set_cons_succ])
                      go_cut [225] from 172 to 225 (fun v225 wc => ∃ (kq : Nat) (x225_46 : Bool), v225 = .bool x225_46 ∧ Aside0 (laws_FnSpectrum.j2 kq l0 t543 t564 t568 t572 x225_46 = some true) ∧ Aside0 (kq ≤ k2) ∧ Aside0 (Kd.R (Kd.int .i64) 2 wc w.heap.size (fun k_ => some k_ ≠ (v569 : Value).ownBlock ∧ some k_ ≠ (v573 : Value).ownBlock) v565 t564) ∧ Aside0 (Kd.R (Kd.int .i64) 2 wc w.heap.size (fun k_ => some k_ ≠ (v565 : Value).ownBlock ∧ some k_ ≠ (v573 : Value).ownBlock) v569 t568) ∧ Aside0 (Kd.R (Kd.int .i64) 2 wc w.heap.size (fun k_ => some k_ ≠ (v565 : Value).ownBlock ∧ some k_ ≠ (v569 : Value).ownBlock) v573 t572) ∧ Aside0 (wc.heap[gb542]? = some (.cells #[.int .i64 t540, .int .i64 t541] 27 (0, 0))) ∧ Aside0 (Below w.heap.size w wc))
                      case first =>
                        have H := HC47.out
                        clear HC47
                        by_cases c59 : t567 = 0
                        · rw [if_pos c59] at H
                          have c59b0 : (t567 == 0) = true := beq_iff_eq.mpr c59
                          have c59b1 : (t567 != 0) = false := bne_eq_false_iff_eq.mpr c59
                          clear c59
                          (first | rw [c59b0] | (simp only [i64_w, i32_w]; rw [c59b0]) | skip)
                          by_cases c60 : t571 = 0
                          · rw [if_pos c60] at H
                            have c60b0 : (t571 == 0) = true := beq_iff_eq.mpr c60
                            have c60b1 : (t571 != 0) = false := bne_eq_false_iff_eq.mpr c60
                            clear c60
                            by_cases c61 : t575 = 0
                            · rw [if_pos c61] at H
                              have c61b0 : (t575 == 0) = true := beq_iff_eq.mpr c61
                              have c61b1 : (t575 != 0) = false := bne_eq_false_iff_eq.mpr c61
                              clear c61
                              by_cases c62 : t577 = 0
                              · rw [if_pos c62] at H
                                have c62b0 : (t577 == 0) = true := beq_iff_eq.mpr c62
                                have c62b1 : (t577 != 0) = false := bne_eq_false_iff_eq.mpr c62
                                clear c62
                                by_cases c63 : t579 = 0
                                · rw [if_pos c63] at H
                                  have c63b0 : (t579 == 0) = true := beq_iff_eq.mpr c63
                                  have c63b1 : (t579 != 0) = false := bne_eq_false_iff_eq.mpr c63
                                  clear c63
                                  by_cases c64 : x13_2 = (wrap64 (ji31 * ji31))
                                  · rw [if_pos c64] at H
                                    have c64b0 : (x13_2 == (wrap64 (ji31 * ji31))) = true := beq_iff_eq.mpr c64
                                    have c64b1 : (x13_2 != (wrap64 (ji31 * ji31))) = false := bne_eq_false_iff_eq.mpr c64
                                    clear c64
                                    by_cases c65 : (t564.length : Int) = ji31
                                    · rw [if_pos c65] at H
                                      have c65b0 : ((t564.length : Int) == ji31) = true := beq_iff_eq.mpr c65
                                      have c65b1 : ((t564.length : Int) != ji31) = false := bne_eq_false_iff_eq.mpr c65
                                      clear c65
                                      by_cases c66 : 0 < (t564.length : Int)
                                      · rw [if_pos c66] at H
                                        have c66b0 : decide (0 < (t564.length : Int)) = true := decide_eq_true c66
                                        have c66b1 : decide (0 < t564.length) = true := decide_eq_true (by omega)
                                        clear c66
                                        by_cases c67 : (rd t564 0) = ji31
                                        · rw [if_pos c67] at H
                                          have c67b0 : ((rd t564 0) == ji31) = true := beq_iff_eq.mpr c67
                                          have c67b1 : ((rd t564 0) != ji31) = false := bne_eq_false_iff_eq.mpr c67
                                          clear c67
                                          by_cases c68 : 0 < (t547.length : Int)
                                          · rw [if_pos c68] at H
                                            have c68b0 : decide (0 < (t547.length : Int)) = true := decide_eq_true c68
                                            have c68b1 : decide (0 < t547.length) = true := decide_eq_true (by omega)
                                            clear c68
                                            by_cases c69 : (t576 != ((rd t547 0) == 0)) = true
                                            · rw [if_pos c69] at H
                                              have c69b0 : (t576 != ((rd t547 0) == 0)) = true := c69
                                              (try (have c69b1 : decide (t576 = ((rd t547 0) == 0)) = false := by simpa using c69))
                                              (try (have c69b2 : (t576 == ((rd t547 0) == 0)) = false := by simpa using c69))
                                              (try (have c69b3 : ¬ (t576 = ((rd t547 0) == 0)) := by simpa using c69))
                                              clear c69
                                              exact (laws_FnSpectrum.j2_not _ H).elim
                                            · rw [if_neg c69] at H
                                              have c69b0 : (t576 != ((rd t547 0) == 0)) = false := by simpa using c69
                                              (try (have c69b1 : decide (t576 = ((rd t547 0) == 0)) = true := by simpa using c69))
                                              (try (have c69b2 : (t576 == ((rd t547 0) == 0)) = true := by simpa using c69))
                                              clear c69
                                              have H' := Aside0.mk H
                                              clear H
                                              obtain ⟨Ao71, co71, eo71⟩ := Kd.R_slice HO566.out
                                              subst eo71
                                              have p580 : 0 ≤ (0 : Int) := (by omega)
                                              have q580 : 0 < (t564.length : Int) := of_decide_eq_true (by first | (with_reducible assumption) | assumption)
                                              obtain ⟨ad580, e580, hx580_0⟩ := Kd.at_int (Kd.R_reads' HO566.out).2.2 0 p580 q580
                                              cases e580
                                              have qi580 : (0 < t564.length) = True := eq_true (by omega)
                                              (try rw [show ((0 : Int)).toNat = 0 from rfl] at hx580_0)
                                              (try rw [Addr.add_zero'] at hx580_0)
                                              replace p580 := eq_true p580
                                              replace q580 := eq_true q580
                                              have p581 : 0 ≤ (0 : Int) := (by omega)
                                              have q581 : 0 < (t547.length : Int) := of_decide_eq_true (by first | (with_reducible assumption) | assumption)
                                              obtain ⟨ad581, e581, hx581_0⟩ := Kd.at_int (Kd.R_reads' HO_8.out).2.2 0 p581 q581
                                              cases e581
                                              have qi581 : (0 < t547.length) = True := eq_true (by omega)
                                              (try rw [show ((0 : Int)).toNat = 0 from rfl] at hx581_0)
                                              (try rw [Addr.add_zero'] at hx581_0)
                                              replace p581 := eq_true p581
                                              replace q581 := eq_true q581
                                              go_wp2
                                              repeat (go_quiet (fail); try go_wp2)
                                              go_meet
                                              case rel => exact ⟨_, (((wrap64 ((wrap64 (2 * t578)) + x14_2)) != ji31)), (by first | rfl | (simp; done) | (simp only [← hji31] <;> (first | rfl | simp)) | (simp [*]; done)), H', ⟨by have := HJ8.out; have := HK2.out; first | omega | exact Nat.le_refl _⟩, ⟨by (with_reducible repeat (first | apply Kd.R_alloc | apply Kd.R_drewN | apply Kd.R_drew)); exact Kd.R_mono HO566.out (fun _ hk => ⟨hk.1.2, hk.2⟩)⟩, ⟨by (with_reducible repeat (first | apply Kd.R_alloc | apply Kd.R_drewN | apply Kd.R_drew)); exact Kd.R_mono HO570.out (fun _ hk => ⟨hk.1.2, hk.2⟩)⟩, ⟨by (with_reducible repeat (first | apply Kd.R_alloc | apply Kd.R_drewN | apply Kd.R_drew)); exact Kd.R_mono HO574.out (fun _ hk => ⟨hk.1.2, hk.2⟩)⟩, ⟨iBK BK542.out⟩, ⟨iHB⟩⟩
                                          · rw [if_neg c68] at H
                                            exact absurd H (by simp)
                                        · rw [if_neg c67] at H
                                          have c67b0 : ((rd t564 0) == ji31) = false := beq_eq_false_iff_ne.mpr c67
                                          have c67b1 : ((rd t564 0) != ji31) = true := bne_iff_ne.mpr c67
                                          exact (laws_FnSpectrum.j2_not _ H).elim
                                      · rw [if_neg c66] at H
                                        exact absurd H (by simp)
                                    · rw [if_neg c65] at H
                                      have c65b0 : ((t564.length : Int) == ji31) = false := beq_eq_false_iff_ne.mpr c65
                                      have c65b1 : ((t564.length : Int) != ji31) = true := bne_iff_ne.mpr c65
                                      exact (laws_FnSpectrum.j2_not _ H).elim
                                  · rw [if_neg c64] at H
                                    have c64b0 : (x13_2 == (wrap64 (ji31 * ji31))) = false := beq_eq_false_iff_ne.mpr c64
                                    have c64b1 : (x13_2 != (wrap64 (ji31 * ji31))) = true := bne_iff_ne.mpr c64
                                    exact (laws_FnSpectrum.j2_not _ H).elim
                                · rw [if_neg c63] at H
                                  have c63b0 : (t579 == 0) = false := beq_eq_false_iff_ne.mpr c63
                                  have c63b1 : (t579 != 0) = true := bne_iff_ne.mpr c63
                                  exact (laws_FnSpectrum.j2_not _ H).elim
                              · rw [if_neg c62] at H
                                have c62b0 : (t577 == 0) = false := beq_eq_false_iff_ne.mpr c62
                                have c62b1 : (t577 != 0) = true := bne_iff_ne.mpr c62
                                exact (laws_FnSpectrum.j2_not _ H).elim
                            · rw [if_neg c61] at H
                              have c61b0 : (t575 == 0) = false := beq_eq_false_iff_ne.mpr c61
                              have c61b1 : (t575 != 0) = true := bne_iff_ne.mpr c61
                              exact (laws_FnSpectrum.j2_not _ H).elim
                          · rw [if_neg c60] at H
                            have c60b0 : (t571 == 0) = false := beq_eq_false_iff_ne.mpr c60
                            have c60b1 : (t571 != 0) = true := bne_iff_ne.mpr c60
                            exact (laws_FnSpectrum.j2_not _ H).elim
                        · rw [if_neg c59] at H
                          have c59b0 : (t567 == 0) = false := beq_eq_false_iff_ne.mpr c59
                          have c59b1 : (t567 != 0) = true := bne_iff_ne.mpr c59
                          (first | rw [c59b0] | (simp only [i64_w, i32_w]; rw [c59b0]) | skip)
                          exact (laws_FnSpectrum.j2_not _ H).elim
                      case rest =>
                        clear HC47
                        try clear c33
                        try clear c33b0
                        try clear hcz49_0
                        try clear hcz49_1
                        try clear hcz51_0
                        try clear hcz51_1
                        try clear hcz53_0
                        try clear hcz53_1
                        try clear hcz55_0
                        try clear hcz55_1
                        try clear hcz57_0
                        try clear hcz57_1
                        try clear hfz49_0
                        try clear hfz49_1
                        try clear hfz51_0
                        try clear hfz51_1
                        try clear hfz53_0
                        try clear hfz53_1
                        try clear hfz55_0
                        try clear hfz55_1
                        try clear hfz57_0
                        try clear hfz57_1
                        obtain ⟨kq, x225_46, rfl, HA, HJ46, HO_16, HO_18, HO_20, BK542, HB⟩ := hcut
                        cases kq with
                        | zero => exact absurd HA.out (by simp [laws_FnSpectrum.j2])
                        | succ kj46 =>
                          have H := HA.out
                          clear HA
                          simp only [laws_FnSpectrum.j2] at H
                          by_cases c74 : x225_46 = true
                          · subst c74
                            have H1 : (some false) = some true := by first | (rw [if_pos rfl] at H; exact H) | rfl
                            clear H
                            have H := H1
                            clear H1
                            exact absurd (Option.some.inj H) (by decide)
                          · replace c74 := Bool.eq_false_iff.mpr c74
                            subst c74
                            have H1 : (laws_FnSpectrum.l1 kj46 l0 t543 t564 t568 t572 0 0) = some true := by rw [if_neg (show ¬ (false = true) by decide)] at H; exact H
                            clear H
                            have H := H1
                            clear H1
                            have H' := Aside0.mk H
                            clear H
                            go_wp2
                            repeat (go_quiet (fail); try go_wp2)
                            go_loopg [26, 27] kj46 (fun kq v26 v27 w' => ∃ (x26_4 : Int) (x27_4 : Int), v26 = .int .i64 x26_4 ∧ v27 = .int .i64 x27_4 ∧ Aside0 (laws_FnSpectrum.l1 kq l0 t543 t564 t568 t572 x26_4 x27_4 = some true) ∧ Aside0 (kq ≤ kj46) ∧ Aside0 (Kd.R (Kd.int .i64) 2 w' w.heap.size (fun k_ => some k_ ≠ (v569 : Value).ownBlock ∧ some k_ ≠ (v573 : Value).ownBlock) v565 t564) ∧ Aside0 (Kd.R (Kd.int .i64) 2 w' w.heap.size (fun k_ => some k_ ≠ (v565 : Value).ownBlock ∧ some k_ ≠ (v573 : Value).ownBlock) v569 t568) ∧ Aside0 (Kd.R (Kd.int .i64) 2 w' w.heap.size (fun k_ => some k_ ≠ (v565 : Value).ownBlock ∧ some k_ ≠ (v569 : Value).ownBlock) v573 t572) ∧ Aside0 (w'.heap[gb542]? = some (.cells #[.int .i64 t540, .int .i64 t541] 27 (0, 0))) ∧ Aside0 (Below w.heap.size w w'))
                            case atStart => exact ⟨(0), (0), (by first | rfl | (simp; done) | (simp [*]; done)), (by first | rfl | (simp; done) | (simp [*]; done)), H', ⟨Nat.le_refl _⟩, ⟨by (with_reducible repeat (first | apply Kd.R_alloc | apply Kd.R_drewN | apply Kd.R_drew)); exact HO_16.out⟩, ⟨by (with_reducible repeat (first | apply Kd.R_alloc | apply Kd.R_drewN | apply Kd.R_drew)); exact HO_18.out⟩, ⟨by (with_reducible repeat (first | apply Kd.R_alloc | apply Kd.R_drewN | apply Kd.R_drew)); exact HO_20.out⟩, ⟨iBK BK542.out⟩, ⟨iHB⟩⟩
                            case round =>
                              clear H'
                              try clear c74
                              obtain ⟨x26_4, x27_4, rfl, rfl, HA, HK4, HO_16, HO_18, HO_20, BK542, HB⟩ := hrel
                              cases gk with
                              | zero => exact absurd HA.out (by simp [laws_FnSpectrum.l1])
                              | succ k4 =>
                                have H := HA.out
                                clear HA
                                simp only [laws_FnSpectrum.l1] at H
                                by_cases c75 : x27_4 < (t568.length : Int)
                                · rw [if_pos c75] at H
                                  have c75b0 : decide (x27_4 < (t568.length : Int)) = true := decide_eq_true c75
                                  clear c75
                                  by_cases c76 : 0 ≤ x27_4
                                  · rw [if_pos c76] at H
                                    have c76b0 : decide (0 ≤ x27_4) = true := decide_eq_true c76
                                    clear c76
                                    by_cases c77 : (rd t568 x27_4) > 0
                                    · rw [if_pos c77] at H
                                      have c77b0 : decide (0 < (rd t568 x27_4)) = true := decide_eq_true c77
                                      clear c77
                                      have H' := Aside0.mk H
                                      clear H
                                      obtain ⟨Ao78, co78, eo78⟩ := Kd.R_slice HO_18.out
                                      subst eo78
                                      have p582 : 0 ≤ (x27_4 : Int) := of_decide_eq_true (by first | (with_reducible assumption) | assumption)
                                      have q582 : x27_4 < (t568.length : Int) := of_decide_eq_true (by first | (with_reducible assumption) | assumption)
                                      obtain ⟨ad582, e582, hx582_0⟩ := Kd.at_int (Kd.R_reads' HO_18.out).2.2 x27_4 p582 q582
                                      cases e582
                                      replace p582 := eq_true p582
                                      replace q582 := eq_true q582
                                      go_wp2
                                      repeat (go_quiet (fail); try go_wp2)
                                      go_roundg k4
                                      case measure => have := HJ8.out; have := HK2.out; have := HJ46.out; have := HK4.out; omega
                                      case rel => exact ⟨(wrap64 (x26_4 + 1)), (wrap64 (x27_4 + 1)), (by first | rfl | (simp; done) | (simp [*]; done)), (by first | rfl | (simp; done) | (simp [*]; done)), H', ⟨by have := HJ8.out; have := HK2.out; have := HJ46.out; have := HK4.out; omega⟩, ⟨by (with_reducible repeat (first | apply Kd.R_alloc | apply Kd.R_drewN | apply Kd.R_drew)); exact HO_16.out⟩, ⟨by (with_reducible repeat (first | apply Kd.R_alloc | apply Kd.R_drewN | apply Kd.R_drew)); exact HO_18.out⟩, ⟨by (with_reducible repeat (first | apply Kd.R_alloc | apply Kd.R_drewN | apply Kd.R_drew)); exact HO_20.out⟩, ⟨iBK BK542.out⟩, ⟨iHB⟩⟩
                                    · rw [if_neg c77] at H
                                      have c77b0 : decide (0 < (rd t568 x27_4)) = false := decide_eq_false c77
                                      clear c77
                                      have H' := Aside0.mk H
                                      clear H
                                      obtain ⟨Ao79, co79, eo79⟩ := Kd.R_slice HO_18.out
                                      subst eo79
                                      have p582 : 0 ≤ (x27_4 : Int) := of_decide_eq_true (by first | (with_reducible assumption) | assumption)
                                      have q582 : x27_4 < (t568.length : Int) := of_decide_eq_true (by first | (with_reducible assumption) | assumption)
                                      obtain ⟨ad582, e582, hx582_0⟩ := Kd.at_int (Kd.R_reads' HO_18.out).2.2 x27_4 p582 q582
                                      cases e582
                                      replace p582 := eq_true p582
                                      replace q582 := eq_true q582
                                      go_wp2
                                      repeat (go_quiet (fail); try go_wp2)
                                      go_roundg k4
                                      case measure => have := HJ8.out; have := HK2.out; have := HJ46.out; have := HK4.out; omega
                                      case rel => exact ⟨(x26_4), (wrap64 (x27_4 + 1)), (by first | rfl | (simp; done) | (simp [*]; done)), (by first | rfl | (simp; done) | (simp [*]; done)), H', ⟨by have := HJ8.out; have := HK2.out; have := HJ46.out; have := HK4.out; omega⟩, ⟨by (with_reducible repeat (first | apply Kd.R_alloc | apply Kd.R_drewN | apply Kd.R_drew)); exact HO_16.out⟩, ⟨by (with_reducible repeat (first | apply Kd.R_alloc | apply Kd.R_drewN | apply Kd.R_drew)); exact HO_18.out⟩, ⟨by (with_reducible repeat (first | apply Kd.R_alloc | apply Kd.R_drewN | apply Kd.R_drew)); exact HO_20.out⟩, ⟨iBK BK542.out⟩, ⟨iHB⟩⟩
                                  · rw [if_neg c76] at H
                                    exact absurd H (by simp)
                                · rw [if_neg c75] at H
                                  have c75b0 : decide (x27_4 < (t568.length : Int)) = false := decide_eq_false c75
                                  clear c75
                                  by_cases c80 : x26_4 = (t572.length : Int)
                                  · rw [if_pos c80] at H
                                    have c80b0 : (x26_4 == (t572.length : Int)) = true := beq_iff_eq.mpr c80
                                    have c80b1 : (x26_4 != (t572.length : Int)) = false := bne_eq_false_iff_eq.mpr c80
                                    clear c80
                                    have H' := Aside0.mk H
                                    clear H
                                    obtain ⟨Ao81, co81, eo81⟩ := Kd.R_slice HO_18.out
                                    subst eo81
                                    obtain ⟨Ao82, co82, eo82⟩ := Kd.R_slice HO_20.out
                                    subst eo82
                                    go_wp2
                                    repeat (go_quiet (fail); try go_wp2)
                                    go_loopg [28] k4 (fun kq v28 w' => ∃ (x28_5 : Int), v28 = .int .i64 x28_5 ∧ Aside0 (laws_FnSpectrum.l2 kq l0 t543 t564 x28_5 = some true) ∧ Aside0 (kq ≤ k4) ∧ Aside0 (Kd.R (Kd.int .i64) 2 w' w.heap.size (fun _ => True) v565 t564) ∧ Aside0 (w'.heap[gb542]? = some (.cells #[.int .i64 t540, .int .i64 t541] 27 (0, 0))) ∧ Aside0 (Below w.heap.size w w'))
                                    case atStart => exact ⟨(1), (by first | rfl | (simp; done) | (simp [*]; done)), H', ⟨Nat.le_refl _⟩, ⟨by (with_reducible repeat (first | apply Kd.R_alloc | apply Kd.R_drewN | apply Kd.R_drew)); exact Kd.R_mono HO_16.out (fun _ hk => trivial)⟩, ⟨iBK BK542.out⟩, ⟨iHB⟩⟩
                                    case round =>
                                      clear H'
                                      try clear c75
                                      try clear c75b0
                                      try clear c80
                                      try clear c80b0
                                      try clear c80b1
                                      obtain ⟨x28_5, rfl, HA, HK5, HO_16, BK542, HB⟩ := hrel
                                      cases gk with
                                      | zero => exact absurd HA.out (by simp [laws_FnSpectrum.l2])
                                      | succ k5 =>
                                        have H := HA.out
                                        clear HA
                                        simp only [laws_FnSpectrum.l2] at H
                                        have HC83 := Aside0.mk H
                                        clear H
                                        go_upto_region 36 with (fail)
                                        repeat (go_quiet (fail); go_upto_region 36 with (fail))
                                        go_cut [249] from 243 to 256 (fun v249 wc => ∃ (kq : Nat) (x249_82 : Bool), v249 = .bool x249_82 ∧ Aside0 (laws_FnSpectrum.j5 kq l0 t543 t564 x28_5 x249_82 = some true) ∧ Aside0 (kq ≤ k5) ∧ Aside0 (Kd.R (Kd.int .i64) 2 wc w.heap.size (fun _ => True) v565 t564) ∧ Aside0 (wc.heap[gb542]? = some (.cells #[.int .i64 t540, .int .i64 t541] 27 (0, 0))) ∧ Aside0 (Below w.heap.size w wc))
                                        case first =>
                                          have H := HC83.out
                                          clear HC83
                                          by_cases c84 : x28_5 < (t564.length : Int)
                                          · rw [if_pos c84] at H
                                            have c84b0 : decide (x28_5 < (t564.length : Int)) = true := decide_eq_true c84
                                            clear c84
                                            (first | rw [c84b0] | (simp only [i64_w, i32_w]; rw [c84b0]) | skip)
                                            have H' := Aside0.mk H
                                            clear H
                                            obtain ⟨Ao85, co85, eo85⟩ := Kd.R_slice HO_16.out
                                            subst eo85
                                            go_wp2
                                            repeat (go_quiet (fail); try go_wp2)
                                            go_meet
                                            case rel => exact ⟨_, (t543), (by first | rfl | (simp; done) | (simp [*]; done)), H', ⟨by have := HJ8.out; have := HK2.out; have := HJ46.out; have := HK4.out; have := HK5.out; first | omega | exact Nat.le_refl _⟩, ⟨by (with_reducible repeat (first | apply Kd.R_alloc | apply Kd.R_drewN | apply Kd.R_drew)); exact HO_16.out⟩, ⟨iBK BK542.out⟩, ⟨iHB⟩⟩
                                          · rw [if_neg c84] at H
                                            have c84b0 : decide (x28_5 < (t564.length : Int)) = false := decide_eq_false c84
                                            clear c84
                                            (first | rw [c84b0] | (simp only [i64_w, i32_w]; rw [c84b0]) | skip)
                                            have H' := Aside0.mk H
                                            clear H
                                            obtain ⟨Ao86, co86, eo86⟩ := Kd.R_slice HO_16.out
                                            subst eo86
                                            go_wp2
                                            repeat (go_quiet (fail); try go_wp2)
                                            go_meet
                                            case rel => exact ⟨_, (false), (by first | rfl | (simp; done) | (simp [*]; done)), H', ⟨by have := HJ8.out; have := HK2.out; have := HJ46.out; have := HK4.out; have := HK5.out; first | omega | exact Nat.le_refl _⟩, ⟨by (with_reducible repeat (first | apply Kd.R_alloc | apply Kd.R_drewN | apply Kd.R_drew)); exact HO_16.out⟩, ⟨iBK BK542.out⟩, ⟨iHB⟩⟩
                                        case rest =>
                                          clear HC83
                                          obtain ⟨kq, x249_82, rfl, HA, HJ82, HO_16, BK542, HB⟩ := hcut
                                          cases kq with
                                          | zero => exact absurd HA.out (by simp [laws_FnSpectrum.j5])
                                          | succ kj82 =>
                                            have H := HA.out
                                            clear HA
                                            simp only [laws_FnSpectrum.j5] at H
                                            by_cases c87 : x249_82 = true
                                            · subst c87
                                              have H1 : (if 0 ≤ x28_5 then (if x28_5 < (t564.length : Int) then (if (rd t564 x28_5) = 0 then (laws_FnSpectrum.l2 kj82 l0 t543 t564 (wrap64 (x28_5 + 1))) else (some false)) else (none)) else (none)) = some true := by first | (rw [if_pos rfl] at H; exact H) | rfl
                                              clear H
                                              have H := H1
                                              clear H1
                                              by_cases c88 : 0 ≤ x28_5
                                              · rw [if_pos c88] at H
                                                have c88b0 : decide (0 ≤ x28_5) = true := decide_eq_true c88
                                                clear c88
                                                by_cases c89 : x28_5 < (t564.length : Int)
                                                · rw [if_pos c89] at H
                                                  have c89b0 : decide (x28_5 < (t564.length : Int)) = true := decide_eq_true c89
                                                  clear c89
                                                  by_cases c90 : (rd t564 x28_5) = 0
                                                  · rw [if_pos c90] at H
                                                    have c90b0 : ((rd t564 x28_5) == 0) = true := beq_iff_eq.mpr c90
                                                    have c90b1 : ((rd t564 x28_5) != 0) = false := bne_eq_false_iff_eq.mpr c90
                                                    clear c90
                                                    have H' := Aside0.mk H
                                                    clear H
                                                    obtain ⟨Ao91, co91, eo91⟩ := Kd.R_slice HO_16.out
                                                    subst eo91
                                                    have p583 : 0 ≤ (x28_5 : Int) := of_decide_eq_true (by first | (with_reducible assumption) | assumption)
                                                    have q583 : x28_5 < (t564.length : Int) := of_decide_eq_true (by first | (with_reducible assumption) | assumption)
                                                    obtain ⟨ad583, e583, hx583_0⟩ := Kd.at_int (Kd.R_reads' HO_16.out).2.2 x28_5 p583 q583
                                                    cases e583
                                                    replace p583 := eq_true p583
                                                    replace q583 := eq_true q583
                                                    go_wp2
                                                    repeat (go_quiet (fail); try go_wp2)
                                                    go_roundg kj82
                                                    case measure => have := HJ8.out; have := HK2.out; have := HJ46.out; have := HK4.out; have := HK5.out; have := HJ82.out; omega
                                                    case rel => exact ⟨(wrap64 (x28_5 + 1)), (by first | rfl | (simp; done) | (simp [*]; done)), H', ⟨by have := HJ8.out; have := HK2.out; have := HJ46.out; have := HK4.out; have := HK5.out; have := HJ82.out; omega⟩, ⟨by (with_reducible repeat (first | apply Kd.R_alloc | apply Kd.R_drewN | apply Kd.R_drew)); exact HO_16.out⟩, ⟨iBK BK542.out⟩, ⟨iHB⟩⟩
                                                  · rw [if_neg c90] at H
                                                    have c90b0 : ((rd t564 x28_5) == 0) = false := beq_eq_false_iff_ne.mpr c90
                                                    have c90b1 : ((rd t564 x28_5) != 0) = true := bne_iff_ne.mpr c90
                                                    exact absurd (Option.some.inj H) (by decide)
                                                · rw [if_neg c89] at H
                                                  exact absurd H (by simp)
                                              · rw [if_neg c88] at H
                                                exact absurd H (by simp)
                                            · replace c87 := Bool.eq_false_iff.mpr c87
                                              subst c87
                                              have H1 : (laws_FnSpectrum.j6 kj82 l0) = some true := by rw [if_neg (show ¬ (false = true) by decide)] at H; exact H
                                              clear H
                                              have H := H1
                                              clear H1
                                              have H' := Aside0.mk H
                                              clear H
                                              go_wp2
                                              repeat (go_quiet (fail); try go_wp2)
                                              go_meet
                                              case rel => exact ⟨_, H', ⟨by have := HJ8.out; have := HK2.out; have := HJ46.out; have := HK4.out; have := HK5.out; have := HJ82.out; first | omega | exact Nat.le_refl _⟩, ⟨iHB⟩⟩
                                  · rw [if_neg c80] at H
                                    have c80b0 : (x26_4 == (t572.length : Int)) = false := beq_eq_false_iff_ne.mpr c80
                                    have c80b1 : (x26_4 != (t572.length : Int)) = true := bne_iff_ne.mpr c80
                                    exact absurd (Option.some.inj H) (by decide)
              · rw [if_neg c30] at H
                exact absurd H (by simp)
            · rw [if_neg c28] at H
              have c28b0 : (t544 == 0) = false := beq_eq_false_iff_ne.mpr c28
              have c28b1 : (t544 != 0) = true := bne_iff_ne.mpr c28
              (first | rw [c28b0] | (simp only [i64_w, i32_w]; rw [c28b0]) | skip)
              have H' := Aside0.mk H
              clear H
              go_wp2
              repeat (go_quiet (fail); try go_wp2)
              go_meet
              case rel => exact ⟨_, H', ⟨by have := HJ8.out; first | omega | exact Nat.le_refl _⟩, ⟨iHB⟩⟩
          case rest =>
            obtain ⟨kq, HA, _, HB⟩ := hcut
            go_step
            exact laws_FnSpectrum.s6 kq A0 c0 l0 w _ HR0 HC0 HA HB _ _ _ _ _ _ _ _ _ _ _ _ _ _ _ _ _ _ _ _ _ _ _ _ _ _ _ _ _ _ _ _ _ _ _ _ _ _ _ _ _ _ _ _ _ _ _ _ _ _ _ _ _ _ _ _ _ _ _ _ _ _ _ _ _ _ _ _ _ _ _ _ _ _ _ _ _ _ _ _ _ _ _ _ _ _ _ _ _ _ _ _ _ _ _ _ _ _ _ _ _ _ _ _ _ _ _ _ _ _ _ _ _ _ _ _ _ _ _ _ _ _ _ _ _ _ _ _ _ _ _ _ _ _ _ _ _ _ _ _ _ _ _ _ _ _ _ _ _ _ _ _ _ _ _ _ _ _ _ _ _ _ _ _ _ _ _ _ _ _ _ _ _ _ _ _ _ _ _ _ _ _ _ _ _ _ _ _ _ _ _ _ _ _ _ _ _ _ _ _ _ _ _ _ _ _ _ _ _ _ _ _ _ _ _ _ _ _ _ _ _ _ _ _ _ _ _ _ _ _ _ _ _ _ _ _ _ _ _ _ _ _ _ _ _ _ _ _ _ _ _ _ _ _ _ _ _ _ _ _ _ _ _ _ _ _ _ _ _ _ _ _ _ _ _ _ _ _ _ _ _ _ _ _ _ _ _ _ _ _ _ _ _ _ _ _ _ _ _ _ _ _ _ _ _ _ _ _ _ _ _ _ _ _ _ _ _ _ _ _ _ _ _ _ _ _ _ _ _ _ _ _ _ _ _ _ _ _ _ _ _ _ _ _ _ _ _ _ _ _ _ _ _ _ _ _ _ _ _ _ _ _ _ _ _ _ _ _ _ _ _ _ _ _ _ _ _ _ _ _ _ _ _ _ _ _
end Go.Proofs.Ytdhfbgbclibagaa.P
