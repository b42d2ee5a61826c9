/- Functions of the given program and their contracts, written by a program of this session (gen.py) over the kit's print. -/
import Derived.Test.YtdhfbgbclibagaaROx0
import Derived.Test.YtdhfbgbclibagaaROx2
import Derived.Test.YtdhfbgbclibagaaROx3
import Derived.Test.YtdhfbgbclibagaaROx10
import Derived.Test.YtdhfbgbclibagaaROx13
namespace Go.Proofs.Ytdhfbgbclibagaa.P
open Go.RowKit Go.Proofs.YtdhfbgbclibagaaW.PrintWords Go.Proofs.YtdhfbgbclibagaaW.PrintLast Go.Proofs.YtdhfbgbclibagaaW.PrintMore
attribute [local go_sem] max2_int min2_int max_two min_two max_three min_three max_four min_four   -- for this text's walks alone
set_option linter.unusedVariables false
set_option linter.unusedSimpArgs false
def spec_DerivativeBy.l0 : Nat → Int → List Int → Int → Int → Int → Option (Int × Int × Int)
  | 0, _, _, _, _, _ => none
  | k + 1, x1, x6, x7, x483000, x483001 => (spec_l01Rows.f x483000).bind fun t490 => (if x7 < t490 then ((spec_l01At.f x483000 x483001 x7).bind fun t491 => ((spec_l01At.f x483000 x483001 (Go.bits .xor .i64 x7 x1)).bind fun t492 => (if x6.length < 17592186044416 then (spec_DerivativeBy.l0 k x1 (x6 ++ [Int.tmod (wrap64 (t491 + t492)) 2]) (wrap64 (x7 + 1)) x483000 x483001) else (none)))) else ((spec_l01Of.f k x483000 x6).bind fun bt496 => (some (bt496.1, bt496.2, 0))))
def spec_DerivativeBy.f (k : Nat) (a0_0 : Int) (a0_1 : Int) (a1 : Int) : Option (Int × Int × Int) := (spec_l01Is.f a0_0 a0_1).bind fun t484 => (if t484 = true then ((spec_l01Rows.f a0_0).bind fun t485 => ((spec_l01In.f a1 0 (wrap64 (t485 - 1))).bind fun t486 => (if t486 = true then (spec_DerivativeBy.l0 k a1 (([] : List Int)) 0 a0_0 a0_1) else (some (0, 0, 2))))) else (some (0, 0, 1)))
def spec_DerivativeBy.T9 : Bool × List (List Nat × List Nat) := (true, [([], []), ([], []), ([], []), ([1, 2], [1, 2]), ([], []), ([], []), ([], []), ([5, 6], [5, 6]), ([4, 7, 3], [4, 7]), ([3, 8], [3, 8]), ([9], [9]), ([10], [10]), ([0, 11, 8], [0, 11]), ([12, 12, 0, 1, 2, 3, 4, 5, 6, 7, 8, 9, 10, 11, 12], [0, 12])])
def spec_DerivativeBy.B9 : List Nat := [0, 0, 0, 6, 0, 0, 0, 96, 254, 510, 1022, 2046, 4095, 8191]
theorem spec_DerivativeBy.tab9 : rtab .any (opsOf Try.f60 9) = spec_DerivativeBy.T9 := by kernel_rfl
theorem spec_DerivativeBy.bits9 : waitsOk spec_DerivativeBy.T9.2 spec_DerivativeBy.B9 = true := by kernel_rfl
set_option maxHeartbeats 8000000 in
set_option maxRecDepth 100000 in
theorem spec_DerivativeBy.calls (k : Nat) (a0_0 : Int) (a0_1 : Int) (a1 : Int) (r1 : Int) (r2 : Int) (r3 : Int) (w : World) (h : spec_DerivativeBy.f k a0_0 a0_1 a1 = some (r1, r2, r3)) :
    Calls Try.prog 60 #[.agg #[.int .i64 a0_0, .int .i64 a0_1], .int .i64 a1] w fun e w' => e = .returned (.tuple #[.agg #[.int .i64 r1, .int .i64 r2], .int .i64 r3]) ∧ Below w.heap.size w w' := by
  have hu27 := Try.underlying27
  have HB := aa (Below.refl w.heap.size w)
  have H : ((spec_l01Is.f a0_0 a0_1).bind fun t484 => (if t484 = true then ((spec_l01Rows.f a0_0).bind fun t485 => ((spec_l01In.f a1 0 (wrap64 (t485 - 1))).bind fun t486 => (if t486 = true then (spec_DerivativeBy.l0 k a1 (([] : List Int)) 0 a0_0 a0_1) else (some (0, 0, 2))))) else (some (0, 0, 1)))) = some (r1, r2, r3) := h
  clear h
  replace H := Option.bind_eq_some_iff.mp H
  obtain ⟨t484, A30, H⟩ := H
  replace H : (if t484 = true then ((spec_l01Rows.f a0_0).bind fun t485 => ((spec_l01In.f a1 0 (wrap64 (t485 - 1))).bind fun t486 => (if t486 = true then (spec_DerivativeBy.l0 k a1 (([] : List Int)) 0 a0_0 a0_1) else (some (0, 0, 2))))) else (some (0, 0, 1))) = some (r1, r2, r3) := H
  have A3 := Aside0.mk A30
  clear A30
  by_cases c4 : t484 = true
  · subst c4
    have H1 : ((spec_l01Rows.f a0_0).bind fun t485 => ((spec_l01In.f a1 0 (wrap64 (t485 - 1))).bind fun t486 => (if t486 = true then (spec_DerivativeBy.l0 k a1 (([] : List Int)) 0 a0_0 a0_1) else (some (0, 0, 2))))) = some (r1, r2, r3) := by rw [if_pos rfl] at H; exact H
    clear H
    have H := H1
    clear H1
    replace H := Option.bind_eq_some_iff.mp H
    obtain ⟨t485, A50, H⟩ := H
    replace H : ((spec_l01In.f a1 0 (wrap64 (t485 - 1))).bind fun t486 => (if t486 = true then (spec_DerivativeBy.l0 k a1 (([] : List Int)) 0 a0_0 a0_1) else (some (0, 0, 2)))) = some (r1, r2, r3) := H
    have A5 := Aside0.mk A50
    clear A50
    replace H := Option.bind_eq_some_iff.mp H
    obtain ⟨t486, A60, H⟩ := H
    replace H : (if t486 = true then (spec_DerivativeBy.l0 k a1 (([] : List Int)) 0 a0_0 a0_1) else (some (0, 0, 2))) = some (r1, r2, r3) := H
    have A6 := Aside0.mk A60
    clear A60
    by_cases c7 : t486 = true
    · subst c7
      have H1 : (spec_DerivativeBy.l0 k a1 (([] : List Int)) 0 a0_0 a0_1) = some (r1, r2, r3) := by rw [if_pos rfl] at H; exact H
      clear H
      have H := H1
      clear H1
      obtain ⟨y487, hy487⟩ : ∃ y_ : List Int, y_ = (([] : List Int)) := ⟨_, rfl⟩
      replace H : (spec_DerivativeBy.l0 k a1 y487 0 a0_0 a0_1) = some (r1, r2, r3) := by first | (rw [hy487]; with_reducible exact H) | (have H2_ := (Option.bind_some _ _).symm.trans H; rw [hy487]; with_reducible exact H2_) | (have H2_ := (Option.bind_some _ _).symm.trans H; with_reducible exact H2_) | with_reducible exact H | (rw [hy487]; exact H) | exact H
      have Ny487 := Aside0.mk hy487
      clear hy487
      have H' := Aside0.mk H
      clear H
      go_enter Try.func60, Try.ntmps60
      go_wp2_with (first | ((with_reducible refine gate_dst (N := 2) rfl ?_); refine box_event ?hg (N := 2) ?hd (cs := #[.int .i64 a0_0, .int .i64 a0_1]) (t := 27) ?hr ?_; (case hd => rfl); (case hg => rfl); (case hr => first | (go_simp; done) | (go_simp; rfl)); intro gb482 hg w8 hbox hb; have BK482 := aa (hbox); have GW482 := gwB (w := w) hg iHB; have GE482 := gwB (w := w) hg iHB; replace HB := aa (below_step iHB hb); clear hb hbox hg) | ((with_reducible refine gate_dst (N := 4) rfl ?_); refine box_event ?hg (N := 4) ?hd (cs := #[.int .i64 0, .int .i64 0]) (t := 27) ?hr ?_; (case hd => rfl); (case hg => rfl); (case hr => first | (go_simp; done) | (go_simp; rfl)); intro gb483 hg w9 hbox hb; have BK483 := aa (hbox); have GW483 := gwB (w := w) hg iHB; have GE483 := gwB (w := w) hg iHB; replace HB := aa (below_step iHB hb); have NB482_483 := nbL hg (iBK BK482.out); have NB483_482 := nbR hg (iBK BK482.out); replace BK482 := aa (blk_below (iBK BK482.out) hb); clear hb hbox hg; have hnb10 := NB482_483.out; have hnc10 := NB483_482.out; have hcz11_0 : w9.cell? ⟨gb482, 0, none⟩ = some (.int .i64 a0_0) := (blk_cell BK482.out 0).trans rfl; have hcz11_1 : w9.cell? ⟨gb482, 1, none⟩ = some (.int .i64 a0_1) := (blk_cell BK482.out 1).trans rfl; have hfz11_0 := blk_frozen BK482.out 0; have hfz11_1 := blk_frozen BK482.out 1) | ((with_reducible refine gate_callee (f := 67) rfl ?_); refine goesL_ (some 10) rfl rfl Try.func67 (by kernel_rfl) rfl #[.agg #[.int .i64 a0_0, .int .i64 a0_1]] rfl iAR ?_; (with_reducible refine (spec_l01Is.calls a0_0 a0_1 true _ A3.out).mono ?_); rintro e w12 ⟨rfl, hb⟩; refine ⟨_, rfl, ?_⟩; replace BK482 := aa (blk_below (iBK BK482.out) hb); replace BK483 := aa (blk_below (iBK BK483.out) hb); replace HB := aa (below_step iHB hb); (try clear hb); have hcz13_0 : w12.cell? ⟨gb482, 0, none⟩ = some (.int .i64 a0_0) := (blk_cell BK482.out 0).trans rfl; have hcz13_1 : w12.cell? ⟨gb482, 1, none⟩ = some (.int .i64 a0_1) := (blk_cell BK482.out 1).trans rfl; have hfz13_0 := blk_frozen BK482.out 0; have hfz13_1 := blk_frozen BK482.out 1) | ((with_reducible refine gate_callee (f := 68) rfl ?_); refine goesL_ (some 17) rfl rfl Try.func68 (by kernel_rfl) rfl #[.int .i64 a0_0] rfl iAR ?_; (with_reducible refine (spec_l01Rows.calls a0_0 t485 _ A5.out).mono ?_); rintro e w' ⟨rfl, ⟨nd, rfl⟩⟩; refine ⟨_, rfl, ?_⟩) | ((with_reducible refine gate_callee (f := 84) rfl ?_); refine goesL_ (some 19) rfl rfl Try.func84 (by kernel_rfl) rfl #[.int .i64 a1, .int .i64 0, .int .i64 (wrap64 (t485 - 1))] rfl iAR ?_; (with_reducible refine (spec_l01In.calls a1 0 (wrap64 (t485 - 1)) true _ A6.out).mono ?_); rintro e w' ⟨rfl, ⟨nd, rfl⟩⟩; refine ⟨_, rfl, ?_⟩) | ((with_reducible refine gate_dst (N := 22) rfl ?_); refine Kd.R_lit (Kd.int .i64) _ 2 ?hg (N := 22) ?hd (xs := ([] : List Int)) (inner := []) (ok := fun _ => True) (okp := fun _ => True) ?hr ?hp (fun _ hk => hk) trivial (Below.refl _ _) (Nat.le_refl _) (by simp) ?_; (case hd => rfl); (case hg => rfl); (case hr => first | (go_simp; done) | (go_simp; rfl)); (case hp => exact (Reps.none _ _)); intro v488 w14 ho15 hb hg_ hnew_; clear hg_ hnew_; (first | rw [← Ny487.out] at ho15 | (simp only [Int.reduceToNat] at ho15; rw [← Ny487.out] at ho15)); have HO489 := aa (Kd.R_lower ho15 (below_size iHB)); replace BK482 := aa (blk_below (iBK BK482.out) hb); replace BK483 := aa (blk_below (iBK BK483.out) hb); replace HB := aa (below_step iHB hb); clear hb ho15))
      go_loopg [6, 7] k (fun kq v6 v7 w' => ∃ (x6_1 : List Int) (x7_1 : Int), v7 = .int .i64 x7_1 ∧ Aside0 (spec_DerivativeBy.l0 kq a1 x6_1 x7_1 a0_0 a0_1 = some (r1, r2, r3)) ∧ Aside0 (kq ≤ k) ∧ Aside0 (Kd.R (Kd.int .i64) 2 w' w.heap.size (fun _ => True) v6 x6_1) ∧ Aside0 (w'.heap[gb482]? = some (.cells #[.int .i64 a0_0, .int .i64 a0_1] 27 (0, 0))) ∧ Aside0 (w'.heap[gb483]? = some (.cells #[.int .i64 0, .int .i64 0] 27 (0, 0))) ∧ Aside0 (Below w.heap.size w w'))
      case atStart => exact ⟨(y487), (0), (by first | rfl | (simp; done) | (simp [*]; done)), H', ⟨Nat.le_refl _⟩, ⟨by (with_reducible repeat (first | apply Kd.R_alloc | apply Kd.R_drewN | apply Kd.R_drew)); exact HO489.out⟩, ⟨iBK BK482.out⟩, ⟨iBK BK483.out⟩, ⟨iHB⟩⟩
      case round =>
        clear H'
        try clear c4
        try clear c7
        try clear hcz11_0
        try clear hcz11_1
        try clear hcz13_0
        try clear hcz13_1
        try clear hfz11_0
        try clear hfz11_1
        try clear hfz13_0
        try clear hfz13_1
        obtain ⟨x6_1, x7_1, rfl, HA, HK1, HO_6, BK482, BK483, HB⟩ := hrel
        cases gk with
        | zero => exact absurd HA.out (by simp [spec_DerivativeBy.l0])
        | succ k1 =>
          have H := HA.out
          clear HA
          simp only [spec_DerivativeBy.l0] at H
          replace H := Option.bind_eq_some_iff.mp H
          obtain ⟨t490, A160, H⟩ := H
          replace H : (if x7_1 < t490 then ((spec_l01At.f a0_0 a0_1 x7_1).bind fun t491 => ((spec_l01At.f a0_0 a0_1 (Go.bits .xor .i64 x7_1 a1)).bind fun t492 => (if x6_1.length < 17592186044416 then (spec_DerivativeBy.l0 k1 a1 (x6_1 ++ [Int.tmod (wrap64 (t491 + t492)) 2]) (wrap64 (x7_1 + 1)) a0_0 a0_1) else (none)))) else ((spec_l01Of.f k1 a0_0 x6_1).bind fun bt496 => (some (bt496.1, bt496.2, 0)))) = some (r1, r2, r3) := H
          have A16 := Aside0.mk A160
          clear A160
          by_cases c17 : x7_1 < t490
          · rw [if_pos c17] at H
            have c17b0 : decide (x7_1 < t490) = true := decide_eq_true c17
            clear c17
            replace H := Option.bind_eq_some_iff.mp H
            obtain ⟨t491, A180, H⟩ := H
            replace H : ((spec_l01At.f a0_0 a0_1 (Go.bits .xor .i64 x7_1 a1)).bind fun t492 => (if x6_1.length < 17592186044416 then (spec_DerivativeBy.l0 k1 a1 (x6_1 ++ [Int.tmod (wrap64 (t491 + t492)) 2]) (wrap64 (x7_1 + 1)) a0_0 a0_1) else (none))) = some (r1, r2, r3) := H
            have A18 := Aside0.mk A180
            clear A180
            replace H := Option.bind_eq_some_iff.mp H
            obtain ⟨t492, A190, H⟩ := H
            replace H : (if x6_1.length < 17592186044416 then (spec_DerivativeBy.l0 k1 a1 (x6_1 ++ [Int.tmod (wrap64 (t491 + t492)) 2]) (wrap64 (x7_1 + 1)) a0_0 a0_1) else (none)) = some (r1, r2, r3) := H
            have A19 := Aside0.mk A190
            clear A190
            by_cases c20 : x6_1.length < 17592186044416
            · rw [if_pos c20] at H
              have LMc20 := Aside0.mk c20
              clear c20
              obtain ⟨y493, hy493⟩ : ∃ y_ : List Int, y_ = (x6_1 ++ [Int.tmod (wrap64 (t491 + t492)) 2]) := ⟨_, rfl⟩
              replace H : (spec_DerivativeBy.l0 k1 a1 y493 (wrap64 (x7_1 + 1)) a0_0 a0_1) = some (r1, r2, r3) := by first | (rw [hy493]; with_reducible exact H) | (have H2_ := (Option.bind_some _ _).symm.trans H; rw [hy493]; with_reducible exact H2_) | (have H2_ := (Option.bind_some _ _).symm.trans H; with_reducible exact H2_) | with_reducible exact H | (rw [hy493]; exact H) | exact H
              have Ny493 := Aside0.mk hy493
              clear hy493
              have H' := Aside0.mk H
              clear H
              have hnb21 := NB482_483.out
              have hnc21 := NB483_482.out
              have hcz22_0 : wr.cell? ⟨gb482, 0, none⟩ = some (.int .i64 a0_0) := (blk_cell BK482.out 0).trans rfl
              have hcz22_1 : wr.cell? ⟨gb482, 1, none⟩ = some (.int .i64 a0_1) := (blk_cell BK482.out 1).trans rfl
              have hfz22_0 := blk_frozen BK482.out 0
              have hfz22_1 := blk_frozen BK482.out 1
              try go_wp2_with (first | ((with_reducible refine gate_callee (f := 68) rfl ?_); refine goesL_ (some 26) rfl rfl Try.func68 (by kernel_rfl) rfl #[.int .i64 a0_0] rfl iAR ?_; (with_reducible refine (spec_l01Rows.calls a0_0 t490 _ A16.out).mono ?_); rintro e w' ⟨rfl, ⟨nd, rfl⟩⟩; refine ⟨_, rfl, ?_⟩))
              (try (rw [drewN_self wr]; generalize hq_ : World.drewN wr _ = wr; replace HO_6 : Aside0 (Kd.R (Kd.int .i64) 2 wr w.heap.size (fun _ => True) u6 x6_1) := ⟨by rw [← hq_]; exact (by (with_reducible repeat (first | apply Kd.R_alloc | apply Kd.R_drewN | apply Kd.R_drew)); exact HO_6.out)⟩; replace BK482 : Aside0 (wr.heap[gb482]? = some (.cells #[.int .i64 a0_0, .int .i64 a0_1] 27 (0, 0))) := ⟨by rw [← hq_]; exact (iBK BK482.out)⟩; replace BK483 : Aside0 (wr.heap[gb483]? = some (.cells #[.int .i64 0, .int .i64 0] 27 (0, 0))) := ⟨by rw [← hq_]; exact (iBK BK483.out)⟩; replace HB : Aside0 (Below w.heap.size w wr) := ⟨by rw [← hq_]; exact iHB⟩; clear hq_; have hzz482_0 : wr.cell? ⟨gb482, 0, none⟩ = some (.int .i64 a0_0) := (blk_cell BK482.out 0).trans rfl; have hzz482_1 : wr.cell? ⟨gb482, 1, none⟩ = some (.int .i64 a0_1) := (blk_cell BK482.out 1).trans rfl; have hzz483_0 : wr.cell? ⟨gb483, 0, none⟩ = some (.int .i64 0) := (blk_cell BK483.out 0).trans rfl; have hzz483_1 : wr.cell? ⟨gb483, 1, none⟩ = some (.int .i64 0) := (blk_cell BK483.out 1).trans rfl))
              replace HO_6 := aa (Kd.R_drew HO_6.out)
              replace BK482 := aa (blk_drew BK482.out)
              replace BK483 := aa (blk_drew BK483.out)
              replace HB := aa (below_drew1 HB.out)
              refine start_ (n := 14) (S := fun w' => w'.cell? ⟨gb482, 0, none⟩ = some (.int .i64 a0_0) ∧ w'.cell? ⟨gb482, 1, none⟩ = some (.int .i64 a0_1)) (ds := []) #[false, false, false, false, false, false, false, false, false, false, false, false, false, false] (by kernel_rfl) rfl rfl ⟨(blk_cell BK482.out 0).trans rfl, (blk_cell BK482.out 1).trans rfl⟩ (fun hHeld => ?_); refine with_tabW spec_DerivativeBy.tab9 spec_DerivativeBy.bits9 (fun HT_ HW_ => ?_)
              generalize wr.drew = w23 at HO_6 BK482 BK483 HB hHeld ⊢
              refine pure_ (i := 0) (N := some 30) (v := ?_) (a' := ?_) #[true, false, false, false, false, false, false, false, false, false, false, false, false, false] rfl rfl (any_of HT_.out (by kernel_rfl)) (fun _ _ _ h => h) (Or.inl ⟨by rfl, ?_⟩) ?_ ?_
              rotate_left
              · intro w'
                go_simp
                with_reducible rfl
              rotate_left
              · simp only [Act.put, List.setIfInBounds_toArray, List.set_cons_zero, List.set_cons_succ, i64_w, i32_w]
                rfl
              refine pure_ (i := 2) (N := some 32) (v := ?_) (a' := ?_) #[true, false, true, false, false, false, false, false, false, false, false, false, false, false] rfl rfl (any_of HT_.out (by kernel_rfl)) (fun _ _ _ h => h) (Or.inl ⟨by rfl, ?_⟩) ?_ ?_
              rotate_left
              · intro w'
                go_simp
                with_reducible rfl
              rotate_left
              · simp only [Act.put, List.setIfInBounds_toArray, List.set_cons_zero, List.set_cons_succ, i64_w, i32_w]
                rfl
              refine pure_ (i := 5) (N := some 35) (v := ?_) (a' := ?_) #[true, false, true, false, false, true, false, false, false, false, false, false, false, false] rfl rfl (any_of HT_.out (by kernel_rfl)) (fun _ _ _ h => h) (Or.inl ⟨by rfl, ?_⟩) ?_ ?_
              rotate_left
              · intro w'
                go_simp
                with_reducible rfl
              rotate_left
              · simp only [Act.put, List.setIfInBounds_toArray, List.set_cons_zero, List.set_cons_succ, i64_w, i32_w]
                rfl
              refine pure_ (i := 6) (N := some 36) (v := ?_) (a' := ?_) #[true, false, true, false, false, true, true, false, false, false, false, false, false, false] rfl rfl (any_of HT_.out (by kernel_rfl)) (fun _ _ _ h => h) (Or.inl ⟨by rfl, ?_⟩) ?_ ?_
              rotate_left
              · intro w'
                go_simp
                with_reducible rfl
              rotate_left
              · simp only [Act.put, List.setIfInBounds_toArray, List.set_cons_zero, List.set_cons_succ, i64_w, i32_w]
                rfl
              refine pure_ (i := 7) (N := some 37) (v := ?_) (a' := ?_) #[true, false, true, false, false, true, true, true, false, false, false, false, false, false] rfl rfl (any_of HT_.out (by kernel_rfl)) (fun _ _ _ h => h) (Or.inl ⟨by rfl, ?_⟩) ?_ ?_
              rotate_left
              · intro w'
                go_simp
                with_reducible rfl
              rotate_left
              · simp only [Act.put, List.setIfInBounds_toArray, List.set_cons_zero, List.set_cons_succ, i64_w, i32_w]
                rfl
              refine take_ (i := 1) (N := some 31) (v := ?_) (a' := ?_) #[true, true, true, false, false, true, true, true, false, false, false, false, false, false] rfl rfl (take_ofW HT_.out HW_.out (by kernel_rfl)) (fun _ _ _ h => h) (Or.inl ⟨by rfl, ?_⟩) hHeld ?_ ?_
              rotate_left
              · rintro w' ⟨s0, s1⟩
                go_simp
                with_reducible rfl
              rotate_left
              · simp only [Act.put, List.setIfInBounds_toArray, List.set_cons_zero, List.set_cons_succ, i64_w, i32_w]
                rfl
              refine take_ (i := 4) (N := some 34) (v := ?_) (a' := ?_) #[true, true, true, false, true, true, true, true, false, false, false, false, false, false] rfl rfl (take_ofW HT_.out HW_.out (by kernel_rfl)) (fun _ _ _ h => h) (Or.inl ⟨by rfl, ?_⟩) hHeld ?_ ?_
              rotate_left
              · rintro w' ⟨s0, s1⟩
                go_simp
                with_reducible rfl
              rotate_left
              · simp only [Act.put, List.setIfInBounds_toArray, List.set_cons_zero, List.set_cons_succ, i64_w, i32_w]
                rfl
              refine one_ (i := 3) (N := some 33) #[true, true, true, true, true, true, true, true, false, false, false, false, false, false] rfl rfl (one_of HT_.out (by kernel_rfl)) (by decide) (fun K hK => ?_)
              refine goes_ Try.func69 (by kernel_rfl) rfl #[.agg #[.int .i64 a0_0, .int .i64 a0_1], .int .i64 x7_1] (by rfl) rfl rfl iAR ?_
              with_reducible refine (spec_l01At.calls a0_0 a0_1 x7_1 t491 _ A18.out).mono ?_
              rintro e w24 ⟨rfl, hb⟩
              refine ⟨_, rfl, ?_⟩
              replace HO_6 := aa (Kd.R_below (by (with_reducible repeat (first | apply Kd.R_alloc | apply Kd.R_drewN | apply Kd.R_drew)); exact HO_6.out) hb)
              replace BK482 := aa (blk_below (iBK BK482.out) hb)
              replace BK483 := aa (blk_below (iBK BK483.out) hb)
              replace HB := aa (below_step iHB hb)
              (try clear hb)
              (try clear hb2)
              (try clear hk)
              (try clear hi)
              refine hK.out _ _ ⟨(blk_cell BK482.out 0).trans rfl, (blk_cell BK482.out 1).trans rfl⟩ (fun hHeld => ?_)
              clear hK K
              refine norm_ (a' := ?_) ?_ ?_
              rotate_left
              · show Act.put _ (some 33) _ = _
                simp only [Act.put, List.setIfInBounds_toArray, List.set_cons_zero, List.set_cons_succ, i64_w, i32_w]
                rfl
              refine one_ (i := 8) (N := some 38) #[true, true, true, true, true, true, true, true, true, false, false, false, false, false] rfl rfl (one_of HT_.out (by kernel_rfl)) (by decide) (fun K hK => ?_)
              refine goes_ Try.func69 (by kernel_rfl) rfl #[.agg #[.int .i64 a0_0, .int .i64 a0_1], .int .i64 (Go.bits .xor .i64 x7_1 a1)] (by rfl) rfl rfl iAR ?_
              with_reducible refine (spec_l01At.calls a0_0 a0_1 (Go.bits .xor .i64 x7_1 a1) t492 _ A19.out).mono ?_
              rintro e w25 ⟨rfl, hb⟩
              refine ⟨_, rfl, ?_⟩
              replace HO_6 := aa (Kd.R_below (by (with_reducible repeat (first | apply Kd.R_alloc | apply Kd.R_drewN | apply Kd.R_drew)); exact HO_6.out) hb)
              replace BK482 := aa (blk_below (iBK BK482.out) hb)
              replace BK483 := aa (blk_below (iBK BK483.out) hb)
              replace HB := aa (below_step iHB hb)
              (try clear hb)
              (try clear hb2)
              (try clear hk)
              (try clear hi)
              refine hK.out _ _ ⟨(blk_cell BK482.out 0).trans rfl, (blk_cell BK482.out 1).trans rfl⟩ (fun hHeld => ?_)
              clear hK K
              refine norm_ (a' := ?_) ?_ ?_
              rotate_left
              · show Act.put _ (some 38) _ = _
                simp only [Act.put, List.setIfInBounds_toArray, List.set_cons_zero, List.set_cons_succ, i64_w, i32_w]
                rfl
              refine pure_ (i := 9) (N := some 39) (v := ?_) (a' := ?_) #[true, true, true, true, true, true, true, true, true, true, false, false, false, false] rfl rfl (any_of HT_.out (by kernel_rfl)) (fun _ _ _ h => h) (Or.inl ⟨by rfl, ?_⟩) ?_ ?_
              rotate_left
              · intro w'
                go_simp
                with_reducible rfl
              rotate_left
              · simp only [Act.put, List.setIfInBounds_toArray, List.set_cons_zero, List.set_cons_succ, i64_w, i32_w]
                rfl
              refine pure_ (i := 10) (N := some 40) (v := ?_) (a' := ?_) #[true, true, true, true, true, true, true, true, true, true, true, false, false, false] rfl rfl (any_of HT_.out (by kernel_rfl)) (fun _ _ _ h => h) (Or.inl ⟨by rfl, ?_⟩) ?_ ?_
              rotate_left
              · intro w'
                go_simp
                with_reducible rfl
              rotate_left
              · simp only [Act.put, List.setIfInBounds_toArray, List.set_cons_zero, List.set_cons_succ, i64_w, i32_w]
                rfl
              refine one_ (i := 11) (N := some 41) #[true, true, true, true, true, true, true, true, true, true, true, true, false, false] rfl rfl (one_of HT_.out (by kernel_rfl)) (by decide) (fun K hK => ?_)
              refine value_ (w1 := ?_) (v := ?_) (by rfl) rfl ?_ ?_
              rotate_left 2
              · go_simp
                constructor
                · rfl
                · rfl
              refine hK.out _ _ ⟨(blk_cell (blk_alloc BK482.out _) 0).trans rfl, (blk_cell (blk_alloc BK482.out _) 1).trans rfl⟩ (fun hHeld => ?_)
              clear hK K
              refine norm_ (a' := ?_) ?_ ?_
              rotate_left
              · show Act.put _ (some 41) _ = _
                simp only [Act.put, List.setIfInBounds_toArray, List.set_cons_zero, List.set_cons_succ, i64_w, i32_w]
                rfl
              refine one_ (i := 12) (N := some 42) #[true, true, true, true, true, true, true, true, true, true, true, true, true, false] rfl rfl (one_of HT_.out (by kernel_rfl)) (by decide) (fun K hK => ?_)
              refine Kd.R_append_step (Kd.int .i64) (w0 := w) w.heap.size (by rfl) (.tmp 30) (.tmp 41) 24 2 (.int .i64 0) 8 rfl Try.underlying24 info2 rfl (by decide) (by omega) u6 x6_1 (Int.tmod (wrap64 (t491 + t492)) 2) [.int .i64 (Int.tmod (wrap64 (t491 + t492)) 2)] (fun _ => True) (fun _ => False) rfl rfl ?aP (fun _ hk => hk.elim) ?aF ?aO ?aB ?aS ?aL ?_
              (case aP => exact rfl)
              (case aB => exact iHB)
              (case aF => exact (fun _ _ => trivial))
              (case aO => exact (by (with_reducible repeat (first | apply Kd.R_alloc | apply Kd.R_drewN | apply Kd.R_drew)); exact HO_6.out))
              (case aS => exact (below_size iHB))
              (case aL => have := LMc20.out; omega)
              intro v494 w26 ho hb hg hat
              rw [← Ny493.out] at ho
              replace BK482 := aa (blk_grown (g := gb482) (o := .cells #[.int .i64 a0_0, .int .i64 a0_1] 27 (0, 0)) (iBK BK482.out) hg (Kd.R_ne HO_6.out BK482.out (by decide)))
              replace BK483 := aa (blk_grown (g := gb483) (o := .cells #[.int .i64 0, .int .i64 0] 27 (0, 0)) (iBK BK483.out) hg (Kd.R_ne HO_6.out BK483.out (by decide)))
              replace HB := aa (hb)
              have HO495 := aa (ho)
              clear HO_6
              clear ho hb hg hat
              refine hK.out _ _ ⟨(blk_cell BK482.out 0).trans rfl, (blk_cell BK482.out 1).trans rfl⟩ (fun hHeld => ?_)
              clear hK K
              refine norm_ (a' := ?_) ?_ ?_
              rotate_left
              · show Act.put _ (some 42) _ = _
                simp only [Act.put, List.setIfInBounds_toArray, List.set_cons_zero, List.set_cons_succ, i64_w, i32_w]
                rfl
              refine pure_ (i := 13) (N := some 6) (v := ?_) (a' := ?_) #[true, true, true, true, true, true, true, true, true, true, true, true, true, true] rfl rfl (any_of HT_.out (by kernel_rfl)) (fun _ _ _ h => h) (Or.inl ⟨by rfl, ?_⟩) ?_ ?_
              rotate_left
              · intro w'
                go_simp
                with_reducible rfl
              rotate_left
              · simp only [Act.put, List.setIfInBounds_toArray, List.set_cons_zero, List.set_cons_succ, i64_w, i32_w]
                rfl
              refine done_ (done_of HT_.out (by kernel_rfl)) ?_
              try go_wp2
              go_roundg k1
              case measure => have := HK1.out; omega
              case rel => exact ⟨(y493), (wrap64 (x7_1 + 1)), (by first | rfl | (simp; done) | (simp [*]; done)), H', ⟨by have := HK1.out; omega⟩, ⟨by (with_reducible repeat (first | apply Kd.R_alloc | apply Kd.R_drewN | apply Kd.R_drew)); exact HO495.out⟩, ⟨iBK BK482.out⟩, ⟨iBK BK483.out⟩, ⟨iHB⟩⟩
            · rw [if_neg c20] at H
              exact absurd H (by simp)
          · rw [if_neg c17] at H
            have c17b0 : decide (x7_1 < t490) = false := decide_eq_false c17
            clear c17
            replace H := Option.bind_eq_some_iff.mp H
            obtain ⟨⟨t496, t497⟩, A270, H⟩ := H
            replace H : (some (t496, t497, 0)) = some (r1, r2, r3) := H
            have A27 := Aside0.mk A270
            clear A270
            simp only [Option.some.injEq, Prod.mk.injEq] at H
            obtain ⟨rfl, rfl, rfl⟩ := H
            have hnb28 := NB482_483.out
            have hnc28 := NB483_482.out
            have hcz29_0 : wr.cell? ⟨gb482, 0, none⟩ = some (.int .i64 a0_0) := (blk_cell BK482.out 0).trans rfl
            have hcz29_1 : wr.cell? ⟨gb482, 1, none⟩ = some (.int .i64 a0_1) := (blk_cell BK482.out 1).trans rfl
            have hfz29_0 := blk_frozen BK482.out 0
            have hfz29_1 := blk_frozen BK482.out 1
            go_wp2_with (first | ((with_reducible refine gate_callee (f := 68) rfl ?_); refine goesL_ (some 26) rfl rfl Try.func68 (by kernel_rfl) rfl #[.int .i64 a0_0] rfl iAR ?_; (with_reducible refine (spec_l01Rows.calls a0_0 t490 _ A16.out).mono ?_); rintro e w' ⟨rfl, ⟨nd, rfl⟩⟩; refine ⟨_, rfl, ?_⟩; (try (rw [drewN_self wr]; generalize hq_ : World.drewN wr _ = wr; replace HO_6 : Aside0 (Kd.R (Kd.int .i64) 2 wr w.heap.size (fun _ => True) u6 x6_1) := ⟨by rw [← hq_]; exact (by (with_reducible repeat (first | apply Kd.R_alloc | apply Kd.R_drewN | apply Kd.R_drew)); exact HO_6.out)⟩; replace BK482 : Aside0 (wr.heap[gb482]? = some (.cells #[.int .i64 a0_0, .int .i64 a0_1] 27 (0, 0))) := ⟨by rw [← hq_]; exact (iBK BK482.out)⟩; replace BK483 : Aside0 (wr.heap[gb483]? = some (.cells #[.int .i64 0, .int .i64 0] 27 (0, 0))) := ⟨by rw [← hq_]; exact (iBK BK483.out)⟩; replace HB : Aside0 (Below w.heap.size w wr) := ⟨by rw [← hq_]; exact iHB⟩; clear hq_; have hzz482_0 : wr.cell? ⟨gb482, 0, none⟩ = some (.int .i64 a0_0) := (blk_cell BK482.out 0).trans rfl; have hzz482_1 : wr.cell? ⟨gb482, 1, none⟩ = some (.int .i64 a0_1) := (blk_cell BK482.out 1).trans rfl; have hzz483_0 : wr.cell? ⟨gb483, 0, none⟩ = some (.int .i64 0) := (blk_cell BK483.out 0).trans rfl; have hzz483_1 : wr.cell? ⟨gb483, 1, none⟩ = some (.int .i64 0) := (blk_cell BK483.out 1).trans rfl)); obtain ⟨Ao30, co30, eo30⟩ := Kd.R_slice HO_6.out; subst eo30) | ((with_reducible refine gate_callee (f := 86) rfl ?_); refine goesL_ (some 46) rfl rfl Try.func86 (by kernel_rfl) rfl #[.int .i64 a0_0, .slice Ao30 x6_1.length co30] rfl iAR ?_; (with_reducible refine (spec_l01Of.calls k1 a0_0 _ _ x6_1 t496 t497 _ ?side1 ?side2 A27.out).mono ?_); (case side1 => repeat (first | exact (Kd.R_reads' HO_6.out).2.2 | (with_reducible refine Kd.C_alloc ?_ _) | (with_reducible refine Kd.C_drewN ?_ _) | (with_reducible refine Kd.C_drew ?_))); (case side2 => exact (Kd.R_reads' HO_6.out).2.1); rintro e w31 ⟨rfl, hb⟩; refine ⟨_, rfl, ?_⟩; replace HO_6 := aa (Kd.R_below (by (with_reducible repeat (first | apply Kd.R_alloc | apply Kd.R_drewN | apply Kd.R_drew)); exact HO_6.out) hb); replace BK482 := aa (blk_below (iBK BK482.out) hb); replace BK483 := aa (blk_below (iBK BK483.out) hb); replace HB := aa (below_step iHB hb); (try clear hb); have hcz32_0 : w31.cell? ⟨gb483, 0, none⟩ = some (.int .i64 0) := (blk_cell BK483.out 0).trans rfl; have hcz32_1 : w31.cell? ⟨gb483, 1, none⟩ = some (.int .i64 0) := (blk_cell BK483.out 1).trans rfl; have hfz32_0 := blk_frozen BK483.out 0; have hfz32_1 := blk_frozen BK483.out 1))
            refine bodyPost_ret (results_ct rfl _ _ gb483 27 #[.int .i64 t496, .int .i64 t497] (0, 0) _ rfl (by (with_reducible repeat (first | refine blk_drewN ?_ _ | refine blk_drew ?_ | refine blk_alloc ?_ _)); refine blk_put (cs := #[.int .i64 t496, .int .i64 0]) ?_ 1 _ rfl; (with_reducible repeat (first | refine blk_drewN ?_ _ | refine blk_drew ?_ | refine blk_alloc ?_ _)); refine blk_put (cs := #[.int .i64 0, .int .i64 0]) ?_ 0 _ rfl; exact iBK BK483.out) Try.underlying27 rfl (by kernel_rfl)) rfl ?_
            exact ⟨by first | rfl | (simp [errW_none, errW_some] <;> rfl) | (simp [*, errW_none, errW_some] <;> rfl), iHB⟩
    · replace c7 := Bool.eq_false_iff.mpr c7
      subst c7
      have H1 : (some (0, 0, 2)) = some (r1, r2, r3) := by rw [if_neg (show ¬ (false = true) by decide)] at H; exact H
      clear H
      have H := H1
      clear H1
      simp only [Option.some.injEq, Prod.mk.injEq] at H
      obtain ⟨rfl, rfl, rfl⟩ := H
      go_enter Try.func60, Try.ntmps60
      go_wp2_with (first | ((with_reducible refine gate_dst (N := 2) rfl ?_); refine box_event ?hg (N := 2) ?hd (cs := #[.int .i64 a0_0, .int .i64 a0_1]) (t := 27) ?hr ?_; (case hd => rfl); (case hg => rfl); (case hr => first | (go_simp; done) | (go_simp; rfl)); intro gb482 hg w33 hbox hb; have BK482 := aa (hbox); have GW482 := gwB (w := w) hg iHB; have GE482 := gwB (w := w) hg iHB; replace HB := aa (below_step iHB hb); clear hb hbox hg) | ((with_reducible refine gate_dst (N := 4) rfl ?_); refine box_event ?hg (N := 4) ?hd (cs := #[.int .i64 0, .int .i64 0]) (t := 27) ?hr ?_; (case hd => rfl); (case hg => rfl); (case hr => first | (go_simp; done) | (go_simp; rfl)); intro gb483 hg w34 hbox hb; have BK483 := aa (hbox); have GW483 := gwB (w := w) hg iHB; have GE483 := gwB (w := w) hg iHB; replace HB := aa (below_step iHB hb); have NB482_483 := nbL hg (iBK BK482.out); have NB483_482 := nbR hg (iBK BK482.out); replace BK482 := aa (blk_below (iBK BK482.out) hb); clear hb hbox hg; have hnb35 := NB482_483.out; have hnc35 := NB483_482.out; have hcz36_0 : w34.cell? ⟨gb482, 0, none⟩ = some (.int .i64 a0_0) := (blk_cell BK482.out 0).trans rfl; have hcz36_1 : w34.cell? ⟨gb482, 1, none⟩ = some (.int .i64 a0_1) := (blk_cell BK482.out 1).trans rfl; have hfz36_0 := blk_frozen BK482.out 0; have hfz36_1 := blk_frozen BK482.out 1) | ((with_reducible refine gate_callee (f := 67) rfl ?_); refine goesL_ (some 10) rfl rfl Try.func67 (by kernel_rfl) rfl #[.agg #[.int .i64 a0_0, .int .i64 a0_1]] rfl iAR ?_; (with_reducible refine (spec_l01Is.calls a0_0 a0_1 true _ A3.out).mono ?_); rintro e w37 ⟨rfl, hb⟩; refine ⟨_, rfl, ?_⟩; replace BK482 := aa (blk_below (iBK BK482.out) hb); replace BK483 := aa (blk_below (iBK BK483.out) hb); replace HB := aa (below_step iHB hb); (try clear hb); have hcz38_0 : w37.cell? ⟨gb482, 0, none⟩ = some (.int .i64 a0_0) := (blk_cell BK482.out 0).trans rfl; have hcz38_1 : w37.cell? ⟨gb482, 1, none⟩ = some (.int .i64 a0_1) := (blk_cell BK482.out 1).trans rfl; have hfz38_0 := blk_frozen BK482.out 0; have hfz38_1 := blk_frozen BK482.out 1) | ((with_reducible refine gate_callee (f := 68) rfl ?_); refine goesL_ (some 17) rfl rfl Try.func68 (by kernel_rfl) rfl #[.int .i64 a0_0] rfl iAR ?_; (with_reducible refine (spec_l01Rows.calls a0_0 t485 _ A5.out).mono ?_); rintro e w' ⟨rfl, ⟨nd, rfl⟩⟩; refine ⟨_, rfl, ?_⟩; (try (rw [drewN_self w37]; generalize hq_ : World.drewN w37 _ = w37; replace BK482 : Aside0 (w37.heap[gb482]? = some (.cells #[.int .i64 a0_0, .int .i64 a0_1] 27 (0, 0))) := ⟨by rw [← hq_]; exact (iBK BK482.out)⟩; replace BK483 : Aside0 (w37.heap[gb483]? = some (.cells #[.int .i64 0, .int .i64 0] 27 (0, 0))) := ⟨by rw [← hq_]; exact (iBK BK483.out)⟩; replace HB : Aside0 (Below w.heap.size w w37) := ⟨by rw [← hq_]; exact iHB⟩; clear hq_; have hzz482_0 : w37.cell? ⟨gb482, 0, none⟩ = some (.int .i64 a0_0) := (blk_cell BK482.out 0).trans rfl; have hzz482_1 : w37.cell? ⟨gb482, 1, none⟩ = some (.int .i64 a0_1) := (blk_cell BK482.out 1).trans rfl; have hzz483_0 : w37.cell? ⟨gb483, 0, none⟩ = some (.int .i64 0) := (blk_cell BK483.out 0).trans rfl; have hzz483_1 : w37.cell? ⟨gb483, 1, none⟩ = some (.int .i64 0) := (blk_cell BK483.out 1).trans rfl))) | ((with_reducible refine gate_callee (f := 84) rfl ?_); refine goesL_ (some 19) rfl rfl Try.func84 (by kernel_rfl) rfl #[.int .i64 a1, .int .i64 0, .int .i64 (wrap64 (t485 - 1))] rfl iAR ?_; (with_reducible refine (spec_l01In.calls a1 0 (wrap64 (t485 - 1)) false _ A6.out).mono ?_); rintro e w' ⟨rfl, ⟨nd, rfl⟩⟩; refine ⟨_, rfl, ?_⟩; (try (rw [drewN_self w37]; generalize hq_ : World.drewN w37 _ = w37; replace BK482 : Aside0 (w37.heap[gb482]? = some (.cells #[.int .i64 a0_0, .int .i64 a0_1] 27 (0, 0))) := ⟨by rw [← hq_]; exact (iBK BK482.out)⟩; replace BK483 : Aside0 (w37.heap[gb483]? = some (.cells #[.int .i64 0, .int .i64 0] 27 (0, 0))) := ⟨by rw [← hq_]; exact (iBK BK483.out)⟩; replace HB : Aside0 (Below w.heap.size w w37) := ⟨by rw [← hq_]; exact iHB⟩; clear hq_; have hzz482_0 : w37.cell? ⟨gb482, 0, none⟩ = some (.int .i64 a0_0) := (blk_cell BK482.out 0).trans rfl; have hzz482_1 : w37.cell? ⟨gb482, 1, none⟩ = some (.int .i64 a0_1) := (blk_cell BK482.out 1).trans rfl; have hzz483_0 : w37.cell? ⟨gb483, 0, none⟩ = some (.int .i64 0) := (blk_cell BK483.out 0).trans rfl; have hzz483_1 : w37.cell? ⟨gb483, 1, none⟩ = some (.int .i64 0) := (blk_cell BK483.out 1).trans rfl)); have hcz39_0 : w37.cell? ⟨gb483, 0, none⟩ = some (.int .i64 0) := (blk_cell BK483.out 0).trans rfl; have hcz39_1 : w37.cell? ⟨gb483, 1, none⟩ = some (.int .i64 0) := (blk_cell BK483.out 1).trans rfl; have hfz39_0 := blk_frozen BK483.out 0; have hfz39_1 := blk_frozen BK483.out 1))
      refine bodyPost_ret (results_ct rfl _ _ gb483 27 #[.int .i64 0, .int .i64 0] (0, 0) _ rfl (by (with_reducible repeat (first | refine blk_drewN ?_ _ | refine blk_drew ?_ | refine blk_alloc ?_ _)); refine blk_put (cs := #[.int .i64 0, .int .i64 0]) ?_ 1 _ rfl; (with_reducible repeat (first | refine blk_drewN ?_ _ | refine blk_drew ?_ | refine blk_alloc ?_ _)); refine blk_put (cs := #[.int .i64 0, .int .i64 0]) ?_ 0 _ rfl; exact iBK BK483.out) Try.underlying27 rfl (by kernel_rfl)) rfl ?_
      exact ⟨by first | rfl | (simp [errW_none, errW_some] <;> rfl) | (simp [*, errW_none, errW_some] <;> rfl), iHB⟩
  · replace c4 := Bool.eq_false_iff.mpr c4
    subst c4
    have H1 : (some (0, 0, 1)) = some (r1, r2, r3) := by rw [if_neg (show ¬ (false = true) by decide)] at H; exact H
    clear H
    have H := H1
    clear H1
    simp only [Option.some.injEq, Prod.mk.injEq] at H
    obtain ⟨rfl, rfl, rfl⟩ := H
    go_enter Try.func60, Try.ntmps60
    go_wp2_with (first | ((with_reducible refine gate_dst (N := 2) rfl ?_); refine box_event ?hg (N := 2) ?hd (cs := #[.int .i64 a0_0, .int .i64 a0_1]) (t := 27) ?hr ?_; (case hd => rfl); (case hg => rfl); (case hr => first | (go_simp; done) | (go_simp; rfl)); intro gb482 hg w40 hbox hb; have BK482 := aa (hbox); have GW482 := gwB (w := w) hg iHB; have GE482 := gwB (w := w) hg iHB; replace HB := aa (below_step iHB hb); clear hb hbox hg) | ((with_reducible refine gate_dst (N := 4) rfl ?_); refine box_event ?hg (N := 4) ?hd (cs := #[.int .i64 0, .int .i64 0]) (t := 27) ?hr ?_; (case hd => rfl); (case hg => rfl); (case hr => first | (go_simp; done) | (go_simp; rfl)); intro gb483 hg w41 hbox hb; have BK483 := aa (hbox); have GW483 := gwB (w := w) hg iHB; have GE483 := gwB (w := w) hg iHB; replace HB := aa (below_step iHB hb); have NB482_483 := nbL hg (iBK BK482.out); have NB483_482 := nbR hg (iBK BK482.out); replace BK482 := aa (blk_below (iBK BK482.out) hb); clear hb hbox hg; have hnb42 := NB482_483.out; have hnc42 := NB483_482.out; have hcz43_0 : w41.cell? ⟨gb482, 0, none⟩ = some (.int .i64 a0_0) := (blk_cell BK482.out 0).trans rfl; have hcz43_1 : w41.cell? ⟨gb482, 1, none⟩ = some (.int .i64 a0_1) := (blk_cell BK482.out 1).trans rfl; have hfz43_0 := blk_frozen BK482.out 0; have hfz43_1 := blk_frozen BK482.out 1) | ((with_reducible refine gate_callee (f := 67) rfl ?_); refine goesL_ (some 10) rfl rfl Try.func67 (by kernel_rfl) rfl #[.agg #[.int .i64 a0_0, .int .i64 a0_1]] rfl iAR ?_; (with_reducible refine (spec_l01Is.calls a0_0 a0_1 false _ A3.out).mono ?_); rintro e w44 ⟨rfl, hb⟩; refine ⟨_, rfl, ?_⟩; replace BK482 := aa (blk_below (iBK BK482.out) hb); replace BK483 := aa (blk_below (iBK BK483.out) hb); replace HB := aa (below_step iHB hb); (try clear hb); have hcz45_0 : w44.cell? ⟨gb483, 0, none⟩ = some (.int .i64 0) := (blk_cell BK483.out 0).trans rfl; have hcz45_1 : w44.cell? ⟨gb483, 1, none⟩ = some (.int .i64 0) := (blk_cell BK483.out 1).trans rfl; have hfz45_0 := blk_frozen BK483.out 0; have hfz45_1 := blk_frozen BK483.out 1))
    refine bodyPost_ret (results_ct rfl _ _ gb483 27 #[.int .i64 0, .int .i64 0] (0, 0) _ rfl (by (with_reducible repeat (first | refine blk_drewN ?_ _ | refine blk_drew ?_ | refine blk_alloc ?_ _)); refine blk_put (cs := #[.int .i64 0, .int .i64 0]) ?_ 1 _ rfl; (with_reducible repeat (first | refine blk_drewN ?_ _ | refine blk_drew ?_ | refine blk_alloc ?_ _)); refine blk_put (cs := #[.int .i64 0, .int .i64 0]) ?_ 0 _ rfl; exact iBK BK483.out) Try.underlying27 rfl (by kernel_rfl)) rfl ?_
    exact ⟨by first | rfl | (simp [errW_none, errW_some] <;> rfl) | (simp [*, errW_none, errW_some] <;> rfl), iHB⟩
def spec_l01Spoil.f (k : Nat) (s0_0 : List Int) (s0_1 : Int) (s0_2 : Int) : Option (Int × Int × Int × Int) := (spec_l01Draw.f k s0_0 s0_1 s0_2).bind fun bt499 => ((spec_l01Bad.f s0_0 bt499.2.2.1 bt499.2.2.2 bt499.1 bt499.2.1).bind fun bt503 => (some (bt503.1, bt503.2.1, bt503.2.2.1, bt503.2.2.2)))
set_option maxHeartbeats 8000000 in
set_option maxRecDepth 100000 in
theorem spec_l01Spoil.calls (k : Nat) (g : Nat) (s0_0 : List Int) (s0_1 : Int) (s0_2 : Int) (r1 : Int) (r2 : Int) (r3 : Int) (r4 : Int) (w0 w : World) (hI : IsS81 w0 w g s0_0 s0_1 s0_2) (hB : Below w0.heap.size w0 w) (h : spec_l01Spoil.f k s0_0 s0_1 s0_2 = some (r1, r2, r3, r4)) :
    Calls Try.prog 95 #[.pointer (some ⟨g, 0, none⟩)] w fun e w' => e = .returned (.agg #[.int .i64 r1, .int .i64 r2]) ∧ IsS81 w0 w' g s0_0 r3 r4 ∧ Below w0.heap.size w0 w' ∧ KeepBut w w' g none := by
  have hu27 := Try.underlying27
  have HI0 := Aside0.mk hI
  have HK := aa (KeepBut.refl w g none)
  have HL := Aside0.mk hB.size
  clear hI
  have HW0 := Aside0.mk hB.size
  have HB := Aside0.mk hB
  clear hB
  have H : ((spec_l01Draw.f k s0_0 s0_1 s0_2).bind fun bt499 => ((spec_l01Bad.f s0_0 bt499.2.2.1 bt499.2.2.2 bt499.1 bt499.2.1).bind fun bt503 => (some (bt503.1, bt503.2.1, bt503.2.2.1, bt503.2.2.2)))) = some (r1, r2, r3, r4) := h
  clear h
  replace H := Option.bind_eq_some_iff.mp H
  obtain ⟨⟨t499, t500, t501, t502⟩, A20, H⟩ := H
  replace H : ((spec_l01Bad.f s0_0 t501 t502 t499 t500).bind fun bt503 => (some (bt503.1, bt503.2.1, bt503.2.2.1, bt503.2.2.2))) = some (r1, r2, r3, r4) := H
  have A2 := Aside0.mk A20
  clear A20
  replace H := Option.bind_eq_some_iff.mp H
  obtain ⟨⟨t503, t504, t505, t506⟩, A30, H⟩ := H
  replace H : (some (t503, t504, t505, t506)) = some (r1, r2, r3, r4) := H
  have A3 := Aside0.mk A30
  clear A30
  simp only [Option.some.injEq, Prod.mk.injEq] at H
  obtain ⟨rfl, rfl, rfl, rfl⟩ := H
  go_enter Try.func95, Try.ntmps95
  go_wp2_with (first | ((with_reducible refine gate_dst (N := 2) rfl ?_); refine box_event ?hg (N := 2) ?hd (cs := #[.int .i64 0, .int .i64 0]) (t := 27) ?hr ?_; (case hd => rfl); (case hg => rfl); (case hr => first | (go_simp; done) | (go_simp; rfl)); intro gb498 hg w4 hbox hb; replace HB := aa (below_step iHS hb); have BK498 := aa (hbox); have GW498 := aa ((by rw [hg]; exact (keep_size (w := w) (g := g) (row := none) iHK) : w.heap.size ≤ gb498)); have GE498 := aa ((Nat.le_trans HW0.out (by rw [hg]; exact (keep_size (w := w) (g := g) (row := none) iHK) : w.heap.size ≤ gb498) : w0.heap.size ≤ gb498)); replace HK := aa (KeepBut.trans (w := w) iHK (KeepBut.of_below hb g none) (.inl rfl)); have NB0_498 := aa ((by rw [hg]; exact Nat.ne_of_lt (IsS81.lt (show IsS81 w0 _ g s0_0 s0_1 s0_2 from iHI)) : g ≠ gb498)); have NB498_0 := aa ((by rw [hg]; exact Nat.ne_of_gt (IsS81.lt (show IsS81 w0 _ g s0_0 s0_1 s0_2 from iHI)) : gb498 ≠ g)); replace HI0 := aa (IsS81.below iHI hb); clear hb hbox hg) | ((with_reducible refine gate_callee (f := 104) rfl ?_); refine goesL_ (some 5) rfl rfl Try.func104 (by kernel_rfl) rfl #[.pointer (some ⟨g, 0, none⟩)] rfl iAR ?_; (with_reducible refine (spec_l01Draw.calls k g s0_0 s0_1 s0_2 t499 t500 t501 t502 w0 _ ?side1 ?side2 A2.out).mono ?_); (case side1 => exact iHI); (case side2 => exact iHS); rintro e w5 ⟨rfl, hi, hb, hk⟩; refine ⟨_, rfl, ?_⟩; replace BK498 := aa (KeepBut.blk hk (iBK BK498.out) NB498_0.out (by simp)); replace HK := aa (KeepBut.trans (w := w) iHK hk (.inl rfl)); replace HB := aa (hb); replace HI0 := aa (hi); (try clear hb); (try clear hk); (try clear hi)) | ((with_reducible refine gate_callee (f := 106) rfl ?_); refine goesL_ (some 6) rfl rfl Try.func106 (by kernel_rfl) rfl #[.pointer (some ⟨g, 0, none⟩), .agg #[.int .i64 t499, .int .i64 t500]] rfl iAR ?_; (with_reducible refine (spec_l01Bad.calls g s0_0 t501 t502 t499 t500 t503 t504 t505 t506 w0 _ ?side1 ?side2 A3.out).mono ?_); (case side1 => exact iHI); (case side2 => exact iHS); rintro e w6 ⟨rfl, hi, hb, hk⟩; refine ⟨_, rfl, ?_⟩; replace BK498 := aa (KeepBut.blk hk (iBK BK498.out) NB498_0.out (by simp)); replace HK := aa (KeepBut.trans (w := w) iHK hk (.inl rfl)); replace HB := aa (hb); replace HI0 := aa (hi); (try clear hb); (try clear hk); (try clear hi); have hnb7 := NB498_0.out; have hnc7 := NB0_498.out; have hcz8_0 : w6.cell? ⟨gb498, 0, none⟩ = some (.int .i64 0) := (blk_cell BK498.out 0).trans rfl; have hcz8_1 : w6.cell? ⟨gb498, 1, none⟩ = some (.int .i64 0) := (blk_cell BK498.out 1).trans rfl; have hfz8_0 := blk_frozen BK498.out 0; have hfz8_1 := blk_frozen BK498.out 1))
  refine bodyPost_ret (results_cell_row rfl _ _ gb498 27 #[.int .i64 t503, .int .i64 t504] (0, 0) _ rfl (by (with_reducible repeat (first | refine blk_drewN ?_ _ | refine blk_drew ?_ | refine blk_alloc ?_ _)); refine blk_put (cs := #[.int .i64 t503, .int .i64 0]) ?_ 1 _ rfl; (with_reducible repeat (first | refine blk_drewN ?_ _ | refine blk_drew ?_ | refine blk_alloc ?_ _)); refine blk_put (cs := #[.int .i64 0, .int .i64 0]) ?_ 0 _ rfl; exact iBK BK498.out) Try.underlying27 rfl (by kernel_rfl)) rfl ?_
  exact ⟨by first | rfl | (simp [errW_none, errW_some] <;> rfl) | (simp [*, errW_none, errW_some] <;> rfl), iHI, iHS, iHK⟩
def spec_DrawAffinePart.f (k : Nat) (l0 : List Int) : Option (Int × Int) := (spec_l01From.f k l0).bind fun bt508 => ((spec_l01Spoil.f k bt508.1 bt508.2.1 bt508.2.2).bind fun bt512 => (some (bt512.1, bt512.2.1)))
set_option maxHeartbeats 8000000 in
set_option maxRecDepth 100000 in
theorem spec_DrawAffinePart.calls (k : Nat) (A0 : Option Addr) (c0 : Nat) (l0 : List Int) (r1 : Int) (r2 : Int) (w : World) (hr0 : Kd.C (Kd.int .u8) w A0 l0.length l0) (hc0 : l0.length ≤ c0) (h : spec_DrawAffinePart.f k l0 = some (r1, r2)) :
    Calls Try.prog 61 #[.slice A0 l0.length c0] w fun e w' => e = .returned (.agg #[.int .i64 r1, .int .i64 r2]) ∧ Below w.heap.size w w' := by
  have hu27 := Try.underlying27
  have HR0 := Aside0.mk hr0
  have HC0 := Aside0.mk hc0
  clear hr0 hc0
  have HB := aa (Below.refl w.heap.size w)
  have H : ((spec_l01From.f k l0).bind fun bt508 => ((spec_l01Spoil.f k bt508.1 bt508.2.1 bt508.2.2).bind fun bt512 => (some (bt512.1, bt512.2.1)))) = some (r1, r2) := h
  clear h
  replace H := Option.bind_eq_some_iff.mp H
  obtain ⟨⟨t508, t509, t510⟩, A20, H⟩ := H
  replace H : ((spec_l01Spoil.f k t508 t509 t510).bind fun bt512 => (some (bt512.1, bt512.2.1))) = some (r1, r2) := H
  have A2 := Aside0.mk A20
  clear A20
  replace H := Option.bind_eq_some_iff.mp H
  obtain ⟨⟨t512, t513, t514, t515⟩, A30, H⟩ := H
  replace H : (some (t512, t513)) = some (r1, r2) := H
  have A3 := Aside0.mk A30
  clear A30
  simp only [Option.some.injEq, Prod.mk.injEq] at H
  obtain ⟨rfl, rfl⟩ := H
  go_enter Try.func61, Try.ntmps61
  go_wp2_with (first | ((with_reducible refine gate_dst (N := 2) rfl ?_); refine box_event ?hg (N := 2) ?hd (cs := #[.int .i64 0, .int .i64 0]) (t := 27) ?hr ?_; (case hd => rfl); (case hg => rfl); (case hr => first | (go_simp; done) | (go_simp; rfl)); intro gb507 hg w4 hbox hb; have BK507 := aa (hbox); have GW507 := gwB (w := w) hg iHB; have GE507 := gwB (w := w) hg iHB; replace HB := aa (below_step iHB hb); clear hb hbox hg) | ((with_reducible refine gate_callee (f := 96) rfl ?_); refine goesL_ (some 4) rfl rfl Try.func96 (by kernel_rfl) rfl #[.slice A0 l0.length c0] rfl iAR ?_; (with_reducible refine (spec_l01From.calls k _ _ l0 t508 t509 t510 w _ ?side1 ?side2 ?side3 A2.out).mono ?_); (case side1 => exact iHB); (case side2 => exact HR0.out); (case side3 => exact HC0.out); rintro e w5 ⟨g511, rfl, hi, hb, hb2⟩; refine ⟨_, rfl, ?_⟩; replace HB := aa (hb); have HI511 := aa (hi); have NB511_507 := aa (IsS81.ne_blk hi (blk_below (iBK BK507.out) hb2) (by decide)); have NB507_511 := aa (Ne.symm (IsS81.ne_blk hi (blk_below (iBK BK507.out) hb2) (by decide))); replace BK507 := aa (blk_below (iBK BK507.out) hb2); (try clear hb); (try clear hb2); (try clear hi)) | ((with_reducible refine gate_callee (f := 95) rfl ?_); refine goesL_ (some 5) rfl rfl Try.func95 (by kernel_rfl) rfl #[.pointer (some ⟨g511, 0, none⟩)] rfl iAR ?_; (with_reducible refine (spec_l01Spoil.calls k g511 t508 t509 t510 t512 t513 t514 t515 w _ ?side1 ?side2 A3.out).mono ?_); (case side1 => exact iHI); (case side2 => exact iHS); rintro e w6 ⟨rfl, hi, hb, hk⟩; refine ⟨_, rfl, ?_⟩; replace BK507 := aa (KeepBut.blk hk (iBK BK507.out) NB507_511.out (by simp)); replace HB := aa (hb); replace HI511 := aa (hi); (try clear hb); (try clear hk); (try clear hi); have hnb7 := NB507_511.out; have hnc7 := NB511_507.out; have hcz8_0 : w6.cell? ⟨gb507, 0, none⟩ = some (.int .i64 0) := (blk_cell BK507.out 0).trans rfl; have hcz8_1 : w6.cell? ⟨gb507, 1, none⟩ = some (.int .i64 0) := (blk_cell BK507.out 1).trans rfl; have hfz8_0 := blk_frozen BK507.out 0; have hfz8_1 := blk_frozen BK507.out 1))
  refine bodyPost_ret (results_cell_row rfl _ _ gb507 27 #[.int .i64 t512, .int .i64 t513] (0, 0) _ rfl (by (with_reducible repeat (first | refine blk_drewN ?_ _ | refine blk_drew ?_ | refine blk_alloc ?_ _)); refine blk_put (cs := #[.int .i64 t512, .int .i64 0]) ?_ 1 _ rfl; (with_reducible repeat (first | refine blk_drewN ?_ _ | refine blk_drew ?_ | refine blk_alloc ?_ _)); refine blk_put (cs := #[.int .i64 0, .int .i64 0]) ?_ 0 _ rfl; exact iBK BK507.out) Try.underlying27 rfl (by kernel_rfl)) rfl ?_
  exact ⟨by first | rfl | (simp [errW_none, errW_some] <;> rfl) | (simp [*, errW_none, errW_some] <;> rfl), iHS⟩
def spec_DrawPolynomialOf.f (k : Nat) (l0 : List Int) : Option (Int × Int) := (spec_l01From.f k l0).bind fun bt517 => ((spec_l01Spoil.f k bt517.1 bt517.2.1 bt517.2.2).bind fun bt521 => (some (bt521.1, bt521.2.1)))
set_option maxHeartbeats 8000000 in
set_option maxRecDepth 100000 in
theorem spec_DrawPolynomialOf.calls (k : Nat) (A0 : Option Addr) (c0 : Nat) (l0 : List Int) (r1 : Int) (r2 : Int) (w : World) (hr0 : Kd.C (Kd.int .u8) w A0 l0.length l0) (hc0 : l0.length ≤ c0) (h : spec_DrawPolynomialOf.f k l0 = some (r1, r2)) :
    Calls Try.prog 62 #[.slice A0 l0.length c0] w fun e w' => e = .returned (.agg #[.int .i64 r1, .int .i64 r2]) ∧ Below w.heap.size w w' := by
  have hu27 := Try.underlying27
  have HR0 := Aside0.mk hr0
  have HC0 := Aside0.mk hc0
  clear hr0 hc0
  have HB := aa (Below.refl w.heap.size w)
  have H : ((spec_l01From.f k l0).bind fun bt517 => ((spec_l01Spoil.f k bt517.1 bt517.2.1 bt517.2.2).bind fun bt521 => (some (bt521.1, bt521.2.1)))) = some (r1, r2) := h
  clear h
  replace H := Option.bind_eq_some_iff.mp H
  obtain ⟨⟨t517, t518, t519⟩, A20, H⟩ := H
  replace H : ((spec_l01Spoil.f k t517 t518 t519).bind fun bt521 => (some (bt521.1, bt521.2.1))) = some (r1, r2) := H
  have A2 := Aside0.mk A20
  clear A20
  replace H := Option.bind_eq_some_iff.mp H
  obtain ⟨⟨t521, t522, t523, t524⟩, A30, H⟩ := H
  replace H : (some (t521, t522)) = some (r1, r2) := H
  have A3 := Aside0.mk A30
  clear A30
  simp only [Option.some.injEq, Prod.mk.injEq] at H
  obtain ⟨rfl, rfl⟩ := H
  go_enter Try.func62, Try.ntmps62
  go_wp2_with (first | ((with_reducible refine gate_dst (N := 2) rfl ?_); refine box_event ?hg (N := 2) ?hd (cs := #[.int .i64 0, .int .i64 0]) (t := 27) ?hr ?_; (case hd => rfl); (case hg => rfl); (case hr => first | (go_simp; done) | (go_simp; rfl)); intro gb516 hg w4 hbox hb; have BK516 := aa (hbox); have GW516 := gwB (w := w) hg iHB; have GE516 := gwB (w := w) hg iHB; replace HB := aa (below_step iHB hb); clear hb hbox hg) | ((with_reducible refine gate_callee (f := 96) rfl ?_); refine goesL_ (some 4) rfl rfl Try.func96 (by kernel_rfl) rfl #[.slice A0 l0.length c0] rfl iAR ?_; (with_reducible refine (spec_l01From.calls k _ _ l0 t517 t518 t519 w _ ?side1 ?side2 ?side3 A2.out).mono ?_); (case side1 => exact iHB); (case side2 => exact HR0.out); (case side3 => exact HC0.out); rintro e w5 ⟨g520, rfl, hi, hb, hb2⟩; refine ⟨_, rfl, ?_⟩; replace HB := aa (hb); have HI520 := aa (hi); have NB520_516 := aa (IsS81.ne_blk hi (blk_below (iBK BK516.out) hb2) (by decide)); have NB516_520 := aa (Ne.symm (IsS81.ne_blk hi (blk_below (iBK BK516.out) hb2) (by decide))); replace BK516 := aa (blk_below (iBK BK516.out) hb2); (try clear hb); (try clear hb2); (try clear hi)) | ((with_reducible refine gate_callee (f := 95) rfl ?_); refine goesL_ (some 5) rfl rfl Try.func95 (by kernel_rfl) rfl #[.pointer (some ⟨g520, 0, none⟩)] rfl iAR ?_; (with_reducible refine (spec_l01Spoil.calls k g520 t517 t518 t519 t521 t522 t523 t524 w _ ?side1 ?side2 A3.out).mono ?_); (case side1 => exact iHI); (case side2 => exact iHS); rintro e w6 ⟨rfl, hi, hb, hk⟩; refine ⟨_, rfl, ?_⟩; replace BK516 := aa (KeepBut.blk hk (iBK BK516.out) NB516_520.out (by simp)); replace HB := aa (hb); replace HI520 := aa (hi); (try clear hb); (try clear hk); (try clear hi); have hnb7 := NB516_520.out; have hnc7 := NB520_516.out; have hcz8_0 : w6.cell? ⟨gb516, 0, none⟩ = some (.int .i64 0) := (blk_cell BK516.out 0).trans rfl; have hcz8_1 : w6.cell? ⟨gb516, 1, none⟩ = some (.int .i64 0) := (blk_cell BK516.out 1).trans rfl; have hfz8_0 := blk_frozen BK516.out 0; have hfz8_1 := blk_frozen BK516.out 1))
  refine bodyPost_ret (results_cell_row rfl _ _ gb516 27 #[.int .i64 t521, .int .i64 t522] (0, 0) _ rfl (by (with_reducible repeat (first | refine blk_drewN ?_ _ | refine blk_drew ?_ | refine blk_alloc ?_ _)); refine blk_put (cs := #[.int .i64 t521, .int .i64 0]) ?_ 1 _ rfl; (with_reducible repeat (first | refine blk_drewN ?_ _ | refine blk_drew ?_ | refine blk_alloc ?_ _)); refine blk_put (cs := #[.int .i64 0, .int .i64 0]) ?_ 0 _ rfl; exact iBK BK516.out) Try.underlying27 rfl (by kernel_rfl)) rfl ?_
  exact ⟨by first | rfl | (simp [errW_none, errW_some] <;> rfl) | (simp [*, errW_none, errW_some] <;> rfl), iHS⟩
def spec_DrawFuncOf.l0 : Nat → Int → List Int → Int → List Int → Int → Int → Int → Int → Option (Int × List Int)
  | 0, _, _, _, _, _, _, _, _ => none
  | k + 1, x6, x7, x8, x529000, x529001, x529002, x534000, x534001 => (spec_l01Rows.f x534000).bind fun t537 => (if x8 < t537 then ((spec_l01At.f x534000 x534001 x8).bind fun t538 => (if x7.length < 17592186044416 then (spec_DrawFuncOf.l0 k x6 (x7 ++ [t538]) (wrap64 (x8 + 1)) x529000 x529001 x529002 x534000 x534001) else (none))) else ((spec_l01Next.f x529000 x529001 x529002 16).bind fun bt542 => (if bt542.1 = 0 then ((spec_l01Pick.f x529000 bt542.2.1 bt542.2.2 (([(-1), 5, wrap64 (x6 + 1)] : List Int))).bind fun bt548 => (some (bt548.1, x7))) else (if bt542.1 = 1 then ((spec_l01Pick.f x529000 bt542.2.1 bt542.2.2 (([2, (-1)] : List Int))).bind fun bt554 => (if 0 < (x7.length : Int) then (some (x6, (x7.set (0 : Int).toNat bt554.1))) else (none))) else (if bt542.1 = 2 then (if x7.length < 17592186044416 then (some (x6, (x7 ++ [0]))) else (none)) else (some (x6, x7)))))))
def spec_DrawFuncOf.f (k : Nat) (l0 : List Int) : Option (Int × List Int) := (spec_l01From.f k l0).bind fun bt525 => ((spec_l01Draw.f k bt525.1 bt525.2.1 bt525.2.2).bind fun bt529 => (spec_DrawFuncOf.l0 k bt529.1 (([] : List Int)) 0 bt525.1 bt529.2.2.1 bt529.2.2.2 bt529.1 bt529.2.1))
set_option maxHeartbeats 8000000 in
set_option maxRecDepth 100000 in
theorem spec_DrawFuncOf.calls (k : Nat) (A0 : Option Addr) (c0 : Nat) (l0 : List Int) (r1 : Int) (r2 : List Int) (w : World) (hr0 : Kd.C (Kd.int .u8) w A0 l0.length l0) (hc0 : l0.length ≤ c0) (h : spec_DrawFuncOf.f k l0 = some (r1, r2)) :
    Calls Try.prog 108 #[.slice A0 l0.length c0] w fun e w' => ∃ v1_ : Value, e = .returned (.tuple #[.int .i64 r1, v1_]) ∧ Kd.R (Kd.int .i64) 2 w' w.heap.size (fun _ => True) v1_ r2 ∧ Below w.heap.size w w' := by
  have hu27 := Try.underlying27
  have HR0 := Aside0.mk hr0
  have HC0 := Aside0.mk hc0
  clear hr0 hc0
  have HB := aa (Below.refl w.heap.size w)
  have H : ((spec_l01From.f k l0).bind fun bt525 => ((spec_l01Draw.f k bt525.1 bt525.2.1 bt525.2.2).bind fun bt529 => (spec_DrawFuncOf.l0 k bt529.1 (([] : List Int)) 0 bt525.1 bt529.2.2.1 bt529.2.2.2 bt529.1 bt529.2.1))) = some (r1, r2) := h
  clear h
  replace H := Option.bind_eq_some_iff.mp H
  obtain ⟨⟨t525, t526, t527⟩, A20, H⟩ := H
  replace H : ((spec_l01Draw.f k t525 t526 t527).bind fun bt529 => (spec_DrawFuncOf.l0 k bt529.1 (([] : List Int)) 0 t525 bt529.2.2.1 bt529.2.2.2 bt529.1 bt529.2.1)) = some (r1, r2) := H
  have A2 := Aside0.mk A20
  clear A20
  replace H := Option.bind_eq_some_iff.mp H
  obtain ⟨⟨t529, t530, t531, t532⟩, A30, H⟩ := H
  replace H : (spec_DrawFuncOf.l0 k t529 (([] : List Int)) 0 t525 t531 t532 t529 t530) = some (r1, r2) := H
  have A3 := Aside0.mk A30
  clear A30
  obtain ⟨y534, hy534⟩ : ∃ y_ : List Int, y_ = (([] : List Int)) := ⟨_, rfl⟩
  replace H : (spec_DrawFuncOf.l0 k t529 y534 0 t525 t531 t532 t529 t530) = some (r1, r2) := by first | (rw [hy534]; with_reducible exact H) | (have H2_ := (Option.bind_some _ _).symm.trans H; rw [hy534]; with_reducible exact H2_) | (have H2_ := (Option.bind_some _ _).symm.trans H; with_reducible exact H2_) | with_reducible exact H | (rw [hy534]; exact H) | exact H
  have Ny534 := Aside0.mk hy534
  clear hy534
  have H' := Aside0.mk H
  clear H
  go_enter Try.func108, Try.ntmps108
  go_wp2_with (first | ((with_reducible refine gate_callee (f := 96) rfl ?_); refine goesL_ (some 10) rfl rfl Try.func96 (by kernel_rfl) rfl #[.slice A0 l0.length c0] rfl iAR ?_; (with_reducible refine (spec_l01From.calls k _ _ l0 t525 t526 t527 w _ ?side1 ?side2 ?side3 A2.out).mono ?_); (case side1 => exact iHB); (case side2 => exact HR0.out); (case side3 => exact HC0.out); rintro e w4 ⟨g528, rfl, hi, hb, hb2⟩; refine ⟨_, rfl, ?_⟩; replace HB := aa (hb); have HI528 := aa (hi); (try clear hb); (try clear hb2); (try clear hi)) | ((with_reducible refine gate_callee (f := 104) rfl ?_); refine goesL_ (some 12) rfl rfl Try.func104 (by kernel_rfl) rfl #[.pointer (some ⟨g528, 0, none⟩)] rfl iAR ?_; (with_reducible refine (spec_l01Draw.calls k g528 t525 t526 t527 t529 t530 t531 t532 w _ ?side1 ?side2 A3.out).mono ?_); (case side1 => exact iHI); (case side2 => exact iHS); rintro e w5 ⟨rfl, hi, hb, hk⟩; refine ⟨_, rfl, ?_⟩; replace HB := aa (hb); replace HI528 := aa (hi); (try clear hb); (try clear hk); (try clear hi)) | ((with_reducible refine gate_dst (N := 5) rfl ?_); refine box_event ?hg (N := 5) ?hd (cs := #[.int .i64 0, .int .i64 0]) (t := 27) ?hr ?_; (case hd => rfl); (case hg => rfl); (case hr => first | (go_simp; done) | (go_simp; rfl)); intro gb533 hg w6 hbox hb; have BK533 := aa (hbox); have GW533 := gwB (w := w) hg iHS; have GE533 := gwB (w := w) hg iHS; replace HB := aa (below_step iHS hb); have NB528_533 := aa ((by rw [hg]; exact Nat.ne_of_lt (IsS81.lt (show IsS81 w _ g528 t525 t531 t532 from iHI)) : g528 ≠ gb533)); have NB533_528 := aa ((by rw [hg]; exact Nat.ne_of_gt (IsS81.lt (show IsS81 w _ g528 t525 t531 t532 from iHI)) : gb533 ≠ g528)); replace HI528 := aa (IsS81.below iHI hb); clear hb hbox hg; have hnb7 := NB533_528.out; have hnc7 := NB528_533.out; have hcz8_0 : w6.cell? ⟨gb533, 0, none⟩ = some (.int .i64 0) := (blk_cell BK533.out 0).trans rfl; have hcz8_1 : w6.cell? ⟨gb533, 1, none⟩ = some (.int .i64 0) := (blk_cell BK533.out 1).trans rfl; have hfz8_0 := blk_frozen BK533.out 0; have hfz8_1 := blk_frozen BK533.out 1) | ((with_reducible refine gate_dst (N := 15) rfl ?_); refine Kd.R_lit (Kd.int .i64) _ 2 ?hg (N := 15) ?hd (xs := ([] : List Int)) (inner := []) (ok := fun _ => True) (okp := fun _ => True) ?hr ?hp (fun _ hk => hk) trivial (Below.refl _ _) (Nat.le_refl _) (by simp) ?_; (case hd => rfl); (case hg => rfl); (case hr => first | (go_simp; done) | (go_simp; rfl)); (case hp => exact (Reps.none _ _)); intro v535 w9 ho10 hb hg_ hnew_; clear hg_ hnew_; (first | rw [← Ny534.out] at ho10 | (simp only [Int.reduceToNat] at ho10; rw [← Ny534.out] at ho10)); have HO536 := aa (Kd.R_lower ho10 (below_size iHS)); replace BK533 := aa (blk_below (g := gb533) (o := .cells #[.int .i64 t529, .int .i64 t530] 27 (0, 0)) (by (with_reducible repeat (first | refine blk_drewN ?_ _ | refine blk_drew ?_ | refine blk_alloc ?_ _)); refine blk_put (cs := #[.int .i64 t529, .int .i64 0]) ?_ 1 _ rfl; (with_reducible repeat (first | refine blk_drewN ?_ _ | refine blk_drew ?_ | refine blk_alloc ?_ _)); refine blk_put (cs := #[.int .i64 0, .int .i64 0]) ?_ 0 _ rfl; exact iBK BK533.out) hb); replace HB := aa (below_step iHS hb); replace HI528 := aa (IsS81.below (show IsS81 w ((w6.setCell ⟨gb533, 0, none⟩ (.int .i64 t529)).setCell ⟨gb533, 1, none⟩ (.int .i64 t530)) g528 t525 t531 t532 from iHI) hb); clear hb ho10))
  go_loopg [7, 8] k (fun kq v7 v8 w' => ∃ (x7_1 : List Int) (x8_1 : Int), v8 = .int .i64 x8_1 ∧ Aside0 (spec_DrawFuncOf.l0 kq t529 x7_1 x8_1 t525 t531 t532 t529 t530 = some (r1, r2)) ∧ Aside0 (kq ≤ k) ∧ Aside0 (Kd.R (Kd.int .i64) 2 w' w.heap.size (fun _ => True) v7 x7_1) ∧ Aside0 (w'.heap[gb533]? = some (.cells #[.int .i64 t529, .int .i64 t530] 27 (0, 0))) ∧ Aside0 (IsS81 w w' g528 t525 t531 t532) ∧ Aside0 (Below w.heap.size w w'))
  case atStart => exact ⟨(y534), (0), (by first | rfl | (simp; done) | (simp [*]; done)), H', ⟨Nat.le_refl _⟩, ⟨by (with_reducible repeat (first | apply Kd.R_alloc | apply Kd.R_drewN | apply Kd.R_drew)); exact HO536.out⟩, ⟨iBK BK533.out⟩, ⟨iHI⟩, ⟨iHS⟩⟩
  case round =>
    clear H'
    try clear hcz8_0
    try clear hcz8_1
    try clear hfz8_0
    try clear hfz8_1
    obtain ⟨x7_1, x8_1, rfl, HA, HK1, HO_7, BK533, HI528, HB⟩ := hrel
    cases gk with
    | zero => exact absurd HA.out (by simp [spec_DrawFuncOf.l0])
    | succ k1 =>
      have H := HA.out
      clear HA
      simp only [spec_DrawFuncOf.l0] at H
      replace H := Option.bind_eq_some_iff.mp H
      obtain ⟨t537, A110, H⟩ := H
      replace H : (if x8_1 < t537 then ((spec_l01At.f t529 t530 x8_1).bind fun t538 => (if x7_1.length < 17592186044416 then (spec_DrawFuncOf.l0 k1 t529 (x7_1 ++ [t538]) (wrap64 (x8_1 + 1)) t525 t531 t532 t529 t530) else (none))) else ((spec_l01Next.f t525 t531 t532 16).bind fun bt542 => (if bt542.1 = 0 then ((spec_l01Pick.f t525 bt542.2.1 bt542.2.2 (([(-1), 5, wrap64 (t529 + 1)] : List Int))).bind fun bt548 => (some (bt548.1, x7_1))) else (if bt542.1 = 1 then ((spec_l01Pick.f t525 bt542.2.1 bt542.2.2 (([2, (-1)] : List Int))).bind fun bt554 => (if 0 < (x7_1.length : Int) then (some (t529, (x7_1.set (0 : Int).toNat bt554.1))) else (none))) else (if bt542.1 = 2 then (if x7_1.length < 17592186044416 then (some (t529, (x7_1 ++ [0]))) else (none)) else (some (t529, x7_1))))))) = some (r1, r2) := H
      have A11 := Aside0.mk A110
      clear A110
      by_cases c12 : x8_1 < t537
      · rw [if_pos c12] at H
        have c12b0 : decide (x8_1 < t537) = true := decide_eq_true c12
        clear c12
        replace H := Option.bind_eq_some_iff.mp H
        obtain ⟨t538, A130, H⟩ := H
        replace H : (if x7_1.length < 17592186044416 then (spec_DrawFuncOf.l0 k1 t529 (x7_1 ++ [t538]) (wrap64 (x8_1 + 1)) t525 t531 t532 t529 t530) else (none)) = some (r1, r2) := H
        have A13 := Aside0.mk A130
        clear A130
        by_cases c14 : x7_1.length < 17592186044416
        · rw [if_pos c14] at H
          have LMc14 := Aside0.mk c14
          clear c14
          obtain ⟨y539, hy539⟩ : ∃ y_ : List Int, y_ = (x7_1 ++ [t538]) := ⟨_, rfl⟩
          replace H : (spec_DrawFuncOf.l0 k1 t529 y539 (wrap64 (x8_1 + 1)) t525 t531 t532 t529 t530) = some (r1, r2) := by first | (rw [hy539]; with_reducible exact H) | (have H2_ := (Option.bind_some _ _).symm.trans H; rw [hy539]; with_reducible exact H2_) | (have H2_ := (Option.bind_some _ _).symm.trans H; with_reducible exact H2_) | with_reducible exact H | (rw [hy539]; exact H) | exact H
          have Ny539 := Aside0.mk hy539
          clear hy539
          have H' := Aside0.mk H
          clear H
          have hnb15 := NB533_528.out
          have hnc15 := NB528_533.out
          have hcz16_0 : wr.cell? ⟨gb533, 0, none⟩ = some (.int .i64 t529) := (blk_cell BK533.out 0).trans rfl
          have hcz16_1 : wr.cell? ⟨gb533, 1, none⟩ = some (.int .i64 t530) := (blk_cell BK533.out 1).trans rfl
          have hfz16_0 := blk_frozen BK533.out 0
          have hfz16_1 := blk_frozen BK533.out 1
          go_wp2_with (first | ((with_reducible refine gate_callee (f := 68) rfl ?_); refine goesL_ (some 19) rfl rfl Try.func68 (by kernel_rfl) rfl #[.int .i64 t529] rfl iAR ?_; (with_reducible refine (spec_l01Rows.calls t529 t537 _ A11.out).mono ?_); rintro e w' ⟨rfl, ⟨nd, rfl⟩⟩; refine ⟨_, rfl, ?_⟩) | ((with_reducible refine gate_callee (f := 69) rfl ?_); refine goesL_ (some 26) rfl rfl Try.func69 (by kernel_rfl) rfl #[.agg #[.int .i64 t529, .int .i64 t530], .int .i64 x8_1] rfl iAR ?_; (with_reducible refine (spec_l01At.calls t529 t530 x8_1 t538 _ A13.out).mono ?_); rintro e w17 ⟨rfl, hb⟩; refine ⟨_, rfl, ?_⟩; replace HO_7 := aa (Kd.R_below (by (with_reducible repeat (first | apply Kd.R_alloc | apply Kd.R_drewN | apply Kd.R_drew)); exact HO_7.out) hb); replace BK533 := aa (blk_below (iBK BK533.out) hb); replace HB := aa (below_step iHS hb); replace HI528 := aa (IsS81.below iHI hb); (try clear hb)) | ((with_reducible refine gate_builtin (b := .append) (xs := #[.tmp 23, .tmp 27]) rfl ?_); at_builtin; refine Kd.R_append (Kd.int .i64) (w0 := w) w.heap.size rfl (.tmp 23) (.tmp 27) 24 2 (.int .i64 0) 8 rfl Try.underlying24 info2 rfl (by decide) (by omega) u7 x7_1 t538 [.int .i64 t538] (fun _ => True) (fun _ => False) rfl rfl ?aP (fun _ hk => hk.elim) ?aF ?aO ?aB ?aS ?aL ?_; (case aP => exact rfl); (case aB => exact iHS); (case aF => exact (fun _ _ => trivial)); (case aO => exact (by (with_reducible repeat (first | apply Kd.R_alloc | apply Kd.R_drewN | apply Kd.R_drew)); exact HO_7.out)); (case aS => exact (below_size iHS)); (case aL => have := LMc14.out; omega); intro v540 w18 ho hb hg hat; rw [← Ny539.out] at ho; replace BK533 := aa (blk_grown (g := gb533) (o := .cells #[.int .i64 t529, .int .i64 t530] 27 (0, 0)) (iBK BK533.out) hg (Kd.R_ne HO_7.out BK533.out (by decide))); replace HI528 := aa (IsS81.grown iHI hg (IsS81.own_ne HI528.out HO_7.out (by decide))); replace HB := aa (hb); have HO541 := aa (ho); clear HO_7 ho hb hg hat))
          go_roundg k1
          case measure => have := HK1.out; omega
          case rel => exact ⟨(y539), (wrap64 (x8_1 + 1)), (by first | rfl | (simp; done) | (simp [*]; done)), H', ⟨by have := HK1.out; omega⟩, ⟨by (with_reducible repeat (first | apply Kd.R_alloc | apply Kd.R_drewN | apply Kd.R_drew)); exact HO541.out⟩, ⟨iBK BK533.out⟩, ⟨iHI⟩, ⟨iHS⟩⟩
        · rw [if_neg c14] at H
          exact absurd H (by simp)
      · rw [if_neg c12] at H
        have c12b0 : decide (x8_1 < t537) = false := decide_eq_false c12
        clear c12
        replace H := Option.bind_eq_some_iff.mp H
        obtain ⟨⟨t542, t543, t544⟩, A190, H⟩ := H
        replace H : (if t542 = 0 then ((spec_l01Pick.f t525 t543 t544 (([(-1), 5, wrap64 (t529 + 1)] : List Int))).bind fun bt548 => (some (bt548.1, x7_1))) else (if t542 = 1 then ((spec_l01Pick.f t525 t543 t544 (([2, (-1)] : List Int))).bind fun bt554 => (if 0 < (x7_1.length : Int) then (some (t529, (x7_1.set (0 : Int).toNat bt554.1))) else (none))) else (if t542 = 2 then (if x7_1.length < 17592186044416 then (some (t529, (x7_1 ++ [0]))) else (none)) else (some (t529, x7_1))))) = some (r1, r2) := H
        have A19 := Aside0.mk A190
        clear A190
        by_cases c20 : t542 = 0
        · rw [if_pos c20] at H
          have c20b0 : (t542 == 0) = true := beq_iff_eq.mpr c20
          have c20b1 : (t542 != 0) = false := bne_eq_false_iff_eq.mpr c20
          clear c20
          obtain ⟨y545, hy545⟩ : ∃ y_ : List Int, y_ = (([(-1), 5, wrap64 (t529 + 1)] : List Int)) := ⟨_, rfl⟩
          replace H : ((spec_l01Pick.f t525 t543 t544 y545).bind fun bt548 => (some (bt548.1, x7_1))) = some (r1, r2) := by first | (rw [hy545]; with_reducible exact H) | (have H2_ := (Option.bind_some _ _).symm.trans H; rw [hy545]; with_reducible exact H2_) | (have H2_ := (Option.bind_some _ _).symm.trans H; with_reducible exact H2_) | with_reducible exact H | (rw [hy545]; exact H) | exact H
          have Ny545 := Aside0.mk hy545
          clear hy545
          replace H := Option.bind_eq_some_iff.mp H
          obtain ⟨⟨t548, t549, t550⟩, A210, H⟩ := H
          replace H : (some (t548, x7_1)) = some (r1, r2) := H
          have A21 := Aside0.mk A210
          clear A210
          simp only [Option.some.injEq, Prod.mk.injEq] at H
          obtain ⟨rfl, rfl⟩ := H
          have hnb22 := NB533_528.out
          have hnc22 := NB528_533.out
          have hcz23_0 : wr.cell? ⟨gb533, 0, none⟩ = some (.int .i64 t529) := (blk_cell BK533.out 0).trans rfl
          have hcz23_1 : wr.cell? ⟨gb533, 1, none⟩ = some (.int .i64 t530) := (blk_cell BK533.out 1).trans rfl
          have hfz23_0 := blk_frozen BK533.out 0
          have hfz23_1 := blk_frozen BK533.out 1
          go_wp2_with (first | ((with_reducible refine gate_callee (f := 68) rfl ?_); refine goesL_ (some 19) rfl rfl Try.func68 (by kernel_rfl) rfl #[.int .i64 t529] rfl iAR ?_; (with_reducible refine (spec_l01Rows.calls t529 t537 _ A11.out).mono ?_); rintro e w' ⟨rfl, ⟨nd, rfl⟩⟩; refine ⟨_, rfl, ?_⟩) | ((with_reducible refine gate_callee (f := 118) rfl ?_); refine goesL_ (some 30) rfl rfl Try.func118 (by kernel_rfl) rfl #[.pointer (some ⟨g528, 0, none⟩), .int .i64 16] rfl iAR ?_; (with_reducible refine (spec_l01Next.calls g528 t525 t531 t532 16 t542 t543 t544 w _ ?side1 ?side2 A19.out).mono ?_); (case side1 => exact iHI); (case side2 => exact iHS); rintro e w24 ⟨rfl, hi, hb, hk⟩; refine ⟨_, rfl, ?_⟩; replace HO_7 := aa (Kd.R_mono (Kd.R_keep (IsS81.apart (show IsS81 w _ g528 t525 t531 t532 from iHI) (by (with_reducible repeat (first | apply Kd.R_alloc | apply Kd.R_drewN | apply Kd.R_drew)); exact HO_7.out) (by decide)) hk (fun _ h => h.2)) (fun _ h => h.1)); replace BK533 := aa (KeepBut.blk hk (iBK BK533.out) NB533_528.out (by simp)); replace HB := aa (hb); replace HI528 := aa (hi); (try clear hb); (try clear hk); (try clear hi)) | ((with_reducible refine gate_dst (N := 36) rfl ?_); refine Kd.R_lit (Kd.int .i64) _ 2 ?hg (N := 36) ?hd (xs := ([(-1), 5, wrap64 (t529 + 1)] : List Int)) (inner := [.int .i64 (-1), .int .i64 5, .int .i64 (wrap64 (t529 + 1))]) (ok := fun _ => True) (okp := fun _ => True) ?hr ?hp (fun _ hk => hk) trivial (Below.refl _ _) (Nat.le_refl _) (by simp) ?_; (case hd => rfl); (case hg => rfl); (case hr => first | (go_simp; done) | (go_simp; rfl)); (case hp => exact (Reps.one (show Kd.M (Kd.int .i64) _ _ _ (-1) [.int .i64 (-1)] from rfl) (Reps.one (show Kd.M (Kd.int .i64) _ _ _ 5 [.int .i64 5] from rfl) (Reps.one (show Kd.M (Kd.int .i64) _ _ _ (wrap64 (t529 + 1)) [.int .i64 (wrap64 (t529 + 1))] from rfl) (Reps.none _ _))))); intro v546 w25 ho26 hb hg_ hnew_; clear hg_ hnew_; (first | rw [← Ny545.out] at ho26 | (simp only [Int.reduceToNat] at ho26; rw [← Ny545.out] at ho26)); have HO547 := aa (Kd.R_lower (Kd.R_new' ho26 (Kd.R_lt (by (with_reducible repeat (first | apply Kd.R_alloc | apply Kd.R_drewN | apply Kd.R_drew)); exact HO_7.out))) (below_size iHS)); replace HO_7 := aa (Kd.R_elder' (by (with_reducible repeat (first | apply Kd.R_alloc | apply Kd.R_drewN | apply Kd.R_drew)); exact HO_7.out) (Kd.R_base ho26) hb); replace BK533 := aa (blk_below (iBK BK533.out) hb); replace HB := aa (below_step iHS hb); replace HI528 := aa (IsS81.below iHI hb); clear hb ho26; obtain ⟨Ao27, co27, eo27⟩ := Kd.R_slice HO547.out; subst eo27) | ((with_reducible refine gate_callee (f := 119) rfl ?_); refine goesL_ (some 37) rfl rfl Try.func119 (by kernel_rfl) rfl #[.pointer (some ⟨g528, 0, none⟩), .slice Ao27 y545.length co27] rfl iAR ?_; (with_reducible refine (spec_l01Pick.calls g528 t525 t543 t544 _ _ y545 t548 t549 t550 w _ ?side1 ?side2 ?side3 ?side4 ?side5 A21.out).mono ?_); (case side1 => exact iHI); (case side2 => exact iHS); (case side3 => repeat (first | exact (Kd.R_reads' HO547.out).2.2 | (with_reducible refine Kd.C_alloc ?_ _) | (with_reducible refine Kd.C_drewN ?_ _) | (with_reducible refine Kd.C_drew ?_))); (case side4 => exact (Kd.R_reads' HO547.out).2.1); (case side5 => exact far_slice (IsS81.own_ne HI528.out HO547.out (by decide))); rintro e w28 ⟨rfl, hi, hb, hk⟩; refine ⟨_, rfl, ?_⟩; replace HO_7 := aa (Kd.R_mono (Kd.R_keep (IsS81.apart (show IsS81 w _ g528 t525 t543 t544 from iHI) (by (with_reducible repeat (first | apply Kd.R_alloc | apply Kd.R_drewN | apply Kd.R_drew)); exact HO_7.out) (by decide)) hk (fun _ h => h.2)) (fun _ h => h.1)); replace BK533 := aa (KeepBut.blk hk (iBK BK533.out) NB533_528.out (by simp)); replace HO547 := aa (Kd.R_mono (Kd.R_keep (IsS81.apart (show IsS81 w _ g528 t525 t543 t544 from iHI) (by (with_reducible repeat (first | apply Kd.R_alloc | apply Kd.R_drewN | apply Kd.R_drew)); exact HO547.out) (by decide)) hk (fun _ h => h.2)) (fun _ h => h.1)); replace HB := aa (hb); replace HI528 := aa (hi); (try clear hb); (try clear hk); (try clear hi)))
          go_ret2
          exact ⟨_, by first | rfl | (simp [errW_none, errW_some] <;> rfl) | (simp [*, errW_none, errW_some] <;> rfl), by (with_reducible repeat (first | apply Kd.R_alloc | apply Kd.R_drewN | apply Kd.R_drew)); exact Kd.R_mono HO_7.out (fun _ hk => trivial), iHS⟩
        · rw [if_neg c20] at H
          have c20b0 : (t542 == 0) = false := beq_eq_false_iff_ne.mpr c20
          have c20b1 : (t542 != 0) = true := bne_iff_ne.mpr c20
          by_cases c29 : t542 = 1
          · rw [if_pos c29] at H
            have c29b0 : (t542 == 1) = true := beq_iff_eq.mpr c29
            have c29b1 : (t542 != 1) = false := bne_eq_false_iff_eq.mpr c29
            clear c29
            obtain ⟨y551, hy551⟩ : ∃ y_ : List Int, y_ = (([2, (-1)] : List Int)) := ⟨_, rfl⟩
            replace H : ((spec_l01Pick.f t525 t543 t544 y551).bind fun bt554 => (if 0 < (x7_1.length : Int) then (some (t529, (x7_1.set (0 : Int).toNat bt554.1))) else (none))) = some (r1, r2) := by first | (rw [hy551]; with_reducible exact H) | (have H2_ := (Option.bind_some _ _).symm.trans H; rw [hy551]; with_reducible exact H2_) | (have H2_ := (Option.bind_some _ _).symm.trans H; with_reducible exact H2_) | with_reducible exact H | (rw [hy551]; exact H) | exact H
            have Ny551 := Aside0.mk hy551
            clear hy551
            replace H := Option.bind_eq_some_iff.mp H
            obtain ⟨⟨t554, t555, t556⟩, A300, H⟩ := H
            replace H : (if 0 < (x7_1.length : Int) then (some (t529, (x7_1.set (0 : Int).toNat t554))) else (none)) = some (r1, r2) := H
            have A30 := Aside0.mk A300
            clear A300
            by_cases c31 : 0 < (x7_1.length : Int)
            · rw [if_pos c31] at H
              have c31b0 : decide (0 < (x7_1.length : Int)) = true := decide_eq_true c31
              have c31b1 : decide (0 < x7_1.length) = true := decide_eq_true (by omega)
              clear c31
              obtain ⟨y557, hy557⟩ : ∃ y_ : List Int, y_ = (x7_1.set (0 : Int).toNat t554) := ⟨_, rfl⟩
              replace H : (some (t529, y557)) = some (r1, r2) := by first | (rw [hy557]; with_reducible exact H) | (have H2_ := (Option.bind_some _ _).symm.trans H; rw [hy557]; with_reducible exact H2_) | (have H2_ := (Option.bind_some _ _).symm.trans H; with_reducible exact H2_) | with_reducible exact H | (rw [hy557]; exact H) | exact H
              have Ny557 := Aside0.mk hy557
              clear hy557
              simp only [Option.some.injEq, Prod.mk.injEq] at H
              obtain ⟨rfl, rfl⟩ := H
              have hnb33 := NB533_528.out
              have hnc33 := NB528_533.out
              have hcz34_0 : wr.cell? ⟨gb533, 0, none⟩ = some (.int .i64 t529) := (blk_cell BK533.out 0).trans rfl
              have hcz34_1 : wr.cell? ⟨gb533, 1, none⟩ = some (.int .i64 t530) := (blk_cell BK533.out 1).trans rfl
              have hfz34_0 := blk_frozen BK533.out 0
              have hfz34_1 := blk_frozen BK533.out 1
              go_wp2_with (first | ((with_reducible refine gate_callee (f := 68) rfl ?_); refine goesL_ (some 19) rfl rfl Try.func68 (by kernel_rfl) rfl #[.int .i64 t529] rfl iAR ?_; (with_reducible refine (spec_l01Rows.calls t529 t537 _ A11.out).mono ?_); rintro e w' ⟨rfl, ⟨nd, rfl⟩⟩; refine ⟨_, rfl, ?_⟩; (try (rw [drewN_self wr]; generalize hq_ : World.drewN wr _ = wr; replace HO_7 : Aside0 (Kd.R (Kd.int .i64) 2 wr w.heap.size (fun _ => True) u7 x7_1) := ⟨by rw [← hq_]; exact (by (with_reducible repeat (first | apply Kd.R_alloc | apply Kd.R_drewN | apply Kd.R_drew)); exact HO_7.out)⟩; replace BK533 : Aside0 (wr.heap[gb533]? = some (.cells #[.int .i64 t529, .int .i64 t530] 27 (0, 0))) := ⟨by rw [← hq_]; exact (iBK BK533.out)⟩; replace HB : Aside0 (Below w.heap.size w wr) := ⟨by rw [← hq_]; exact iHS⟩; replace HI528 : Aside0 (IsS81 w wr g528 t525 t531 t532) := ⟨by rw [← hq_]; exact iHI⟩; clear hq_))) | ((with_reducible refine gate_callee (f := 118) rfl ?_); refine goesL_ (some 30) rfl rfl Try.func118 (by kernel_rfl) rfl #[.pointer (some ⟨g528, 0, none⟩), .int .i64 16] rfl iAR ?_; (with_reducible refine (spec_l01Next.calls g528 t525 t531 t532 16 t542 t543 t544 w _ ?side1 ?side2 A19.out).mono ?_); (case side1 => exact iHI); (case side2 => exact iHS); rintro e w35 ⟨rfl, hi, hb, hk⟩; refine ⟨_, rfl, ?_⟩; replace HO_7 := aa (Kd.R_mono (Kd.R_keep (IsS81.apart (show IsS81 w _ g528 t525 t531 t532 from iHI) (by (with_reducible repeat (first | apply Kd.R_alloc | apply Kd.R_drewN | apply Kd.R_drew)); exact HO_7.out) (by decide)) hk (fun _ h => h.2)) (fun _ h => h.1)); replace BK533 := aa (KeepBut.blk hk (iBK BK533.out) NB533_528.out (by simp)); replace HB := aa (hb); replace HI528 := aa (hi); (try clear hb); (try clear hk); (try clear hi)) | ((with_reducible refine gate_dst (N := 42) rfl ?_); refine Kd.R_lit (Kd.int .i64) _ 2 ?hg (N := 42) ?hd (xs := ([2, (-1)] : List Int)) (inner := [.int .i64 2, .int .i64 (-1)]) (ok := fun _ => True) (okp := fun _ => True) ?hr ?hp (fun _ hk => hk) trivial (Below.refl _ _) (Nat.le_refl _) (by simp) ?_; (case hd => rfl); (case hg => rfl); (case hr => first | (go_simp; done) | (go_simp; rfl)); (case hp => exact (Reps.one (show Kd.M (Kd.int .i64) _ _ _ 2 [.int .i64 2] from rfl) (Reps.one (show Kd.M (Kd.int .i64) _ _ _ (-1) [.int .i64 (-1)] from rfl) (Reps.none _ _)))); intro v552 w36 ho37 hb hg_ hnew_; clear hg_ hnew_; (first | rw [← Ny551.out] at ho37 | (simp only [Int.reduceToNat] at ho37; rw [← Ny551.out] at ho37)); have HO553 := aa (Kd.R_lower (Kd.R_new' ho37 (Kd.R_lt (by (with_reducible repeat (first | apply Kd.R_alloc | apply Kd.R_drewN | apply Kd.R_drew)); exact HO_7.out))) (below_size iHS)); replace HO_7 := aa (Kd.R_elder' (by (with_reducible repeat (first | apply Kd.R_alloc | apply Kd.R_drewN | apply Kd.R_drew)); exact HO_7.out) (Kd.R_base ho37) hb); replace BK533 := aa (blk_below (iBK BK533.out) hb); replace HB := aa (below_step iHS hb); replace HI528 := aa (IsS81.below iHI hb); clear hb ho37; obtain ⟨Ao38, co38, eo38⟩ := Kd.R_slice HO553.out; subst eo38) | ((with_reducible refine gate_callee (f := 119) rfl ?_); refine goesL_ (some 43) rfl rfl Try.func119 (by kernel_rfl) rfl #[.pointer (some ⟨g528, 0, none⟩), .slice Ao38 y551.length co38] rfl iAR ?_; (with_reducible refine (spec_l01Pick.calls g528 t525 t543 t544 _ _ y551 t554 t555 t556 w _ ?side1 ?side2 ?side3 ?side4 ?side5 A30.out).mono ?_); (case side1 => exact iHI); (case side2 => exact iHS); (case side3 => repeat (first | exact (Kd.R_reads' HO553.out).2.2 | (with_reducible refine Kd.C_alloc ?_ _) | (with_reducible refine Kd.C_drewN ?_ _) | (with_reducible refine Kd.C_drew ?_))); (case side4 => exact (Kd.R_reads' HO553.out).2.1); (case side5 => exact far_slice (IsS81.own_ne HI528.out HO553.out (by decide))); rintro e w39 ⟨rfl, hi, hb, hk⟩; refine ⟨_, rfl, ?_⟩; replace HO_7 := aa (Kd.R_mono (Kd.R_keep (IsS81.apart (show IsS81 w _ g528 t525 t543 t544 from iHI) (by (with_reducible repeat (first | apply Kd.R_alloc | apply Kd.R_drewN | apply Kd.R_drew)); exact HO_7.out) (by decide)) hk (fun _ h => h.2)) (fun _ h => h.1)); replace BK533 := aa (KeepBut.blk hk (iBK BK533.out) NB533_528.out (by simp)); replace HO553 := aa (Kd.R_mono (Kd.R_keep (IsS81.apart (show IsS81 w _ g528 t525 t543 t544 from iHI) (by (with_reducible repeat (first | apply Kd.R_alloc | apply Kd.R_drewN | apply Kd.R_drew)); exact HO553.out) (by decide)) hk (fun _ h => h.2)) (fun _ h => h.1)); replace HB := aa (hb); replace HI528 := aa (hi); (try clear hb); (try clear hk); (try clear hi); have p32 : 0 ≤ (0 : Int) := (by omega); have q32 : (0 : Int) < ((x7_1.length : Int) : Int) := of_decide_eq_true (by first | (with_reducible assumption) | assumption); have qi32 : (0 < x7_1.length) = True := eq_true (by omega); obtain ⟨go32, co32, eo32, gb32, gl32, cl32, HG32⟩ := Kd.R_form HO_7.out (by omega); (first | cases eo32 | (injection eo32 with ea_ en_ ec_; (first | subst ea_ | (injection ea_ with ea_; subst ea_)); subst ec_; clear en_)); have GB32 := Aside0.mk gb32; have GG32 := Aside0.mk HG32; clear gb32 gl32 HG32; obtain ⟨hx32_0, hf32_0⟩ := Kd.R_celln 0 HO_7.out (0 : Int) p32 q32; (try rw [show ((0 : Int)).toNat = 0 from rfl] at hx32_0); (try simp only [Nat.reduceMul, Nat.zero_mul, Nat.zero_add, Nat.reduceAdd] at hx32_0); (try rw [show ((0 : Int)).toNat = 0 from rfl] at hf32_0); (try simp only [Nat.reduceMul, Nat.zero_mul, Nat.zero_add, Nat.reduceAdd] at hf32_0); replace p32 := eq_true p32; replace q32 := eq_true q32; have n_ := aa (Kd.R_mono (ok' := (fun k_ => some k_ ≠ (.slice Ao38 y551.length co38 : Value).ownBlock)) HO_7.out (fun k_ hk => hk.2)); clear HO_7; have HO_7 := n_; clear n_; obtain ⟨hy40_, hz40_⟩ := Kd.R_celln 0 HO_7.out (0 : Int) (by omega) (of_decide_eq_true (by first | (with_reducible assumption) | assumption)); (try simp only [Int.reduceToNat, Int.toNat_zero, Int.toNat_ofNat, Nat.reduceMul, Nat.zero_mul, Nat.zero_add] at hy40_ hz40_); (try rw [show ((0 : Int)).toNat = 0 from rfl] at hy40_); (try rw [show ((0 : Int)).toNat = 0 from rfl] at hz40_); have HP40 := Kd.R_putg HO_7.out (0 : Int) t554) | ((with_reducible refine gate_store (t := 2) (p := 44) rfl ?_); refine store_event (t := 2) (p := 44) (v := ?vo_w41) (w1 := (w39.setCell ⟨go32, (0 : Int).toNat, none⟩ (.int .i64 t554))) ?hg ?ho ?hn ?hr ?_; (case ho => rfl); (case hg => rfl); (case hn => rfl); (case hr => first | (go_simp; done) | (go_simp; rfl)); intro w41 hw; have hg : w39.grownBy w41 (some go32) := (by rw [hw]; exact HP40.2); have hp_ : Kd.R (Kd.int .i64) 2 w41 w.heap.size (fun k_ => some k_ ≠ (.slice Ao38 y551.length co38 : Value).ownBlock) (.slice (some ⟨go32, 0, none⟩) x7_1.length co32) y557 := (by rw [hw, Ny557.out]; exact HP40.1); clear HP40; replace BK533 := aa (blk_grown (g := gb533) (o := .cells #[.int .i64 t529, .int .i64 t530] 27 (0, 0)) (iBK BK533.out) hg (Kd.R_ne HO_7.out BK533.out (by decide))); replace HI528 := aa (IsS81.grown iHI hg (IsS81.own_ne HI528.out HO_7.out (by decide))); replace HO_7 := aa (hp_); replace HO553 := aa (Kd.R_after (v := (.slice (some ⟨go32, 0, none⟩) x7_1.length co32)) (v1 := (.slice (some ⟨go32, 0, none⟩) x7_1.length co32)) (ok := (fun _ => True)) (by (with_reducible repeat (first | apply Kd.R_alloc | apply Kd.R_drewN | apply Kd.R_drew)); exact HO553.out) hg (.inl rfl)); replace HB := aa ((by rw [hw]; exact below_set (HB.out) GB32.out : Below w.heap.size w w41)); clear hg hw hp_))
              go_ret2
              exact ⟨_, by first | rfl | (simp [errW_none, errW_some] <;> rfl) | (simp [*, errW_none, errW_some] <;> rfl), by (with_reducible repeat (first | apply Kd.R_alloc | apply Kd.R_drewN | apply Kd.R_drew)); exact Kd.R_mono HO_7.out (fun _ hk => trivial), iHS⟩
            · rw [if_neg c31] at H
              exact absurd H (by simp)
          · rw [if_neg c29] at H
            have c29b0 : (t542 == 1) = false := beq_eq_false_iff_ne.mpr c29
            have c29b1 : (t542 != 1) = true := bne_iff_ne.mpr c29
            by_cases c42 : t542 = 2
            · rw [if_pos c42] at H
              have c42b0 : (t542 == 2) = true := beq_iff_eq.mpr c42
              have c42b1 : (t542 != 2) = false := bne_eq_false_iff_eq.mpr c42
              clear c42
              by_cases c43 : x7_1.length < 17592186044416
              · rw [if_pos c43] at H
                have LMc43 := Aside0.mk c43
                clear c43
                obtain ⟨y558, hy558⟩ : ∃ y_ : List Int, y_ = (x7_1 ++ [0]) := ⟨_, rfl⟩
                replace H : (some (t529, y558)) = some (r1, r2) := by first | (rw [hy558]; with_reducible exact H) | (have H2_ := (Option.bind_some _ _).symm.trans H; rw [hy558]; with_reducible exact H2_) | (have H2_ := (Option.bind_some _ _).symm.trans H; with_reducible exact H2_) | with_reducible exact H | (rw [hy558]; exact H) | exact H
                have Ny558 := Aside0.mk hy558
                clear hy558
                simp only [Option.some.injEq, Prod.mk.injEq] at H
                obtain ⟨rfl, rfl⟩ := H
                have hnb44 := NB533_528.out
                have hnc44 := NB528_533.out
                have hcz45_0 : wr.cell? ⟨gb533, 0, none⟩ = some (.int .i64 t529) := (blk_cell BK533.out 0).trans rfl
                have hcz45_1 : wr.cell? ⟨gb533, 1, none⟩ = some (.int .i64 t530) := (blk_cell BK533.out 1).trans rfl
                have hfz45_0 := blk_frozen BK533.out 0
                have hfz45_1 := blk_frozen BK533.out 1
                go_wp2_with (first | ((with_reducible refine gate_callee (f := 68) rfl ?_); refine goesL_ (some 19) rfl rfl Try.func68 (by kernel_rfl) rfl #[.int .i64 t529] rfl iAR ?_; (with_reducible refine (spec_l01Rows.calls t529 t537 _ A11.out).mono ?_); rintro e w' ⟨rfl, ⟨nd, rfl⟩⟩; refine ⟨_, rfl, ?_⟩) | ((with_reducible refine gate_callee (f := 118) rfl ?_); refine goesL_ (some 30) rfl rfl Try.func118 (by kernel_rfl) rfl #[.pointer (some ⟨g528, 0, none⟩), .int .i64 16] rfl iAR ?_; (with_reducible refine (spec_l01Next.calls g528 t525 t531 t532 16 t542 t543 t544 w _ ?side1 ?side2 A19.out).mono ?_); (case side1 => exact iHI); (case side2 => exact iHS); rintro e w46 ⟨rfl, hi, hb, hk⟩; refine ⟨_, rfl, ?_⟩; replace HO_7 := aa (Kd.R_mono (Kd.R_keep (IsS81.apart (show IsS81 w _ g528 t525 t531 t532 from iHI) (by (with_reducible repeat (first | apply Kd.R_alloc | apply Kd.R_drewN | apply Kd.R_drew)); exact HO_7.out) (by decide)) hk (fun _ h => h.2)) (fun _ h => h.1)); replace BK533 := aa (KeepBut.blk hk (iBK BK533.out) NB533_528.out (by simp)); replace HB := aa (hb); replace HI528 := aa (hi); (try clear hb); (try clear hk); (try clear hi)) | ((with_reducible refine gate_builtin (b := .append) (xs := #[.tmp 47, .tmp 48]) rfl ?_); at_builtin; refine Kd.R_append (Kd.int .i64) (w0 := w) w.heap.size rfl (.tmp 47) (.tmp 48) 24 2 (.int .i64 0) 8 rfl Try.underlying24 info2 rfl (by decide) (by omega) u7 x7_1 0 [.int .i64 0] (fun _ => True) (fun _ => False) rfl rfl ?aP (fun _ hk => hk.elim) ?aF ?aO ?aB ?aS ?aL ?_; (case aP => exact rfl); (case aB => exact iHS); (case aF => exact (fun _ _ => trivial)); (case aO => exact (by (with_reducible repeat (first | apply Kd.R_alloc | apply Kd.R_drewN | apply Kd.R_drew)); exact HO_7.out)); (case aS => exact (below_size iHS)); (case aL => have := LMc43.out; omega); intro v559 w47 ho hb hg hat; rw [← Ny558.out] at ho; replace BK533 := aa (blk_grown (g := gb533) (o := .cells #[.int .i64 t529, .int .i64 t530] 27 (0, 0)) (iBK BK533.out) hg (Kd.R_ne HO_7.out BK533.out (by decide))); replace HI528 := aa (IsS81.grown iHI hg (IsS81.own_ne HI528.out HO_7.out (by decide))); replace HB := aa (hb); have HO560 := aa (ho); clear HO_7 ho hb hg hat))
                go_ret2
                exact ⟨_, by first | rfl | (simp [errW_none, errW_some] <;> rfl) | (simp [*, errW_none, errW_some] <;> rfl), by (with_reducible repeat (first | apply Kd.R_alloc | apply Kd.R_drewN | apply Kd.R_drew)); exact HO560.out, iHS⟩
              · rw [if_neg c43] at H
                exact absurd H (by simp)
            · rw [if_neg c42] at H
              have c42b0 : (t542 == 2) = false := beq_eq_false_iff_ne.mpr c42
              have c42b1 : (t542 != 2) = true := bne_iff_ne.mpr c42
              simp only [Option.some.injEq, Prod.mk.injEq] at H
              obtain ⟨rfl, rfl⟩ := H
              have hnb48 := NB533_528.out
              have hnc48 := NB528_533.out
              have hcz49_0 : wr.cell? ⟨gb533, 0, none⟩ = some (.int .i64 t529) := (blk_cell BK533.out 0).trans rfl
              have hcz49_1 : wr.cell? ⟨gb533, 1, none⟩ = some (.int .i64 t530) := (blk_cell BK533.out 1).trans rfl
              have hfz49_0 := blk_frozen BK533.out 0
              have hfz49_1 := blk_frozen BK533.out 1
              go_wp2_with (first | ((with_reducible refine gate_callee (f := 68) rfl ?_); refine goesL_ (some 19) rfl rfl Try.func68 (by kernel_rfl) rfl #[.int .i64 t529] rfl iAR ?_; (with_reducible refine (spec_l01Rows.calls t529 t537 _ A11.out).mono ?_); rintro e w' ⟨rfl, ⟨nd, rfl⟩⟩; refine ⟨_, rfl, ?_⟩) | ((with_reducible refine gate_callee (f := 118) rfl ?_); refine goesL_ (some 30) rfl rfl Try.func118 (by kernel_rfl) rfl #[.pointer (some ⟨g528, 0, none⟩), .int .i64 16] rfl iAR ?_; (with_reducible refine (spec_l01Next.calls g528 t525 t531 t532 16 t542 t543 t544 w _ ?side1 ?side2 A19.out).mono ?_); (case side1 => exact iHI); (case side2 => exact iHS); rintro e w50 ⟨rfl, hi, hb, hk⟩; refine ⟨_, rfl, ?_⟩; replace HO_7 := aa (Kd.R_mono (Kd.R_keep (IsS81.apart (show IsS81 w _ g528 t525 t531 t532 from iHI) (by (with_reducible repeat (first | apply Kd.R_alloc | apply Kd.R_drewN | apply Kd.R_drew)); exact HO_7.out) (by decide)) hk (fun _ h => h.2)) (fun _ h => h.1)); replace BK533 := aa (KeepBut.blk hk (iBK BK533.out) NB533_528.out (by simp)); replace HB := aa (hb); replace HI528 := aa (hi); (try clear hb); (try clear hk); (try clear hi)))
              go_ret2
              exact ⟨_, by first | rfl | (simp [errW_none, errW_some] <;> rfl) | (simp [*, errW_none, errW_some] <;> rfl), by (with_reducible repeat (first | apply Kd.R_alloc | apply Kd.R_drewN | apply Kd.R_drew)); exact HO_7.out, iHS⟩
def spec_DrawFuncOfPolynomial.f (k : Nat) (l0 : List Int) : Option (Int × List Int) := (spec_DrawFuncOf.f k l0).bind fun bt561 => (some (bt561.1, bt561.2))
set_option maxHeartbeats 8000000 in
set_option maxRecDepth 100000 in
theorem spec_DrawFuncOfPolynomial.calls (k : Nat) (A0 : Option Addr) (c0 : Nat) (l0 : List Int) (r1 : Int) (r2 : List Int) (w : World) (hr0 : Kd.C (Kd.int .u8) w A0 l0.length l0) (hc0 : l0.length ≤ c0) (h : spec_DrawFuncOfPolynomial.f k l0 = some (r1, r2)) :
    Calls Try.prog 63 #[.slice A0 l0.length c0] w fun e w' => ∃ v1_ : Value, e = .returned (.tuple #[.int .i64 r1, v1_]) ∧ Kd.R (Kd.int .i64) 2 w' w.heap.size (fun _ => True) v1_ r2 ∧ Below w.heap.size w w' := by
  have HR0 := Aside0.mk hr0
  have HC0 := Aside0.mk hc0
  clear hr0 hc0
  have HB := aa (Below.refl w.heap.size w)
  have H : ((spec_DrawFuncOf.f k l0).bind fun bt561 => (some (bt561.1, bt561.2))) = some (r1, r2) := h
  clear h
  replace H := Option.bind_eq_some_iff.mp H
  obtain ⟨⟨t561, t562⟩, A20, H⟩ := H
  replace H : (some (t561, t562)) = some (r1, r2) := H
  have A2 := Aside0.mk A20
  clear A20
  simp only [Option.some.injEq, Prod.mk.injEq] at H
  obtain ⟨rfl, rfl⟩ := H
  go_enter Try.func63, Try.ntmps63
  go_wp2_with (first | ((with_reducible refine gate_callee (f := 108) rfl ?_); refine goesL_ (some 8) rfl rfl Try.func108 (by kernel_rfl) rfl #[.slice A0 l0.length c0] rfl iAR ?_; (with_reducible refine (spec_DrawFuncOf.calls k _ _ l0 t561 t562 _ ?side1 ?side2 A2.out).mono ?_); (case side1 => repeat (first | exact HR0.out | (with_reducible refine Kd.C_alloc ?_ _) | (with_reducible refine Kd.C_drewN ?_ _) | (with_reducible refine Kd.C_drew ?_))); (case side2 => exact HC0.out); rintro e w3 ⟨v563, rfl, ho0, hb⟩; refine ⟨_, rfl, ?_⟩; have HO564 := aa (Kd.R_lower ho0 (below_size iHB)); replace HB := aa (below_step iHB hb); (try clear hb); (try clear ho0)))
  go_ret2
  exact ⟨_, by first | rfl | (simp [errW_none, errW_some] <;> rfl) | (simp [*, errW_none, errW_some] <;> rfl), by (with_reducible repeat (first | apply Kd.R_alloc | apply Kd.R_drewN | apply Kd.R_drew)); exact HO564.out, iHB⟩
end Go.Proofs.Ytdhfbgbclibagaa.P
