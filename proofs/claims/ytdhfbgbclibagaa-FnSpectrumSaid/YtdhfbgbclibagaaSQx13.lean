/- Functions of the given program and their contracts, written by a program of this session (gen.py) over the kit's print. -/
import Derived.Test.YtdhfbgbclibagaaSQx0
import Derived.Test.YtdhfbgbclibagaaSQx1
import Derived.Test.YtdhfbgbclibagaaSQx10
import Derived.Test.YtdhfbgbclibagaaSQx12
namespace Go.Proofs.Ytdhfbgbclibagaa.P
open Go.RowKit Go.Proofs.YtdhfbgbclibagaaW.PrintWords Go.Proofs.YtdhfbgbclibagaaW.PrintLast Go.Proofs.YtdhfbgbclibagaaW.PrintMore
attribute [local go_sem] max2_int min2_int max_two min_two max_three min_three max_four min_four   -- for this text's walks alone
set_option linter.unusedVariables false
set_option linter.unusedSimpArgs false
def spec_l01Draw.f (k : Nat) (s0_0 : List Int) (s0_1 : Int) (s0_2 : Int) : Option (Int × Int × Int × Int) := (spec_l01Pick.f s0_0 s0_1 s0_2 (([0, 1, 1, 2, 2, 2, 3, 3, 3, 4, 4] : List Int))).bind fun bt370 => ((spec_l01DrawOf.f k s0_0 bt370.2.1 bt370.2.2 bt370.1).bind fun bt373 => (some (bt373.1, bt373.2.1, bt373.2.2.1, bt373.2.2.2)))
set_option maxHeartbeats 8000000 in
set_option maxRecDepth 100000 in
theorem spec_l01Draw.calls (k : Nat) (g : Nat) (s0_0 : List Int) (s0_1 : Int) (s0_2 : Int) (r1 : Int) (r2 : Int) (r3 : Int) (r4 : Int) (w0 w : World) (hI : IsS81 w0 w g s0_0 s0_1 s0_2) (hB : Below w0.heap.size w0 w) (h : spec_l01Draw.f k s0_0 s0_1 s0_2 = some (r1, r2, r3, r4)) :
    Calls Try.prog 104 #[.pointer (some ⟨g, 0, none⟩)] w fun e w' => e = .returned (.agg #[.int .i64 r1, .int .i64 r2]) ∧ IsS81 w0 w' g s0_0 r3 r4 ∧ Below w0.heap.size w0 w' ∧ KeepBut w w' g none := by
  have hu27 := Try.underlying27
  have HI0 := Aside0.mk hI
  have HK := aa (KeepBut.refl w g none)
  have HL := Aside0.mk hB.size
  clear hI
  have HW0 := Aside0.mk hB.size
  have HB := Aside0.mk hB
  clear hB
  have H : ((spec_l01Pick.f s0_0 s0_1 s0_2 (([0, 1, 1, 2, 2, 2, 3, 3, 3, 4, 4] : List Int))).bind fun bt370 => ((spec_l01DrawOf.f k s0_0 bt370.2.1 bt370.2.2 bt370.1).bind fun bt373 => (some (bt373.1, bt373.2.1, bt373.2.2.1, bt373.2.2.2)))) = some (r1, r2, r3, r4) := h
  clear h
  obtain ⟨y367, hy367⟩ : ∃ y_ : List Int, y_ = (([0, 1, 1, 2, 2, 2, 3, 3, 3, 4, 4] : List Int)) := ⟨_, rfl⟩
  replace H : ((spec_l01Pick.f s0_0 s0_1 s0_2 y367).bind fun bt370 => ((spec_l01DrawOf.f k s0_0 bt370.2.1 bt370.2.2 bt370.1).bind fun bt373 => (some (bt373.1, bt373.2.1, bt373.2.2.1, bt373.2.2.2)))) = some (r1, r2, r3, r4) := by first | (rw [hy367]; with_reducible exact H) | (have H2_ := (Option.bind_some _ _).symm.trans H; rw [hy367]; with_reducible exact H2_) | (have H2_ := (Option.bind_some _ _).symm.trans H; with_reducible exact H2_) | with_reducible exact H | (rw [hy367]; exact H) | exact H
  have Ny367 := Aside0.mk hy367
  clear hy367
  replace H := Option.bind_eq_some_iff.mp H
  obtain ⟨⟨t370, t371, t372⟩, A20, H⟩ := H
  replace H : ((spec_l01DrawOf.f k s0_0 t371 t372 t370).bind fun bt373 => (some (bt373.1, bt373.2.1, bt373.2.2.1, bt373.2.2.2))) = some (r1, r2, r3, r4) := H
  have A2 := Aside0.mk A20
  clear A20
  replace H := Option.bind_eq_some_iff.mp H
  obtain ⟨⟨t373, t374, t375, t376⟩, A30, H⟩ := H
  replace H : (some (t373, t374, t375, t376)) = some (r1, r2, r3, r4) := H
  have A3 := Aside0.mk A30
  clear A30
  simp only [Option.some.injEq, Prod.mk.injEq] at H
  obtain ⟨rfl, rfl, rfl, rfl⟩ := H
  go_enter Try.func104, Try.ntmps104
  go_wp2_with (first | ((with_reducible refine gate_dst (N := 2) rfl ?_); refine box_event ?hg (N := 2) ?hd (cs := #[.int .i64 0, .int .i64 0]) (t := 27) ?hr ?_; (case hd => rfl); (case hg => rfl); (case hr => first | (go_simp; done) | (go_simp; rfl)); intro gb366 hg w4 hbox hb; have n0_ := aa (IsS81.below iHI hb); have n1_ := aa (KeepBut.trans (w := w) iHK (KeepBut.of_below hb g none) (.inl rfl)); have n2_ := aa (below_step iHS hb); have n3_ := aa (hbox); have n4_ := aa ((by rw [hg]; exact (keep_size (w := w) (g := g) (row := none) iHK) : w.heap.size ≤ gb366)); have n5_ := aa ((Nat.le_trans HW0.out (by rw [hg]; exact (keep_size (w := w) (g := g) (row := none) iHK) : w.heap.size ≤ gb366) : w0.heap.size ≤ gb366)); have n6_ := aa ((by rw [hg]; exact Nat.ne_of_lt (IsS81.lt (show IsS81 w0 _ g s0_0 s0_1 s0_2 from iHI)) : g ≠ gb366)); have n7_ := aa ((by rw [hg]; exact Nat.ne_of_gt (IsS81.lt (show IsS81 w0 _ g s0_0 s0_1 s0_2 from iHI)) : gb366 ≠ g)); clear HI0; clear HK; clear HB; have HI0 := n0_; have HK := n1_; have HB := n2_; have BK366 := n3_; have GW366 := n4_; have GE366 := n5_; have NB0_366 := n6_; have NB366_0 := n7_; clear n0_ n1_ n2_ n3_ n4_ n5_ n6_ n7_; clear hb hbox hg) | ((with_reducible refine gate_dst (N := 5) rfl ?_); refine Kd.R_lit (Kd.int .i64) _ 2 ?hg (N := 5) ?hd (xs := ([0, 1, 1, 2, 2, 2, 3, 3, 3, 4, 4] : List Int)) (inner := [.int .i64 0, .int .i64 1, .int .i64 1, .int .i64 2, .int .i64 2, .int .i64 2, .int .i64 3, .int .i64 3, .int .i64 3, .int .i64 4, .int .i64 4]) (ok := fun _ => True) (okp := fun _ => True) ?hr ?hp (fun _ hk => hk) trivial (Below.refl _ _) (Nat.le_refl _) (by simp) ?_; (case hd => rfl); (case hg => rfl); (case hr => first | (go_simp; done) | (go_simp; rfl)); (case hp => exact (Reps.one (show Kd.M (Kd.int .i64) _ _ _ 0 [.int .i64 0] from rfl) (Reps.one (show Kd.M (Kd.int .i64) _ _ _ 1 [.int .i64 1] from rfl) (Reps.one (show Kd.M (Kd.int .i64) _ _ _ 1 [.int .i64 1] from rfl) (Reps.one (show Kd.M (Kd.int .i64) _ _ _ 2 [.int .i64 2] from rfl) (Reps.one (show Kd.M (Kd.int .i64) _ _ _ 2 [.int .i64 2] from rfl) (Reps.one (show Kd.M (Kd.int .i64) _ _ _ 2 [.int .i64 2] from rfl) (Reps.one (show Kd.M (Kd.int .i64) _ _ _ 3 [.int .i64 3] from rfl) (Reps.one (show Kd.M (Kd.int .i64) _ _ _ 3 [.int .i64 3] from rfl) (Reps.one (show Kd.M (Kd.int .i64) _ _ _ 3 [.int .i64 3] from rfl) (Reps.one (show Kd.M (Kd.int .i64) _ _ _ 4 [.int .i64 4] from rfl) (Reps.one (show Kd.M (Kd.int .i64) _ _ _ 4 [.int .i64 4] from rfl) (Reps.none _ _))))))))))))); intro v368 w5 ho6 hb hg_ hnew_; clear hg_ hnew_; (first | rw [← Ny367.out] at ho6 | (simp only [Int.reduceToNat] at ho6; rw [← Ny367.out] at ho6)); have n0_ := aa (Kd.R_lower ho6 (keep_size (w := w) (g := g) (row := none) iHK)); have n1_ := aa (IsS81.below iHI hb); have n2_ := aa (blk_below (g := gb366) (o := .cells #[.int .i64 0, .int .i64 0] 27 (0, 0)) (iBK BK366.out) hb); have n3_ := aa (KeepBut.trans (w := w) iHK (KeepBut.of_below hb g none) (.inl rfl)); have n4_ := aa (below_step iHS hb); clear HI0; clear BK366; clear HK; clear HB; have HO369 := n0_; have HI0 := n1_; have BK366 := n2_; have HK := n3_; have HB := n4_; clear n0_ n1_ n2_ n3_ n4_; clear hb ho6; obtain ⟨Ao7, co7, eo7⟩ := Kd.R_slice HO369.out; subst eo7) | ((with_reducible refine gate_callee (f := 119) rfl ?_); refine goesL_ (some 6) rfl rfl Try.func119 (by kernel_rfl) rfl #[.pointer (some ⟨g, 0, none⟩), .slice Ao7 y367.length co7] rfl iAR ?_; (with_reducible refine (spec_l01Pick.calls g s0_0 s0_1 s0_2 _ _ y367 t370 t371 t372 w0 _ ?side1 ?side2 ?side3 ?side4 ?side5 A2.out).mono ?_); (case side1 => exact iHI); (case side2 => exact iHS); (case side3 => repeat (first | exact (Kd.R_reads' HO369.out).2.2 | (with_reducible refine Kd.C_alloc ?_ _) | (with_reducible refine Kd.C_drewN ?_ _) | (with_reducible refine Kd.C_drew ?_))); (case side4 => exact (Kd.R_reads' HO369.out).2.1); (case side5 => exact far_slice (IsS81.own_ne HI0.out HO369.out (by decide))); rintro e w8 ⟨rfl, hi, hb, hk⟩; refine ⟨_, rfl, ?_⟩; have n0_ := aa (KeepBut.blk hk (g' := gb366) (o := .cells #[.int .i64 0, .int .i64 0] 27 (0, 0)) (iBK BK366.out) NB366_0.out (by simp)); have n1_ := aa (Kd.R_mono (Kd.R_keep (IsS81.apart (show IsS81 w0 _ g s0_0 s0_1 s0_2 from iHI) (by (with_reducible repeat (first | apply Kd.R_alloc | apply Kd.R_drewN | apply Kd.R_drew)); exact HO369.out) (by decide)) hk (fun _ h => h.2)) (fun _ h => h.1)); have n2_ := aa (KeepBut.trans (w := w) iHK hk (.inl rfl)); have n3_ := aa (hb); have n4_ := aa (hi); clear BK366; clear HO369; clear HK; clear HB; clear HI0; have BK366 := n0_; have HO369 := n1_; have HK := n2_; have HB := n3_; have HI0 := n4_; clear n0_ n1_ n2_ n3_ n4_; (try clear hb); (try clear hb2); (try clear hk); (try clear hi)) | ((with_reducible refine gate_callee (f := 123) rfl ?_); refine goesL_ (some 7) rfl rfl Try.func123 (by kernel_rfl) rfl #[.pointer (some ⟨g, 0, none⟩), .int .i64 t370] rfl iAR ?_; (with_reducible refine (spec_l01DrawOf.calls k g s0_0 t371 t372 t370 t373 t374 t375 t376 w0 _ ?side1 ?side2 A3.out).mono ?_); (case side1 => exact iHI); (case side2 => exact iHS); rintro e w9 ⟨rfl, hi, hb, hk⟩; refine ⟨_, rfl, ?_⟩; have n0_ := aa (KeepBut.blk hk (g' := gb366) (o := .cells #[.int .i64 0, .int .i64 0] 27 (0, 0)) (iBK BK366.out) NB366_0.out (by simp)); have n1_ := aa (Kd.R_mono (Kd.R_keep (IsS81.apart (show IsS81 w0 _ g s0_0 t371 t372 from iHI) (by (with_reducible repeat (first | apply Kd.R_alloc | apply Kd.R_drewN | apply Kd.R_drew)); exact HO369.out) (by decide)) hk (fun _ h => h.2)) (fun _ h => h.1)); have n2_ := aa (KeepBut.trans (w := w) iHK hk (.inl rfl)); have n3_ := aa (hb); have n4_ := aa (hi); clear BK366; clear HO369; clear HK; clear HB; clear HI0; have BK366 := n0_; have HO369 := n1_; have HK := n2_; have HB := n3_; have HI0 := n4_; clear n0_ n1_ n2_ n3_ n4_; (try clear hb); (try clear hb2); (try clear hk); (try clear hi); have hnb10 := NB366_0.out; have hnc10 := NB0_366.out; have hcz11_0 : w9.cell? ⟨gb366, 0, none⟩ = some (.int .i64 0) := (blk_cell BK366.out 0).trans rfl; have hcz11_1 : w9.cell? ⟨gb366, 1, none⟩ = some (.int .i64 0) := (blk_cell BK366.out 1).trans rfl; have hfz11_0 := blk_frozen BK366.out 0; have hfz11_1 := blk_frozen BK366.out 1))
  refine bodyPost_ret (results_cell_row rfl _ _ gb366 27 #[.int .i64 t373, .int .i64 t374] (0, 0) _ rfl (by (with_reducible repeat (first | refine blk_drewN ?_ _ | refine blk_drew ?_ | refine blk_alloc ?_ _)); refine blk_put (cs := #[.int .i64 t373, .int .i64 0]) ?_ 1 _ rfl; (with_reducible repeat (first | refine blk_drewN ?_ _ | refine blk_drew ?_ | refine blk_alloc ?_ _)); refine blk_put (cs := #[.int .i64 0, .int .i64 0]) ?_ 0 _ rfl; exact iBK BK366.out) Try.underlying27 rfl (by kernel_rfl)) rfl ?_
  exact ⟨by first | rfl | (simp [errW_none, errW_some] <;> rfl) | (simp [*, errW_none, errW_some] <;> rfl), iHI, iHS, iHK⟩
def spec_l01Bad.f (s0_0 : List Int) (s0_1 : Int) (s0_2 : Int) (a1_0 : Int) (a1_1 : Int) : Option (Int × Int × Int × Int) := (spec_l01Next.f s0_0 s0_1 s0_2 50).bind fun bt379 => (if bt379.1 = 0 then ((spec_l01Pick.f s0_0 bt379.2.1 bt379.2.2 (([(-1), 5, 1099511627776] : List Int))).bind fun bt385 => (some (bt385.1, a1_1, bt385.2.1, bt385.2.2))) else (if bt379.1 = 1 then ((spec_l01All.f a1_0).bind fun t388 => ((spec_l01Pick.f s0_0 bt379.2.1 bt379.2.2 (([(-1), wrap64 (t388 + 1), 1099511627776] : List Int))).bind fun bt392 => (some (a1_0, bt392.1, bt392.2.1, bt392.2.2)))) else (some (a1_0, a1_1, bt379.2.1, bt379.2.2))))
def spec_l01Bad.T5 : Bool × List (List Nat × List Nat) := (true, [([], []), ([0], [0]), ([], []), ([], []), ([3], [3]), ([4], [4]), ([5], [5]), ([6], [6]), ([2, 7, 5], [2, 7]), ([1, 8], [1, 8]), ([9, 8, 0, 1, 2, 3, 4, 5, 6, 7, 8, 9], [9])])
def spec_l01Bad.B5 : List Nat := [0, 1, 0, 0, 8, 24, 56, 120, 252, 511, 1023]
theorem spec_l01Bad.tab5 : rtab .any (opsOf Try.f106 5) = spec_l01Bad.T5 := by kernel_rfl
theorem spec_l01Bad.bits5 : waitsOk spec_l01Bad.T5.2 spec_l01Bad.B5 = true := by kernel_rfl
set_option maxHeartbeats 8000000 in
set_option maxRecDepth 100000 in
theorem spec_l01Bad.calls (g : Nat) (s0_0 : List Int) (s0_1 : Int) (s0_2 : Int) (a1_0 : Int) (a1_1 : Int) (r1 : Int) (r2 : Int) (r3 : Int) (r4 : Int) (w0 w : World) (hI : IsS81 w0 w g s0_0 s0_1 s0_2) (hB : Below w0.heap.size w0 w) (h : spec_l01Bad.f s0_0 s0_1 s0_2 a1_0 a1_1 = some (r1, r2, r3, r4)) :
    Calls Try.prog 106 #[.pointer (some ⟨g, 0, none⟩), .agg #[.int .i64 a1_0, .int .i64 a1_1]] w fun e w' => e = .returned (.agg #[.int .i64 r1, .int .i64 r2]) ∧ IsS81 w0 w' g s0_0 r3 r4 ∧ Below w0.heap.size w0 w' ∧ KeepBut w w' g none := by
  have hu27 := Try.underlying27
  have HI0 := Aside0.mk hI
  have HK := aa (KeepBut.refl w g none)
  have HL := Aside0.mk hB.size
  clear hI
  have HW0 := Aside0.mk hB.size
  have HB := Aside0.mk hB
  clear hB
  have H : ((spec_l01Next.f s0_0 s0_1 s0_2 50).bind fun bt379 => (if bt379.1 = 0 then ((spec_l01Pick.f s0_0 bt379.2.1 bt379.2.2 (([(-1), 5, 1099511627776] : List Int))).bind fun bt385 => (some (bt385.1, a1_1, bt385.2.1, bt385.2.2))) else (if bt379.1 = 1 then ((spec_l01All.f a1_0).bind fun t388 => ((spec_l01Pick.f s0_0 bt379.2.1 bt379.2.2 (([(-1), wrap64 (t388 + 1), 1099511627776] : List Int))).bind fun bt392 => (some (a1_0, bt392.1, bt392.2.1, bt392.2.2)))) else (some (a1_0, a1_1, bt379.2.1, bt379.2.2))))) = some (r1, r2, r3, r4) := h
  clear h
  replace H := Option.bind_eq_some_iff.mp H
  obtain ⟨⟨t379, t380, t381⟩, A30, H⟩ := H
  replace H : (if t379 = 0 then ((spec_l01Pick.f s0_0 t380 t381 (([(-1), 5, 1099511627776] : List Int))).bind fun bt385 => (some (bt385.1, a1_1, bt385.2.1, bt385.2.2))) else (if t379 = 1 then ((spec_l01All.f a1_0).bind fun t388 => ((spec_l01Pick.f s0_0 t380 t381 (([(-1), wrap64 (t388 + 1), 1099511627776] : List Int))).bind fun bt392 => (some (a1_0, bt392.1, bt392.2.1, bt392.2.2)))) else (some (a1_0, a1_1, t380, t381)))) = some (r1, r2, r3, r4) := H
  have A3 := Aside0.mk A30
  clear A30
  by_cases c4 : t379 = 0
  · rw [if_pos c4] at H
    have c4b0 : (t379 == 0) = true := beq_iff_eq.mpr c4
    have c4b1 : (t379 != 0) = false := bne_eq_false_iff_eq.mpr c4
    clear c4
    obtain ⟨y382, hy382⟩ : ∃ y_ : List Int, y_ = (([(-1), 5, 1099511627776] : List Int)) := ⟨_, rfl⟩
    replace H : ((spec_l01Pick.f s0_0 t380 t381 y382).bind fun bt385 => (some (bt385.1, a1_1, bt385.2.1, bt385.2.2))) = some (r1, r2, r3, r4) := by first | (rw [hy382]; with_reducible exact H) | (have H2_ := (Option.bind_some _ _).symm.trans H; rw [hy382]; with_reducible exact H2_) | (have H2_ := (Option.bind_some _ _).symm.trans H; with_reducible exact H2_) | with_reducible exact H | (rw [hy382]; exact H) | exact H
    have Ny382 := Aside0.mk hy382
    clear hy382
    replace H := Option.bind_eq_some_iff.mp H
    obtain ⟨⟨t385, t386, t387⟩, A50, H⟩ := H
    replace H : (some (t385, a1_1, t386, t387)) = some (r1, r2, r3, r4) := H
    have A5 := Aside0.mk A50
    clear A50
    simp only [Option.some.injEq, Prod.mk.injEq] at H
    obtain ⟨rfl, rfl, rfl, rfl⟩ := H
    go_enter Try.func106, Try.ntmps106
    try go_wp2_with (first | ((with_reducible refine gate_dst (N := 3) rfl ?_); refine box_event ?hg (N := 3) ?hd (cs := #[.int .i64 a1_0, .int .i64 a1_1]) (t := 27) ?hr ?_; (case hd => rfl); (case hg => rfl); (case hr => first | (go_simp; done) | (go_simp; rfl)); intro gb377 hg w6 hbox hb; have n0_ := aa (IsS81.below iHI hb); have n1_ := aa (KeepBut.trans (w := w) iHK (KeepBut.of_below hb g none) (.inl rfl)); have n2_ := aa (below_step iHS hb); have n3_ := aa (hbox); have n4_ := aa ((by rw [hg]; exact (keep_size (w := w) (g := g) (row := none) iHK) : w.heap.size ≤ gb377)); have n5_ := aa ((Nat.le_trans HW0.out (by rw [hg]; exact (keep_size (w := w) (g := g) (row := none) iHK) : w.heap.size ≤ gb377) : w0.heap.size ≤ gb377)); have n6_ := aa ((by rw [hg]; exact Nat.ne_of_lt (IsS81.lt (show IsS81 w0 _ g s0_0 s0_1 s0_2 from iHI)) : g ≠ gb377)); have n7_ := aa ((by rw [hg]; exact Nat.ne_of_gt (IsS81.lt (show IsS81 w0 _ g s0_0 s0_1 s0_2 from iHI)) : gb377 ≠ g)); clear HI0; clear HK; clear HB; have HI0 := n0_; have HK := n1_; have HB := n2_; have BK377 := n3_; have GW377 := n4_; have GE377 := n5_; have NB0_377 := n6_; have NB377_0 := n7_; clear n0_ n1_ n2_ n3_ n4_ n5_ n6_ n7_; clear hb hbox hg) | ((with_reducible refine gate_dst (N := 4) rfl ?_); refine box_event ?hg (N := 4) ?hd (cs := #[.int .i64 0, .int .i64 0]) (t := 27) ?hr ?_; (case hd => rfl); (case hg => rfl); (case hr => first | (go_simp; done) | (go_simp; rfl)); intro gb378 hg w7 hbox hb; have n0_ := aa (IsS81.below iHI hb); have n1_ := aa (blk_below (g := gb377) (o := .cells #[.int .i64 a1_0, .int .i64 a1_1] 27 (0, 0)) (iBK BK377.out) hb); have n2_ := aa (KeepBut.trans (w := w) iHK (KeepBut.of_below hb g none) (.inl rfl)); have n3_ := aa (below_step iHS hb); have n4_ := aa (hbox); have n5_ := aa ((by rw [hg]; exact (keep_size (w := w) (g := g) (row := none) iHK) : w.heap.size ≤ gb378)); have n6_ := aa ((Nat.le_trans HW0.out (by rw [hg]; exact (keep_size (w := w) (g := g) (row := none) iHK) : w.heap.size ≤ gb378) : w0.heap.size ≤ gb378)); have n7_ := aa ((by rw [hg]; exact Nat.ne_of_lt (blk_lt (g := gb377) (o := .cells #[.int .i64 a1_0, .int .i64 a1_1] 27 (0, 0)) (iBK BK377.out)) : gb377 ≠ gb378)); have n8_ := aa ((by rw [hg]; exact Nat.ne_of_gt (blk_lt (g := gb377) (o := .cells #[.int .i64 a1_0, .int .i64 a1_1] 27 (0, 0)) (iBK BK377.out)) : gb378 ≠ gb377)); have n9_ := aa ((by rw [hg]; exact Nat.ne_of_lt (IsS81.lt (show IsS81 w0 _ g s0_0 s0_1 s0_2 from iHI)) : g ≠ gb378)); have n10_ := aa ((by rw [hg]; exact Nat.ne_of_gt (IsS81.lt (show IsS81 w0 _ g s0_0 s0_1 s0_2 from iHI)) : gb378 ≠ g)); clear HI0; clear BK377; clear HK; clear HB; have HI0 := n0_; have BK377 := n1_; have HK := n2_; have HB := n3_; have BK378 := n4_; have GW378 := n5_; have GE378 := n6_; have NB377_378 := n7_; have NB378_377 := n8_; have NB0_378 := n9_; have NB378_0 := n10_; clear n0_ n1_ n2_ n3_ n4_ n5_ n6_ n7_ n8_ n9_ n10_; clear hb hbox hg) | ((with_reducible refine gate_callee (f := 118) rfl ?_); refine goesL_ (some 6) rfl rfl Try.func118 (by kernel_rfl) rfl #[.pointer (some ⟨g, 0, none⟩), .int .i64 50] rfl iAR ?_; (with_reducible refine (spec_l01Next.calls g s0_0 s0_1 s0_2 50 t379 t380 t381 w0 _ ?side1 ?side2 A3.out).mono ?_); (case side1 => exact iHI); (case side2 => exact iHS); rintro e w8 ⟨rfl, hi, hb, hk⟩; refine ⟨_, rfl, ?_⟩; have n0_ := aa (KeepBut.blk hk (g' := gb377) (o := .cells #[.int .i64 a1_0, .int .i64 a1_1] 27 (0, 0)) (iBK BK377.out) NB377_0.out (by simp)); have n1_ := aa (KeepBut.blk hk (g' := gb378) (o := .cells #[.int .i64 0, .int .i64 0] 27 (0, 0)) (iBK BK378.out) NB378_0.out (by simp)); have n2_ := aa (KeepBut.trans (w := w) iHK hk (.inl rfl)); have n3_ := aa (hb); have n4_ := aa (hi); clear BK377; clear BK378; clear HK; clear HB; clear HI0; have BK377 := n0_; have BK378 := n1_; have HK := n2_; have HB := n3_; have HI0 := n4_; clear n0_ n1_ n2_ n3_ n4_; (try clear hb); (try clear hb2); (try clear hk); (try clear hi)))
    have n0_ := aa (blk_drew BK377.out)
    have n1_ := aa (blk_drew BK378.out)
    have n2_ := aa (IsS81.drew HI0.out)
    have n3_ := aa (keep_drew HK.out)
    have n4_ := aa (below_drew1 HB.out)
    clear BK377
    clear BK378
    clear HI0
    clear HK
    clear HB
    have BK377 := n0_
    have BK378 := n1_
    have HI0 := n2_
    have HK := n3_
    have HB := n4_
    clear n0_ n1_ n2_ n3_ n4_
    refine start_ (n := 7) (S := fun w' => w'.cell? ⟨gb377, 0, none⟩ = some (.int .i64 a1_0) ∧ w'.cell? ⟨gb377, 1, none⟩ = some (.int .i64 a1_1)) (ds := []) #[false, false, false, false, false, false, false] (by kernel_rfl) rfl rfl ⟨(blk_cell BK377.out 0).trans rfl, (blk_cell BK377.out 1).trans rfl⟩ (fun hHeld => ?_)
    generalize w8.drew = w9 at BK377 BK378 HI0 HK HB hHeld ⊢
    refine pure_ (i := 0) (N := some 9) (v := ?_) (a' := ?_) #[true, false, false, false, false, false, false] rfl rfl (by kernel_rfl) (fun _ _ _ h => h) (Or.inl ⟨by rfl, ?_⟩) ?_ ?_
    rotate_left
    · intro w'
      go_simp
      with_reducible rfl
    rotate_left
    · simp only [Act.put, List.setIfInBounds_toArray, List.set_cons_zero, List.set_cons_succ, i64_w, i32_w]
      rfl
    refine pure_ (i := 3) (N := some 12) (v := ?_) (a' := ?_) #[true, false, false, true, false, false, false] rfl rfl (by kernel_rfl) (fun _ _ _ h => h) (Or.inl ⟨by rfl, ?_⟩) ?_ ?_
    rotate_left
    · intro w'
      go_simp
      with_reducible rfl
    rotate_left
    · simp only [Act.put, List.setIfInBounds_toArray, List.set_cons_zero, List.set_cons_succ, i64_w, i32_w]
      rfl
    refine take_ (i := 4) (N := some 13) (v := ?_) (a' := ?_) #[true, false, false, true, true, false, false] rfl rfl (by kernel_rfl) (fun _ _ _ h => h) (Or.inl ⟨by rfl, ?_⟩) hHeld ?_ ?_
    rotate_left
    · rintro w' ⟨s0, s1⟩
      go_simp
      with_reducible rfl
    rotate_left
    · simp only [Act.put, List.setIfInBounds_toArray, List.set_cons_zero, List.set_cons_succ, i64_w, i32_w]
      rfl
    refine one_ (i := 1) (N := some 10) #[true, true, false, true, true, false, false] rfl rfl (by kernel_rfl) (by decide) (fun K hK => ?_)
    refine Kd.R_lit_step (Kd.int .i64) _ 2 ?hg (N := 10) ?hd (xs := ([(-1), 5, 1099511627776] : List Int)) (inner := [.int .i64 (-1), .int .i64 5, .int .i64 1099511627776]) (ok := fun _ => True) (okp := fun _ => True) ?hr ?hp (fun _ hk => hk) trivial (Below.refl _ _) (Nat.le_refl _) (by simp) ?_; (case hd => rfl); (case hg => rfl); (case hr => first | (go_simp; done) | (go_simp; rfl)); (case hp => exact (Reps.one (show Kd.M (Kd.int .i64) _ _ _ (-1) [.int .i64 (-1)] from rfl) (Reps.one (show Kd.M (Kd.int .i64) _ _ _ 5 [.int .i64 5] from rfl) (Reps.one (show Kd.M (Kd.int .i64) _ _ _ 1099511627776 [.int .i64 1099511627776] from rfl) (Reps.none _ _)))))
    intro v383 w10 ho11 hb hg_ hnew_
    clear hg_ hnew_
    (first | rw [← Ny382.out] at ho11 | (simp only [Int.reduceToNat] at ho11; rw [← Ny382.out] at ho11))
    have n0_ := aa (Kd.R_lower ho11 (keep_size (w := w) (g := g) (row := none) iHK))
    have n1_ := aa (IsS81.below iHI hb)
    have n2_ := aa (blk_below (g := gb377) (o := .cells #[.int .i64 a1_0, .int .i64 a1_1] 27 (0, 0)) (iBK BK377.out) hb)
    have n3_ := aa (blk_below (g := gb378) (o := .cells #[.int .i64 0, .int .i64 0] 27 (0, 0)) (iBK BK378.out) hb)
    have n4_ := aa (KeepBut.trans (w := w) iHK (KeepBut.of_below hb g none) (.inl rfl))
    have n5_ := aa (below_step iHS hb)
    clear HI0
    clear BK377
    clear BK378
    clear HK
    clear HB
    have HO384 := n0_
    have HI0 := n1_
    have BK377 := n2_
    have BK378 := n3_
    have HK := n4_
    have HB := n5_
    clear n0_ n1_ n2_ n3_ n4_ n5_
    clear hb ho11
    obtain ⟨Ao12, co12, eo12⟩ := Kd.R_slice HO384.out
    (first | subst eo12 | (injection eo12 with f1_ f2_ f3_; have f4_ := f1_.symm; have f5_ := f3_.symm; clear f1_ f2_ f3_; subst f4_; subst f5_))
    refine hK.out _ _ ⟨(blk_cell BK377.out 0).trans rfl, (blk_cell BK377.out 1).trans rfl⟩ (fun hHeld => ?_)
    clear hK K
    refine norm_ (a' := ?_) ?_ ?_
    rotate_left
    · show Act.put _ (some 10) _ = _
      simp only [Act.put, List.setIfInBounds_toArray, List.set_cons_zero, List.set_cons_succ, i64_w, i32_w]
      rfl
    refine one_ (i := 2) (N := some 11) #[true, true, true, true, true, false, false] rfl rfl (by kernel_rfl) (by decide) (fun K hK => ?_)
    refine goes_ Try.func119 (by kernel_rfl) rfl #[.pointer (some ⟨g, 0, none⟩), .slice Ao12 y382.length co12] (by rfl) rfl rfl iAR ?_
    with_reducible refine (spec_l01Pick.calls g s0_0 t380 t381 _ _ y382 t385 t386 t387 w0 _ ?side1 ?side2 ?side3 ?side4 ?side5 A5.out).mono ?_
    (case side1 => exact iHI)
    (case side2 => exact iHS)
    (case side3 => repeat (first | exact (Kd.R_reads' HO384.out).2.2 | (with_reducible refine Kd.C_alloc ?_ _) | (with_reducible refine Kd.C_drewN ?_ _) | (with_reducible refine Kd.C_drew ?_)))
    (case side4 => exact (Kd.R_reads' HO384.out).2.1)
    (case side5 => exact far_slice (IsS81.own_ne HI0.out HO384.out (by decide)))
    rintro e w13 ⟨rfl, hi, hb, hk⟩
    refine ⟨_, rfl, ?_⟩
    have n0_ := aa (KeepBut.blk hk (g' := gb377) (o := .cells #[.int .i64 a1_0, .int .i64 a1_1] 27 (0, 0)) (iBK BK377.out) NB377_0.out (by simp))
    have n1_ := aa (KeepBut.blk hk (g' := gb378) (o := .cells #[.int .i64 0, .int .i64 0] 27 (0, 0)) (iBK BK378.out) NB378_0.out (by simp))
    have n2_ := aa (Kd.R_mono (Kd.R_keep (IsS81.apart (show IsS81 w0 _ g s0_0 t380 t381 from iHI) (by (with_reducible repeat (first | apply Kd.R_alloc | apply Kd.R_drewN | apply Kd.R_drew)); exact HO384.out) (by decide)) hk (fun _ h => h.2)) (fun _ h => h.1))
    have n3_ := aa (KeepBut.trans (w := w) iHK hk (.inl rfl))
    have n4_ := aa (hb)
    have n5_ := aa (hi)
    clear BK377
    clear BK378
    clear HO384
    clear HK
    clear HB
    clear HI0
    have BK377 := n0_
    have BK378 := n1_
    have HO384 := n2_
    have HK := n3_
    have HB := n4_
    have HI0 := n5_
    clear n0_ n1_ n2_ n3_ n4_ n5_
    (try clear hb)
    (try clear hb2)
    (try clear hk)
    (try clear hi)
    refine hK.out _ _ ⟨(blk_cell BK377.out 0).trans rfl, (blk_cell BK377.out 1).trans rfl⟩ (fun hHeld => ?_)
    clear hK K
    refine norm_ (a' := ?_) ?_ ?_
    rotate_left
    · show Act.put _ (some 11) _ = _
      simp only [Act.put, List.setIfInBounds_toArray, List.set_cons_zero, List.set_cons_succ, i64_w, i32_w]
      rfl
    refine pure_ (i := 5) (N := some 14) (v := ?_) (a' := ?_) #[true, true, true, true, true, true, false] rfl rfl (by kernel_rfl) (fun _ _ _ h => h) (Or.inl ⟨by rfl, ?_⟩) ?_ ?_
    rotate_left
    · intro w'
      go_simp
      with_reducible rfl
    rotate_left
    · simp only [Act.put, List.setIfInBounds_toArray, List.set_cons_zero, List.set_cons_succ, i64_w, i32_w]
      rfl
    refine one_ (i := 6) (N := none) #[true, true, true, true, true, true, true] rfl rfl (by kernel_rfl) (by decide) (fun K hK => ?_)
    have hs14 : w13.cell? ⟨gb378, 0, none⟩ = some (.int .i64 0) := (blk_cell BK378.out 0).trans rfl
    have hfs14 := blk_frozen BK378.out 0
    have hns14_0 := NB377_378.out
    have hms14_0 := NB378_377.out
    have hs15 : w13.cell? ⟨gb378, 1, none⟩ = some (.int .i64 0) := (blk_cell BK378.out 1).trans rfl
    have hfs15 := blk_frozen BK378.out 1
    have hns15_0 := NB377_378.out
    have hms15_0 := NB378_377.out
    refine skip_ (w1 := ?_) (by rfl) rfl ?_ ?_
    rotate_left
    · go_simp
      rfl
    refine hK.out _ _ ⟨((cell_far (p := ⟨gb378, _, none⟩) NB377_378.out _).trans (((cell_far (p := ⟨gb378, _, none⟩) NB377_378.out _).trans (hHeld.1)))), ((cell_far (p := ⟨gb378, _, none⟩) NB377_378.out _).trans (((cell_far (p := ⟨gb378, _, none⟩) NB377_378.out _).trans (hHeld.2))))⟩ (fun hHeld => ?_)
    clear hK K
    refine done_ (by kernel_rfl) ?_
    try go_wp2
    refine bodyPost_ret (results_cell_row rfl _ _ gb378 27 #[.int .i64 t385, .int .i64 a1_1] (0, 0) _ rfl (by (with_reducible repeat (first | refine blk_drewN ?_ _ | refine blk_drew ?_ | refine blk_alloc ?_ _)); refine blk_put (cs := #[.int .i64 t385, .int .i64 0]) ?_ 1 _ rfl; (with_reducible repeat (first | refine blk_drewN ?_ _ | refine blk_drew ?_ | refine blk_alloc ?_ _)); refine blk_put (cs := #[.int .i64 0, .int .i64 0]) ?_ 0 _ rfl; exact iBK BK378.out) Try.underlying27 rfl (by kernel_rfl)) rfl ?_
    exact ⟨by first | rfl | (simp [errW_none, errW_some] <;> rfl) | (simp [*, errW_none, errW_some] <;> rfl), iHI, iHS, iHK⟩
  · rw [if_neg c4] at H
    have c4b0 : (t379 == 0) = false := beq_eq_false_iff_ne.mpr c4
    have c4b1 : (t379 != 0) = true := bne_iff_ne.mpr c4
    by_cases c16 : t379 = 1
    · rw [if_pos c16] at H
      have c16b0 : (t379 == 1) = true := beq_iff_eq.mpr c16
      have c16b1 : (t379 != 1) = false := bne_eq_false_iff_eq.mpr c16
      clear c16
      replace H := Option.bind_eq_some_iff.mp H
      obtain ⟨t388, A170, H⟩ := H
      replace H : ((spec_l01Pick.f s0_0 t380 t381 (([(-1), wrap64 (t388 + 1), 1099511627776] : List Int))).bind fun bt392 => (some (a1_0, bt392.1, bt392.2.1, bt392.2.2))) = some (r1, r2, r3, r4) := H
      have A17 := Aside0.mk A170
      clear A170
      obtain ⟨y389, hy389⟩ : ∃ y_ : List Int, y_ = (([(-1), wrap64 (t388 + 1), 1099511627776] : List Int)) := ⟨_, rfl⟩
      replace H : ((spec_l01Pick.f s0_0 t380 t381 y389).bind fun bt392 => (some (a1_0, bt392.1, bt392.2.1, bt392.2.2))) = some (r1, r2, r3, r4) := by first | (rw [hy389]; with_reducible exact H) | (have H2_ := (Option.bind_some _ _).symm.trans H; rw [hy389]; with_reducible exact H2_) | (have H2_ := (Option.bind_some _ _).symm.trans H; with_reducible exact H2_) | with_reducible exact H | (rw [hy389]; exact H) | exact H
      have Ny389 := Aside0.mk hy389
      clear hy389
      replace H := Option.bind_eq_some_iff.mp H
      obtain ⟨⟨t392, t393, t394⟩, A180, H⟩ := H
      replace H : (some (a1_0, t392, t393, t394)) = some (r1, r2, r3, r4) := H
      have A18 := Aside0.mk A180
      clear A180
      simp only [Option.some.injEq, Prod.mk.injEq] at H
      obtain ⟨rfl, rfl, rfl, rfl⟩ := H
      go_enter Try.func106, Try.ntmps106
      try go_wp2_with (first | ((with_reducible refine gate_dst (N := 3) rfl ?_); refine box_event ?hg (N := 3) ?hd (cs := #[.int .i64 a1_0, .int .i64 a1_1]) (t := 27) ?hr ?_; (case hd => rfl); (case hg => rfl); (case hr => first | (go_simp; done) | (go_simp; rfl)); intro gb377 hg w19 hbox hb; have n0_ := aa (IsS81.below iHI hb); have n1_ := aa (KeepBut.trans (w := w) iHK (KeepBut.of_below hb g none) (.inl rfl)); have n2_ := aa (below_step iHS hb); have n3_ := aa (hbox); have n4_ := aa ((by rw [hg]; exact (keep_size (w := w) (g := g) (row := none) iHK) : w.heap.size ≤ gb377)); have n5_ := aa ((Nat.le_trans HW0.out (by rw [hg]; exact (keep_size (w := w) (g := g) (row := none) iHK) : w.heap.size ≤ gb377) : w0.heap.size ≤ gb377)); have n6_ := aa ((by rw [hg]; exact Nat.ne_of_lt (IsS81.lt (show IsS81 w0 _ g s0_0 s0_1 s0_2 from iHI)) : g ≠ gb377)); have n7_ := aa ((by rw [hg]; exact Nat.ne_of_gt (IsS81.lt (show IsS81 w0 _ g s0_0 s0_1 s0_2 from iHI)) : gb377 ≠ g)); clear HI0; clear HK; clear HB; have HI0 := n0_; have HK := n1_; have HB := n2_; have BK377 := n3_; have GW377 := n4_; have GE377 := n5_; have NB0_377 := n6_; have NB377_0 := n7_; clear n0_ n1_ n2_ n3_ n4_ n5_ n6_ n7_; clear hb hbox hg) | ((with_reducible refine gate_dst (N := 4) rfl ?_); refine box_event ?hg (N := 4) ?hd (cs := #[.int .i64 0, .int .i64 0]) (t := 27) ?hr ?_; (case hd => rfl); (case hg => rfl); (case hr => first | (go_simp; done) | (go_simp; rfl)); intro gb378 hg w20 hbox hb; have n0_ := aa (IsS81.below iHI hb); have n1_ := aa (blk_below (g := gb377) (o := .cells #[.int .i64 a1_0, .int .i64 a1_1] 27 (0, 0)) (iBK BK377.out) hb); have n2_ := aa (KeepBut.trans (w := w) iHK (KeepBut.of_below hb g none) (.inl rfl)); have n3_ := aa (below_step iHS hb); have n4_ := aa (hbox); have n5_ := aa ((by rw [hg]; exact (keep_size (w := w) (g := g) (row := none) iHK) : w.heap.size ≤ gb378)); have n6_ := aa ((Nat.le_trans HW0.out (by rw [hg]; exact (keep_size (w := w) (g := g) (row := none) iHK) : w.heap.size ≤ gb378) : w0.heap.size ≤ gb378)); have n7_ := aa ((by rw [hg]; exact Nat.ne_of_lt (blk_lt (g := gb377) (o := .cells #[.int .i64 a1_0, .int .i64 a1_1] 27 (0, 0)) (iBK BK377.out)) : gb377 ≠ gb378)); have n8_ := aa ((by rw [hg]; exact Nat.ne_of_gt (blk_lt (g := gb377) (o := .cells #[.int .i64 a1_0, .int .i64 a1_1] 27 (0, 0)) (iBK BK377.out)) : gb378 ≠ gb377)); have n9_ := aa ((by rw [hg]; exact Nat.ne_of_lt (IsS81.lt (show IsS81 w0 _ g s0_0 s0_1 s0_2 from iHI)) : g ≠ gb378)); have n10_ := aa ((by rw [hg]; exact Nat.ne_of_gt (IsS81.lt (show IsS81 w0 _ g s0_0 s0_1 s0_2 from iHI)) : gb378 ≠ g)); clear HI0; clear BK377; clear HK; clear HB; have HI0 := n0_; have BK377 := n1_; have HK := n2_; have HB := n3_; have BK378 := n4_; have GW378 := n5_; have GE378 := n6_; have NB377_378 := n7_; have NB378_377 := n8_; have NB0_378 := n9_; have NB378_0 := n10_; clear n0_ n1_ n2_ n3_ n4_ n5_ n6_ n7_ n8_ n9_ n10_; clear hb hbox hg) | ((with_reducible refine gate_callee (f := 118) rfl ?_); refine goesL_ (some 6) rfl rfl Try.func118 (by kernel_rfl) rfl #[.pointer (some ⟨g, 0, none⟩), .int .i64 50] rfl iAR ?_; (with_reducible refine (spec_l01Next.calls g s0_0 s0_1 s0_2 50 t379 t380 t381 w0 _ ?side1 ?side2 A3.out).mono ?_); (case side1 => exact iHI); (case side2 => exact iHS); rintro e w21 ⟨rfl, hi, hb, hk⟩; refine ⟨_, rfl, ?_⟩; have n0_ := aa (KeepBut.blk hk (g' := gb377) (o := .cells #[.int .i64 a1_0, .int .i64 a1_1] 27 (0, 0)) (iBK BK377.out) NB377_0.out (by simp)); have n1_ := aa (KeepBut.blk hk (g' := gb378) (o := .cells #[.int .i64 0, .int .i64 0] 27 (0, 0)) (iBK BK378.out) NB378_0.out (by simp)); have n2_ := aa (KeepBut.trans (w := w) iHK hk (.inl rfl)); have n3_ := aa (hb); have n4_ := aa (hi); clear BK377; clear BK378; clear HK; clear HB; clear HI0; have BK377 := n0_; have BK378 := n1_; have HK := n2_; have HB := n3_; have HI0 := n4_; clear n0_ n1_ n2_ n3_ n4_; (try clear hb); (try clear hb2); (try clear hk); (try clear hi)))
      have n0_ := aa (blk_drew BK377.out)
      have n1_ := aa (blk_drew BK378.out)
      have n2_ := aa (IsS81.drew HI0.out)
      have n3_ := aa (keep_drew HK.out)
      have n4_ := aa (below_drew1 HB.out)
      clear BK377
      clear BK378
      clear HI0
      clear HK
      clear HB
      have BK377 := n0_
      have BK378 := n1_
      have HI0 := n2_
      have HK := n3_
      have HB := n4_
      clear n0_ n1_ n2_ n3_ n4_
      refine start_ (n := 11) (S := fun w' => w'.cell? ⟨gb377, 0, none⟩ = some (.int .i64 a1_0) ∧ w'.cell? ⟨gb377, 1, none⟩ = some (.int .i64 a1_1)) (ds := []) #[false, false, false, false, false, false, false, false, false, false, false] (by kernel_rfl) rfl rfl ⟨(blk_cell BK377.out 0).trans rfl, (blk_cell BK377.out 1).trans rfl⟩ (fun hHeld => ?_); refine with_tabW spec_l01Bad.tab5 spec_l01Bad.bits5 (fun HT_ HW_ => ?_)
      generalize w21.drew = w22 at BK377 BK378 HI0 HK HB hHeld ⊢
      refine pure_ (i := 0) (N := some 17) (v := ?_) (a' := ?_) #[true, false, false, false, false, false, false, false, false, false, false] rfl rfl (any_of HT_.out (by kernel_rfl)) (fun _ _ _ h => h) (Or.inl ⟨by rfl, ?_⟩) ?_ ?_
      rotate_left
      · intro w'
        go_simp
        with_reducible rfl
      rotate_left
      · simp only [Act.put, List.setIfInBounds_toArray, List.set_cons_zero, List.set_cons_succ, i64_w, i32_w]
        rfl
      refine pure_ (i := 2) (N := some 19) (v := ?_) (a' := ?_) #[true, false, true, false, false, false, false, false, false, false, false] rfl rfl (any_of HT_.out (by kernel_rfl)) (fun _ _ _ h => h) (Or.inl ⟨by rfl, ?_⟩) ?_ ?_
      rotate_left
      · intro w'
        go_simp
        with_reducible rfl
      rotate_left
      · simp only [Act.put, List.setIfInBounds_toArray, List.set_cons_zero, List.set_cons_succ, i64_w, i32_w]
        rfl
      refine pure_ (i := 3) (N := some 20) (v := ?_) (a' := ?_) #[true, false, true, true, false, false, false, false, false, false, false] rfl rfl (any_of HT_.out (by kernel_rfl)) (fun _ _ _ h => h) (Or.inl ⟨by rfl, ?_⟩) ?_ ?_
      rotate_left
      · intro w'
        go_simp
        with_reducible rfl
      rotate_left
      · simp only [Act.put, List.setIfInBounds_toArray, List.set_cons_zero, List.set_cons_succ, i64_w, i32_w]
        rfl
      refine take_ (i := 1) (N := some 18) (v := ?_) (a' := ?_) #[true, true, true, true, false, false, false, false, false, false, false] rfl rfl (take_ofW HT_.out HW_.out (by kernel_rfl)) (fun _ _ _ h => h) (Or.inl ⟨by rfl, ?_⟩) hHeld ?_ ?_
      rotate_left
      · rintro w' ⟨s0, s1⟩
        go_simp
        with_reducible rfl
      rotate_left
      · simp only [Act.put, List.setIfInBounds_toArray, List.set_cons_zero, List.set_cons_succ, i64_w, i32_w]
        rfl
      refine take_ (i := 4) (N := some 21) (v := ?_) (a' := ?_) #[true, true, true, true, true, false, false, false, false, false, false] rfl rfl (take_ofW HT_.out HW_.out (by kernel_rfl)) (fun _ _ _ h => h) (Or.inl ⟨by rfl, ?_⟩) hHeld ?_ ?_
      rotate_left
      · rintro w' ⟨s0, s1⟩
        go_simp
        with_reducible rfl
      rotate_left
      · simp only [Act.put, List.setIfInBounds_toArray, List.set_cons_zero, List.set_cons_succ, i64_w, i32_w]
        rfl
      refine one_ (i := 5) (N := some 22) #[true, true, true, true, true, true, false, false, false, false, false] rfl rfl (one_of HT_.out (by kernel_rfl)) (by decide) (fun K hK => ?_)
      refine goes_ Try.func109 (by kernel_rfl) rfl #[.int .i64 a1_0] (by rfl) rfl rfl iAR ?_
      with_reducible refine (spec_l01All.calls a1_0 t388 _ A17.out).mono ?_
      rintro e w' ⟨rfl, ⟨nd, rfl⟩⟩
      refine ⟨_, rfl, ?_⟩
      refine hK.out _ _ ⟨(blk_cell BK377.out 0).trans rfl, (blk_cell BK377.out 1).trans rfl⟩ (fun hHeld => ?_)
      clear hK K
      refine norm_ (a' := ?_) ?_ ?_
      rotate_left
      · show Act.put _ (some 22) _ = _
        simp only [Act.put, List.setIfInBounds_toArray, List.set_cons_zero, List.set_cons_succ, i64_w, i32_w]
        rfl
      refine pure_ (i := 6) (N := some 23) (v := ?_) (a' := ?_) #[true, true, true, true, true, true, true, false, false, false, false] rfl rfl (any_of HT_.out (by kernel_rfl)) (fun _ _ _ h => h) (Or.inl ⟨by rfl, ?_⟩) ?_ ?_
      rotate_left
      · intro w'
        go_simp
        with_reducible rfl
      rotate_left
      · simp only [Act.put, List.setIfInBounds_toArray, List.set_cons_zero, List.set_cons_succ, i64_w, i32_w]
        rfl
      refine one_ (i := 7) (N := some 24) #[true, true, true, true, true, true, true, true, false, false, false] rfl rfl (one_of HT_.out (by kernel_rfl)) (by decide) (fun K hK => ?_)
      refine Kd.R_lit_step (Kd.int .i64) _ 2 ?hg (N := 24) ?hd (xs := ([(-1), wrap64 (t388 + 1), 1099511627776] : List Int)) (inner := [.int .i64 (-1), .int .i64 (wrap64 (t388 + 1)), .int .i64 1099511627776]) (ok := fun _ => True) (okp := fun _ => True) ?hr ?hp (fun _ hk => hk) trivial (Below.refl _ _) (Nat.le_refl _) (by simp) ?_; (case hd => rfl); (case hg => rfl); (case hr => first | (go_simp; done) | (go_simp; rfl)); (case hp => exact (Reps.one (show Kd.M (Kd.int .i64) _ _ _ (-1) [.int .i64 (-1)] from rfl) (Reps.one (show Kd.M (Kd.int .i64) _ _ _ (wrap64 (t388 + 1)) [.int .i64 (wrap64 (t388 + 1))] from rfl) (Reps.one (show Kd.M (Kd.int .i64) _ _ _ 1099511627776 [.int .i64 1099511627776] from rfl) (Reps.none _ _)))))
      intro v390 w23 ho24 hb hg_ hnew_
      clear hg_ hnew_
      (first | rw [← Ny389.out] at ho24 | (simp only [Int.reduceToNat] at ho24; rw [← Ny389.out] at ho24))
      have n0_ := aa (Kd.R_lower ho24 (keep_size (w := w) (g := g) (row := none) iHK))
      have n1_ := aa (IsS81.below iHI hb)
      have n2_ := aa (blk_below (g := gb377) (o := .cells #[.int .i64 a1_0, .int .i64 a1_1] 27 (0, 0)) (iBK BK377.out) hb)
      have n3_ := aa (blk_below (g := gb378) (o := .cells #[.int .i64 0, .int .i64 0] 27 (0, 0)) (iBK BK378.out) hb)
      have n4_ := aa (KeepBut.trans (w := w) iHK (KeepBut.of_below hb g none) (.inl rfl))
      have n5_ := aa (below_step iHS hb)
      clear HI0
      clear BK377
      clear BK378
      clear HK
      clear HB
      have HO391 := n0_
      have HI0 := n1_
      have BK377 := n2_
      have BK378 := n3_
      have HK := n4_
      have HB := n5_
      clear n0_ n1_ n2_ n3_ n4_ n5_
      clear hb ho24
      obtain ⟨Ao25, co25, eo25⟩ := Kd.R_slice HO391.out
      (first | subst eo25 | (injection eo25 with f1_ f2_ f3_; have f4_ := f1_.symm; have f5_ := f3_.symm; clear f1_ f2_ f3_; subst f4_; subst f5_))
      refine hK.out _ _ ⟨(blk_cell BK377.out 0).trans rfl, (blk_cell BK377.out 1).trans rfl⟩ (fun hHeld => ?_)
      clear hK K
      refine norm_ (a' := ?_) ?_ ?_
      rotate_left
      · show Act.put _ (some 24) _ = _
        simp only [Act.put, List.setIfInBounds_toArray, List.set_cons_zero, List.set_cons_succ, i64_w, i32_w]
        rfl
      refine one_ (i := 8) (N := some 25) #[true, true, true, true, true, true, true, true, true, false, false] rfl rfl (one_of HT_.out (by kernel_rfl)) (by decide) (fun K hK => ?_)
      refine goes_ Try.func119 (by kernel_rfl) rfl #[.pointer (some ⟨g, 0, none⟩), .slice Ao25 y389.length co25] (by rfl) rfl rfl iAR ?_
      with_reducible refine (spec_l01Pick.calls g s0_0 t380 t381 _ _ y389 t392 t393 t394 w0 _ ?side1 ?side2 ?side3 ?side4 ?side5 A18.out).mono ?_
      (case side1 => exact iHI)
      (case side2 => exact iHS)
      (case side3 => repeat (first | exact (Kd.R_reads' HO391.out).2.2 | (with_reducible refine Kd.C_alloc ?_ _) | (with_reducible refine Kd.C_drewN ?_ _) | (with_reducible refine Kd.C_drew ?_)))
      (case side4 => exact (Kd.R_reads' HO391.out).2.1)
      (case side5 => exact far_slice (IsS81.own_ne HI0.out HO391.out (by decide)))
      rintro e w26 ⟨rfl, hi, hb, hk⟩
      refine ⟨_, rfl, ?_⟩
      have n0_ := aa (KeepBut.blk hk (g' := gb377) (o := .cells #[.int .i64 a1_0, .int .i64 a1_1] 27 (0, 0)) (iBK BK377.out) NB377_0.out (by simp))
      have n1_ := aa (KeepBut.blk hk (g' := gb378) (o := .cells #[.int .i64 0, .int .i64 0] 27 (0, 0)) (iBK BK378.out) NB378_0.out (by simp))
      have n2_ := aa (Kd.R_mono (Kd.R_keep (IsS81.apart (show IsS81 w0 _ g s0_0 t380 t381 from iHI) (by (with_reducible repeat (first | apply Kd.R_alloc | apply Kd.R_drewN | apply Kd.R_drew)); exact HO391.out) (by decide)) hk (fun _ h => h.2)) (fun _ h => h.1))
      have n3_ := aa (KeepBut.trans (w := w) iHK hk (.inl rfl))
      have n4_ := aa (hb)
      have n5_ := aa (hi)
      clear BK377
      clear BK378
      clear HO391
      clear HK
      clear HB
      clear HI0
      have BK377 := n0_
      have BK378 := n1_
      have HO391 := n2_
      have HK := n3_
      have HB := n4_
      have HI0 := n5_
      clear n0_ n1_ n2_ n3_ n4_ n5_
      (try clear hb)
      (try clear hb2)
      (try clear hk)
      (try clear hi)
      refine hK.out _ _ ⟨(blk_cell BK377.out 0).trans rfl, (blk_cell BK377.out 1).trans rfl⟩ (fun hHeld => ?_)
      clear hK K
      refine norm_ (a' := ?_) ?_ ?_
      rotate_left
      · show Act.put _ (some 25) _ = _
        simp only [Act.put, List.setIfInBounds_toArray, List.set_cons_zero, List.set_cons_succ, i64_w, i32_w]
        rfl
      refine pure_ (i := 9) (N := some 26) (v := ?_) (a' := ?_) #[true, true, true, true, true, true, true, true, true, true, false] rfl rfl (any_of HT_.out (by kernel_rfl)) (fun _ _ _ h => h) (Or.inl ⟨by rfl, ?_⟩) ?_ ?_
      rotate_left
      · intro w'
        go_simp
        with_reducible rfl
      rotate_left
      · simp only [Act.put, List.setIfInBounds_toArray, List.set_cons_zero, List.set_cons_succ, i64_w, i32_w]
        rfl
      refine one_ (i := 10) (N := none) #[true, true, true, true, true, true, true, true, true, true, true] rfl rfl (one_of HT_.out (by kernel_rfl)) (by decide) (fun K hK => ?_)
      have hs27 : w26.cell? ⟨gb378, 0, none⟩ = some (.int .i64 0) := (blk_cell BK378.out 0).trans rfl
      have hfs27 := blk_frozen BK378.out 0
      have hns27_0 := NB377_378.out
      have hms27_0 := NB378_377.out
      have hs28 : w26.cell? ⟨gb378, 1, none⟩ = some (.int .i64 0) := (blk_cell BK378.out 1).trans rfl
      have hfs28 := blk_frozen BK378.out 1
      have hns28_0 := NB377_378.out
      have hms28_0 := NB378_377.out
      refine skip_ (w1 := ?_) (by rfl) rfl ?_ ?_
      rotate_left
      · go_simp
        rfl
      refine hK.out _ _ ⟨((cell_far (p := ⟨gb378, _, none⟩) NB377_378.out _).trans (((cell_far (p := ⟨gb378, _, none⟩) NB377_378.out _).trans (hHeld.1)))), ((cell_far (p := ⟨gb378, _, none⟩) NB377_378.out _).trans (((cell_far (p := ⟨gb378, _, none⟩) NB377_378.out _).trans (hHeld.2))))⟩ (fun hHeld => ?_)
      clear hK K
      refine done_ (done_of HT_.out (by kernel_rfl)) ?_
      try go_wp2
      refine bodyPost_ret (results_cell_row rfl _ _ gb378 27 #[.int .i64 a1_0, .int .i64 t392] (0, 0) _ rfl (by (with_reducible repeat (first | refine blk_drewN ?_ _ | refine blk_drew ?_ | refine blk_alloc ?_ _)); refine blk_put (cs := #[.int .i64 a1_0, .int .i64 0]) ?_ 1 _ rfl; (with_reducible repeat (first | refine blk_drewN ?_ _ | refine blk_drew ?_ | refine blk_alloc ?_ _)); refine blk_put (cs := #[.int .i64 0, .int .i64 0]) ?_ 0 _ rfl; exact iBK BK378.out) Try.underlying27 rfl (by kernel_rfl)) rfl ?_
      exact ⟨by first | rfl | (simp [errW_none, errW_some] <;> rfl) | (simp [*, errW_none, errW_some] <;> rfl), iHI, iHS, iHK⟩
    · rw [if_neg c16] at H
      have c16b0 : (t379 == 1) = false := beq_eq_false_iff_ne.mpr c16
      have c16b1 : (t379 != 1) = true := bne_iff_ne.mpr c16
      simp only [Option.some.injEq, Prod.mk.injEq] at H
      obtain ⟨rfl, rfl, rfl, rfl⟩ := H
      go_enter Try.func106, Try.ntmps106
      go_wp2_with (first | ((with_reducible refine gate_dst (N := 3) rfl ?_); refine box_event ?hg (N := 3) ?hd (cs := #[.int .i64 a1_0, .int .i64 a1_1]) (t := 27) ?hr ?_; (case hd => rfl); (case hg => rfl); (case hr => first | (go_simp; done) | (go_simp; rfl)); intro gb377 hg w29 hbox hb; have n0_ := aa (IsS81.below iHI hb); have n1_ := aa (KeepBut.trans (w := w) iHK (KeepBut.of_below hb g none) (.inl rfl)); have n2_ := aa (below_step iHS hb); have n3_ := aa (hbox); have n4_ := aa ((by rw [hg]; exact (keep_size (w := w) (g := g) (row := none) iHK) : w.heap.size ≤ gb377)); have n5_ := aa ((Nat.le_trans HW0.out (by rw [hg]; exact (keep_size (w := w) (g := g) (row := none) iHK) : w.heap.size ≤ gb377) : w0.heap.size ≤ gb377)); have n6_ := aa ((by rw [hg]; exact Nat.ne_of_lt (IsS81.lt (show IsS81 w0 _ g s0_0 s0_1 s0_2 from iHI)) : g ≠ gb377)); have n7_ := aa ((by rw [hg]; exact Nat.ne_of_gt (IsS81.lt (show IsS81 w0 _ g s0_0 s0_1 s0_2 from iHI)) : gb377 ≠ g)); clear HI0; clear HK; clear HB; have HI0 := n0_; have HK := n1_; have HB := n2_; have BK377 := n3_; have GW377 := n4_; have GE377 := n5_; have NB0_377 := n6_; have NB377_0 := n7_; clear n0_ n1_ n2_ n3_ n4_ n5_ n6_ n7_; clear hb hbox hg) | ((with_reducible refine gate_dst (N := 4) rfl ?_); refine box_event ?hg (N := 4) ?hd (cs := #[.int .i64 0, .int .i64 0]) (t := 27) ?hr ?_; (case hd => rfl); (case hg => rfl); (case hr => first | (go_simp; done) | (go_simp; rfl)); intro gb378 hg w30 hbox hb; have n0_ := aa (IsS81.below iHI hb); have n1_ := aa (blk_below (g := gb377) (o := .cells #[.int .i64 a1_0, .int .i64 a1_1] 27 (0, 0)) (iBK BK377.out) hb); have n2_ := aa (KeepBut.trans (w := w) iHK (KeepBut.of_below hb g none) (.inl rfl)); have n3_ := aa (below_step iHS hb); have n4_ := aa (hbox); have n5_ := aa ((by rw [hg]; exact (keep_size (w := w) (g := g) (row := none) iHK) : w.heap.size ≤ gb378)); have n6_ := aa ((Nat.le_trans HW0.out (by rw [hg]; exact (keep_size (w := w) (g := g) (row := none) iHK) : w.heap.size ≤ gb378) : w0.heap.size ≤ gb378)); have n7_ := aa ((by rw [hg]; exact Nat.ne_of_lt (blk_lt (g := gb377) (o := .cells #[.int .i64 a1_0, .int .i64 a1_1] 27 (0, 0)) (iBK BK377.out)) : gb377 ≠ gb378)); have n8_ := aa ((by rw [hg]; exact Nat.ne_of_gt (blk_lt (g := gb377) (o := .cells #[.int .i64 a1_0, .int .i64 a1_1] 27 (0, 0)) (iBK BK377.out)) : gb378 ≠ gb377)); have n9_ := aa ((by rw [hg]; exact Nat.ne_of_lt (IsS81.lt (show IsS81 w0 _ g s0_0 s0_1 s0_2 from iHI)) : g ≠ gb378)); have n10_ := aa ((by rw [hg]; exact Nat.ne_of_gt (IsS81.lt (show IsS81 w0 _ g s0_0 s0_1 s0_2 from iHI)) : gb378 ≠ g)); clear HI0; clear BK377; clear HK; clear HB; have HI0 := n0_; have BK377 := n1_; have HK := n2_; have HB := n3_; have BK378 := n4_; have GW378 := n5_; have GE378 := n6_; have NB377_378 := n7_; have NB378_377 := n8_; have NB0_378 := n9_; have NB378_0 := n10_; clear n0_ n1_ n2_ n3_ n4_ n5_ n6_ n7_ n8_ n9_ n10_; clear hb hbox hg) | ((with_reducible refine gate_callee (f := 118) rfl ?_); refine goesL_ (some 6) rfl rfl Try.func118 (by kernel_rfl) rfl #[.pointer (some ⟨g, 0, none⟩), .int .i64 50] rfl iAR ?_; (with_reducible refine (spec_l01Next.calls g s0_0 s0_1 s0_2 50 t379 t380 t381 w0 _ ?side1 ?side2 A3.out).mono ?_); (case side1 => exact iHI); (case side2 => exact iHS); rintro e w31 ⟨rfl, hi, hb, hk⟩; refine ⟨_, rfl, ?_⟩; have n0_ := aa (KeepBut.blk hk (g' := gb377) (o := .cells #[.int .i64 a1_0, .int .i64 a1_1] 27 (0, 0)) (iBK BK377.out) NB377_0.out (by simp)); have n1_ := aa (KeepBut.blk hk (g' := gb378) (o := .cells #[.int .i64 0, .int .i64 0] 27 (0, 0)) (iBK BK378.out) NB378_0.out (by simp)); have n2_ := aa (KeepBut.trans (w := w) iHK hk (.inl rfl)); have n3_ := aa (hb); have n4_ := aa (hi); clear BK377; clear BK378; clear HK; clear HB; clear HI0; have BK377 := n0_; have BK378 := n1_; have HK := n2_; have HB := n3_; have HI0 := n4_; clear n0_ n1_ n2_ n3_ n4_; (try clear hb); (try clear hb2); (try clear hk); (try clear hi); have hnb32 := NB377_378.out; have hnc32 := NB378_377.out; have hnb33 := NB377_0.out; have hnc33 := NB0_377.out; have hcz34_0 : w31.cell? ⟨gb377, 0, none⟩ = some (.int .i64 a1_0) := (blk_cell BK377.out 0).trans rfl; have hcz34_1 : w31.cell? ⟨gb377, 1, none⟩ = some (.int .i64 a1_1) := (blk_cell BK377.out 1).trans rfl; have hfz34_0 := blk_frozen BK377.out 0; have hfz34_1 := blk_frozen BK377.out 1; have hnb35 := NB378_0.out; have hnc35 := NB0_378.out; have hcz36_0 : w31.cell? ⟨gb378, 0, none⟩ = some (.int .i64 0) := (blk_cell BK378.out 0).trans rfl; have hcz36_1 : w31.cell? ⟨gb378, 1, none⟩ = some (.int .i64 0) := (blk_cell BK378.out 1).trans rfl; have hfz36_0 := blk_frozen BK378.out 0; have hfz36_1 := blk_frozen BK378.out 1))
      refine bodyPost_ret (results_cell_row rfl _ _ gb378 27 #[.int .i64 a1_0, .int .i64 a1_1] (0, 0) _ rfl (by (with_reducible repeat (first | refine blk_drewN ?_ _ | refine blk_drew ?_ | refine blk_alloc ?_ _)); refine blk_put (cs := #[.int .i64 a1_0, .int .i64 0]) ?_ 1 _ rfl; (with_reducible repeat (first | refine blk_drewN ?_ _ | refine blk_drew ?_ | refine blk_alloc ?_ _)); refine blk_put (cs := #[.int .i64 0, .int .i64 0]) ?_ 0 _ rfl; exact iBK BK378.out) Try.underlying27 rfl (by kernel_rfl)) rfl ?_
      exact ⟨by first | rfl | (simp [errW_none, errW_some] <;> rfl) | (simp [*, errW_none, errW_some] <;> rfl), iHI, iHS, iHK⟩
def spec_l01Spoil.f (k : Nat) (s0_0 : List Int) (s0_1 : Int) (s0_2 : Int) : Option (Int × Int × Int × Int) := (spec_l01Draw.f k s0_0 s0_1 s0_2).bind fun bt396 => ((spec_l01Bad.f s0_0 bt396.2.2.1 bt396.2.2.2 bt396.1 bt396.2.1).bind fun bt400 => (some (bt400.1, bt400.2.1, bt400.2.2.1, bt400.2.2.2)))
set_option maxHeartbeats 8000000 in
set_option maxRecDepth 100000 in
theorem spec_l01Spoil.calls (k : Nat) (g : Nat) (s0_0 : List Int) (s0_1 : Int) (s0_2 : Int) (r1 : Int) (r2 : Int) (r3 : Int) (r4 : Int) (w0 w : World) (hI : IsS81 w0 w g s0_0 s0_1 s0_2) (hB : Below w0.heap.size w0 w) (h : spec_l01Spoil.f k s0_0 s0_1 s0_2 = some (r1, r2, r3, r4)) :
    Calls Try.prog 95 #[.pointer (some ⟨g, 0, none⟩)] w fun e w' => e = .returned (.agg #[.int .i64 r1, .int .i64 r2]) ∧ IsS81 w0 w' g s0_0 r3 r4 ∧ Below w0.heap.size w0 w' ∧ KeepBut w w' g none := by
  have hu27 := Try.underlying27
  have HI0 := Aside0.mk hI
  have HK := aa (KeepBut.refl w g none)
  have HL := Aside0.mk hB.size
  clear hI
  have HW0 := Aside0.mk hB.size
  have HB := Aside0.mk hB
  clear hB
  have H : ((spec_l01Draw.f k s0_0 s0_1 s0_2).bind fun bt396 => ((spec_l01Bad.f s0_0 bt396.2.2.1 bt396.2.2.2 bt396.1 bt396.2.1).bind fun bt400 => (some (bt400.1, bt400.2.1, bt400.2.2.1, bt400.2.2.2)))) = some (r1, r2, r3, r4) := h
  clear h
  replace H := Option.bind_eq_some_iff.mp H
  obtain ⟨⟨t396, t397, t398, t399⟩, A20, H⟩ := H
  replace H : ((spec_l01Bad.f s0_0 t398 t399 t396 t397).bind fun bt400 => (some (bt400.1, bt400.2.1, bt400.2.2.1, bt400.2.2.2))) = some (r1, r2, r3, r4) := H
  have A2 := Aside0.mk A20
  clear A20
  replace H := Option.bind_eq_some_iff.mp H
  obtain ⟨⟨t400, t401, t402, t403⟩, A30, H⟩ := H
  replace H : (some (t400, t401, t402, t403)) = some (r1, r2, r3, r4) := H
  have A3 := Aside0.mk A30
  clear A30
  simp only [Option.some.injEq, Prod.mk.injEq] at H
  obtain ⟨rfl, rfl, rfl, rfl⟩ := H
  go_enter Try.func95, Try.ntmps95
  go_wp2_with (first | ((with_reducible refine gate_dst (N := 2) rfl ?_); refine box_event ?hg (N := 2) ?hd (cs := #[.int .i64 0, .int .i64 0]) (t := 27) ?hr ?_; (case hd => rfl); (case hg => rfl); (case hr => first | (go_simp; done) | (go_simp; rfl)); intro gb395 hg w4 hbox hb; have n0_ := aa (IsS81.below iHI hb); have n1_ := aa (KeepBut.trans (w := w) iHK (KeepBut.of_below hb g none) (.inl rfl)); have n2_ := aa (below_step iHS hb); have n3_ := aa (hbox); have n4_ := aa ((by rw [hg]; exact (keep_size (w := w) (g := g) (row := none) iHK) : w.heap.size ≤ gb395)); have n5_ := aa ((Nat.le_trans HW0.out (by rw [hg]; exact (keep_size (w := w) (g := g) (row := none) iHK) : w.heap.size ≤ gb395) : w0.heap.size ≤ gb395)); have n6_ := aa ((by rw [hg]; exact Nat.ne_of_lt (IsS81.lt (show IsS81 w0 _ g s0_0 s0_1 s0_2 from iHI)) : g ≠ gb395)); have n7_ := aa ((by rw [hg]; exact Nat.ne_of_gt (IsS81.lt (show IsS81 w0 _ g s0_0 s0_1 s0_2 from iHI)) : gb395 ≠ g)); clear HI0; clear HK; clear HB; have HI0 := n0_; have HK := n1_; have HB := n2_; have BK395 := n3_; have GW395 := n4_; have GE395 := n5_; have NB0_395 := n6_; have NB395_0 := n7_; clear n0_ n1_ n2_ n3_ n4_ n5_ n6_ n7_; clear hb hbox hg) | ((with_reducible refine gate_callee (f := 104) rfl ?_); refine goesL_ (some 5) rfl rfl Try.func104 (by kernel_rfl) rfl #[.pointer (some ⟨g, 0, none⟩)] rfl iAR ?_; (with_reducible refine (spec_l01Draw.calls k g s0_0 s0_1 s0_2 t396 t397 t398 t399 w0 _ ?side1 ?side2 A2.out).mono ?_); (case side1 => exact iHI); (case side2 => exact iHS); rintro e w5 ⟨rfl, hi, hb, hk⟩; refine ⟨_, rfl, ?_⟩; have n0_ := aa (KeepBut.blk hk (g' := gb395) (o := .cells #[.int .i64 0, .int .i64 0] 27 (0, 0)) (iBK BK395.out) NB395_0.out (by simp)); have n1_ := aa (KeepBut.trans (w := w) iHK hk (.inl rfl)); have n2_ := aa (hb); have n3_ := aa (hi); clear BK395; clear HK; clear HB; clear HI0; have BK395 := n0_; have HK := n1_; have HB := n2_; have HI0 := n3_; clear n0_ n1_ n2_ n3_; (try clear hb); (try clear hb2); (try clear hk); (try clear hi)) | ((with_reducible refine gate_callee (f := 106) rfl ?_); refine goesL_ (some 6) rfl rfl Try.func106 (by kernel_rfl) rfl #[.pointer (some ⟨g, 0, none⟩), .agg #[.int .i64 t396, .int .i64 t397]] rfl iAR ?_; (with_reducible refine (spec_l01Bad.calls g s0_0 t398 t399 t396 t397 t400 t401 t402 t403 w0 _ ?side1 ?side2 A3.out).mono ?_); (case side1 => exact iHI); (case side2 => exact iHS); rintro e w6 ⟨rfl, hi, hb, hk⟩; refine ⟨_, rfl, ?_⟩; have n0_ := aa (KeepBut.blk hk (g' := gb395) (o := .cells #[.int .i64 0, .int .i64 0] 27 (0, 0)) (iBK BK395.out) NB395_0.out (by simp)); have n1_ := aa (KeepBut.trans (w := w) iHK hk (.inl rfl)); have n2_ := aa (hb); have n3_ := aa (hi); clear BK395; clear HK; clear HB; clear HI0; have BK395 := n0_; have HK := n1_; have HB := n2_; have HI0 := n3_; clear n0_ n1_ n2_ n3_; (try clear hb); (try clear hb2); (try clear hk); (try clear hi); have hnb7 := NB395_0.out; have hnc7 := NB0_395.out; have hcz8_0 : w6.cell? ⟨gb395, 0, none⟩ = some (.int .i64 0) := (blk_cell BK395.out 0).trans rfl; have hcz8_1 : w6.cell? ⟨gb395, 1, none⟩ = some (.int .i64 0) := (blk_cell BK395.out 1).trans rfl; have hfz8_0 := blk_frozen BK395.out 0; have hfz8_1 := blk_frozen BK395.out 1))
  refine bodyPost_ret (results_cell_row rfl _ _ gb395 27 #[.int .i64 t400, .int .i64 t401] (0, 0) _ rfl (by (with_reducible repeat (first | refine blk_drewN ?_ _ | refine blk_drew ?_ | refine blk_alloc ?_ _)); refine blk_put (cs := #[.int .i64 t400, .int .i64 0]) ?_ 1 _ rfl; (with_reducible repeat (first | refine blk_drewN ?_ _ | refine blk_drew ?_ | refine blk_alloc ?_ _)); refine blk_put (cs := #[.int .i64 0, .int .i64 0]) ?_ 0 _ rfl; exact iBK BK395.out) Try.underlying27 rfl (by kernel_rfl)) rfl ?_
  exact ⟨by first | rfl | (simp [errW_none, errW_some] <;> rfl) | (simp [*, errW_none, errW_some] <;> rfl), iHI, iHS, iHK⟩
def spec_l01From.l0 : Nat → List Int → Int → List Int → Int → Int → Option (List Int × Int × Int)
  | 0, _, _, _, _, _ => none
  | k + 1, x0, x4, x405000, x405001, x405002 => if x4 < (x0.length : Int) then (if x4 < 4096 then (if 0 ≤ x4 then (spec_l01From.l0 k x0 (wrap64 (x4 + 1)) x405000 x405001 (IntKind.u64.wrap ((IntKind.u64.wrap ((IntKind.u64.wrap (x405002 * 1099511628211)) + (IntKind.u64.wrap (rd x0 x4)))) + 149))) else (none)) else (some (x405000, x405001, x405002))) else (some (x405000, x405001, x405002))
def spec_l01From.f (k : Nat) (l0 : List Int) : Option (List Int × Int × Int) := spec_l01From.l0 k l0 0 l0 0 (IntKind.u64.wrap (13231 + (IntKind.u64.wrap ((l0.length : Int)))))
def spec_l01From.T5 : Bool × List (List Nat × List Nat) := (true, [([], []), ([], []), ([1], [1]), ([2], [2]), ([3], [3]), ([4], [4]), ([], []), ([], []), ([6, 7], [6, 7]), ([8], [8]), ([9], [9]), ([5, 10], [5, 10]), ([11], [11]), ([0, 0, 1, 2, 3, 4, 5, 6, 7, 8, 9, 10, 11, 12], [0]), ([13, 0, 1, 2, 3, 4, 5, 6, 7, 8, 9, 10, 11, 12], [13]), ([14, 12, 0, 1, 2, 3, 4, 5, 6, 7, 8, 9, 10, 11, 12], [12, 14])])
def spec_l01From.B5 : List Nat := [0, 0, 2, 6, 14, 30, 0, 0, 192, 448, 960, 2046, 4094, 8191, 16383, 32767]
theorem spec_l01From.tab5 : rtab .any (opsOf Try.f96 5) = spec_l01From.T5 := by kernel_rfl
theorem spec_l01From.bits5 : waitsOk spec_l01From.T5.2 spec_l01From.B5 = true := by kernel_rfl
set_option maxHeartbeats 8000000 in
set_option maxRecDepth 100000 in
theorem spec_l01From.calls (k : Nat) (A0 : Option Addr) (c0 : Nat) (l0 : List Int) (r1 : List Int) (r2 : Int) (r3 : Int) (w0 w : World) (hB : Below w0.heap.size w0 w) (hr0 : Kd.C (Kd.int .u8) w0 A0 l0.length l0) (hc0 : l0.length ≤ c0) (h : spec_l01From.f k l0 = some (r1, r2, r3)) :
    Calls Try.prog 96 #[.slice A0 l0.length c0] w fun e w' => ∃ g_ : Nat, e = .returned (.pointer (some ⟨g_, 0, none⟩)) ∧ IsS81 w0 w' g_ r1 r2 r3 ∧ Below w0.heap.size w0 w' ∧ Below w.heap.size w w' := by
  have hu81 := Try.underlying81
  have HR0 := Aside0.mk hr0
  have HC0 := Aside0.mk hc0
  clear hr0 hc0
  have HBW := aa (Below.refl w.heap.size w)
  have HW0 := Aside0.mk hB.size
  have HB := Aside0.mk hB
  clear hB
  have H : (spec_l01From.l0 k l0 0 l0 0 (IntKind.u64.wrap (13231 + (IntKind.u64.wrap ((l0.length : Int)))))) = some (r1, r2, r3) := h
  clear h
  have H' := Aside0.mk H
  clear H
  go_enter Try.func96, Try.ntmps96
  go_wp2_with (first | ((with_reducible refine gate_dst (N := 11) rfl ?_); refine box_event ?hg (N := 11) ?hd (cs := #[.slice A0 l0.length c0, .int .i64 0, .int .u64 (IntKind.u64.wrap (13231 + (IntKind.u64.wrap ((l0.length : Int)))))]) (t := 81) ?hr ?_; (case hd => rfl); (case hg => rfl); (case hr => first | (go_simp; done) | (go_simp; rfl)); intro gb404 hg w2 hbox hb; have n0_ := aa (below_step HBW.out hb); have n1_ := aa (below_step iHB hb); have n2_ := aa (hbox); have n3_ := aa ((by rw [hg]; exact (below_size (by repeat (first | (with_reducible first | exact HBW.out | apply below_alloc | apply pw_below_drewN | apply below_drew1) | exact HBW.out))) : w.heap.size ≤ gb404)); have n4_ := aa ((Nat.le_trans HW0.out (by rw [hg]; exact (below_size (by repeat (first | (with_reducible first | exact HBW.out | apply below_alloc | apply pw_below_drewN | apply below_drew1) | exact HBW.out))) : w.heap.size ≤ gb404) : w0.heap.size ≤ gb404)); clear HBW; clear HB; have HBW := n0_; have HB := n1_; have BK404 := n2_; have GW404 := n3_; have GE404 := n4_; clear n0_ n1_ n2_ n3_ n4_; clear hb hbox hg))
  go_loopg [4] k (fun kq v4 w' => ∃ (x4_1 : Int) (x405002_1 : Int), v4 = .int .i64 x4_1 ∧ Aside0 (spec_l01From.l0 kq l0 x4_1 l0 0 x405002_1 = some (r1, r2, r3)) ∧ Aside0 (kq ≤ k) ∧ Aside0 (w'.heap[gb404]? = some (.cells #[(.slice A0 l0.length c0), .int .i64 0, .int .u64 x405002_1] 81 (0, 0))) ∧ Aside0 (Below w0.heap.size w0 w') ∧ Aside0 (Below w.heap.size w w'))
  case atStart => exact ⟨(0), (IntKind.u64.wrap (13231 + (IntKind.u64.wrap ((l0.length : Int))))), (by first | rfl | (simp; done) | (simp [*]; done)), H', ⟨Nat.le_refl _⟩, ⟨iBK BK404.out⟩, ⟨iHB⟩, ⟨by repeat (first | (with_reducible first | exact HBW.out | apply below_alloc | apply pw_below_drewN | apply below_drew1 | refine below_set ?_ GW404.out) | exact HBW.out)⟩⟩
  case round =>
    clear H'
    try clear p2
    clear HBW; obtain ⟨x4_1, x405002_1, rfl, HA, HK1, BK404, HB, HBW⟩ := hrel
    cases gk with
    | zero => exact absurd HA.out (by simp [spec_l01From.l0])
    | succ k1 =>
      have H := HA.out
      clear HA
      simp only [spec_l01From.l0] at H
      by_cases c3 : x4_1 < (l0.length : Int)
      · rw [if_pos c3] at H
        have c3b0 : decide (x4_1 < (l0.length : Int)) = true := decide_eq_true c3
        clear c3
        by_cases c4 : x4_1 < 4096
        · rw [if_pos c4] at H
          have c4b0 : decide (x4_1 < 4096) = true := decide_eq_true c4
          clear c4
          by_cases c5 : 0 ≤ x4_1
          · rw [if_pos c5] at H
            have c5b0 : decide (0 ≤ x4_1) = true := decide_eq_true c5
            clear c5
            have H' := Aside0.mk H
            clear H
            try go_wp2
            have n0_ := aa (blk_drew BK404.out)
            have n1_ := aa (below_drew1 HB.out)
            clear BK404
            clear HB
            have BK404 := n0_
            have HB := n1_
            clear n0_ n1_
            replace HBW := aa (below_drew1 HBW.out)
            have p405 : 0 ≤ (x4_1 : Int) := of_decide_eq_true (by first | (with_reducible assumption) | assumption)
            have q405 : x4_1 < (l0.length : Int) := of_decide_eq_true (by first | (with_reducible assumption) | assumption)
            obtain ⟨ad405, e405, hx405_0⟩ := Kd.at_int HR0.out x4_1 p405 q405
            have hw405_0 := hx405_0
            cases e405
            replace hx405_0 := pw_cell_below HB.out hx405_0
            replace p405 := eq_true p405
            replace q405 := eq_true q405
            refine start_ (n := 16) (S := fun w' => w'.cell? ⟨gb404, 0, none⟩ = some (.slice (some ad405) l0.length c0) ∧ w'.cell? ⟨gb404, 1, none⟩ = some (.int .i64 0) ∧ w'.cell? ⟨gb404, 2, none⟩ = some (.int .u64 x405002_1) ∧ w'.cell? (ad405.add (x4_1).toNat) = some (.int .u8 (rd l0 x4_1))) (ds := [15]) #[false, false, false, false, false, false, false, false, false, false, false, false, false, false, false, false] (by kernel_rfl) rfl rfl ⟨(blk_cell BK404.out 0).trans rfl, (blk_cell BK404.out 1).trans rfl, (blk_cell BK404.out 2).trans rfl, ((HB.out.cell (World.block_lt_of_cell? w0 _ hw405_0)).trans hw405_0)⟩ (fun hHeld => ?_); refine with_tabW spec_l01From.tab5 spec_l01From.bits5 (fun HT_ HW_ => ?_)
            generalize wr.drew = w6 at BK404 HB HBW hx405_0 hHeld ⊢
            refine pure_ (i := 0) (N := some 22) (v := ?_) (a' := ?_) #[true, false, false, false, false, false, false, false, false, false, false, false, false, false, false, false] rfl rfl (any_of HT_.out (by kernel_rfl)) (fun _ _ _ h => h) (Or.inl ⟨by rfl, ?_⟩) ?_ ?_
            rotate_left
            · intro w'
              go_simp
              with_reducible rfl
            rotate_left
            · simp only [Act.put, List.setIfInBounds_toArray, List.set_cons_zero, List.set_cons_succ, i64_w, i32_w]
              rfl
            refine pure_ (i := 1) (N := some 23) (v := ?_) (a' := ?_) #[true, true, false, false, false, false, false, false, false, false, false, false, false, false, false, false] rfl rfl (any_of HT_.out (by kernel_rfl)) (fun _ _ _ h => h) (Or.inl ⟨by rfl, ?_⟩) ?_ ?_
            rotate_left
            · intro w'
              go_simp
              with_reducible rfl
            rotate_left
            · simp only [Act.put, List.setIfInBounds_toArray, List.set_cons_zero, List.set_cons_succ, i64_w, i32_w]
              rfl
            refine pure_ (i := 2) (N := some 24) (v := ?_) (a' := ?_) #[true, true, true, false, false, false, false, false, false, false, false, false, false, false, false, false] rfl rfl (any_of HT_.out (by kernel_rfl)) (fun _ _ _ h => h) (Or.inl ⟨by rfl, ?_⟩) ?_ ?_
            rotate_left
            · intro w'
              go_simp
              with_reducible rfl
            rotate_left
            · simp only [Act.put, List.setIfInBounds_toArray, List.set_cons_zero, List.set_cons_succ, i64_w, i32_w]
              rfl
            refine pure_ (i := 3) (N := some 25) (v := ?_) (a' := ?_) #[true, true, true, true, false, false, false, false, false, false, false, false, false, false, false, false] rfl rfl (any_of HT_.out (by kernel_rfl)) (fun _ _ _ h => h) (Or.inl ⟨by rfl, ?_⟩) ?_ ?_
            rotate_left
            · intro w'
              go_simp
              with_reducible rfl
            rotate_left
            · simp only [Act.put, List.setIfInBounds_toArray, List.set_cons_zero, List.set_cons_succ, i64_w, i32_w]
              rfl
            refine pure_ (i := 6) (N := some 28) (v := ?_) (a' := ?_) #[true, true, true, true, false, false, true, false, false, false, false, false, false, false, false, false] rfl rfl (any_of HT_.out (by kernel_rfl)) (fun _ _ _ h => h) (Or.inl ⟨by rfl, ?_⟩) ?_ ?_
            rotate_left
            · intro w'
              go_simp
              with_reducible rfl
            rotate_left
            · simp only [Act.put, List.setIfInBounds_toArray, List.set_cons_zero, List.set_cons_succ, i64_w, i32_w]
              rfl
            refine pure_ (i := 7) (N := some 29) (v := ?_) (a' := ?_) #[true, true, true, true, false, false, true, true, false, false, false, false, false, false, false, false] rfl rfl (any_of HT_.out (by kernel_rfl)) (fun _ _ _ h => h) (Or.inl ⟨by rfl, ?_⟩) ?_ ?_
            rotate_left
            · intro w'
              go_simp
              with_reducible rfl
            rotate_left
            · simp only [Act.put, List.setIfInBounds_toArray, List.set_cons_zero, List.set_cons_succ, i64_w, i32_w]
              rfl
            refine pure_ (i := 8) (N := some 30) (v := ?_) (a' := ?_) #[true, true, true, true, false, false, true, true, true, false, false, false, false, false, false, false] rfl rfl (any_of HT_.out (by kernel_rfl)) (fun _ _ _ h => h) (Or.inl ⟨by rfl, ?_⟩) ?_ ?_
            rotate_left
            · intro w'
              go_simp
              with_reducible rfl
            rotate_left
            · simp only [Act.put, List.setIfInBounds_toArray, List.set_cons_zero, List.set_cons_succ, i64_w, i32_w]
              rfl
            refine take_ (i := 4) (N := some 26) (v := ?_) (a' := ?_) #[true, true, true, true, true, false, true, true, true, false, false, false, false, false, false, false] rfl rfl (take_ofW HT_.out HW_.out (by kernel_rfl)) (fun _ _ _ h => h) (Or.inl ⟨by rfl, ?_⟩) hHeld ?_ ?_
            rotate_left
            · rintro w' ⟨s0, s1, s2, s3⟩
              go_simp
              with_reducible rfl
            rotate_left
            · simp only [Act.put, List.setIfInBounds_toArray, List.set_cons_zero, List.set_cons_succ, i64_w, i32_w]
              rfl
            refine pure_ (i := 5) (N := some 27) (v := ?_) (a' := ?_) #[true, true, true, true, true, true, true, true, true, false, false, false, false, false, false, false] rfl rfl (any_of HT_.out (by kernel_rfl)) (fun _ _ _ h => h) (Or.inl ⟨by rfl, ?_⟩) ?_ ?_
            rotate_left
            · intro w'
              go_simp
              with_reducible rfl
            rotate_left
            · simp only [Act.put, List.setIfInBounds_toArray, List.set_cons_zero, List.set_cons_succ, i64_w, i32_w]
              rfl
            refine take_ (i := 9) (N := some 31) (v := ?_) (a' := ?_) #[true, true, true, true, true, true, true, true, true, true, false, false, false, false, false, false] rfl rfl (take_ofW HT_.out HW_.out (by kernel_rfl)) (fun _ _ _ h => h) (Or.inl ⟨by rfl, ?_⟩) hHeld ?_ ?_
            rotate_left
            · rintro w' ⟨s0, s1, s2, s3⟩
              go_simp
              with_reducible rfl
            rotate_left
            · simp only [Act.put, List.setIfInBounds_toArray, List.set_cons_zero, List.set_cons_succ, i64_w, i32_w]
              rfl
            refine pure_ (i := 10) (N := some 32) (v := ?_) (a' := ?_) #[true, true, true, true, true, true, true, true, true, true, true, false, false, false, false, false] rfl rfl (any_of HT_.out (by kernel_rfl)) (fun _ _ _ h => h) (Or.inl ⟨by rfl, ?_⟩) ?_ ?_
            rotate_left
            · intro w'
              go_simp
              with_reducible rfl
            rotate_left
            · simp only [Act.put, List.setIfInBounds_toArray, List.set_cons_zero, List.set_cons_succ, i64_w, i32_w]
              rfl
            refine pure_ (i := 11) (N := some 33) (v := ?_) (a' := ?_) #[true, true, true, true, true, true, true, true, true, true, true, true, false, false, false, false] rfl rfl (any_of HT_.out (by kernel_rfl)) (fun _ _ _ h => h) (Or.inl ⟨by rfl, ?_⟩) ?_ ?_
            rotate_left
            · intro w'
              go_simp
              with_reducible rfl
            rotate_left
            · simp only [Act.put, List.setIfInBounds_toArray, List.set_cons_zero, List.set_cons_succ, i64_w, i32_w]
              rfl
            refine pure_ (i := 12) (N := some 34) (v := ?_) (a' := ?_) #[true, true, true, true, true, true, true, true, true, true, true, true, true, false, false, false] rfl rfl (any_of HT_.out (by kernel_rfl)) (fun _ _ _ h => h) (Or.inl ⟨by rfl, ?_⟩) ?_ ?_
            rotate_left
            · intro w'
              go_simp
              with_reducible rfl
            rotate_left
            · simp only [Act.put, List.setIfInBounds_toArray, List.set_cons_zero, List.set_cons_succ, i64_w, i32_w]
              rfl
            refine pure_ (i := 13) (N := some 35) (v := ?_) (a' := ?_) #[true, true, true, true, true, true, true, true, true, true, true, true, true, true, false, false] rfl rfl (any_of HT_.out (by kernel_rfl)) (fun _ _ _ h => h) (Or.inl ⟨by rfl, ?_⟩) ?_ ?_
            rotate_left
            · intro w'
              go_simp
              with_reducible rfl
            rotate_left
            · simp only [Act.put, List.setIfInBounds_toArray, List.set_cons_zero, List.set_cons_succ, i64_w, i32_w]
              rfl
            refine pure_ (i := 14) (N := some 36) (v := ?_) (a' := ?_) #[true, true, true, true, true, true, true, true, true, true, true, true, true, true, true, false] rfl rfl (any_of HT_.out (by kernel_rfl)) (fun _ _ _ h => h) (Or.inl ⟨by rfl, ?_⟩) ?_ ?_
            rotate_left
            · intro w'
              go_simp
              with_reducible rfl
            rotate_left
            · simp only [Act.put, List.setIfInBounds_toArray, List.set_cons_zero, List.set_cons_succ, i64_w, i32_w]
              rfl
            refine last_ (i := 15) (N := none) #[true, true, true, true, true, true, true, true, true, true, true, true, true, true, true, true] rfl rfl (one_of HT_.out (by kernel_rfl)) (by decide) (fun K hK => ?_)
            have hs7 : w6.cell? ⟨gb404, 2, none⟩ = some (.int .u64 x405002_1) := (blk_cell BK404.out 2).trans rfl
            have hfs7 := blk_frozen BK404.out 2
            refine skip_ (w1 := ?_) (by rfl) rfl ?_ ?_
            rotate_left
            · go_simp
              rfl
            refine hK.out _ _ ?_
            clear hK K
            refine done_ (done_of HT_.out (by kernel_rfl)) ?_
            try go_wp2
            go_roundg k1
            case measure => have := HK1.out; omega
            case rel => exact ⟨(wrap64 (x4_1 + 1)), (IntKind.u64.wrap ((IntKind.u64.wrap ((IntKind.u64.wrap (x405002_1 * 1099511628211)) + (IntKind.u64.wrap (rd l0 x4_1)))) + 149)), (by first | rfl | (simp; done) | (simp [*]; done)), H', ⟨by have := HK1.out; omega⟩, ⟨by (with_reducible repeat (first | refine blk_drewN ?_ _ | refine blk_drew ?_ | refine blk_alloc ?_ _)); refine blk_put (cs := #[.slice (some ad405) l0.length c0, .int .i64 0, .int .u64 x405002_1]) ?_ 2 _ rfl; exact iBK BK404.out⟩, ⟨iHB⟩, ⟨by repeat (first | (with_reducible first | exact HBW.out | apply below_alloc | apply pw_below_drewN | apply below_drew1 | refine below_set ?_ GW404.out) | exact HBW.out)⟩⟩
          · rw [if_neg c5] at H
            exact absurd H (by simp)
        · rw [if_neg c4] at H
          have c4b0 : decide (x4_1 < 4096) = false := decide_eq_false c4
          clear c4
          simp only [Option.some.injEq, Prod.mk.injEq] at H
          obtain ⟨rfl, rfl, rfl⟩ := H
          go_wp2
          go_ret
          exact ⟨_, rfl, (show IsS81 w0 _ gb404 l0 0 x405002_1 from ⟨_, _, iBK BK404.out, GE404.out, HR0.out⟩), iHB, by repeat (first | (with_reducible first | exact HBW.out | apply below_alloc | apply pw_below_drewN | apply below_drew1 | refine below_set ?_ GW404.out) | exact HBW.out)⟩
      · rw [if_neg c3] at H
        have c3b0 : decide (x4_1 < (l0.length : Int)) = false := decide_eq_false c3
        clear c3
        simp only [Option.some.injEq, Prod.mk.injEq] at H
        obtain ⟨rfl, rfl, rfl⟩ := H
        go_wp2
        go_ret
        exact ⟨_, rfl, (show IsS81 w0 _ gb404 l0 0 x405002_1 from ⟨_, _, iBK BK404.out, GE404.out, HR0.out⟩), iHB, by repeat (first | (with_reducible first | exact HBW.out | apply below_alloc | apply pw_below_drewN | apply below_drew1 | refine below_set ?_ GW404.out) | exact HBW.out)⟩
end Go.Proofs.Ytdhfbgbclibagaa.P
