/- Functions of the given program and their contracts, written by a program of this session (gen.py) over the kit's print. -/
import Derived.Test.YtdhfbgbclibagaaROx0
import Derived.Test.YtdhfbgbclibagaaROx2
import Derived.Test.YtdhfbgbclibagaaROx10
import Derived.Test.YtdhfbgbclibagaaROx12
namespace Go.Proofs.Ytdhfbgbclibagaa.P
open Go.RowKit Go.Proofs.YtdhfbgbclibagaaW.PrintWords Go.Proofs.YtdhfbgbclibagaaW.PrintLast Go.Proofs.YtdhfbgbclibagaaW.PrintMore
attribute [local go_sem] max2_int min2_int max_two min_two max_three min_three max_four min_four   -- for this text's walks alone
set_option linter.unusedVariables false
set_option linter.unusedSimpArgs false
def spec_l01Draw.f (k : Nat) (s0_0 : List Int) (s0_1 : Int) (s0_2 : Int) : Option (Int × Int × Int × Int) := (spec_l01Pick.f s0_0 s0_1 s0_2 (([0, 1, 1, 2, 2, 2, 3, 3, 3, 4, 4] : List Int))).bind fun bt356 => ((spec_l01DrawOf.f k s0_0 bt356.2.1 bt356.2.2 bt356.1).bind fun bt359 => (some (bt359.1, bt359.2.1, bt359.2.2.1, bt359.2.2.2)))
set_option maxHeartbeats 8000000 in
set_option maxRecDepth 100000 in
theorem spec_l01Draw.calls (k : Nat) (g : Nat) (s0_0 : List Int) (s0_1 : Int) (s0_2 : Int) (r1 : Int) (r2 : Int) (r3 : Int) (r4 : Int) (w0 w : World) (hI : IsS81 w0 w g s0_0 s0_1 s0_2) (hB : Below w0.heap.size w0 w) (h : spec_l01Draw.f k s0_0 s0_1 s0_2 = some (r1, r2, r3, r4)) :
    Calls Try.prog 104 #[.pointer (some ⟨g, 0, none⟩)] w fun e w' => e = .returned (.agg #[.int .i64 r1, .int .i64 r2]) ∧ IsS81 w0 w' g s0_0 r3 r4 ∧ Below w0.heap.size w0 w' ∧ KeepBut w w' g none := by
  have hu27 := Try.underlying27
  have HI0 := Aside0.mk hI
  have HK := aa (KeepBut.refl w g none)
  have HL := Aside0.mk hB.size
  clear hI
  have HW0 := Aside0.mk hB.size
  have HB := Aside0.mk hB
  clear hB
  have H : ((spec_l01Pick.f s0_0 s0_1 s0_2 (([0, 1, 1, 2, 2, 2, 3, 3, 3, 4, 4] : List Int))).bind fun bt356 => ((spec_l01DrawOf.f k s0_0 bt356.2.1 bt356.2.2 bt356.1).bind fun bt359 => (some (bt359.1, bt359.2.1, bt359.2.2.1, bt359.2.2.2)))) = some (r1, r2, r3, r4) := h
  clear h
  obtain ⟨y353, hy353⟩ : ∃ y_ : List Int, y_ = (([0, 1, 1, 2, 2, 2, 3, 3, 3, 4, 4] : List Int)) := ⟨_, rfl⟩
  replace H : ((spec_l01Pick.f s0_0 s0_1 s0_2 y353).bind fun bt356 => ((spec_l01DrawOf.f k s0_0 bt356.2.1 bt356.2.2 bt356.1).bind fun bt359 => (some (bt359.1, bt359.2.1, bt359.2.2.1, bt359.2.2.2)))) = some (r1, r2, r3, r4) := by first | (rw [hy353]; with_reducible exact H) | (have H2_ := (Option.bind_some _ _).symm.trans H; rw [hy353]; with_reducible exact H2_) | (have H2_ := (Option.bind_some _ _).symm.trans H; with_reducible exact H2_) | with_reducible exact H | (rw [hy353]; exact H) | exact H
  have Ny353 := Aside0.mk hy353
  clear hy353
  replace H := Option.bind_eq_some_iff.mp H
  obtain ⟨⟨t356, t357, t358⟩, A20, H⟩ := H
  replace H : ((spec_l01DrawOf.f k s0_0 t357 t358 t356).bind fun bt359 => (some (bt359.1, bt359.2.1, bt359.2.2.1, bt359.2.2.2))) = some (r1, r2, r3, r4) := H
  have A2 := Aside0.mk A20
  clear A20
  replace H := Option.bind_eq_some_iff.mp H
  obtain ⟨⟨t359, t360, t361, t362⟩, A30, H⟩ := H
  replace H : (some (t359, t360, t361, t362)) = some (r1, r2, r3, r4) := H
  have A3 := Aside0.mk A30
  clear A30
  simp only [Option.some.injEq, Prod.mk.injEq] at H
  obtain ⟨rfl, rfl, rfl, rfl⟩ := H
  go_enter Try.func104, Try.ntmps104
  go_wp2_with (first | ((with_reducible refine gate_dst (N := 2) rfl ?_); refine box_event ?hg (N := 2) ?hd (cs := #[.int .i64 0, .int .i64 0]) (t := 27) ?hr ?_; (case hd => rfl); (case hg => rfl); (case hr => first | (go_simp; done) | (go_simp; rfl)); intro gb352 hg w4 hbox hb; replace HB := aa (below_step iHS hb); have BK352 := aa (hbox); have GW352 := aa ((by rw [hg]; exact (keep_size (w := w) (g := g) (row := none) iHK) : w.heap.size ≤ gb352)); have GE352 := aa ((Nat.le_trans HW0.out (by rw [hg]; exact (keep_size (w := w) (g := g) (row := none) iHK) : w.heap.size ≤ gb352) : w0.heap.size ≤ gb352)); replace HK := aa (KeepBut.trans (w := w) iHK (KeepBut.of_below hb g none) (.inl rfl)); have NB0_352 := aa ((by rw [hg]; exact Nat.ne_of_lt (IsS81.lt (show IsS81 w0 _ g s0_0 s0_1 s0_2 from iHI)) : g ≠ gb352)); have NB352_0 := aa ((by rw [hg]; exact Nat.ne_of_gt (IsS81.lt (show IsS81 w0 _ g s0_0 s0_1 s0_2 from iHI)) : gb352 ≠ g)); replace HI0 := aa (IsS81.below iHI hb); clear hb hbox hg) | ((with_reducible refine gate_dst (N := 5) rfl ?_); refine Kd.R_lit (Kd.int .i64) _ 2 ?hg (N := 5) ?hd (xs := ([0, 1, 1, 2, 2, 2, 3, 3, 3, 4, 4] : List Int)) (inner := [.int .i64 0, .int .i64 1, .int .i64 1, .int .i64 2, .int .i64 2, .int .i64 2, .int .i64 3, .int .i64 3, .int .i64 3, .int .i64 4, .int .i64 4]) (ok := fun _ => True) (okp := fun _ => True) ?hr ?hp (fun _ hk => hk) trivial (Below.refl _ _) (Nat.le_refl _) (by simp) ?_; (case hd => rfl); (case hg => rfl); (case hr => first | (go_simp; done) | (go_simp; rfl)); (case hp => exact (Reps.one (show Kd.M (Kd.int .i64) _ _ _ 0 [.int .i64 0] from rfl) (Reps.one (show Kd.M (Kd.int .i64) _ _ _ 1 [.int .i64 1] from rfl) (Reps.one (show Kd.M (Kd.int .i64) _ _ _ 1 [.int .i64 1] from rfl) (Reps.one (show Kd.M (Kd.int .i64) _ _ _ 2 [.int .i64 2] from rfl) (Reps.one (show Kd.M (Kd.int .i64) _ _ _ 2 [.int .i64 2] from rfl) (Reps.one (show Kd.M (Kd.int .i64) _ _ _ 2 [.int .i64 2] from rfl) (Reps.one (show Kd.M (Kd.int .i64) _ _ _ 3 [.int .i64 3] from rfl) (Reps.one (show Kd.M (Kd.int .i64) _ _ _ 3 [.int .i64 3] from rfl) (Reps.one (show Kd.M (Kd.int .i64) _ _ _ 3 [.int .i64 3] from rfl) (Reps.one (show Kd.M (Kd.int .i64) _ _ _ 4 [.int .i64 4] from rfl) (Reps.one (show Kd.M (Kd.int .i64) _ _ _ 4 [.int .i64 4] from rfl) (Reps.none _ _))))))))))))); intro v354 w5 ho6 hb hg_ hnew_; clear hg_ hnew_; (first | rw [← Ny353.out] at ho6 | (simp only [Int.reduceToNat] at ho6; rw [← Ny353.out] at ho6)); have HO355 := aa (Kd.R_lower ho6 (keep_size (w := w) (g := g) (row := none) iHK)); replace BK352 := aa (blk_below (iBK BK352.out) hb); replace HK := aa (KeepBut.trans (w := w) iHK (KeepBut.of_below hb g none) (.inl rfl)); replace HB := aa (below_step iHS hb); replace HI0 := aa (IsS81.below iHI hb); clear hb ho6; obtain ⟨Ao7, co7, eo7⟩ := Kd.R_slice HO355.out; subst eo7) | ((with_reducible refine gate_callee (f := 119) rfl ?_); refine goesL_ (some 6) rfl rfl Try.func119 (by kernel_rfl) rfl #[.pointer (some ⟨g, 0, none⟩), .slice Ao7 y353.length co7] rfl iAR ?_; (with_reducible refine (spec_l01Pick.calls g s0_0 s0_1 s0_2 _ _ y353 t356 t357 t358 w0 _ ?side1 ?side2 ?side3 ?side4 ?side5 A2.out).mono ?_); (case side1 => exact iHI); (case side2 => exact iHS); (case side3 => repeat (first | exact (Kd.R_reads' HO355.out).2.2 | (with_reducible refine Kd.C_alloc ?_ _) | (with_reducible refine Kd.C_drewN ?_ _) | (with_reducible refine Kd.C_drew ?_))); (case side4 => exact (Kd.R_reads' HO355.out).2.1); (case side5 => exact far_slice (IsS81.own_ne HI0.out HO355.out (by decide))); rintro e w8 ⟨rfl, hi, hb, hk⟩; refine ⟨_, rfl, ?_⟩; replace BK352 := aa (KeepBut.blk hk (iBK BK352.out) NB352_0.out (by simp)); replace HO355 := aa (Kd.R_mono (Kd.R_keep (IsS81.apart (show IsS81 w0 _ g s0_0 s0_1 s0_2 from iHI) (by (with_reducible repeat (first | apply Kd.R_alloc | apply Kd.R_drewN | apply Kd.R_drew)); exact HO355.out) (by decide)) hk (fun _ h => h.2)) (fun _ h => h.1)); replace HK := aa (KeepBut.trans (w := w) iHK hk (.inl rfl)); replace HB := aa (hb); replace HI0 := aa (hi); (try clear hb); (try clear hk); (try clear hi)) | ((with_reducible refine gate_callee (f := 123) rfl ?_); refine goesL_ (some 7) rfl rfl Try.func123 (by kernel_rfl) rfl #[.pointer (some ⟨g, 0, none⟩), .int .i64 t356] rfl iAR ?_; (with_reducible refine (spec_l01DrawOf.calls k g s0_0 t357 t358 t356 t359 t360 t361 t362 w0 _ ?side1 ?side2 A3.out).mono ?_); (case side1 => exact iHI); (case side2 => exact iHS); rintro e w9 ⟨rfl, hi, hb, hk⟩; refine ⟨_, rfl, ?_⟩; replace BK352 := aa (KeepBut.blk hk (iBK BK352.out) NB352_0.out (by simp)); replace HO355 := aa (Kd.R_mono (Kd.R_keep (IsS81.apart (show IsS81 w0 _ g s0_0 t357 t358 from iHI) (by (with_reducible repeat (first | apply Kd.R_alloc | apply Kd.R_drewN | apply Kd.R_drew)); exact HO355.out) (by decide)) hk (fun _ h => h.2)) (fun _ h => h.1)); replace HK := aa (KeepBut.trans (w := w) iHK hk (.inl rfl)); replace HB := aa (hb); replace HI0 := aa (hi); (try clear hb); (try clear hk); (try clear hi); have hnb10 := NB352_0.out; have hnc10 := NB0_352.out; have hcz11_0 : w9.cell? ⟨gb352, 0, none⟩ = some (.int .i64 0) := (blk_cell BK352.out 0).trans rfl; have hcz11_1 : w9.cell? ⟨gb352, 1, none⟩ = some (.int .i64 0) := (blk_cell BK352.out 1).trans rfl; have hfz11_0 := blk_frozen BK352.out 0; have hfz11_1 := blk_frozen BK352.out 1))
  refine bodyPost_ret (results_cell_row rfl _ _ gb352 27 #[.int .i64 t359, .int .i64 t360] (0, 0) _ rfl (by (with_reducible repeat (first | refine blk_drewN ?_ _ | refine blk_drew ?_ | refine blk_alloc ?_ _)); refine blk_put (cs := #[.int .i64 t359, .int .i64 0]) ?_ 1 _ rfl; (with_reducible repeat (first | refine blk_drewN ?_ _ | refine blk_drew ?_ | refine blk_alloc ?_ _)); refine blk_put (cs := #[.int .i64 0, .int .i64 0]) ?_ 0 _ rfl; exact iBK BK352.out) Try.underlying27 rfl (by kernel_rfl)) rfl ?_
  exact ⟨by first | rfl | (simp [errW_none, errW_some] <;> rfl) | (simp [*, errW_none, errW_some] <;> rfl), iHI, iHS, iHK⟩
def spec_l01Bad.f (s0_0 : List Int) (s0_1 : Int) (s0_2 : Int) (a1_0 : Int) (a1_1 : Int) : Option (Int × Int × Int × Int) := (spec_l01Next.f s0_0 s0_1 s0_2 50).bind fun bt365 => (if bt365.1 = 0 then ((spec_l01Pick.f s0_0 bt365.2.1 bt365.2.2 (([(-1), 5, 1099511627776] : List Int))).bind fun bt371 => (some (bt371.1, a1_1, bt371.2.1, bt371.2.2))) else (if bt365.1 = 1 then ((spec_l01All.f a1_0).bind fun t374 => ((spec_l01Pick.f s0_0 bt365.2.1 bt365.2.2 (([(-1), wrap64 (t374 + 1), 1099511627776] : List Int))).bind fun bt378 => (some (a1_0, bt378.1, bt378.2.1, bt378.2.2)))) else (some (a1_0, a1_1, bt365.2.1, bt365.2.2))))
def spec_l01Bad.T5 : Bool × List (List Nat × List Nat) := (true, [([], []), ([0], [0]), ([], []), ([], []), ([3], [3]), ([4], [4]), ([5], [5]), ([6], [6]), ([2, 7, 5], [2, 7]), ([1, 8], [1, 8]), ([9, 8, 0, 1, 2, 3, 4, 5, 6, 7, 8, 9], [9])])
def spec_l01Bad.B5 : List Nat := [0, 1, 0, 0, 8, 24, 56, 120, 252, 511, 1023]
theorem spec_l01Bad.tab5 : rtab .any (opsOf Try.f106 5) = spec_l01Bad.T5 := by kernel_rfl
theorem spec_l01Bad.bits5 : waitsOk spec_l01Bad.T5.2 spec_l01Bad.B5 = true := by kernel_rfl
set_option maxHeartbeats 8000000 in
set_option maxRecDepth 100000 in
theorem spec_l01Bad.calls (g : Nat) (s0_0 : List Int) (s0_1 : Int) (s0_2 : Int) (a1_0 : Int) (a1_1 : Int) (r1 : Int) (r2 : Int) (r3 : Int) (r4 : Int) (w0 w : World) (hI : IsS81 w0 w g s0_0 s0_1 s0_2) (hB : Below w0.heap.size w0 w) (h : spec_l01Bad.f s0_0 s0_1 s0_2 a1_0 a1_1 = some (r1, r2, r3, r4)) :
    Calls Try.prog 106 #[.pointer (some ⟨g, 0, none⟩), .agg #[.int .i64 a1_0, .int .i64 a1_1]] w fun e w' => e = .returned (.agg #[.int .i64 r1, .int .i64 r2]) ∧ IsS81 w0 w' g s0_0 r3 r4 ∧ Below w0.heap.size w0 w' ∧ KeepBut w w' g none := by
  have hu27 := Try.underlying27
  have HI0 := Aside0.mk hI
  have HK := aa (KeepBut.refl w g none)
  have HL := Aside0.mk hB.size
  clear hI
  have HW0 := Aside0.mk hB.size
  have HB := Aside0.mk hB
  clear hB
  have H : ((spec_l01Next.f s0_0 s0_1 s0_2 50).bind fun bt365 => (if bt365.1 = 0 then ((spec_l01Pick.f s0_0 bt365.2.1 bt365.2.2 (([(-1), 5, 1099511627776] : List Int))).bind fun bt371 => (some (bt371.1, a1_1, bt371.2.1, bt371.2.2))) else (if bt365.1 = 1 then ((spec_l01All.f a1_0).bind fun t374 => ((spec_l01Pick.f s0_0 bt365.2.1 bt365.2.2 (([(-1), wrap64 (t374 + 1), 1099511627776] : List Int))).bind fun bt378 => (some (a1_0, bt378.1, bt378.2.1, bt378.2.2)))) else (some (a1_0, a1_1, bt365.2.1, bt365.2.2))))) = some (r1, r2, r3, r4) := h
  clear h
  replace H := Option.bind_eq_some_iff.mp H
  obtain ⟨⟨t365, t366, t367⟩, A30, H⟩ := H
  replace H : (if t365 = 0 then ((spec_l01Pick.f s0_0 t366 t367 (([(-1), 5, 1099511627776] : List Int))).bind fun bt371 => (some (bt371.1, a1_1, bt371.2.1, bt371.2.2))) else (if t365 = 1 then ((spec_l01All.f a1_0).bind fun t374 => ((spec_l01Pick.f s0_0 t366 t367 (([(-1), wrap64 (t374 + 1), 1099511627776] : List Int))).bind fun bt378 => (some (a1_0, bt378.1, bt378.2.1, bt378.2.2)))) else (some (a1_0, a1_1, t366, t367)))) = some (r1, r2, r3, r4) := H
  have A3 := Aside0.mk A30
  clear A30
  by_cases c4 : t365 = 0
  · rw [if_pos c4] at H
    have c4b0 : (t365 == 0) = true := beq_iff_eq.mpr c4
    have c4b1 : (t365 != 0) = false := bne_eq_false_iff_eq.mpr c4
    clear c4
    obtain ⟨y368, hy368⟩ : ∃ y_ : List Int, y_ = (([(-1), 5, 1099511627776] : List Int)) := ⟨_, rfl⟩
    replace H : ((spec_l01Pick.f s0_0 t366 t367 y368).bind fun bt371 => (some (bt371.1, a1_1, bt371.2.1, bt371.2.2))) = some (r1, r2, r3, r4) := by first | (rw [hy368]; with_reducible exact H) | (have H2_ := (Option.bind_some _ _).symm.trans H; rw [hy368]; with_reducible exact H2_) | (have H2_ := (Option.bind_some _ _).symm.trans H; with_reducible exact H2_) | with_reducible exact H | (rw [hy368]; exact H) | exact H
    have Ny368 := Aside0.mk hy368
    clear hy368
    replace H := Option.bind_eq_some_iff.mp H
    obtain ⟨⟨t371, t372, t373⟩, A50, H⟩ := H
    replace H : (some (t371, a1_1, t372, t373)) = some (r1, r2, r3, r4) := H
    have A5 := Aside0.mk A50
    clear A50
    simp only [Option.some.injEq, Prod.mk.injEq] at H
    obtain ⟨rfl, rfl, rfl, rfl⟩ := H
    go_enter Try.func106, Try.ntmps106
    try go_wp2_with (first | ((with_reducible refine gate_dst (N := 3) rfl ?_); refine box_event ?hg (N := 3) ?hd (cs := #[.int .i64 a1_0, .int .i64 a1_1]) (t := 27) ?hr ?_; (case hd => rfl); (case hg => rfl); (case hr => first | (go_simp; done) | (go_simp; rfl)); intro gb363 hg w6 hbox hb; replace HB := aa (below_step iHS hb); have BK363 := aa (hbox); have GW363 := aa ((by rw [hg]; exact (keep_size (w := w) (g := g) (row := none) iHK) : w.heap.size ≤ gb363)); have GE363 := aa ((Nat.le_trans HW0.out (by rw [hg]; exact (keep_size (w := w) (g := g) (row := none) iHK) : w.heap.size ≤ gb363) : w0.heap.size ≤ gb363)); replace HK := aa (KeepBut.trans (w := w) iHK (KeepBut.of_below hb g none) (.inl rfl)); have NB0_363 := aa ((by rw [hg]; exact Nat.ne_of_lt (IsS81.lt (show IsS81 w0 _ g s0_0 s0_1 s0_2 from iHI)) : g ≠ gb363)); have NB363_0 := aa ((by rw [hg]; exact Nat.ne_of_gt (IsS81.lt (show IsS81 w0 _ g s0_0 s0_1 s0_2 from iHI)) : gb363 ≠ g)); replace HI0 := aa (IsS81.below iHI hb); clear hb hbox hg) | ((with_reducible refine gate_dst (N := 4) rfl ?_); refine box_event ?hg (N := 4) ?hd (cs := #[.int .i64 0, .int .i64 0]) (t := 27) ?hr ?_; (case hd => rfl); (case hg => rfl); (case hr => first | (go_simp; done) | (go_simp; rfl)); intro gb364 hg w7 hbox hb; replace HB := aa (below_step iHS hb); have BK364 := aa (hbox); have GW364 := aa ((by rw [hg]; exact (keep_size (w := w) (g := g) (row := none) iHK) : w.heap.size ≤ gb364)); have GE364 := aa ((Nat.le_trans HW0.out (by rw [hg]; exact (keep_size (w := w) (g := g) (row := none) iHK) : w.heap.size ≤ gb364) : w0.heap.size ≤ gb364)); replace HK := aa (KeepBut.trans (w := w) iHK (KeepBut.of_below hb g none) (.inl rfl)); have NB363_364 := nbL hg (iBK BK363.out); have NB364_363 := nbR hg (iBK BK363.out); replace BK363 := aa (blk_below (iBK BK363.out) hb); have NB0_364 := aa ((by rw [hg]; exact Nat.ne_of_lt (IsS81.lt (show IsS81 w0 _ g s0_0 s0_1 s0_2 from iHI)) : g ≠ gb364)); have NB364_0 := aa ((by rw [hg]; exact Nat.ne_of_gt (IsS81.lt (show IsS81 w0 _ g s0_0 s0_1 s0_2 from iHI)) : gb364 ≠ g)); replace HI0 := aa (IsS81.below iHI hb); clear hb hbox hg) | ((with_reducible refine gate_callee (f := 118) rfl ?_); refine goesL_ (some 6) rfl rfl Try.func118 (by kernel_rfl) rfl #[.pointer (some ⟨g, 0, none⟩), .int .i64 50] rfl iAR ?_; (with_reducible refine (spec_l01Next.calls g s0_0 s0_1 s0_2 50 t365 t366 t367 w0 _ ?side1 ?side2 A3.out).mono ?_); (case side1 => exact iHI); (case side2 => exact iHS); rintro e w8 ⟨rfl, hi, hb, hk⟩; refine ⟨_, rfl, ?_⟩; replace BK363 := aa (KeepBut.blk hk (iBK BK363.out) NB363_0.out (by simp)); replace BK364 := aa (KeepBut.blk hk (iBK BK364.out) NB364_0.out (by simp)); replace HK := aa (KeepBut.trans (w := w) iHK hk (.inl rfl)); replace HB := aa (hb); replace HI0 := aa (hi); (try clear hb); (try clear hk); (try clear hi)))
    replace BK363 := aa (blk_drew BK363.out)
    replace BK364 := aa (blk_drew BK364.out)
    replace HI0 := aa (IsS81.drew HI0.out)
    replace HK := aa (keep_drew HK.out)
    replace HB := aa (below_drew1 HB.out)
    refine start_ (n := 7) (S := fun w' => w'.cell? ⟨gb363, 0, none⟩ = some (.int .i64 a1_0) ∧ w'.cell? ⟨gb363, 1, none⟩ = some (.int .i64 a1_1)) (ds := []) #[false, false, false, false, false, false, false] (by kernel_rfl) rfl rfl ⟨(blk_cell BK363.out 0).trans rfl, (blk_cell BK363.out 1).trans rfl⟩ (fun hHeld => ?_)
    generalize w8.drew = w9 at BK363 BK364 HI0 HK HB hHeld ⊢
    refine pure_ (i := 0) (N := some 9) (v := ?_) (a' := ?_) #[true, false, false, false, false, false, false] rfl rfl (by kernel_rfl) (fun _ _ _ h => h) (Or.inl ⟨by rfl, ?_⟩) ?_ ?_
    rotate_left
    · intro w'
      go_simp
      with_reducible rfl
    rotate_left
    · simp only [Act.put, List.setIfInBounds_toArray, List.set_cons_zero, List.set_cons_succ, i64_w, i32_w]
      rfl
    refine pure_ (i := 3) (N := some 12) (v := ?_) (a' := ?_) #[true, false, false, true, false, false, false] rfl rfl (by kernel_rfl) (fun _ _ _ h => h) (Or.inl ⟨by rfl, ?_⟩) ?_ ?_
    rotate_left
    · intro w'
      go_simp
      with_reducible rfl
    rotate_left
    · simp only [Act.put, List.setIfInBounds_toArray, List.set_cons_zero, List.set_cons_succ, i64_w, i32_w]
      rfl
    refine take_ (i := 4) (N := some 13) (v := ?_) (a' := ?_) #[true, false, false, true, true, false, false] rfl rfl (by kernel_rfl) (fun _ _ _ h => h) (Or.inl ⟨by rfl, ?_⟩) hHeld ?_ ?_
    rotate_left
    · rintro w' ⟨s0, s1⟩
      go_simp
      with_reducible rfl
    rotate_left
    · simp only [Act.put, List.setIfInBounds_toArray, List.set_cons_zero, List.set_cons_succ, i64_w, i32_w]
      rfl
    refine one_ (i := 1) (N := some 10) #[true, true, false, true, true, false, false] rfl rfl (by kernel_rfl) (by decide) (fun K hK => ?_)
    refine Kd.R_lit_step (Kd.int .i64) _ 2 ?hg (N := 10) ?hd (xs := ([(-1), 5, 1099511627776] : List Int)) (inner := [.int .i64 (-1), .int .i64 5, .int .i64 1099511627776]) (ok := fun _ => True) (okp := fun _ => True) ?hr ?hp (fun _ hk => hk) trivial (Below.refl _ _) (Nat.le_refl _) (by simp) ?_; (case hd => rfl); (case hg => rfl); (case hr => first | (go_simp; done) | (go_simp; rfl)); (case hp => exact (Reps.one (show Kd.M (Kd.int .i64) _ _ _ (-1) [.int .i64 (-1)] from rfl) (Reps.one (show Kd.M (Kd.int .i64) _ _ _ 5 [.int .i64 5] from rfl) (Reps.one (show Kd.M (Kd.int .i64) _ _ _ 1099511627776 [.int .i64 1099511627776] from rfl) (Reps.none _ _)))))
    intro v369 w10 ho11 hb hg_ hnew_
    clear hg_ hnew_
    (first | rw [← Ny368.out] at ho11 | (simp only [Int.reduceToNat] at ho11; rw [← Ny368.out] at ho11))
    have HO370 := aa (Kd.R_lower ho11 (keep_size (w := w) (g := g) (row := none) iHK))
    replace BK363 := aa (blk_below (iBK BK363.out) hb)
    replace BK364 := aa (blk_below (iBK BK364.out) hb)
    replace HK := aa (KeepBut.trans (w := w) iHK (KeepBut.of_below hb g none) (.inl rfl))
    replace HB := aa (below_step iHS hb)
    replace HI0 := aa (IsS81.below iHI hb)
    clear hb ho11
    obtain ⟨Ao12, co12, eo12⟩ := Kd.R_slice HO370.out
    (first | subst eo12 | (injection eo12 with f1_ f2_ f3_; have f4_ := f1_.symm; have f5_ := f3_.symm; clear f1_ f2_ f3_; subst f4_; subst f5_))
    refine hK.out _ _ ⟨(blk_cell BK363.out 0).trans rfl, (blk_cell BK363.out 1).trans rfl⟩ (fun hHeld => ?_)
    clear hK K
    refine norm_ (a' := ?_) ?_ ?_
    rotate_left
    · show Act.put _ (some 10) _ = _
      simp only [Act.put, List.setIfInBounds_toArray, List.set_cons_zero, List.set_cons_succ, i64_w, i32_w]
      rfl
    refine one_ (i := 2) (N := some 11) #[true, true, true, true, true, false, false] rfl rfl (by kernel_rfl) (by decide) (fun K hK => ?_)
    refine goes_ Try.func119 (by kernel_rfl) rfl #[.pointer (some ⟨g, 0, none⟩), .slice Ao12 y368.length co12] (by rfl) rfl rfl iAR ?_
    with_reducible refine (spec_l01Pick.calls g s0_0 t366 t367 _ _ y368 t371 t372 t373 w0 _ ?side1 ?side2 ?side3 ?side4 ?side5 A5.out).mono ?_
    (case side1 => exact iHI)
    (case side2 => exact iHS)
    (case side3 => repeat (first | exact (Kd.R_reads' HO370.out).2.2 | (with_reducible refine Kd.C_alloc ?_ _) | (with_reducible refine Kd.C_drewN ?_ _) | (with_reducible refine Kd.C_drew ?_)))
    (case side4 => exact (Kd.R_reads' HO370.out).2.1)
    (case side5 => exact far_slice (IsS81.own_ne HI0.out HO370.out (by decide)))
    rintro e w13 ⟨rfl, hi, hb, hk⟩
    refine ⟨_, rfl, ?_⟩
    replace BK363 := aa (KeepBut.blk hk (iBK BK363.out) NB363_0.out (by simp))
    replace BK364 := aa (KeepBut.blk hk (iBK BK364.out) NB364_0.out (by simp))
    replace HO370 := aa (Kd.R_mono (Kd.R_keep (IsS81.apart (show IsS81 w0 _ g s0_0 t366 t367 from iHI) (by (with_reducible repeat (first | apply Kd.R_alloc | apply Kd.R_drewN | apply Kd.R_drew)); exact HO370.out) (by decide)) hk (fun _ h => h.2)) (fun _ h => h.1))
    replace HK := aa (KeepBut.trans (w := w) iHK hk (.inl rfl))
    replace HB := aa (hb)
    replace HI0 := aa (hi)
    (try clear hb)
    (try clear hb2)
    (try clear hk)
    (try clear hi)
    refine hK.out _ _ ⟨(blk_cell BK363.out 0).trans rfl, (blk_cell BK363.out 1).trans rfl⟩ (fun hHeld => ?_)
    clear hK K
    refine norm_ (a' := ?_) ?_ ?_
    rotate_left
    · show Act.put _ (some 11) _ = _
      simp only [Act.put, List.setIfInBounds_toArray, List.set_cons_zero, List.set_cons_succ, i64_w, i32_w]
      rfl
    refine pure_ (i := 5) (N := some 14) (v := ?_) (a' := ?_) #[true, true, true, true, true, true, false] rfl rfl (by kernel_rfl) (fun _ _ _ h => h) (Or.inl ⟨by rfl, ?_⟩) ?_ ?_
    rotate_left
    · intro w'
      go_simp
      with_reducible rfl
    rotate_left
    · simp only [Act.put, List.setIfInBounds_toArray, List.set_cons_zero, List.set_cons_succ, i64_w, i32_w]
      rfl
    refine one_ (i := 6) (N := none) #[true, true, true, true, true, true, true] rfl rfl (by kernel_rfl) (by decide) (fun K hK => ?_)
    have hs14 : w13.cell? ⟨gb364, 0, none⟩ = some (.int .i64 0) := (blk_cell BK364.out 0).trans rfl
    have hfs14 := blk_frozen BK364.out 0
    have hns14_0 := NB363_364.out
    have hms14_0 := NB364_363.out
    have hs15 : w13.cell? ⟨gb364, 1, none⟩ = some (.int .i64 0) := (blk_cell BK364.out 1).trans rfl
    have hfs15 := blk_frozen BK364.out 1
    have hns15_0 := NB363_364.out
    have hms15_0 := NB364_363.out
    refine skip_ (w1 := ?_) (by rfl) rfl ?_ ?_
    rotate_left
    · go_simp
      rfl
    refine hK.out _ _ ⟨((cell_far (p := ⟨gb364, _, none⟩) NB363_364.out _).trans (((cell_far (p := ⟨gb364, _, none⟩) NB363_364.out _).trans (hHeld.1)))), ((cell_far (p := ⟨gb364, _, none⟩) NB363_364.out _).trans (((cell_far (p := ⟨gb364, _, none⟩) NB363_364.out _).trans (hHeld.2))))⟩ (fun hHeld => ?_)
    clear hK K
    refine done_ (by kernel_rfl) ?_
    try go_wp2
    refine bodyPost_ret (results_cell_row rfl _ _ gb364 27 #[.int .i64 t371, .int .i64 a1_1] (0, 0) _ rfl (by (with_reducible repeat (first | refine blk_drewN ?_ _ | refine blk_drew ?_ | refine blk_alloc ?_ _)); refine blk_put (cs := #[.int .i64 t371, .int .i64 0]) ?_ 1 _ rfl; (with_reducible repeat (first | refine blk_drewN ?_ _ | refine blk_drew ?_ | refine blk_alloc ?_ _)); refine blk_put (cs := #[.int .i64 0, .int .i64 0]) ?_ 0 _ rfl; exact iBK BK364.out) Try.underlying27 rfl (by kernel_rfl)) rfl ?_
    exact ⟨by first | rfl | (simp [errW_none, errW_some] <;> rfl) | (simp [*, errW_none, errW_some] <;> rfl), iHI, iHS, iHK⟩
  · rw [if_neg c4] at H
    have c4b0 : (t365 == 0) = false := beq_eq_false_iff_ne.mpr c4
    have c4b1 : (t365 != 0) = true := bne_iff_ne.mpr c4
    by_cases c16 : t365 = 1
    · rw [if_pos c16] at H
      have c16b0 : (t365 == 1) = true := beq_iff_eq.mpr c16
      have c16b1 : (t365 != 1) = false := bne_eq_false_iff_eq.mpr c16
      clear c16
      replace H := Option.bind_eq_some_iff.mp H
      obtain ⟨t374, A170, H⟩ := H
      replace H : ((spec_l01Pick.f s0_0 t366 t367 (([(-1), wrap64 (t374 + 1), 1099511627776] : List Int))).bind fun bt378 => (some (a1_0, bt378.1, bt378.2.1, bt378.2.2))) = some (r1, r2, r3, r4) := H
      have A17 := Aside0.mk A170
      clear A170
      obtain ⟨y375, hy375⟩ : ∃ y_ : List Int, y_ = (([(-1), wrap64 (t374 + 1), 1099511627776] : List Int)) := ⟨_, rfl⟩
      replace H : ((spec_l01Pick.f s0_0 t366 t367 y375).bind fun bt378 => (some (a1_0, bt378.1, bt378.2.1, bt378.2.2))) = some (r1, r2, r3, r4) := by first | (rw [hy375]; with_reducible exact H) | (have H2_ := (Option.bind_some _ _).symm.trans H; rw [hy375]; with_reducible exact H2_) | (have H2_ := (Option.bind_some _ _).symm.trans H; with_reducible exact H2_) | with_reducible exact H | (rw [hy375]; exact H) | exact H
      have Ny375 := Aside0.mk hy375
      clear hy375
      replace H := Option.bind_eq_some_iff.mp H
      obtain ⟨⟨t378, t379, t380⟩, A180, H⟩ := H
      replace H : (some (a1_0, t378, t379, t380)) = some (r1, r2, r3, r4) := H
      have A18 := Aside0.mk A180
      clear A180
      simp only [Option.some.injEq, Prod.mk.injEq] at H
      obtain ⟨rfl, rfl, rfl, rfl⟩ := H
      go_enter Try.func106, Try.ntmps106
      try go_wp2_with (first | ((with_reducible refine gate_dst (N := 3) rfl ?_); refine box_event ?hg (N := 3) ?hd (cs := #[.int .i64 a1_0, .int .i64 a1_1]) (t := 27) ?hr ?_; (case hd => rfl); (case hg => rfl); (case hr => first | (go_simp; done) | (go_simp; rfl)); intro gb363 hg w19 hbox hb; replace HB := aa (below_step iHS hb); have BK363 := aa (hbox); have GW363 := aa ((by rw [hg]; exact (keep_size (w := w) (g := g) (row := none) iHK) : w.heap.size ≤ gb363)); have GE363 := aa ((Nat.le_trans HW0.out (by rw [hg]; exact (keep_size (w := w) (g := g) (row := none) iHK) : w.heap.size ≤ gb363) : w0.heap.size ≤ gb363)); replace HK := aa (KeepBut.trans (w := w) iHK (KeepBut.of_below hb g none) (.inl rfl)); have NB0_363 := aa ((by rw [hg]; exact Nat.ne_of_lt (IsS81.lt (show IsS81 w0 _ g s0_0 s0_1 s0_2 from iHI)) : g ≠ gb363)); have NB363_0 := aa ((by rw [hg]; exact Nat.ne_of_gt (IsS81.lt (show IsS81 w0 _ g s0_0 s0_1 s0_2 from iHI)) : gb363 ≠ g)); replace HI0 := aa (IsS81.below iHI hb); clear hb hbox hg) | ((with_reducible refine gate_dst (N := 4) rfl ?_); refine box_event ?hg (N := 4) ?hd (cs := #[.int .i64 0, .int .i64 0]) (t := 27) ?hr ?_; (case hd => rfl); (case hg => rfl); (case hr => first | (go_simp; done) | (go_simp; rfl)); intro gb364 hg w20 hbox hb; replace HB := aa (below_step iHS hb); have BK364 := aa (hbox); have GW364 := aa ((by rw [hg]; exact (keep_size (w := w) (g := g) (row := none) iHK) : w.heap.size ≤ gb364)); have GE364 := aa ((Nat.le_trans HW0.out (by rw [hg]; exact (keep_size (w := w) (g := g) (row := none) iHK) : w.heap.size ≤ gb364) : w0.heap.size ≤ gb364)); replace HK := aa (KeepBut.trans (w := w) iHK (KeepBut.of_below hb g none) (.inl rfl)); have NB363_364 := nbL hg (iBK BK363.out); have NB364_363 := nbR hg (iBK BK363.out); replace BK363 := aa (blk_below (iBK BK363.out) hb); have NB0_364 := aa ((by rw [hg]; exact Nat.ne_of_lt (IsS81.lt (show IsS81 w0 _ g s0_0 s0_1 s0_2 from iHI)) : g ≠ gb364)); have NB364_0 := aa ((by rw [hg]; exact Nat.ne_of_gt (IsS81.lt (show IsS81 w0 _ g s0_0 s0_1 s0_2 from iHI)) : gb364 ≠ g)); replace HI0 := aa (IsS81.below iHI hb); clear hb hbox hg) | ((with_reducible refine gate_callee (f := 118) rfl ?_); refine goesL_ (some 6) rfl rfl Try.func118 (by kernel_rfl) rfl #[.pointer (some ⟨g, 0, none⟩), .int .i64 50] rfl iAR ?_; (with_reducible refine (spec_l01Next.calls g s0_0 s0_1 s0_2 50 t365 t366 t367 w0 _ ?side1 ?side2 A3.out).mono ?_); (case side1 => exact iHI); (case side2 => exact iHS); rintro e w21 ⟨rfl, hi, hb, hk⟩; refine ⟨_, rfl, ?_⟩; replace BK363 := aa (KeepBut.blk hk (iBK BK363.out) NB363_0.out (by simp)); replace BK364 := aa (KeepBut.blk hk (iBK BK364.out) NB364_0.out (by simp)); replace HK := aa (KeepBut.trans (w := w) iHK hk (.inl rfl)); replace HB := aa (hb); replace HI0 := aa (hi); (try clear hb); (try clear hk); (try clear hi)))
      replace BK363 := aa (blk_drew BK363.out)
      replace BK364 := aa (blk_drew BK364.out)
      replace HI0 := aa (IsS81.drew HI0.out)
      replace HK := aa (keep_drew HK.out)
      replace HB := aa (below_drew1 HB.out)
      refine start_ (n := 11) (S := fun w' => w'.cell? ⟨gb363, 0, none⟩ = some (.int .i64 a1_0) ∧ w'.cell? ⟨gb363, 1, none⟩ = some (.int .i64 a1_1)) (ds := []) #[false, false, false, false, false, false, false, false, false, false, false] (by kernel_rfl) rfl rfl ⟨(blk_cell BK363.out 0).trans rfl, (blk_cell BK363.out 1).trans rfl⟩ (fun hHeld => ?_); refine with_tabW spec_l01Bad.tab5 spec_l01Bad.bits5 (fun HT_ HW_ => ?_)
      generalize w21.drew = w22 at BK363 BK364 HI0 HK HB hHeld ⊢
      refine pure_ (i := 0) (N := some 17) (v := ?_) (a' := ?_) #[true, false, false, false, false, false, false, false, false, false, false] rfl rfl (any_of HT_.out (by kernel_rfl)) (fun _ _ _ h => h) (Or.inl ⟨by rfl, ?_⟩) ?_ ?_
      rotate_left
      · intro w'
        go_simp
        with_reducible rfl
      rotate_left
      · simp only [Act.put, List.setIfInBounds_toArray, List.set_cons_zero, List.set_cons_succ, i64_w, i32_w]
        rfl
      refine pure_ (i := 2) (N := some 19) (v := ?_) (a' := ?_) #[true, false, true, false, false, false, false, false, false, false, false] rfl rfl (any_of HT_.out (by kernel_rfl)) (fun _ _ _ h => h) (Or.inl ⟨by rfl, ?_⟩) ?_ ?_
      rotate_left
      · intro w'
        go_simp
        with_reducible rfl
      rotate_left
      · simp only [Act.put, List.setIfInBounds_toArray, List.set_cons_zero, List.set_cons_succ, i64_w, i32_w]
        rfl
      refine pure_ (i := 3) (N := some 20) (v := ?_) (a' := ?_) #[true, false, true, true, false, false, false, false, false, false, false] rfl rfl (any_of HT_.out (by kernel_rfl)) (fun _ _ _ h => h) (Or.inl ⟨by rfl, ?_⟩) ?_ ?_
      rotate_left
      · intro w'
        go_simp
        with_reducible rfl
      rotate_left
      · simp only [Act.put, List.setIfInBounds_toArray, List.set_cons_zero, List.set_cons_succ, i64_w, i32_w]
        rfl
      refine take_ (i := 1) (N := some 18) (v := ?_) (a' := ?_) #[true, true, true, true, false, false, false, false, false, false, false] rfl rfl (take_ofW HT_.out HW_.out (by kernel_rfl)) (fun _ _ _ h => h) (Or.inl ⟨by rfl, ?_⟩) hHeld ?_ ?_
      rotate_left
      · rintro w' ⟨s0, s1⟩
        go_simp
        with_reducible rfl
      rotate_left
      · simp only [Act.put, List.setIfInBounds_toArray, List.set_cons_zero, List.set_cons_succ, i64_w, i32_w]
        rfl
      refine take_ (i := 4) (N := some 21) (v := ?_) (a' := ?_) #[true, true, true, true, true, false, false, false, false, false, false] rfl rfl (take_ofW HT_.out HW_.out (by kernel_rfl)) (fun _ _ _ h => h) (Or.inl ⟨by rfl, ?_⟩) hHeld ?_ ?_
      rotate_left
      · rintro w' ⟨s0, s1⟩
        go_simp
        with_reducible rfl
      rotate_left
      · simp only [Act.put, List.setIfInBounds_toArray, List.set_cons_zero, List.set_cons_succ, i64_w, i32_w]
        rfl
      refine one_ (i := 5) (N := some 22) #[true, true, true, true, true, true, false, false, false, false, false] rfl rfl (one_of HT_.out (by kernel_rfl)) (by decide) (fun K hK => ?_)
      refine goes_ Try.func109 (by kernel_rfl) rfl #[.int .i64 a1_0] (by rfl) rfl rfl iAR ?_
      with_reducible refine (spec_l01All.calls a1_0 t374 _ A17.out).mono ?_
      rintro e w' ⟨rfl, ⟨nd, rfl⟩⟩
      refine ⟨_, rfl, ?_⟩
      refine hK.out _ _ ⟨(blk_cell BK363.out 0).trans rfl, (blk_cell BK363.out 1).trans rfl⟩ (fun hHeld => ?_)
      clear hK K
      refine norm_ (a' := ?_) ?_ ?_
      rotate_left
      · show Act.put _ (some 22) _ = _
        simp only [Act.put, List.setIfInBounds_toArray, List.set_cons_zero, List.set_cons_succ, i64_w, i32_w]
        rfl
      refine pure_ (i := 6) (N := some 23) (v := ?_) (a' := ?_) #[true, true, true, true, true, true, true, false, false, false, false] rfl rfl (any_of HT_.out (by kernel_rfl)) (fun _ _ _ h => h) (Or.inl ⟨by rfl, ?_⟩) ?_ ?_
      rotate_left
      · intro w'
        go_simp
        with_reducible rfl
      rotate_left
      · simp only [Act.put, List.setIfInBounds_toArray, List.set_cons_zero, List.set_cons_succ, i64_w, i32_w]
        rfl
      refine one_ (i := 7) (N := some 24) #[true, true, true, true, true, true, true, true, false, false, false] rfl rfl (one_of HT_.out (by kernel_rfl)) (by decide) (fun K hK => ?_)
      refine Kd.R_lit_step (Kd.int .i64) _ 2 ?hg (N := 24) ?hd (xs := ([(-1), wrap64 (t374 + 1), 1099511627776] : List Int)) (inner := [.int .i64 (-1), .int .i64 (wrap64 (t374 + 1)), .int .i64 1099511627776]) (ok := fun _ => True) (okp := fun _ => True) ?hr ?hp (fun _ hk => hk) trivial (Below.refl _ _) (Nat.le_refl _) (by simp) ?_; (case hd => rfl); (case hg => rfl); (case hr => first | (go_simp; done) | (go_simp; rfl)); (case hp => exact (Reps.one (show Kd.M (Kd.int .i64) _ _ _ (-1) [.int .i64 (-1)] from rfl) (Reps.one (show Kd.M (Kd.int .i64) _ _ _ (wrap64 (t374 + 1)) [.int .i64 (wrap64 (t374 + 1))] from rfl) (Reps.one (show Kd.M (Kd.int .i64) _ _ _ 1099511627776 [.int .i64 1099511627776] from rfl) (Reps.none _ _)))))
      intro v376 w23 ho24 hb hg_ hnew_
      clear hg_ hnew_
      (first | rw [← Ny375.out] at ho24 | (simp only [Int.reduceToNat] at ho24; rw [← Ny375.out] at ho24))
      have HO377 := aa (Kd.R_lower ho24 (keep_size (w := w) (g := g) (row := none) iHK))
      replace BK363 := aa (blk_below (iBK BK363.out) hb)
      replace BK364 := aa (blk_below (iBK BK364.out) hb)
      replace HK := aa (KeepBut.trans (w := w) iHK (KeepBut.of_below hb g none) (.inl rfl))
      replace HB := aa (below_step iHS hb)
      replace HI0 := aa (IsS81.below iHI hb)
      clear hb ho24
      obtain ⟨Ao25, co25, eo25⟩ := Kd.R_slice HO377.out
      (first | subst eo25 | (injection eo25 with f1_ f2_ f3_; have f4_ := f1_.symm; have f5_ := f3_.symm; clear f1_ f2_ f3_; subst f4_; subst f5_))
      refine hK.out _ _ ⟨(blk_cell BK363.out 0).trans rfl, (blk_cell BK363.out 1).trans rfl⟩ (fun hHeld => ?_)
      clear hK K
      refine norm_ (a' := ?_) ?_ ?_
      rotate_left
      · show Act.put _ (some 24) _ = _
        simp only [Act.put, List.setIfInBounds_toArray, List.set_cons_zero, List.set_cons_succ, i64_w, i32_w]
        rfl
      refine one_ (i := 8) (N := some 25) #[true, true, true, true, true, true, true, true, true, false, false] rfl rfl (one_of HT_.out (by kernel_rfl)) (by decide) (fun K hK => ?_)
      refine goes_ Try.func119 (by kernel_rfl) rfl #[.pointer (some ⟨g, 0, none⟩), .slice Ao25 y375.length co25] (by rfl) rfl rfl iAR ?_
      with_reducible refine (spec_l01Pick.calls g s0_0 t366 t367 _ _ y375 t378 t379 t380 w0 _ ?side1 ?side2 ?side3 ?side4 ?side5 A18.out).mono ?_
      (case side1 => exact iHI)
      (case side2 => exact iHS)
      (case side3 => repeat (first | exact (Kd.R_reads' HO377.out).2.2 | (with_reducible refine Kd.C_alloc ?_ _) | (with_reducible refine Kd.C_drewN ?_ _) | (with_reducible refine Kd.C_drew ?_)))
      (case side4 => exact (Kd.R_reads' HO377.out).2.1)
      (case side5 => exact far_slice (IsS81.own_ne HI0.out HO377.out (by decide)))
      rintro e w26 ⟨rfl, hi, hb, hk⟩
      refine ⟨_, rfl, ?_⟩
      replace BK363 := aa (KeepBut.blk hk (iBK BK363.out) NB363_0.out (by simp))
      replace BK364 := aa (KeepBut.blk hk (iBK BK364.out) NB364_0.out (by simp))
      replace HO377 := aa (Kd.R_mono (Kd.R_keep (IsS81.apart (show IsS81 w0 _ g s0_0 t366 t367 from iHI) (by (with_reducible repeat (first | apply Kd.R_alloc | apply Kd.R_drewN | apply Kd.R_drew)); exact HO377.out) (by decide)) hk (fun _ h => h.2)) (fun _ h => h.1))
      replace HK := aa (KeepBut.trans (w := w) iHK hk (.inl rfl))
      replace HB := aa (hb)
      replace HI0 := aa (hi)
      (try clear hb)
      (try clear hb2)
      (try clear hk)
      (try clear hi)
      refine hK.out _ _ ⟨(blk_cell BK363.out 0).trans rfl, (blk_cell BK363.out 1).trans rfl⟩ (fun hHeld => ?_)
      clear hK K
      refine norm_ (a' := ?_) ?_ ?_
      rotate_left
      · show Act.put _ (some 25) _ = _
        simp only [Act.put, List.setIfInBounds_toArray, List.set_cons_zero, List.set_cons_succ, i64_w, i32_w]
        rfl
      refine pure_ (i := 9) (N := some 26) (v := ?_) (a' := ?_) #[true, true, true, true, true, true, true, true, true, true, false] rfl rfl (any_of HT_.out (by kernel_rfl)) (fun _ _ _ h => h) (Or.inl ⟨by rfl, ?_⟩) ?_ ?_
      rotate_left
      · intro w'
        go_simp
        with_reducible rfl
      rotate_left
      · simp only [Act.put, List.setIfInBounds_toArray, List.set_cons_zero, List.set_cons_succ, i64_w, i32_w]
        rfl
      refine one_ (i := 10) (N := none) #[true, true, true, true, true, true, true, true, true, true, true] rfl rfl (one_of HT_.out (by kernel_rfl)) (by decide) (fun K hK => ?_)
      have hs27 : w26.cell? ⟨gb364, 0, none⟩ = some (.int .i64 0) := (blk_cell BK364.out 0).trans rfl
      have hfs27 := blk_frozen BK364.out 0
      have hns27_0 := NB363_364.out
      have hms27_0 := NB364_363.out
      have hs28 : w26.cell? ⟨gb364, 1, none⟩ = some (.int .i64 0) := (blk_cell BK364.out 1).trans rfl
      have hfs28 := blk_frozen BK364.out 1
      have hns28_0 := NB363_364.out
      have hms28_0 := NB364_363.out
      refine skip_ (w1 := ?_) (by rfl) rfl ?_ ?_
      rotate_left
      · go_simp
        rfl
      refine hK.out _ _ ⟨((cell_far (p := ⟨gb364, _, none⟩) NB363_364.out _).trans (((cell_far (p := ⟨gb364, _, none⟩) NB363_364.out _).trans (hHeld.1)))), ((cell_far (p := ⟨gb364, _, none⟩) NB363_364.out _).trans (((cell_far (p := ⟨gb364, _, none⟩) NB363_364.out _).trans (hHeld.2))))⟩ (fun hHeld => ?_)
      clear hK K
      refine done_ (done_of HT_.out (by kernel_rfl)) ?_
      try go_wp2
      refine bodyPost_ret (results_cell_row rfl _ _ gb364 27 #[.int .i64 a1_0, .int .i64 t378] (0, 0) _ rfl (by (with_reducible repeat (first | refine blk_drewN ?_ _ | refine blk_drew ?_ | refine blk_alloc ?_ _)); refine blk_put (cs := #[.int .i64 a1_0, .int .i64 0]) ?_ 1 _ rfl; (with_reducible repeat (first | refine blk_drewN ?_ _ | refine blk_drew ?_ | refine blk_alloc ?_ _)); refine blk_put (cs := #[.int .i64 0, .int .i64 0]) ?_ 0 _ rfl; exact iBK BK364.out) Try.underlying27 rfl (by kernel_rfl)) rfl ?_
      exact ⟨by first | rfl | (simp [errW_none, errW_some] <;> rfl) | (simp [*, errW_none, errW_some] <;> rfl), iHI, iHS, iHK⟩
    · rw [if_neg c16] at H
      have c16b0 : (t365 == 1) = false := beq_eq_false_iff_ne.mpr c16
      have c16b1 : (t365 != 1) = true := bne_iff_ne.mpr c16
      simp only [Option.some.injEq, Prod.mk.injEq] at H
      obtain ⟨rfl, rfl, rfl, rfl⟩ := H
      go_enter Try.func106, Try.ntmps106
      go_wp2_with (first | ((with_reducible refine gate_dst (N := 3) rfl ?_); refine box_event ?hg (N := 3) ?hd (cs := #[.int .i64 a1_0, .int .i64 a1_1]) (t := 27) ?hr ?_; (case hd => rfl); (case hg => rfl); (case hr => first | (go_simp; done) | (go_simp; rfl)); intro gb363 hg w29 hbox hb; replace HB := aa (below_step iHS hb); have BK363 := aa (hbox); have GW363 := aa ((by rw [hg]; exact (keep_size (w := w) (g := g) (row := none) iHK) : w.heap.size ≤ gb363)); have GE363 := aa ((Nat.le_trans HW0.out (by rw [hg]; exact (keep_size (w := w) (g := g) (row := none) iHK) : w.heap.size ≤ gb363) : w0.heap.size ≤ gb363)); replace HK := aa (KeepBut.trans (w := w) iHK (KeepBut.of_below hb g none) (.inl rfl)); have NB0_363 := aa ((by rw [hg]; exact Nat.ne_of_lt (IsS81.lt (show IsS81 w0 _ g s0_0 s0_1 s0_2 from iHI)) : g ≠ gb363)); have NB363_0 := aa ((by rw [hg]; exact Nat.ne_of_gt (IsS81.lt (show IsS81 w0 _ g s0_0 s0_1 s0_2 from iHI)) : gb363 ≠ g)); replace HI0 := aa (IsS81.below iHI hb); clear hb hbox hg) | ((with_reducible refine gate_dst (N := 4) rfl ?_); refine box_event ?hg (N := 4) ?hd (cs := #[.int .i64 0, .int .i64 0]) (t := 27) ?hr ?_; (case hd => rfl); (case hg => rfl); (case hr => first | (go_simp; done) | (go_simp; rfl)); intro gb364 hg w30 hbox hb; replace HB := aa (below_step iHS hb); have BK364 := aa (hbox); have GW364 := aa ((by rw [hg]; exact (keep_size (w := w) (g := g) (row := none) iHK) : w.heap.size ≤ gb364)); have GE364 := aa ((Nat.le_trans HW0.out (by rw [hg]; exact (keep_size (w := w) (g := g) (row := none) iHK) : w.heap.size ≤ gb364) : w0.heap.size ≤ gb364)); replace HK := aa (KeepBut.trans (w := w) iHK (KeepBut.of_below hb g none) (.inl rfl)); have NB363_364 := nbL hg (iBK BK363.out); have NB364_363 := nbR hg (iBK BK363.out); replace BK363 := aa (blk_below (iBK BK363.out) hb); have NB0_364 := aa ((by rw [hg]; exact Nat.ne_of_lt (IsS81.lt (show IsS81 w0 _ g s0_0 s0_1 s0_2 from iHI)) : g ≠ gb364)); have NB364_0 := aa ((by rw [hg]; exact Nat.ne_of_gt (IsS81.lt (show IsS81 w0 _ g s0_0 s0_1 s0_2 from iHI)) : gb364 ≠ g)); replace HI0 := aa (IsS81.below iHI hb); clear hb hbox hg) | ((with_reducible refine gate_callee (f := 118) rfl ?_); refine goesL_ (some 6) rfl rfl Try.func118 (by kernel_rfl) rfl #[.pointer (some ⟨g, 0, none⟩), .int .i64 50] rfl iAR ?_; (with_reducible refine (spec_l01Next.calls g s0_0 s0_1 s0_2 50 t365 t366 t367 w0 _ ?side1 ?side2 A3.out).mono ?_); (case side1 => exact iHI); (case side2 => exact iHS); rintro e w31 ⟨rfl, hi, hb, hk⟩; refine ⟨_, rfl, ?_⟩; replace BK363 := aa (KeepBut.blk hk (iBK BK363.out) NB363_0.out (by simp)); replace BK364 := aa (KeepBut.blk hk (iBK BK364.out) NB364_0.out (by simp)); replace HK := aa (KeepBut.trans (w := w) iHK hk (.inl rfl)); replace HB := aa (hb); replace HI0 := aa (hi); (try clear hb); (try clear hk); (try clear hi); have hnb32 := NB363_364.out; have hnc32 := NB364_363.out; have hnb33 := NB363_0.out; have hnc33 := NB0_363.out; have hcz34_0 : w31.cell? ⟨gb363, 0, none⟩ = some (.int .i64 a1_0) := (blk_cell BK363.out 0).trans rfl; have hcz34_1 : w31.cell? ⟨gb363, 1, none⟩ = some (.int .i64 a1_1) := (blk_cell BK363.out 1).trans rfl; have hfz34_0 := blk_frozen BK363.out 0; have hfz34_1 := blk_frozen BK363.out 1; have hnb35 := NB364_0.out; have hnc35 := NB0_364.out; have hcz36_0 : w31.cell? ⟨gb364, 0, none⟩ = some (.int .i64 0) := (blk_cell BK364.out 0).trans rfl; have hcz36_1 : w31.cell? ⟨gb364, 1, none⟩ = some (.int .i64 0) := (blk_cell BK364.out 1).trans rfl; have hfz36_0 := blk_frozen BK364.out 0; have hfz36_1 := blk_frozen BK364.out 1))
      refine bodyPost_ret (results_cell_row rfl _ _ gb364 27 #[.int .i64 a1_0, .int .i64 a1_1] (0, 0) _ rfl (by (with_reducible repeat (first | refine blk_drewN ?_ _ | refine blk_drew ?_ | refine blk_alloc ?_ _)); refine blk_put (cs := #[.int .i64 a1_0, .int .i64 0]) ?_ 1 _ rfl; (with_reducible repeat (first | refine blk_drewN ?_ _ | refine blk_drew ?_ | refine blk_alloc ?_ _)); refine blk_put (cs := #[.int .i64 0, .int .i64 0]) ?_ 0 _ rfl; exact iBK BK364.out) Try.underlying27 rfl (by kernel_rfl)) rfl ?_
      exact ⟨by first | rfl | (simp [errW_none, errW_some] <;> rfl) | (simp [*, errW_none, errW_some] <;> rfl), iHI, iHS, iHK⟩
end Go.Proofs.Ytdhfbgbclibagaa.P
