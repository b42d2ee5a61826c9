/- Functions of the given program and their contracts, written by a program of this session (gen.py) over the kit's print. -/
import Derived.Test.YtdhfbgbclibagaaROx0
import Derived.Test.YtdhfbgbclibagaaROx3
import Derived.Test.YtdhfbgbclibagaaROx5
import Derived.Test.YtdhfbgbclibagaaROx10
import Derived.Test.YtdhfbgbclibagaaROx12
import Derived.Test.YtdhfbgbclibagaaROx13
namespace Go.Proofs.Ytdhfbgbclibagaa.P
open Go.RowKit Go.Proofs.YtdhfbgbclibagaaW.PrintWords Go.Proofs.YtdhfbgbclibagaaW.PrintLast Go.Proofs.YtdhfbgbclibagaaW.PrintMore
attribute [local go_sem] max2_int min2_int max_two min_two max_three min_three max_four min_four   -- for this text's walks alone
set_option linter.unusedVariables false
set_option linter.unusedSimpArgs false
def spec_l03Two.f (k : Nat) (l0 : List Int) : Option (Int × Int × Int × Int) := (spec_l01From.f k l0).bind fun bt383 => ((spec_l01Draw.f k bt383.1 bt383.2.1 bt383.2.2).bind fun bt387 => ((spec_l01DrawOf.f k bt383.1 bt387.2.2.1 bt387.2.2.2 bt387.1).bind fun bt392 => ((spec_l01Next.f bt383.1 bt392.2.2.1 bt392.2.2.2 16).bind fun bt397 => (if bt397.1 = 0 then ((spec_l01Draw.f k bt383.1 bt397.2.1 bt397.2.2).bind fun bt400 => ((spec_l01Bad.f bt383.1 bt400.2.2.1 bt400.2.2.2 bt387.1 bt387.2.1).bind fun bt404 => ((spec_l01Bad.f bt383.1 bt404.2.2.1 bt404.2.2.2 bt400.1 bt400.2.1).bind fun bt408 => (some (bt404.1, bt404.2.1, bt408.1, bt408.2.1))))) else (if bt397.1 = 1 then ((spec_l01Bad.f bt383.1 bt397.2.1 bt397.2.2 bt387.1 bt387.2.1).bind fun bt412 => ((spec_l01Bad.f bt383.1 bt412.2.2.1 bt412.2.2.2 bt387.1 bt387.2.1).bind fun bt416 => (some (bt412.1, bt412.2.1, bt416.1, bt416.2.1)))) else ((spec_l01Bad.f bt383.1 bt397.2.1 bt397.2.2 bt387.1 bt387.2.1).bind fun bt420 => ((spec_l01Bad.f bt383.1 bt420.2.2.1 bt420.2.2.2 bt392.1 bt392.2.1).bind fun bt424 => (some (bt420.1, bt420.2.1, bt424.1, bt424.2.1)))))))))
def spec_l03Two.T9 : Bool × List (List Nat × List Nat) := (true, [([], []), ([], []), ([0, 1], [0, 1]), ([], []), ([], []), ([3, 4, 2], [3, 4]), ([2, 5, 0, 1, 2], [2]), ([5, 6, 0, 1, 2, 3, 4, 5, 6], [5])])
def spec_l03Two.B9 : List Nat := [0, 0, 3, 0, 0, 31, 63, 127]
theorem spec_l03Two.tab9 : rtab .any (opsOf Try.f98 9) = spec_l03Two.T9 := by kernel_rfl
theorem spec_l03Two.bits9 : waitsOk spec_l03Two.T9.2 spec_l03Two.B9 = true := by kernel_rfl
set_option maxHeartbeats 8000000 in
set_option maxRecDepth 100000 in
theorem spec_l03Two.calls (k : Nat) (A0 : Option Addr) (c0 : Nat) (l0 : List Int) (r1 : Int) (r2 : Int) (r3 : Int) (r4 : Int) (w : World) (hr0 : Kd.C (Kd.int .u8) w A0 l0.length l0) (hc0 : l0.length ≤ c0) (h : spec_l03Two.f k l0 = some (r1, r2, r3, r4)) :
    Calls Try.prog 98 #[.slice A0 l0.length c0] w fun e w' => e = .returned (.tuple #[.agg #[.int .i64 r1, .int .i64 r2], .agg #[.int .i64 r3, .int .i64 r4]]) ∧ Below w.heap.size w w' := by
  have hu27 := Try.underlying27
  have HR0 := Aside0.mk hr0
  have HC0 := Aside0.mk hc0
  clear hr0 hc0
  have HB := aa (Below.refl w.heap.size w)
  have H : ((spec_l01From.f k l0).bind fun bt383 => ((spec_l01Draw.f k bt383.1 bt383.2.1 bt383.2.2).bind fun bt387 => ((spec_l01DrawOf.f k bt383.1 bt387.2.2.1 bt387.2.2.2 bt387.1).bind fun bt392 => ((spec_l01Next.f bt383.1 bt392.2.2.1 bt392.2.2.2 16).bind fun bt397 => (if bt397.1 = 0 then ((spec_l01Draw.f k bt383.1 bt397.2.1 bt397.2.2).bind fun bt400 => ((spec_l01Bad.f bt383.1 bt400.2.2.1 bt400.2.2.2 bt387.1 bt387.2.1).bind fun bt404 => ((spec_l01Bad.f bt383.1 bt404.2.2.1 bt404.2.2.2 bt400.1 bt400.2.1).bind fun bt408 => (some (bt404.1, bt404.2.1, bt408.1, bt408.2.1))))) else (if bt397.1 = 1 then ((spec_l01Bad.f bt383.1 bt397.2.1 bt397.2.2 bt387.1 bt387.2.1).bind fun bt412 => ((spec_l01Bad.f bt383.1 bt412.2.2.1 bt412.2.2.2 bt387.1 bt387.2.1).bind fun bt416 => (some (bt412.1, bt412.2.1, bt416.1, bt416.2.1)))) else ((spec_l01Bad.f bt383.1 bt397.2.1 bt397.2.2 bt387.1 bt387.2.1).bind fun bt420 => ((spec_l01Bad.f bt383.1 bt420.2.2.1 bt420.2.2.2 bt392.1 bt392.2.1).bind fun bt424 => (some (bt420.1, bt420.2.1, bt424.1, bt424.2.1)))))))))) = some (r1, r2, r3, r4) := h
  clear h
  replace H := Option.bind_eq_some_iff.mp H
  obtain ⟨⟨t383, t384, t385⟩, A20, H⟩ := H
  replace H : ((spec_l01Draw.f k t383 t384 t385).bind fun bt387 => ((spec_l01DrawOf.f k t383 bt387.2.2.1 bt387.2.2.2 bt387.1).bind fun bt392 => ((spec_l01Next.f t383 bt392.2.2.1 bt392.2.2.2 16).bind fun bt397 => (if bt397.1 = 0 then ((spec_l01Draw.f k t383 bt397.2.1 bt397.2.2).bind fun bt400 => ((spec_l01Bad.f t383 bt400.2.2.1 bt400.2.2.2 bt387.1 bt387.2.1).bind fun bt404 => ((spec_l01Bad.f t383 bt404.2.2.1 bt404.2.2.2 bt400.1 bt400.2.1).bind fun bt408 => (some (bt404.1, bt404.2.1, bt408.1, bt408.2.1))))) else (if bt397.1 = 1 then ((spec_l01Bad.f t383 bt397.2.1 bt397.2.2 bt387.1 bt387.2.1).bind fun bt412 => ((spec_l01Bad.f t383 bt412.2.2.1 bt412.2.2.2 bt387.1 bt387.2.1).bind fun bt416 => (some (bt412.1, bt412.2.1, bt416.1, bt416.2.1)))) else ((spec_l01Bad.f t383 bt397.2.1 bt397.2.2 bt387.1 bt387.2.1).bind fun bt420 => ((spec_l01Bad.f t383 bt420.2.2.1 bt420.2.2.2 bt392.1 bt392.2.1).bind fun bt424 => (some (bt420.1, bt420.2.1, bt424.1, bt424.2.1))))))))) = some (r1, r2, r3, r4) := H
  have A2 := Aside0.mk A20
  clear A20
  replace H := Option.bind_eq_some_iff.mp H
  obtain ⟨⟨t387, t388, t389, t390⟩, A30, H⟩ := H
  replace H : ((spec_l01DrawOf.f k t383 t389 t390 t387).bind fun bt392 => ((spec_l01Next.f t383 bt392.2.2.1 bt392.2.2.2 16).bind fun bt397 => (if bt397.1 = 0 then ((spec_l01Draw.f k t383 bt397.2.1 bt397.2.2).bind fun bt400 => ((spec_l01Bad.f t383 bt400.2.2.1 bt400.2.2.2 t387 t388).bind fun bt404 => ((spec_l01Bad.f t383 bt404.2.2.1 bt404.2.2.2 bt400.1 bt400.2.1).bind fun bt408 => (some (bt404.1, bt404.2.1, bt408.1, bt408.2.1))))) else (if bt397.1 = 1 then ((spec_l01Bad.f t383 bt397.2.1 bt397.2.2 t387 t388).bind fun bt412 => ((spec_l01Bad.f t383 bt412.2.2.1 bt412.2.2.2 t387 t388).bind fun bt416 => (some (bt412.1, bt412.2.1, bt416.1, bt416.2.1)))) else ((spec_l01Bad.f t383 bt397.2.1 bt397.2.2 t387 t388).bind fun bt420 => ((spec_l01Bad.f t383 bt420.2.2.1 bt420.2.2.2 bt392.1 bt392.2.1).bind fun bt424 => (some (bt420.1, bt420.2.1, bt424.1, bt424.2.1)))))))) = some (r1, r2, r3, r4) := H
  have A3 := Aside0.mk A30
  clear A30
  replace H := Option.bind_eq_some_iff.mp H
  obtain ⟨⟨t392, t393, t394, t395⟩, A40, H⟩ := H
  replace H : ((spec_l01Next.f t383 t394 t395 16).bind fun bt397 => (if bt397.1 = 0 then ((spec_l01Draw.f k t383 bt397.2.1 bt397.2.2).bind fun bt400 => ((spec_l01Bad.f t383 bt400.2.2.1 bt400.2.2.2 t387 t388).bind fun bt404 => ((spec_l01Bad.f t383 bt404.2.2.1 bt404.2.2.2 bt400.1 bt400.2.1).bind fun bt408 => (some (bt404.1, bt404.2.1, bt408.1, bt408.2.1))))) else (if bt397.1 = 1 then ((spec_l01Bad.f t383 bt397.2.1 bt397.2.2 t387 t388).bind fun bt412 => ((spec_l01Bad.f t383 bt412.2.2.1 bt412.2.2.2 t387 t388).bind fun bt416 => (some (bt412.1, bt412.2.1, bt416.1, bt416.2.1)))) else ((spec_l01Bad.f t383 bt397.2.1 bt397.2.2 t387 t388).bind fun bt420 => ((spec_l01Bad.f t383 bt420.2.2.1 bt420.2.2.2 t392 t393).bind fun bt424 => (some (bt420.1, bt420.2.1, bt424.1, bt424.2.1))))))) = some (r1, r2, r3, r4) := H
  have A4 := Aside0.mk A40
  clear A40
  replace H := Option.bind_eq_some_iff.mp H
  obtain ⟨⟨t397, t398, t399⟩, A50, H⟩ := H
  replace H : (if t397 = 0 then ((spec_l01Draw.f k t383 t398 t399).bind fun bt400 => ((spec_l01Bad.f t383 bt400.2.2.1 bt400.2.2.2 t387 t388).bind fun bt404 => ((spec_l01Bad.f t383 bt404.2.2.1 bt404.2.2.2 bt400.1 bt400.2.1).bind fun bt408 => (some (bt404.1, bt404.2.1, bt408.1, bt408.2.1))))) else (if t397 = 1 then ((spec_l01Bad.f t383 t398 t399 t387 t388).bind fun bt412 => ((spec_l01Bad.f t383 bt412.2.2.1 bt412.2.2.2 t387 t388).bind fun bt416 => (some (bt412.1, bt412.2.1, bt416.1, bt416.2.1)))) else ((spec_l01Bad.f t383 t398 t399 t387 t388).bind fun bt420 => ((spec_l01Bad.f t383 bt420.2.2.1 bt420.2.2.2 t392 t393).bind fun bt424 => (some (bt420.1, bt420.2.1, bt424.1, bt424.2.1)))))) = some (r1, r2, r3, r4) := H
  have A5 := Aside0.mk A50
  clear A50
  by_cases c6 : t397 = 0
  · rw [if_pos c6] at H
    have c6b0 : (t397 == 0) = true := beq_iff_eq.mpr c6
    have c6b1 : (t397 != 0) = false := bne_eq_false_iff_eq.mpr c6
    clear c6
    replace H := Option.bind_eq_some_iff.mp H
    obtain ⟨⟨t400, t401, t402, t403⟩, A70, H⟩ := H
    replace H : ((spec_l01Bad.f t383 t402 t403 t387 t388).bind fun bt404 => ((spec_l01Bad.f t383 bt404.2.2.1 bt404.2.2.2 t400 t401).bind fun bt408 => (some (bt404.1, bt404.2.1, bt408.1, bt408.2.1)))) = some (r1, r2, r3, r4) := H
    have A7 := Aside0.mk A70
    clear A70
    replace H := Option.bind_eq_some_iff.mp H
    obtain ⟨⟨t404, t405, t406, t407⟩, A80, H⟩ := H
    replace H : ((spec_l01Bad.f t383 t406 t407 t400 t401).bind fun bt408 => (some (t404, t405, bt408.1, bt408.2.1))) = some (r1, r2, r3, r4) := H
    have A8 := Aside0.mk A80
    clear A80
    replace H := Option.bind_eq_some_iff.mp H
    obtain ⟨⟨t408, t409, t410, t411⟩, A90, H⟩ := H
    replace H : (some (t404, t405, t408, t409)) = some (r1, r2, r3, r4) := H
    have A9 := Aside0.mk A90
    clear A90
    simp only [Option.some.injEq, Prod.mk.injEq] at H
    obtain ⟨rfl, rfl, rfl, rfl⟩ := H
    go_enter Try.func98, Try.ntmps98
    try go_wp2_with (first | ((with_reducible refine gate_dst (N := 2) rfl ?_); refine box_event ?hg (N := 2) ?hd (cs := #[.int .i64 0, .int .i64 0]) (t := 27) ?hr ?_; (case hd => rfl); (case hg => rfl); (case hr => first | (go_simp; done) | (go_simp; rfl)); intro gb381 hg w10 hbox hb; have BK381 := aa (hbox); have GW381 := gwB (w := w) hg iHB; have GE381 := gwB (w := w) hg iHB; replace HB := aa (below_step iHB hb); clear hb hbox hg) | ((with_reducible refine gate_dst (N := 3) rfl ?_); refine box_event ?hg (N := 3) ?hd (cs := #[.int .i64 0, .int .i64 0]) (t := 27) ?hr ?_; (case hd => rfl); (case hg => rfl); (case hr => first | (go_simp; done) | (go_simp; rfl)); intro gb382 hg w11 hbox hb; have BK382 := aa (hbox); have GW382 := gwB (w := w) hg iHB; have GE382 := gwB (w := w) hg iHB; replace HB := aa (below_step iHB hb); have NB381_382 := nbL hg (iBK BK381.out); have NB382_381 := nbR hg (iBK BK381.out); replace BK381 := aa (blk_below (iBK BK381.out) hb); clear hb hbox hg) | ((with_reducible refine gate_callee (f := 96) rfl ?_); refine goesL_ (some 8) rfl rfl Try.func96 (by kernel_rfl) rfl #[.slice A0 l0.length c0] rfl iAR ?_; (with_reducible refine (spec_l01From.calls k _ _ l0 t383 t384 t385 w _ ?side1 ?side2 ?side3 A2.out).mono ?_); (case side1 => exact iHB); (case side2 => exact HR0.out); (case side3 => exact HC0.out); rintro e w12 ⟨g386, rfl, hi, hb, hb2⟩; refine ⟨_, rfl, ?_⟩; replace HB := aa (hb); have HI386 := aa (hi); have NB386_381 := aa (IsS81.ne_blk hi (blk_below (iBK BK381.out) hb2) (by decide)); have NB381_386 := aa (Ne.symm (IsS81.ne_blk hi (blk_below (iBK BK381.out) hb2) (by decide))); replace BK381 := aa (blk_below (iBK BK381.out) hb2); have NB386_382 := aa (IsS81.ne_blk hi (blk_below (iBK BK382.out) hb2) (by decide)); have NB382_386 := aa (Ne.symm (IsS81.ne_blk hi (blk_below (iBK BK382.out) hb2) (by decide))); replace BK382 := aa (blk_below (iBK BK382.out) hb2); (try clear hb); (try clear hb2); (try clear hi)) | ((with_reducible refine gate_callee (f := 104) rfl ?_); refine goesL_ (some 10) rfl rfl Try.func104 (by kernel_rfl) rfl #[.pointer (some ⟨g386, 0, none⟩)] rfl iAR ?_; (with_reducible refine (spec_l01Draw.calls k g386 t383 t384 t385 t387 t388 t389 t390 w _ ?side1 ?side2 A3.out).mono ?_); (case side1 => exact iHI); (case side2 => exact iHS); rintro e w13 ⟨rfl, hi, hb, hk⟩; refine ⟨_, rfl, ?_⟩; replace BK381 := aa (KeepBut.blk hk (iBK BK381.out) NB381_386.out (by simp)); replace BK382 := aa (KeepBut.blk hk (iBK BK382.out) NB382_386.out (by simp)); replace HB := aa (hb); replace HI386 := aa (hi); (try clear hb); (try clear hk); (try clear hi)) | ((with_reducible refine gate_dst (N := 5) rfl ?_); refine box_event ?hg (N := 5) ?hd (cs := #[.int .i64 0, .int .i64 0]) (t := 27) ?hr ?_; (case hd => rfl); (case hg => rfl); (case hr => first | (go_simp; done) | (go_simp; rfl)); intro gb391 hg w14 hbox hb; have BK391 := aa (hbox); have GW391 := gwB (w := w) hg iHS; have GE391 := gwB (w := w) hg iHS; replace HB := aa (below_step iHS hb); have NB381_391 := nbL hg (iBK BK381.out); have NB391_381 := nbR hg (iBK BK381.out); replace BK381 := aa (blk_below (iBK BK381.out) hb); have NB382_391 := nbL hg (iBK BK382.out); have NB391_382 := nbR hg (iBK BK382.out); replace BK382 := aa (blk_below (iBK BK382.out) hb); have NB386_391 := aa ((by rw [hg]; exact Nat.ne_of_lt (IsS81.lt (show IsS81 w _ g386 t383 t389 t390 from iHI)) : g386 ≠ gb391)); have NB391_386 := aa ((by rw [hg]; exact Nat.ne_of_gt (IsS81.lt (show IsS81 w _ g386 t383 t389 t390 from iHI)) : gb391 ≠ g386)); replace HI386 := aa (IsS81.below iHI hb); clear hb hbox hg; have hnb15 := NB391_381.out; have hnc15 := NB381_391.out; have hnb16 := NB391_382.out; have hnc16 := NB382_391.out; have hnb17 := NB391_386.out; have hnc17 := NB386_391.out; have hcz18_0 : w14.cell? ⟨gb391, 0, none⟩ = some (.int .i64 0) := (blk_cell BK391.out 0).trans rfl; have hcz18_1 : w14.cell? ⟨gb391, 1, none⟩ = some (.int .i64 0) := (blk_cell BK391.out 1).trans rfl; have hfz18_0 := blk_frozen BK391.out 0; have hfz18_1 := blk_frozen BK391.out 1) | ((with_reducible refine gate_callee (f := 123) rfl ?_); refine goesL_ (some 14) rfl rfl Try.func123 (by kernel_rfl) rfl #[.pointer (some ⟨g386, 0, none⟩), .int .i64 t387] rfl iAR ?_; (with_reducible refine (spec_l01DrawOf.calls k g386 t383 t389 t390 t387 t392 t393 t394 t395 w _ ?side1 ?side2 A4.out).mono ?_); (case side1 => exact iHI); (case side2 => exact iHS); rintro e w19 ⟨rfl, hi, hb, hk⟩; refine ⟨_, rfl, ?_⟩; replace BK381 := aa (KeepBut.blk hk (g' := gb381) (o := .cells #[.int .i64 0, .int .i64 0] 27 (0, 0)) (by (with_reducible repeat (first | refine blk_drewN ?_ _ | refine blk_drew ?_ | refine blk_alloc ?_ _)); refine blk_far ?_ NB381_391.out _; (with_reducible repeat (first | refine blk_drewN ?_ _ | refine blk_drew ?_ | refine blk_alloc ?_ _)); refine blk_far ?_ NB381_391.out _; exact iBK BK381.out) NB381_386.out (by simp)); replace BK382 := aa (KeepBut.blk hk (g' := gb382) (o := .cells #[.int .i64 0, .int .i64 0] 27 (0, 0)) (by (with_reducible repeat (first | refine blk_drewN ?_ _ | refine blk_drew ?_ | refine blk_alloc ?_ _)); refine blk_far ?_ NB382_391.out _; (with_reducible repeat (first | refine blk_drewN ?_ _ | refine blk_drew ?_ | refine blk_alloc ?_ _)); refine blk_far ?_ NB382_391.out _; exact iBK BK382.out) NB382_386.out (by simp)); replace BK391 := aa (KeepBut.blk hk (g' := gb391) (o := .cells #[.int .i64 t387, .int .i64 t388] 27 (0, 0)) (by (with_reducible repeat (first | refine blk_drewN ?_ _ | refine blk_drew ?_ | refine blk_alloc ?_ _)); refine blk_put (cs := #[.int .i64 t387, .int .i64 0]) ?_ 1 _ rfl; (with_reducible repeat (first | refine blk_drewN ?_ _ | refine blk_drew ?_ | refine blk_alloc ?_ _)); refine blk_put (cs := #[.int .i64 0, .int .i64 0]) ?_ 0 _ rfl; exact iBK BK391.out) NB391_386.out (by simp)); replace HB := aa (hb); replace HI386 := aa (hi); (try clear hb); (try clear hk); (try clear hi)) | ((with_reducible refine gate_dst (N := 6) rfl ?_); refine box_event ?hg (N := 6) ?hd (cs := #[.int .i64 0, .int .i64 0]) (t := 27) ?hr ?_; (case hd => rfl); (case hg => rfl); (case hr => first | (go_simp; done) | (go_simp; rfl)); intro gb396 hg w20 hbox hb; have BK396 := aa (hbox); have GW396 := gwB (w := w) hg iHS; have GE396 := gwB (w := w) hg iHS; replace HB := aa (below_step iHS hb); have NB381_396 := nbL hg (iBK BK381.out); have NB396_381 := nbR hg (iBK BK381.out); replace BK381 := aa (blk_below (iBK BK381.out) hb); have NB382_396 := nbL hg (iBK BK382.out); have NB396_382 := nbR hg (iBK BK382.out); replace BK382 := aa (blk_below (iBK BK382.out) hb); have NB391_396 := nbL hg (iBK BK391.out); have NB396_391 := nbR hg (iBK BK391.out); replace BK391 := aa (blk_below (iBK BK391.out) hb); have NB386_396 := aa ((by rw [hg]; exact Nat.ne_of_lt (IsS81.lt (show IsS81 w _ g386 t383 t394 t395 from iHI)) : g386 ≠ gb396)); have NB396_386 := aa ((by rw [hg]; exact Nat.ne_of_gt (IsS81.lt (show IsS81 w _ g386 t383 t394 t395 from iHI)) : gb396 ≠ g386)); replace HI386 := aa (IsS81.below iHI hb); clear hb hbox hg; have hnb21 := NB396_381.out; have hnc21 := NB381_396.out; have hnb22 := NB396_382.out; have hnc22 := NB382_396.out; have hnb23 := NB396_391.out; have hnc23 := NB391_396.out; have hnb24 := NB396_386.out; have hnc24 := NB386_396.out; have hcz25_0 : w20.cell? ⟨gb396, 0, none⟩ = some (.int .i64 0) := (blk_cell BK396.out 0).trans rfl; have hcz25_1 : w20.cell? ⟨gb396, 1, none⟩ = some (.int .i64 0) := (blk_cell BK396.out 1).trans rfl; have hfz25_0 := blk_frozen BK396.out 0; have hfz25_1 := blk_frozen BK396.out 1) | ((with_reducible refine gate_callee (f := 118) rfl ?_); refine goesL_ (some 16) rfl rfl Try.func118 (by kernel_rfl) rfl #[.pointer (some ⟨g386, 0, none⟩), .int .i64 16] rfl iAR ?_; (with_reducible refine (spec_l01Next.calls g386 t383 t394 t395 16 t397 t398 t399 w _ ?side1 ?side2 A5.out).mono ?_); (case side1 => exact iHI); (case side2 => exact iHS); rintro e w26 ⟨rfl, hi, hb, hk⟩; refine ⟨_, rfl, ?_⟩; replace BK381 := aa (KeepBut.blk hk (g' := gb381) (o := .cells #[.int .i64 0, .int .i64 0] 27 (0, 0)) (by (with_reducible repeat (first | refine blk_drewN ?_ _ | refine blk_drew ?_ | refine blk_alloc ?_ _)); refine blk_far ?_ NB381_396.out _; (with_reducible repeat (first | refine blk_drewN ?_ _ | refine blk_drew ?_ | refine blk_alloc ?_ _)); refine blk_far ?_ NB381_396.out _; exact iBK BK381.out) NB381_386.out (by simp)); replace BK382 := aa (KeepBut.blk hk (g' := gb382) (o := .cells #[.int .i64 0, .int .i64 0] 27 (0, 0)) (by (with_reducible repeat (first | refine blk_drewN ?_ _ | refine blk_drew ?_ | refine blk_alloc ?_ _)); refine blk_far ?_ NB382_396.out _; (with_reducible repeat (first | refine blk_drewN ?_ _ | refine blk_drew ?_ | refine blk_alloc ?_ _)); refine blk_far ?_ NB382_396.out _; exact iBK BK382.out) NB382_386.out (by simp)); replace BK391 := aa (KeepBut.blk hk (g' := gb391) (o := .cells #[.int .i64 t387, .int .i64 t388] 27 (0, 0)) (by (with_reducible repeat (first | refine blk_drewN ?_ _ | refine blk_drew ?_ | refine blk_alloc ?_ _)); refine blk_far ?_ NB391_396.out _; (with_reducible repeat (first | refine blk_drewN ?_ _ | refine blk_drew ?_ | refine blk_alloc ?_ _)); refine blk_far ?_ NB391_396.out _; exact iBK BK391.out) NB391_386.out (by simp)); replace BK396 := aa (KeepBut.blk hk (g' := gb396) (o := .cells #[.int .i64 t392, .int .i64 t393] 27 (0, 0)) (by (with_reducible repeat (first | refine blk_drewN ?_ _ | refine blk_drew ?_ | refine blk_alloc ?_ _)); refine blk_put (cs := #[.int .i64 t392, .int .i64 0]) ?_ 1 _ rfl; (with_reducible repeat (first | refine blk_drewN ?_ _ | refine blk_drew ?_ | refine blk_alloc ?_ _)); refine blk_put (cs := #[.int .i64 0, .int .i64 0]) ?_ 0 _ rfl; exact iBK BK396.out) NB396_386.out (by simp)); replace HB := aa (hb); replace HI386 := aa (hi); (try clear hb); (try clear hk); (try clear hi)) | ((with_reducible refine gate_callee (f := 104) rfl ?_); refine goesL_ (some 20) rfl rfl Try.func104 (by kernel_rfl) rfl #[.pointer (some ⟨g386, 0, none⟩)] rfl iAR ?_; (with_reducible refine (spec_l01Draw.calls k g386 t383 t398 t399 t400 t401 t402 t403 w _ ?side1 ?side2 A7.out).mono ?_); (case side1 => exact iHI); (case side2 => exact iHS); rintro e w27 ⟨rfl, hi, hb, hk⟩; refine ⟨_, rfl, ?_⟩; replace BK381 := aa (KeepBut.blk hk (iBK BK381.out) NB381_386.out (by simp)); replace BK382 := aa (KeepBut.blk hk (iBK BK382.out) NB382_386.out (by simp)); replace BK391 := aa (KeepBut.blk hk (iBK BK391.out) NB391_386.out (by simp)); replace BK396 := aa (KeepBut.blk hk (iBK BK396.out) NB396_386.out (by simp)); replace HB := aa (hb); replace HI386 := aa (hi); (try clear hb); (try clear hk); (try clear hi); have hcz28_0 : w27.cell? ⟨gb396, 0, none⟩ = some (.int .i64 t392) := (blk_cell BK396.out 0).trans rfl; have hcz28_1 : w27.cell? ⟨gb396, 1, none⟩ = some (.int .i64 t393) := (blk_cell BK396.out 1).trans rfl; have hfz28_0 := blk_frozen BK396.out 0; have hfz28_1 := blk_frozen BK396.out 1))
    have n0_ : Aside0 (((w27.setCell ⟨gb396, 0, none⟩ (.int .i64 t400)).setCell ⟨gb396, 1, none⟩ (.int .i64 t401)).heap[gb381]? = some (.cells #[.int .i64 0, .int .i64 0] 27 (0, 0))) := ⟨by (with_reducible repeat (first | refine blk_drewN ?_ _ | refine blk_drew ?_ | refine blk_alloc ?_ _)); refine blk_far ?_ NB381_396.out _; (with_reducible repeat (first | refine blk_drewN ?_ _ | refine blk_drew ?_ | refine blk_alloc ?_ _)); refine blk_far ?_ NB381_396.out _; exact iBK BK381.out⟩
    have n1_ : Aside0 (((w27.setCell ⟨gb396, 0, none⟩ (.int .i64 t400)).setCell ⟨gb396, 1, none⟩ (.int .i64 t401)).heap[gb382]? = some (.cells #[.int .i64 0, .int .i64 0] 27 (0, 0))) := ⟨by (with_reducible repeat (first | refine blk_drewN ?_ _ | refine blk_drew ?_ | refine blk_alloc ?_ _)); refine blk_far ?_ NB382_396.out _; (with_reducible repeat (first | refine blk_drewN ?_ _ | refine blk_drew ?_ | refine blk_alloc ?_ _)); refine blk_far ?_ NB382_396.out _; exact iBK BK382.out⟩
    have n2_ : Aside0 (((w27.setCell ⟨gb396, 0, none⟩ (.int .i64 t400)).setCell ⟨gb396, 1, none⟩ (.int .i64 t401)).heap[gb391]? = some (.cells #[.int .i64 t387, .int .i64 t388] 27 (0, 0))) := ⟨by (with_reducible repeat (first | refine blk_drewN ?_ _ | refine blk_drew ?_ | refine blk_alloc ?_ _)); refine blk_far ?_ NB391_396.out _; (with_reducible repeat (first | refine blk_drewN ?_ _ | refine blk_drew ?_ | refine blk_alloc ?_ _)); refine blk_far ?_ NB391_396.out _; exact iBK BK391.out⟩
    have n3_ : Aside0 (((w27.setCell ⟨gb396, 0, none⟩ (.int .i64 t400)).setCell ⟨gb396, 1, none⟩ (.int .i64 t401)).heap[gb396]? = some (.cells #[.int .i64 t400, .int .i64 t401] 27 (0, 0))) := ⟨by (with_reducible repeat (first | refine blk_drewN ?_ _ | refine blk_drew ?_ | refine blk_alloc ?_ _)); refine blk_put (cs := #[.int .i64 t400, .int .i64 t393]) ?_ 1 _ rfl; (with_reducible repeat (first | refine blk_drewN ?_ _ | refine blk_drew ?_ | refine blk_alloc ?_ _)); refine blk_put (cs := #[.int .i64 t392, .int .i64 t393]) ?_ 0 _ rfl; exact iBK BK396.out⟩
    have n4_ : Aside0 (IsS81 w ((w27.setCell ⟨gb396, 0, none⟩ (.int .i64 t400)).setCell ⟨gb396, 1, none⟩ (.int .i64 t401)) g386 t383 t402 t403) := ⟨iHI⟩
    have n5_ : Aside0 (Below w.heap.size w ((w27.setCell ⟨gb396, 0, none⟩ (.int .i64 t400)).setCell ⟨gb396, 1, none⟩ (.int .i64 t401))) := ⟨iHS⟩
    (try clear BK381)
    (try clear BK382)
    (try clear BK391)
    (try clear BK396)
    (try clear HI386)
    (try clear HB)
    generalize ((w27.setCell ⟨gb396, 0, none⟩ (.int .i64 t400)).setCell ⟨gb396, 1, none⟩ (.int .i64 t401)) = w29 at n0_ n1_ n2_ n3_ n4_ n5_ ⊢
    have BK381 := n0_
    have BK382 := n1_
    have BK391 := n2_
    have BK396 := n3_
    have HI386 := n4_
    have HB := n5_
    clear n0_ n1_ n2_ n3_ n4_ n5_
    replace BK381 := aa (blk_drew BK381.out)
    replace BK382 := aa (blk_drew BK382.out)
    replace BK391 := aa (blk_drew BK391.out)
    replace BK396 := aa (blk_drew BK396.out)
    replace HI386 := aa (IsS81.drew HI386.out)
    replace HB := aa (below_drew1 HB.out)
    refine start_ (n := 8) (S := fun w' => w'.cell? ⟨gb391, 0, none⟩ = some (.int .i64 t387) ∧ w'.cell? ⟨gb391, 1, none⟩ = some (.int .i64 t388) ∧ w'.cell? ⟨gb396, 0, none⟩ = some (.int .i64 t400) ∧ w'.cell? ⟨gb396, 1, none⟩ = some (.int .i64 t401)) (ds := []) #[false, false, false, false, false, false, false, false] (by kernel_rfl) rfl rfl ⟨(blk_cell BK391.out 0).trans rfl, (blk_cell BK391.out 1).trans rfl, (blk_cell BK396.out 0).trans rfl, (blk_cell BK396.out 1).trans rfl⟩ (fun hHeld => ?_); refine with_tabW spec_l03Two.tab9 spec_l03Two.bits9 (fun HT_ HW_ => ?_)
    generalize w29.drew = w30 at BK381 BK382 BK391 BK396 HI386 HB hHeld ⊢
    refine pure_ (i := 0) (N := some 24) (v := ?_) (a' := ?_) #[true, false, false, false, false, false, false, false] rfl rfl (any_of HT_.out (by kernel_rfl)) (fun _ _ _ h => h) (Or.inl ⟨by rfl, ?_⟩) ?_ ?_
    rotate_left
    · intro w'
      go_simp
      with_reducible rfl
    rotate_left
    · simp only [Act.put, List.setIfInBounds_toArray, List.set_cons_zero, List.set_cons_succ, i64_w, i32_w]
      rfl
    refine pure_ (i := 3) (N := some 27) (v := ?_) (a' := ?_) #[true, false, false, true, false, false, false, false] rfl rfl (any_of HT_.out (by kernel_rfl)) (fun _ _ _ h => h) (Or.inl ⟨by rfl, ?_⟩) ?_ ?_
    rotate_left
    · intro w'
      go_simp
      with_reducible rfl
    rotate_left
    · simp only [Act.put, List.setIfInBounds_toArray, List.set_cons_zero, List.set_cons_succ, i64_w, i32_w]
      rfl
    refine take_ (i := 1) (N := some 25) (v := ?_) (a' := ?_) #[true, true, false, true, false, false, false, false] rfl rfl (take_ofW HT_.out HW_.out (by kernel_rfl)) (fun _ _ _ h => h) (Or.inl ⟨by rfl, ?_⟩) hHeld ?_ ?_
    rotate_left
    · rintro w' ⟨s0, s1, s2, s3⟩
      go_simp
      with_reducible rfl
    rotate_left
    · simp only [Act.put, List.setIfInBounds_toArray, List.set_cons_zero, List.set_cons_succ, i64_w, i32_w]
      rfl
    refine take_ (i := 4) (N := some 28) (v := ?_) (a' := ?_) #[true, true, false, true, true, false, false, false] rfl rfl (take_ofW HT_.out HW_.out (by kernel_rfl)) (fun _ _ _ h => h) (Or.inl ⟨by rfl, ?_⟩) hHeld ?_ ?_
    rotate_left
    · rintro w' ⟨s0, s1, s2, s3⟩
      go_simp
      with_reducible rfl
    rotate_left
    · simp only [Act.put, List.setIfInBounds_toArray, List.set_cons_zero, List.set_cons_succ, i64_w, i32_w]
      rfl
    refine one_ (i := 2) (N := some 26) #[true, true, true, true, true, false, false, false] rfl rfl (one_of HT_.out (by kernel_rfl)) (by decide) (fun K hK => ?_)
    refine goes_ Try.func106 (by kernel_rfl) rfl #[.pointer (some ⟨g386, 0, none⟩), .agg #[.int .i64 t387, .int .i64 t388]] (by rfl) rfl rfl iAR ?_
    with_reducible refine (spec_l01Bad.calls g386 t383 t402 t403 t387 t388 t404 t405 t406 t407 w _ ?side1 ?side2 A8.out).mono ?_
    (case side1 => exact iHI)
    (case side2 => exact iHS)
    rintro e w31 ⟨rfl, hi, hb, hk⟩
    refine ⟨_, rfl, ?_⟩
    replace BK381 := aa (KeepBut.blk hk (iBK BK381.out) NB381_386.out (by simp))
    replace BK382 := aa (KeepBut.blk hk (iBK BK382.out) NB382_386.out (by simp))
    replace BK391 := aa (KeepBut.blk hk (iBK BK391.out) NB391_386.out (by simp))
    replace BK396 := aa (KeepBut.blk hk (iBK BK396.out) NB396_386.out (by simp))
    replace HB := aa (hb)
    replace HI386 := aa (hi)
    (try clear hb)
    (try clear hb2)
    (try clear hk)
    (try clear hi)
    refine hK.out _ _ ⟨(blk_cell BK391.out 0).trans rfl, (blk_cell BK391.out 1).trans rfl, (blk_cell BK396.out 0).trans rfl, (blk_cell BK396.out 1).trans rfl⟩ (fun hHeld => ?_)
    clear hK K
    refine norm_ (a' := ?_) ?_ ?_
    rotate_left
    · show Act.put _ (some 26) _ = _
      simp only [Act.put, List.setIfInBounds_toArray, List.set_cons_zero, List.set_cons_succ, i64_w, i32_w]
      rfl
    refine one_ (i := 5) (N := some 29) #[true, true, true, true, true, true, false, false] rfl rfl (one_of HT_.out (by kernel_rfl)) (by decide) (fun K hK => ?_)
    refine goes_ Try.func106 (by kernel_rfl) rfl #[.pointer (some ⟨g386, 0, none⟩), .agg #[.int .i64 t400, .int .i64 t401]] (by rfl) rfl rfl iAR ?_
    with_reducible refine (spec_l01Bad.calls g386 t383 t406 t407 t400 t401 t408 t409 t410 t411 w _ ?side1 ?side2 A9.out).mono ?_
    (case side1 => exact iHI)
    (case side2 => exact iHS)
    rintro e w32 ⟨rfl, hi, hb, hk⟩
    refine ⟨_, rfl, ?_⟩
    replace BK381 := aa (KeepBut.blk hk (iBK BK381.out) NB381_386.out (by simp))
    replace BK382 := aa (KeepBut.blk hk (iBK BK382.out) NB382_386.out (by simp))
    replace BK391 := aa (KeepBut.blk hk (iBK BK391.out) NB391_386.out (by simp))
    replace BK396 := aa (KeepBut.blk hk (iBK BK396.out) NB396_386.out (by simp))
    replace HB := aa (hb)
    replace HI386 := aa (hi)
    (try clear hb)
    (try clear hb2)
    (try clear hk)
    (try clear hi)
    refine hK.out _ _ ⟨(blk_cell BK391.out 0).trans rfl, (blk_cell BK391.out 1).trans rfl, (blk_cell BK396.out 0).trans rfl, (blk_cell BK396.out 1).trans rfl⟩ (fun hHeld => ?_)
    clear hK K
    refine norm_ (a' := ?_) ?_ ?_
    rotate_left
    · show Act.put _ (some 29) _ = _
      simp only [Act.put, List.setIfInBounds_toArray, List.set_cons_zero, List.set_cons_succ, i64_w, i32_w]
      rfl
    refine one_ (i := 6) (N := none) #[true, true, true, true, true, true, true, false] rfl rfl (one_of HT_.out (by kernel_rfl)) (by decide) (fun K hK => ?_)
    have hs33 : w32.cell? ⟨gb381, 0, none⟩ = some (.int .i64 0) := (blk_cell BK381.out 0).trans rfl
    have hfs33 := blk_frozen BK381.out 0
    have hns33_1 := NB382_381.out
    have hns33_2 := NB391_381.out
    have hns33_3 := NB396_381.out
    have hms33_1 := NB381_382.out
    have hms33_2 := NB381_391.out
    have hms33_3 := NB381_396.out
    have hs34 : w32.cell? ⟨gb381, 1, none⟩ = some (.int .i64 0) := (blk_cell BK381.out 1).trans rfl
    have hfs34 := blk_frozen BK381.out 1
    have hns34_1 := NB382_381.out
    have hns34_2 := NB391_381.out
    have hns34_3 := NB396_381.out
    have hms34_1 := NB381_382.out
    have hms34_2 := NB381_391.out
    have hms34_3 := NB381_396.out
    refine skip_ (w1 := ?_) (by rfl) rfl ?_ ?_
    rotate_left
    · go_simp
      rfl
    refine hK.out _ _ ⟨((cell_far (p := ⟨gb381, _, none⟩) NB391_381.out _).trans (((cell_far (p := ⟨gb381, _, none⟩) NB391_381.out _).trans (hHeld.1)))), ((cell_far (p := ⟨gb381, _, none⟩) NB391_381.out _).trans (((cell_far (p := ⟨gb381, _, none⟩) NB391_381.out _).trans (hHeld.2.1)))), ((cell_far (p := ⟨gb381, _, none⟩) NB396_381.out _).trans (((cell_far (p := ⟨gb381, _, none⟩) NB396_381.out _).trans (hHeld.2.2.1)))), ((cell_far (p := ⟨gb381, _, none⟩) NB396_381.out _).trans (((cell_far (p := ⟨gb381, _, none⟩) NB396_381.out _).trans (hHeld.2.2.2))))⟩ (fun hHeld => ?_)
    clear hK K
    refine one_ (i := 7) (N := none) #[true, true, true, true, true, true, true, true] rfl rfl (one_of HT_.out (by kernel_rfl)) (by decide) (fun K hK => ?_)
    have hs35 : w32.cell? ⟨gb382, 0, none⟩ = some (.int .i64 0) := (blk_cell BK382.out 0).trans rfl
    have hfs35 := blk_frozen BK382.out 0
    have hns35_0 := NB381_382.out
    have hns35_2 := NB391_382.out
    have hns35_3 := NB396_382.out
    have hms35_0 := NB382_381.out
    have hms35_2 := NB382_391.out
    have hms35_3 := NB382_396.out
    have hs36 : w32.cell? ⟨gb382, 1, none⟩ = some (.int .i64 0) := (blk_cell BK382.out 1).trans rfl
    have hfs36 := blk_frozen BK382.out 1
    have hns36_0 := NB381_382.out
    have hns36_2 := NB391_382.out
    have hns36_3 := NB396_382.out
    have hms36_0 := NB382_381.out
    have hms36_2 := NB382_391.out
    have hms36_3 := NB382_396.out
    refine skip_ (w1 := ?_) (by rfl) rfl ?_ ?_
    rotate_left
    · go_simp
      rfl
    refine hK.out _ _ ⟨((cell_far (p := ⟨gb382, _, none⟩) NB391_382.out _).trans (((cell_far (p := ⟨gb382, _, none⟩) NB391_382.out _).trans (hHeld.1)))), ((cell_far (p := ⟨gb382, _, none⟩) NB391_382.out _).trans (((cell_far (p := ⟨gb382, _, none⟩) NB391_382.out _).trans (hHeld.2.1)))), ((cell_far (p := ⟨gb382, _, none⟩) NB396_382.out _).trans (((cell_far (p := ⟨gb382, _, none⟩) NB396_382.out _).trans (hHeld.2.2.1)))), ((cell_far (p := ⟨gb382, _, none⟩) NB396_382.out _).trans (((cell_far (p := ⟨gb382, _, none⟩) NB396_382.out _).trans (hHeld.2.2.2))))⟩ (fun hHeld => ?_)
    clear hK K
    refine done_ (done_of HT_.out (by kernel_rfl)) ?_
    try go_wp2
    refine bodyPost_ret (results_cc rfl _ _ gb381 gb382 27 27 #[.int .i64 t404, .int .i64 t405] #[.int .i64 t408, .int .i64 t409] (0, 0) (0, 0) _ _ rfl (by (with_reducible repeat (first | refine blk_drewN ?_ _ | refine blk_drew ?_ | refine blk_alloc ?_ _)); refine blk_far ?_ NB381_382.out _; (with_reducible repeat (first | refine blk_drewN ?_ _ | refine blk_drew ?_ | refine blk_alloc ?_ _)); refine blk_far ?_ NB381_382.out _; (with_reducible repeat (first | refine blk_drewN ?_ _ | refine blk_drew ?_ | refine blk_alloc ?_ _)); refine blk_put (cs := #[.int .i64 t404, .int .i64 0]) ?_ 1 _ rfl; (with_reducible repeat (first | refine blk_drewN ?_ _ | refine blk_drew ?_ | refine blk_alloc ?_ _)); refine blk_put (cs := #[.int .i64 0, .int .i64 0]) ?_ 0 _ rfl; exact iBK BK381.out) Try.underlying27 rfl (by kernel_rfl) rfl (by (with_reducible repeat (first | refine blk_drewN ?_ _ | refine blk_drew ?_ | refine blk_alloc ?_ _)); refine blk_put (cs := #[.int .i64 t408, .int .i64 0]) ?_ 1 _ rfl; (with_reducible repeat (first | refine blk_drewN ?_ _ | refine blk_drew ?_ | refine blk_alloc ?_ _)); refine blk_put (cs := #[.int .i64 0, .int .i64 0]) ?_ 0 _ rfl; (with_reducible repeat (first | refine blk_drewN ?_ _ | refine blk_drew ?_ | refine blk_alloc ?_ _)); refine blk_far ?_ NB382_381.out _; (with_reducible repeat (first | refine blk_drewN ?_ _ | refine blk_drew ?_ | refine blk_alloc ?_ _)); refine blk_far ?_ NB382_381.out _; exact iBK BK382.out) Try.underlying27 rfl (by kernel_rfl)) rfl ?_
    exact ⟨by first | rfl | (simp [errW_none, errW_some] <;> rfl) | (simp [*, errW_none, errW_some] <;> rfl), iHS⟩
  · rw [if_neg c6] at H
    have c6b0 : (t397 == 0) = false := beq_eq_false_iff_ne.mpr c6
    have c6b1 : (t397 != 0) = true := bne_iff_ne.mpr c6
    by_cases c37 : t397 = 1
    · rw [if_pos c37] at H
      have c37b0 : (t397 == 1) = true := beq_iff_eq.mpr c37
      have c37b1 : (t397 != 1) = false := bne_eq_false_iff_eq.mpr c37
      clear c37
      replace H := Option.bind_eq_some_iff.mp H
      obtain ⟨⟨t412, t413, t414, t415⟩, A380, H⟩ := H
      replace H : ((spec_l01Bad.f t383 t414 t415 t387 t388).bind fun bt416 => (some (t412, t413, bt416.1, bt416.2.1))) = some (r1, r2, r3, r4) := H
      have A38 := Aside0.mk A380
      clear A380
      replace H := Option.bind_eq_some_iff.mp H
      obtain ⟨⟨t416, t417, t418, t419⟩, A390, H⟩ := H
      replace H : (some (t412, t413, t416, t417)) = some (r1, r2, r3, r4) := H
      have A39 := Aside0.mk A390
      clear A390
      simp only [Option.some.injEq, Prod.mk.injEq] at H
      obtain ⟨rfl, rfl, rfl, rfl⟩ := H
      go_enter Try.func98, Try.ntmps98
      try go_wp2_with (first | ((with_reducible refine gate_dst (N := 2) rfl ?_); refine box_event ?hg (N := 2) ?hd (cs := #[.int .i64 0, .int .i64 0]) (t := 27) ?hr ?_; (case hd => rfl); (case hg => rfl); (case hr => first | (go_simp; done) | (go_simp; rfl)); intro gb381 hg w40 hbox hb; have BK381 := aa (hbox); have GW381 := gwB (w := w) hg iHB; have GE381 := gwB (w := w) hg iHB; replace HB := aa (below_step iHB hb); clear hb hbox hg) | ((with_reducible refine gate_dst (N := 3) rfl ?_); refine box_event ?hg (N := 3) ?hd (cs := #[.int .i64 0, .int .i64 0]) (t := 27) ?hr ?_; (case hd => rfl); (case hg => rfl); (case hr => first | (go_simp; done) | (go_simp; rfl)); intro gb382 hg w41 hbox hb; have BK382 := aa (hbox); have GW382 := gwB (w := w) hg iHB; have GE382 := gwB (w := w) hg iHB; replace HB := aa (below_step iHB hb); have NB381_382 := nbL hg (iBK BK381.out); have NB382_381 := nbR hg (iBK BK381.out); replace BK381 := aa (blk_below (iBK BK381.out) hb); clear hb hbox hg) | ((with_reducible refine gate_callee (f := 96) rfl ?_); refine goesL_ (some 8) rfl rfl Try.func96 (by kernel_rfl) rfl #[.slice A0 l0.length c0] rfl iAR ?_; (with_reducible refine (spec_l01From.calls k _ _ l0 t383 t384 t385 w _ ?side1 ?side2 ?side3 A2.out).mono ?_); (case side1 => exact iHB); (case side2 => exact HR0.out); (case side3 => exact HC0.out); rintro e w42 ⟨g386, rfl, hi, hb, hb2⟩; refine ⟨_, rfl, ?_⟩; replace HB := aa (hb); have HI386 := aa (hi); have NB386_381 := aa (IsS81.ne_blk hi (blk_below (iBK BK381.out) hb2) (by decide)); have NB381_386 := aa (Ne.symm (IsS81.ne_blk hi (blk_below (iBK BK381.out) hb2) (by decide))); replace BK381 := aa (blk_below (iBK BK381.out) hb2); have NB386_382 := aa (IsS81.ne_blk hi (blk_below (iBK BK382.out) hb2) (by decide)); have NB382_386 := aa (Ne.symm (IsS81.ne_blk hi (blk_below (iBK BK382.out) hb2) (by decide))); replace BK382 := aa (blk_below (iBK BK382.out) hb2); (try clear hb); (try clear hb2); (try clear hi)) | ((with_reducible refine gate_callee (f := 104) rfl ?_); refine goesL_ (some 10) rfl rfl Try.func104 (by kernel_rfl) rfl #[.pointer (some ⟨g386, 0, none⟩)] rfl iAR ?_; (with_reducible refine (spec_l01Draw.calls k g386 t383 t384 t385 t387 t388 t389 t390 w _ ?side1 ?side2 A3.out).mono ?_); (case side1 => exact iHI); (case side2 => exact iHS); rintro e w43 ⟨rfl, hi, hb, hk⟩; refine ⟨_, rfl, ?_⟩; replace BK381 := aa (KeepBut.blk hk (iBK BK381.out) NB381_386.out (by simp)); replace BK382 := aa (KeepBut.blk hk (iBK BK382.out) NB382_386.out (by simp)); replace HB := aa (hb); replace HI386 := aa (hi); (try clear hb); (try clear hk); (try clear hi)) | ((with_reducible refine gate_dst (N := 5) rfl ?_); refine box_event ?hg (N := 5) ?hd (cs := #[.int .i64 0, .int .i64 0]) (t := 27) ?hr ?_; (case hd => rfl); (case hg => rfl); (case hr => first | (go_simp; done) | (go_simp; rfl)); intro gb391 hg w44 hbox hb; have BK391 := aa (hbox); have GW391 := gwB (w := w) hg iHS; have GE391 := gwB (w := w) hg iHS; replace HB := aa (below_step iHS hb); have NB381_391 := nbL hg (iBK BK381.out); have NB391_381 := nbR hg (iBK BK381.out); replace BK381 := aa (blk_below (iBK BK381.out) hb); have NB382_391 := nbL hg (iBK BK382.out); have NB391_382 := nbR hg (iBK BK382.out); replace BK382 := aa (blk_below (iBK BK382.out) hb); have NB386_391 := aa ((by rw [hg]; exact Nat.ne_of_lt (IsS81.lt (show IsS81 w _ g386 t383 t389 t390 from iHI)) : g386 ≠ gb391)); have NB391_386 := aa ((by rw [hg]; exact Nat.ne_of_gt (IsS81.lt (show IsS81 w _ g386 t383 t389 t390 from iHI)) : gb391 ≠ g386)); replace HI386 := aa (IsS81.below iHI hb); clear hb hbox hg; have hnb45 := NB391_381.out; have hnc45 := NB381_391.out; have hnb46 := NB391_382.out; have hnc46 := NB382_391.out; have hnb47 := NB391_386.out; have hnc47 := NB386_391.out; have hcz48_0 : w44.cell? ⟨gb391, 0, none⟩ = some (.int .i64 0) := (blk_cell BK391.out 0).trans rfl; have hcz48_1 : w44.cell? ⟨gb391, 1, none⟩ = some (.int .i64 0) := (blk_cell BK391.out 1).trans rfl; have hfz48_0 := blk_frozen BK391.out 0; have hfz48_1 := blk_frozen BK391.out 1) | ((with_reducible refine gate_callee (f := 123) rfl ?_); refine goesL_ (some 14) rfl rfl Try.func123 (by kernel_rfl) rfl #[.pointer (some ⟨g386, 0, none⟩), .int .i64 t387] rfl iAR ?_; (with_reducible refine (spec_l01DrawOf.calls k g386 t383 t389 t390 t387 t392 t393 t394 t395 w _ ?side1 ?side2 A4.out).mono ?_); (case side1 => exact iHI); (case side2 => exact iHS); rintro e w49 ⟨rfl, hi, hb, hk⟩; refine ⟨_, rfl, ?_⟩; replace BK381 := aa (KeepBut.blk hk (g' := gb381) (o := .cells #[.int .i64 0, .int .i64 0] 27 (0, 0)) (by (with_reducible repeat (first | refine blk_drewN ?_ _ | refine blk_drew ?_ | refine blk_alloc ?_ _)); refine blk_far ?_ NB381_391.out _; (with_reducible repeat (first | refine blk_drewN ?_ _ | refine blk_drew ?_ | refine blk_alloc ?_ _)); refine blk_far ?_ NB381_391.out _; exact iBK BK381.out) NB381_386.out (by simp)); replace BK382 := aa (KeepBut.blk hk (g' := gb382) (o := .cells #[.int .i64 0, .int .i64 0] 27 (0, 0)) (by (with_reducible repeat (first | refine blk_drewN ?_ _ | refine blk_drew ?_ | refine blk_alloc ?_ _)); refine blk_far ?_ NB382_391.out _; (with_reducible repeat (first | refine blk_drewN ?_ _ | refine blk_drew ?_ | refine blk_alloc ?_ _)); refine blk_far ?_ NB382_391.out _; exact iBK BK382.out) NB382_386.out (by simp)); replace BK391 := aa (KeepBut.blk hk (g' := gb391) (o := .cells #[.int .i64 t387, .int .i64 t388] 27 (0, 0)) (by (with_reducible repeat (first | refine blk_drewN ?_ _ | refine blk_drew ?_ | refine blk_alloc ?_ _)); refine blk_put (cs := #[.int .i64 t387, .int .i64 0]) ?_ 1 _ rfl; (with_reducible repeat (first | refine blk_drewN ?_ _ | refine blk_drew ?_ | refine blk_alloc ?_ _)); refine blk_put (cs := #[.int .i64 0, .int .i64 0]) ?_ 0 _ rfl; exact iBK BK391.out) NB391_386.out (by simp)); replace HB := aa (hb); replace HI386 := aa (hi); (try clear hb); (try clear hk); (try clear hi)) | ((with_reducible refine gate_dst (N := 6) rfl ?_); refine box_event ?hg (N := 6) ?hd (cs := #[.int .i64 0, .int .i64 0]) (t := 27) ?hr ?_; (case hd => rfl); (case hg => rfl); (case hr => first | (go_simp; done) | (go_simp; rfl)); intro gb396 hg w50 hbox hb; have BK396 := aa (hbox); have GW396 := gwB (w := w) hg iHS; have GE396 := gwB (w := w) hg iHS; replace HB := aa (below_step iHS hb); have NB381_396 := nbL hg (iBK BK381.out); have NB396_381 := nbR hg (iBK BK381.out); replace BK381 := aa (blk_below (iBK BK381.out) hb); have NB382_396 := nbL hg (iBK BK382.out); have NB396_382 := nbR hg (iBK BK382.out); replace BK382 := aa (blk_below (iBK BK382.out) hb); have NB391_396 := nbL hg (iBK BK391.out); have NB396_391 := nbR hg (iBK BK391.out); replace BK391 := aa (blk_below (iBK BK391.out) hb); have NB386_396 := aa ((by rw [hg]; exact Nat.ne_of_lt (IsS81.lt (show IsS81 w _ g386 t383 t394 t395 from iHI)) : g386 ≠ gb396)); have NB396_386 := aa ((by rw [hg]; exact Nat.ne_of_gt (IsS81.lt (show IsS81 w _ g386 t383 t394 t395 from iHI)) : gb396 ≠ g386)); replace HI386 := aa (IsS81.below iHI hb); clear hb hbox hg; have hnb51 := NB396_381.out; have hnc51 := NB381_396.out; have hnb52 := NB396_382.out; have hnc52 := NB382_396.out; have hnb53 := NB396_391.out; have hnc53 := NB391_396.out; have hnb54 := NB396_386.out; have hnc54 := NB386_396.out; have hcz55_0 : w50.cell? ⟨gb396, 0, none⟩ = some (.int .i64 0) := (blk_cell BK396.out 0).trans rfl; have hcz55_1 : w50.cell? ⟨gb396, 1, none⟩ = some (.int .i64 0) := (blk_cell BK396.out 1).trans rfl; have hfz55_0 := blk_frozen BK396.out 0; have hfz55_1 := blk_frozen BK396.out 1) | ((with_reducible refine gate_callee (f := 118) rfl ?_); refine goesL_ (some 16) rfl rfl Try.func118 (by kernel_rfl) rfl #[.pointer (some ⟨g386, 0, none⟩), .int .i64 16] rfl iAR ?_; (with_reducible refine (spec_l01Next.calls g386 t383 t394 t395 16 t397 t398 t399 w _ ?side1 ?side2 A5.out).mono ?_); (case side1 => exact iHI); (case side2 => exact iHS); rintro e w56 ⟨rfl, hi, hb, hk⟩; refine ⟨_, rfl, ?_⟩; replace BK381 := aa (KeepBut.blk hk (g' := gb381) (o := .cells #[.int .i64 0, .int .i64 0] 27 (0, 0)) (by (with_reducible repeat (first | refine blk_drewN ?_ _ | refine blk_drew ?_ | refine blk_alloc ?_ _)); refine blk_far ?_ NB381_396.out _; (with_reducible repeat (first | refine blk_drewN ?_ _ | refine blk_drew ?_ | refine blk_alloc ?_ _)); refine blk_far ?_ NB381_396.out _; exact iBK BK381.out) NB381_386.out (by simp)); replace BK382 := aa (KeepBut.blk hk (g' := gb382) (o := .cells #[.int .i64 0, .int .i64 0] 27 (0, 0)) (by (with_reducible repeat (first | refine blk_drewN ?_ _ | refine blk_drew ?_ | refine blk_alloc ?_ _)); refine blk_far ?_ NB382_396.out _; (with_reducible repeat (first | refine blk_drewN ?_ _ | refine blk_drew ?_ | refine blk_alloc ?_ _)); refine blk_far ?_ NB382_396.out _; exact iBK BK382.out) NB382_386.out (by simp)); replace BK391 := aa (KeepBut.blk hk (g' := gb391) (o := .cells #[.int .i64 t387, .int .i64 t388] 27 (0, 0)) (by (with_reducible repeat (first | refine blk_drewN ?_ _ | refine blk_drew ?_ | refine blk_alloc ?_ _)); refine blk_far ?_ NB391_396.out _; (with_reducible repeat (first | refine blk_drewN ?_ _ | refine blk_drew ?_ | refine blk_alloc ?_ _)); refine blk_far ?_ NB391_396.out _; exact iBK BK391.out) NB391_386.out (by simp)); replace BK396 := aa (KeepBut.blk hk (g' := gb396) (o := .cells #[.int .i64 t392, .int .i64 t393] 27 (0, 0)) (by (with_reducible repeat (first | refine blk_drewN ?_ _ | refine blk_drew ?_ | refine blk_alloc ?_ _)); refine blk_put (cs := #[.int .i64 t392, .int .i64 0]) ?_ 1 _ rfl; (with_reducible repeat (first | refine blk_drewN ?_ _ | refine blk_drew ?_ | refine blk_alloc ?_ _)); refine blk_put (cs := #[.int .i64 0, .int .i64 0]) ?_ 0 _ rfl; exact iBK BK396.out) NB396_386.out (by simp)); replace HB := aa (hb); replace HI386 := aa (hi); (try clear hb); (try clear hk); (try clear hi); have hcz57_0 : w56.cell? ⟨gb391, 0, none⟩ = some (.int .i64 t387) := (blk_cell BK391.out 0).trans rfl; have hcz57_1 : w56.cell? ⟨gb391, 1, none⟩ = some (.int .i64 t388) := (blk_cell BK391.out 1).trans rfl; have hfz57_0 := blk_frozen BK391.out 0; have hfz57_1 := blk_frozen BK391.out 1; have hcz58_0 : w56.cell? ⟨gb396, 0, none⟩ = some (.int .i64 t392) := (blk_cell BK396.out 0).trans rfl; have hcz58_1 : w56.cell? ⟨gb396, 1, none⟩ = some (.int .i64 t393) := (blk_cell BK396.out 1).trans rfl; have hfz58_0 := blk_frozen BK396.out 0; have hfz58_1 := blk_frozen BK396.out 1))
      have n0_ : Aside0 (((w56.setCell ⟨gb396, 0, none⟩ (.int .i64 t387)).setCell ⟨gb396, 1, none⟩ (.int .i64 t388)).heap[gb381]? = some (.cells #[.int .i64 0, .int .i64 0] 27 (0, 0))) := ⟨by (with_reducible repeat (first | refine blk_drewN ?_ _ | refine blk_drew ?_ | refine blk_alloc ?_ _)); refine blk_far ?_ NB381_396.out _; (with_reducible repeat (first | refine blk_drewN ?_ _ | refine blk_drew ?_ | refine blk_alloc ?_ _)); refine blk_far ?_ NB381_396.out _; exact iBK BK381.out⟩
      have n1_ : Aside0 (((w56.setCell ⟨gb396, 0, none⟩ (.int .i64 t387)).setCell ⟨gb396, 1, none⟩ (.int .i64 t388)).heap[gb382]? = some (.cells #[.int .i64 0, .int .i64 0] 27 (0, 0))) := ⟨by (with_reducible repeat (first | refine blk_drewN ?_ _ | refine blk_drew ?_ | refine blk_alloc ?_ _)); refine blk_far ?_ NB382_396.out _; (with_reducible repeat (first | refine blk_drewN ?_ _ | refine blk_drew ?_ | refine blk_alloc ?_ _)); refine blk_far ?_ NB382_396.out _; exact iBK BK382.out⟩
      have n2_ : Aside0 (((w56.setCell ⟨gb396, 0, none⟩ (.int .i64 t387)).setCell ⟨gb396, 1, none⟩ (.int .i64 t388)).heap[gb391]? = some (.cells #[.int .i64 t387, .int .i64 t388] 27 (0, 0))) := ⟨by (with_reducible repeat (first | refine blk_drewN ?_ _ | refine blk_drew ?_ | refine blk_alloc ?_ _)); refine blk_far ?_ NB391_396.out _; (with_reducible repeat (first | refine blk_drewN ?_ _ | refine blk_drew ?_ | refine blk_alloc ?_ _)); refine blk_far ?_ NB391_396.out _; exact iBK BK391.out⟩
      have n3_ : Aside0 (((w56.setCell ⟨gb396, 0, none⟩ (.int .i64 t387)).setCell ⟨gb396, 1, none⟩ (.int .i64 t388)).heap[gb396]? = some (.cells #[.int .i64 t387, .int .i64 t388] 27 (0, 0))) := ⟨by (with_reducible repeat (first | refine blk_drewN ?_ _ | refine blk_drew ?_ | refine blk_alloc ?_ _)); refine blk_put (cs := #[.int .i64 t387, .int .i64 t393]) ?_ 1 _ rfl; (with_reducible repeat (first | refine blk_drewN ?_ _ | refine blk_drew ?_ | refine blk_alloc ?_ _)); refine blk_put (cs := #[.int .i64 t392, .int .i64 t393]) ?_ 0 _ rfl; exact iBK BK396.out⟩
      have n4_ : Aside0 (IsS81 w ((w56.setCell ⟨gb396, 0, none⟩ (.int .i64 t387)).setCell ⟨gb396, 1, none⟩ (.int .i64 t388)) g386 t383 t398 t399) := ⟨iHI⟩
      have n5_ : Aside0 (Below w.heap.size w ((w56.setCell ⟨gb396, 0, none⟩ (.int .i64 t387)).setCell ⟨gb396, 1, none⟩ (.int .i64 t388))) := ⟨iHS⟩
      (try clear BK381)
      (try clear BK382)
      (try clear BK391)
      (try clear BK396)
      (try clear HI386)
      (try clear HB)
      generalize ((w56.setCell ⟨gb396, 0, none⟩ (.int .i64 t387)).setCell ⟨gb396, 1, none⟩ (.int .i64 t388)) = w59 at n0_ n1_ n2_ n3_ n4_ n5_ ⊢
      have BK381 := n0_
      have BK382 := n1_
      have BK391 := n2_
      have BK396 := n3_
      have HI386 := n4_
      have HB := n5_
      clear n0_ n1_ n2_ n3_ n4_ n5_
      replace BK381 := aa (blk_drew BK381.out)
      replace BK382 := aa (blk_drew BK382.out)
      replace BK391 := aa (blk_drew BK391.out)
      replace BK396 := aa (blk_drew BK396.out)
      replace HI386 := aa (IsS81.drew HI386.out)
      replace HB := aa (below_drew1 HB.out)
      refine start_ (n := 8) (S := fun w' => w'.cell? ⟨gb391, 0, none⟩ = some (.int .i64 t387) ∧ w'.cell? ⟨gb391, 1, none⟩ = some (.int .i64 t388) ∧ w'.cell? ⟨gb396, 0, none⟩ = some (.int .i64 t387) ∧ w'.cell? ⟨gb396, 1, none⟩ = some (.int .i64 t388)) (ds := []) #[false, false, false, false, false, false, false, false] (by kernel_rfl) rfl rfl ⟨(blk_cell BK391.out 0).trans rfl, (blk_cell BK391.out 1).trans rfl, (blk_cell BK396.out 0).trans rfl, (blk_cell BK396.out 1).trans rfl⟩ (fun hHeld => ?_); refine with_tabW spec_l03Two.tab9 spec_l03Two.bits9 (fun HT_ HW_ => ?_)
      generalize w59.drew = w60 at BK381 BK382 BK391 BK396 HI386 HB hHeld ⊢
      refine pure_ (i := 0) (N := some 24) (v := ?_) (a' := ?_) #[true, false, false, false, false, false, false, false] rfl rfl (any_of HT_.out (by kernel_rfl)) (fun _ _ _ h => h) (Or.inl ⟨by rfl, ?_⟩) ?_ ?_
      rotate_left
      · intro w'
        go_simp
        with_reducible rfl
      rotate_left
      · simp only [Act.put, List.setIfInBounds_toArray, List.set_cons_zero, List.set_cons_succ, i64_w, i32_w]
        rfl
      refine pure_ (i := 3) (N := some 27) (v := ?_) (a' := ?_) #[true, false, false, true, false, false, false, false] rfl rfl (any_of HT_.out (by kernel_rfl)) (fun _ _ _ h => h) (Or.inl ⟨by rfl, ?_⟩) ?_ ?_
      rotate_left
      · intro w'
        go_simp
        with_reducible rfl
      rotate_left
      · simp only [Act.put, List.setIfInBounds_toArray, List.set_cons_zero, List.set_cons_succ, i64_w, i32_w]
        rfl
      refine take_ (i := 1) (N := some 25) (v := ?_) (a' := ?_) #[true, true, false, true, false, false, false, false] rfl rfl (take_ofW HT_.out HW_.out (by kernel_rfl)) (fun _ _ _ h => h) (Or.inl ⟨by rfl, ?_⟩) hHeld ?_ ?_
      rotate_left
      · rintro w' ⟨s0, s1, s2, s3⟩
        go_simp
        with_reducible rfl
      rotate_left
      · simp only [Act.put, List.setIfInBounds_toArray, List.set_cons_zero, List.set_cons_succ, i64_w, i32_w]
        rfl
      refine take_ (i := 4) (N := some 28) (v := ?_) (a' := ?_) #[true, true, false, true, true, false, false, false] rfl rfl (take_ofW HT_.out HW_.out (by kernel_rfl)) (fun _ _ _ h => h) (Or.inl ⟨by rfl, ?_⟩) hHeld ?_ ?_
      rotate_left
      · rintro w' ⟨s0, s1, s2, s3⟩
        go_simp
        with_reducible rfl
      rotate_left
      · simp only [Act.put, List.setIfInBounds_toArray, List.set_cons_zero, List.set_cons_succ, i64_w, i32_w]
        rfl
      refine one_ (i := 2) (N := some 26) #[true, true, true, true, true, false, false, false] rfl rfl (one_of HT_.out (by kernel_rfl)) (by decide) (fun K hK => ?_)
      refine goes_ Try.func106 (by kernel_rfl) rfl #[.pointer (some ⟨g386, 0, none⟩), .agg #[.int .i64 t387, .int .i64 t388]] (by rfl) rfl rfl iAR ?_
      with_reducible refine (spec_l01Bad.calls g386 t383 t398 t399 t387 t388 t412 t413 t414 t415 w _ ?side1 ?side2 A38.out).mono ?_
      (case side1 => exact iHI)
      (case side2 => exact iHS)
      rintro e w61 ⟨rfl, hi, hb, hk⟩
      refine ⟨_, rfl, ?_⟩
      replace BK381 := aa (KeepBut.blk hk (iBK BK381.out) NB381_386.out (by simp))
      replace BK382 := aa (KeepBut.blk hk (iBK BK382.out) NB382_386.out (by simp))
      replace BK391 := aa (KeepBut.blk hk (iBK BK391.out) NB391_386.out (by simp))
      replace BK396 := aa (KeepBut.blk hk (iBK BK396.out) NB396_386.out (by simp))
      replace HB := aa (hb)
      replace HI386 := aa (hi)
      (try clear hb)
      (try clear hb2)
      (try clear hk)
      (try clear hi)
      refine hK.out _ _ ⟨(blk_cell BK391.out 0).trans rfl, (blk_cell BK391.out 1).trans rfl, (blk_cell BK396.out 0).trans rfl, (blk_cell BK396.out 1).trans rfl⟩ (fun hHeld => ?_)
      clear hK K
      refine norm_ (a' := ?_) ?_ ?_
      rotate_left
      · show Act.put _ (some 26) _ = _
        simp only [Act.put, List.setIfInBounds_toArray, List.set_cons_zero, List.set_cons_succ, i64_w, i32_w]
        rfl
      refine one_ (i := 5) (N := some 29) #[true, true, true, true, true, true, false, false] rfl rfl (one_of HT_.out (by kernel_rfl)) (by decide) (fun K hK => ?_)
      refine goes_ Try.func106 (by kernel_rfl) rfl #[.pointer (some ⟨g386, 0, none⟩), .agg #[.int .i64 t387, .int .i64 t388]] (by rfl) rfl rfl iAR ?_
      with_reducible refine (spec_l01Bad.calls g386 t383 t414 t415 t387 t388 t416 t417 t418 t419 w _ ?side1 ?side2 A39.out).mono ?_
      (case side1 => exact iHI)
      (case side2 => exact iHS)
      rintro e w62 ⟨rfl, hi, hb, hk⟩
      refine ⟨_, rfl, ?_⟩
      replace BK381 := aa (KeepBut.blk hk (iBK BK381.out) NB381_386.out (by simp))
      replace BK382 := aa (KeepBut.blk hk (iBK BK382.out) NB382_386.out (by simp))
      replace BK391 := aa (KeepBut.blk hk (iBK BK391.out) NB391_386.out (by simp))
      replace BK396 := aa (KeepBut.blk hk (iBK BK396.out) NB396_386.out (by simp))
      replace HB := aa (hb)
      replace HI386 := aa (hi)
      (try clear hb)
      (try clear hb2)
      (try clear hk)
      (try clear hi)
      refine hK.out _ _ ⟨(blk_cell BK391.out 0).trans rfl, (blk_cell BK391.out 1).trans rfl, (blk_cell BK396.out 0).trans rfl, (blk_cell BK396.out 1).trans rfl⟩ (fun hHeld => ?_)
      clear hK K
      refine norm_ (a' := ?_) ?_ ?_
      rotate_left
      · show Act.put _ (some 29) _ = _
        simp only [Act.put, List.setIfInBounds_toArray, List.set_cons_zero, List.set_cons_succ, i64_w, i32_w]
        rfl
      refine one_ (i := 6) (N := none) #[true, true, true, true, true, true, true, false] rfl rfl (one_of HT_.out (by kernel_rfl)) (by decide) (fun K hK => ?_)
      have hs63 : w62.cell? ⟨gb381, 0, none⟩ = some (.int .i64 0) := (blk_cell BK381.out 0).trans rfl
      have hfs63 := blk_frozen BK381.out 0
      have hns63_1 := NB382_381.out
      have hns63_2 := NB391_381.out
      have hns63_3 := NB396_381.out
      have hms63_1 := NB381_382.out
      have hms63_2 := NB381_391.out
      have hms63_3 := NB381_396.out
      have hs64 : w62.cell? ⟨gb381, 1, none⟩ = some (.int .i64 0) := (blk_cell BK381.out 1).trans rfl
      have hfs64 := blk_frozen BK381.out 1
      have hns64_1 := NB382_381.out
      have hns64_2 := NB391_381.out
      have hns64_3 := NB396_381.out
      have hms64_1 := NB381_382.out
      have hms64_2 := NB381_391.out
      have hms64_3 := NB381_396.out
      refine skip_ (w1 := ?_) (by rfl) rfl ?_ ?_
      rotate_left
      · go_simp
        rfl
      refine hK.out _ _ ⟨((cell_far (p := ⟨gb381, _, none⟩) NB391_381.out _).trans (((cell_far (p := ⟨gb381, _, none⟩) NB391_381.out _).trans (hHeld.1)))), ((cell_far (p := ⟨gb381, _, none⟩) NB391_381.out _).trans (((cell_far (p := ⟨gb381, _, none⟩) NB391_381.out _).trans (hHeld.2.1)))), ((cell_far (p := ⟨gb381, _, none⟩) NB396_381.out _).trans (((cell_far (p := ⟨gb381, _, none⟩) NB396_381.out _).trans (hHeld.2.2.1)))), ((cell_far (p := ⟨gb381, _, none⟩) NB396_381.out _).trans (((cell_far (p := ⟨gb381, _, none⟩) NB396_381.out _).trans (hHeld.2.2.2))))⟩ (fun hHeld => ?_)
      clear hK K
      refine one_ (i := 7) (N := none) #[true, true, true, true, true, true, true, true] rfl rfl (one_of HT_.out (by kernel_rfl)) (by decide) (fun K hK => ?_)
      have hs65 : w62.cell? ⟨gb382, 0, none⟩ = some (.int .i64 0) := (blk_cell BK382.out 0).trans rfl
      have hfs65 := blk_frozen BK382.out 0
      have hns65_0 := NB381_382.out
      have hns65_2 := NB391_382.out
      have hns65_3 := NB396_382.out
      have hms65_0 := NB382_381.out
      have hms65_2 := NB382_391.out
      have hms65_3 := NB382_396.out
      have hs66 : w62.cell? ⟨gb382, 1, none⟩ = some (.int .i64 0) := (blk_cell BK382.out 1).trans rfl
      have hfs66 := blk_frozen BK382.out 1
      have hns66_0 := NB381_382.out
      have hns66_2 := NB391_382.out
      have hns66_3 := NB396_382.out
      have hms66_0 := NB382_381.out
      have hms66_2 := NB382_391.out
      have hms66_3 := NB382_396.out
      refine skip_ (w1 := ?_) (by rfl) rfl ?_ ?_
      rotate_left
      · go_simp
        rfl
      refine hK.out _ _ ⟨((cell_far (p := ⟨gb382, _, none⟩) NB391_382.out _).trans (((cell_far (p := ⟨gb382, _, none⟩) NB391_382.out _).trans (hHeld.1)))), ((cell_far (p := ⟨gb382, _, none⟩) NB391_382.out _).trans (((cell_far (p := ⟨gb382, _, none⟩) NB391_382.out _).trans (hHeld.2.1)))), ((cell_far (p := ⟨gb382, _, none⟩) NB396_382.out _).trans (((cell_far (p := ⟨gb382, _, none⟩) NB396_382.out _).trans (hHeld.2.2.1)))), ((cell_far (p := ⟨gb382, _, none⟩) NB396_382.out _).trans (((cell_far (p := ⟨gb382, _, none⟩) NB396_382.out _).trans (hHeld.2.2.2))))⟩ (fun hHeld => ?_)
      clear hK K
      refine done_ (done_of HT_.out (by kernel_rfl)) ?_
      try go_wp2
      refine bodyPost_ret (results_cc rfl _ _ gb381 gb382 27 27 #[.int .i64 t412, .int .i64 t413] #[.int .i64 t416, .int .i64 t417] (0, 0) (0, 0) _ _ rfl (by (with_reducible repeat (first | refine blk_drewN ?_ _ | refine blk_drew ?_ | refine blk_alloc ?_ _)); refine blk_far ?_ NB381_382.out _; (with_reducible repeat (first | refine blk_drewN ?_ _ | refine blk_drew ?_ | refine blk_alloc ?_ _)); refine blk_far ?_ NB381_382.out _; (with_reducible repeat (first | refine blk_drewN ?_ _ | refine blk_drew ?_ | refine blk_alloc ?_ _)); refine blk_put (cs := #[.int .i64 t412, .int .i64 0]) ?_ 1 _ rfl; (with_reducible repeat (first | refine blk_drewN ?_ _ | refine blk_drew ?_ | refine blk_alloc ?_ _)); refine blk_put (cs := #[.int .i64 0, .int .i64 0]) ?_ 0 _ rfl; exact iBK BK381.out) Try.underlying27 rfl (by kernel_rfl) rfl (by (with_reducible repeat (first | refine blk_drewN ?_ _ | refine blk_drew ?_ | refine blk_alloc ?_ _)); refine blk_put (cs := #[.int .i64 t416, .int .i64 0]) ?_ 1 _ rfl; (with_reducible repeat (first | refine blk_drewN ?_ _ | refine blk_drew ?_ | refine blk_alloc ?_ _)); refine blk_put (cs := #[.int .i64 0, .int .i64 0]) ?_ 0 _ rfl; (with_reducible repeat (first | refine blk_drewN ?_ _ | refine blk_drew ?_ | refine blk_alloc ?_ _)); refine blk_far ?_ NB382_381.out _; (with_reducible repeat (first | refine blk_drewN ?_ _ | refine blk_drew ?_ | refine blk_alloc ?_ _)); refine blk_far ?_ NB382_381.out _; exact iBK BK382.out) Try.underlying27 rfl (by kernel_rfl)) rfl ?_
      exact ⟨by first | rfl | (simp [errW_none, errW_some] <;> rfl) | (simp [*, errW_none, errW_some] <;> rfl), iHS⟩
    · rw [if_neg c37] at H
      have c37b0 : (t397 == 1) = false := beq_eq_false_iff_ne.mpr c37
      have c37b1 : (t397 != 1) = true := bne_iff_ne.mpr c37
      replace H := Option.bind_eq_some_iff.mp H
      obtain ⟨⟨t420, t421, t422, t423⟩, A670, H⟩ := H
      replace H : ((spec_l01Bad.f t383 t422 t423 t392 t393).bind fun bt424 => (some (t420, t421, bt424.1, bt424.2.1))) = some (r1, r2, r3, r4) := H
      have A67 := Aside0.mk A670
      clear A670
      replace H := Option.bind_eq_some_iff.mp H
      obtain ⟨⟨t424, t425, t426, t427⟩, A680, H⟩ := H
      replace H : (some (t420, t421, t424, t425)) = some (r1, r2, r3, r4) := H
      have A68 := Aside0.mk A680
      clear A680
      simp only [Option.some.injEq, Prod.mk.injEq] at H
      obtain ⟨rfl, rfl, rfl, rfl⟩ := H
      go_enter Try.func98, Try.ntmps98
      try go_wp2_with (first | ((with_reducible refine gate_dst (N := 2) rfl ?_); refine box_event ?hg (N := 2) ?hd (cs := #[.int .i64 0, .int .i64 0]) (t := 27) ?hr ?_; (case hd => rfl); (case hg => rfl); (case hr => first | (go_simp; done) | (go_simp; rfl)); intro gb381 hg w69 hbox hb; have BK381 := aa (hbox); have GW381 := gwB (w := w) hg iHB; have GE381 := gwB (w := w) hg iHB; replace HB := aa (below_step iHB hb); clear hb hbox hg) | ((with_reducible refine gate_dst (N := 3) rfl ?_); refine box_event ?hg (N := 3) ?hd (cs := #[.int .i64 0, .int .i64 0]) (t := 27) ?hr ?_; (case hd => rfl); (case hg => rfl); (case hr => first | (go_simp; done) | (go_simp; rfl)); intro gb382 hg w70 hbox hb; have BK382 := aa (hbox); have GW382 := gwB (w := w) hg iHB; have GE382 := gwB (w := w) hg iHB; replace HB := aa (below_step iHB hb); have NB381_382 := nbL hg (iBK BK381.out); have NB382_381 := nbR hg (iBK BK381.out); replace BK381 := aa (blk_below (iBK BK381.out) hb); clear hb hbox hg) | ((with_reducible refine gate_callee (f := 96) rfl ?_); refine goesL_ (some 8) rfl rfl Try.func96 (by kernel_rfl) rfl #[.slice A0 l0.length c0] rfl iAR ?_; (with_reducible refine (spec_l01From.calls k _ _ l0 t383 t384 t385 w _ ?side1 ?side2 ?side3 A2.out).mono ?_); (case side1 => exact iHB); (case side2 => exact HR0.out); (case side3 => exact HC0.out); rintro e w71 ⟨g386, rfl, hi, hb, hb2⟩; refine ⟨_, rfl, ?_⟩; replace HB := aa (hb); have HI386 := aa (hi); have NB386_381 := aa (IsS81.ne_blk hi (blk_below (iBK BK381.out) hb2) (by decide)); have NB381_386 := aa (Ne.symm (IsS81.ne_blk hi (blk_below (iBK BK381.out) hb2) (by decide))); replace BK381 := aa (blk_below (iBK BK381.out) hb2); have NB386_382 := aa (IsS81.ne_blk hi (blk_below (iBK BK382.out) hb2) (by decide)); have NB382_386 := aa (Ne.symm (IsS81.ne_blk hi (blk_below (iBK BK382.out) hb2) (by decide))); replace BK382 := aa (blk_below (iBK BK382.out) hb2); (try clear hb); (try clear hb2); (try clear hi)) | ((with_reducible refine gate_callee (f := 104) rfl ?_); refine goesL_ (some 10) rfl rfl Try.func104 (by kernel_rfl) rfl #[.pointer (some ⟨g386, 0, none⟩)] rfl iAR ?_; (with_reducible refine (spec_l01Draw.calls k g386 t383 t384 t385 t387 t388 t389 t390 w _ ?side1 ?side2 A3.out).mono ?_); (case side1 => exact iHI); (case side2 => exact iHS); rintro e w72 ⟨rfl, hi, hb, hk⟩; refine ⟨_, rfl, ?_⟩; replace BK381 := aa (KeepBut.blk hk (iBK BK381.out) NB381_386.out (by simp)); replace BK382 := aa (KeepBut.blk hk (iBK BK382.out) NB382_386.out (by simp)); replace HB := aa (hb); replace HI386 := aa (hi); (try clear hb); (try clear hk); (try clear hi)) | ((with_reducible refine gate_dst (N := 5) rfl ?_); refine box_event ?hg (N := 5) ?hd (cs := #[.int .i64 0, .int .i64 0]) (t := 27) ?hr ?_; (case hd => rfl); (case hg => rfl); (case hr => first | (go_simp; done) | (go_simp; rfl)); intro gb391 hg w73 hbox hb; have BK391 := aa (hbox); have GW391 := gwB (w := w) hg iHS; have GE391 := gwB (w := w) hg iHS; replace HB := aa (below_step iHS hb); have NB381_391 := nbL hg (iBK BK381.out); have NB391_381 := nbR hg (iBK BK381.out); replace BK381 := aa (blk_below (iBK BK381.out) hb); have NB382_391 := nbL hg (iBK BK382.out); have NB391_382 := nbR hg (iBK BK382.out); replace BK382 := aa (blk_below (iBK BK382.out) hb); have NB386_391 := aa ((by rw [hg]; exact Nat.ne_of_lt (IsS81.lt (show IsS81 w _ g386 t383 t389 t390 from iHI)) : g386 ≠ gb391)); have NB391_386 := aa ((by rw [hg]; exact Nat.ne_of_gt (IsS81.lt (show IsS81 w _ g386 t383 t389 t390 from iHI)) : gb391 ≠ g386)); replace HI386 := aa (IsS81.below iHI hb); clear hb hbox hg; have hnb74 := NB391_381.out; have hnc74 := NB381_391.out; have hnb75 := NB391_382.out; have hnc75 := NB382_391.out; have hnb76 := NB391_386.out; have hnc76 := NB386_391.out; have hcz77_0 : w73.cell? ⟨gb391, 0, none⟩ = some (.int .i64 0) := (blk_cell BK391.out 0).trans rfl; have hcz77_1 : w73.cell? ⟨gb391, 1, none⟩ = some (.int .i64 0) := (blk_cell BK391.out 1).trans rfl; have hfz77_0 := blk_frozen BK391.out 0; have hfz77_1 := blk_frozen BK391.out 1) | ((with_reducible refine gate_callee (f := 123) rfl ?_); refine goesL_ (some 14) rfl rfl Try.func123 (by kernel_rfl) rfl #[.pointer (some ⟨g386, 0, none⟩), .int .i64 t387] rfl iAR ?_; (with_reducible refine (spec_l01DrawOf.calls k g386 t383 t389 t390 t387 t392 t393 t394 t395 w _ ?side1 ?side2 A4.out).mono ?_); (case side1 => exact iHI); (case side2 => exact iHS); rintro e w78 ⟨rfl, hi, hb, hk⟩; refine ⟨_, rfl, ?_⟩; replace BK381 := aa (KeepBut.blk hk (g' := gb381) (o := .cells #[.int .i64 0, .int .i64 0] 27 (0, 0)) (by (with_reducible repeat (first | refine blk_drewN ?_ _ | refine blk_drew ?_ | refine blk_alloc ?_ _)); refine blk_far ?_ NB381_391.out _; (with_reducible repeat (first | refine blk_drewN ?_ _ | refine blk_drew ?_ | refine blk_alloc ?_ _)); refine blk_far ?_ NB381_391.out _; exact iBK BK381.out) NB381_386.out (by simp)); replace BK382 := aa (KeepBut.blk hk (g' := gb382) (o := .cells #[.int .i64 0, .int .i64 0] 27 (0, 0)) (by (with_reducible repeat (first | refine blk_drewN ?_ _ | refine blk_drew ?_ | refine blk_alloc ?_ _)); refine blk_far ?_ NB382_391.out _; (with_reducible repeat (first | refine blk_drewN ?_ _ | refine blk_drew ?_ | refine blk_alloc ?_ _)); refine blk_far ?_ NB382_391.out _; exact iBK BK382.out) NB382_386.out (by simp)); replace BK391 := aa (KeepBut.blk hk (g' := gb391) (o := .cells #[.int .i64 t387, .int .i64 t388] 27 (0, 0)) (by (with_reducible repeat (first | refine blk_drewN ?_ _ | refine blk_drew ?_ | refine blk_alloc ?_ _)); refine blk_put (cs := #[.int .i64 t387, .int .i64 0]) ?_ 1 _ rfl; (with_reducible repeat (first | refine blk_drewN ?_ _ | refine blk_drew ?_ | refine blk_alloc ?_ _)); refine blk_put (cs := #[.int .i64 0, .int .i64 0]) ?_ 0 _ rfl; exact iBK BK391.out) NB391_386.out (by simp)); replace HB := aa (hb); replace HI386 := aa (hi); (try clear hb); (try clear hk); (try clear hi)) | ((with_reducible refine gate_dst (N := 6) rfl ?_); refine box_event ?hg (N := 6) ?hd (cs := #[.int .i64 0, .int .i64 0]) (t := 27) ?hr ?_; (case hd => rfl); (case hg => rfl); (case hr => first | (go_simp; done) | (go_simp; rfl)); intro gb396 hg w79 hbox hb; have BK396 := aa (hbox); have GW396 := gwB (w := w) hg iHS; have GE396 := gwB (w := w) hg iHS; replace HB := aa (below_step iHS hb); have NB381_396 := nbL hg (iBK BK381.out); have NB396_381 := nbR hg (iBK BK381.out); replace BK381 := aa (blk_below (iBK BK381.out) hb); have NB382_396 := nbL hg (iBK BK382.out); have NB396_382 := nbR hg (iBK BK382.out); replace BK382 := aa (blk_below (iBK BK382.out) hb); have NB391_396 := nbL hg (iBK BK391.out); have NB396_391 := nbR hg (iBK BK391.out); replace BK391 := aa (blk_below (iBK BK391.out) hb); have NB386_396 := aa ((by rw [hg]; exact Nat.ne_of_lt (IsS81.lt (show IsS81 w _ g386 t383 t394 t395 from iHI)) : g386 ≠ gb396)); have NB396_386 := aa ((by rw [hg]; exact Nat.ne_of_gt (IsS81.lt (show IsS81 w _ g386 t383 t394 t395 from iHI)) : gb396 ≠ g386)); replace HI386 := aa (IsS81.below iHI hb); clear hb hbox hg; have hnb80 := NB396_381.out; have hnc80 := NB381_396.out; have hnb81 := NB396_382.out; have hnc81 := NB382_396.out; have hnb82 := NB396_391.out; have hnc82 := NB391_396.out; have hnb83 := NB396_386.out; have hnc83 := NB386_396.out; have hcz84_0 : w79.cell? ⟨gb396, 0, none⟩ = some (.int .i64 0) := (blk_cell BK396.out 0).trans rfl; have hcz84_1 : w79.cell? ⟨gb396, 1, none⟩ = some (.int .i64 0) := (blk_cell BK396.out 1).trans rfl; have hfz84_0 := blk_frozen BK396.out 0; have hfz84_1 := blk_frozen BK396.out 1) | ((with_reducible refine gate_callee (f := 118) rfl ?_); refine goesL_ (some 16) rfl rfl Try.func118 (by kernel_rfl) rfl #[.pointer (some ⟨g386, 0, none⟩), .int .i64 16] rfl iAR ?_; (with_reducible refine (spec_l01Next.calls g386 t383 t394 t395 16 t397 t398 t399 w _ ?side1 ?side2 A5.out).mono ?_); (case side1 => exact iHI); (case side2 => exact iHS); rintro e w85 ⟨rfl, hi, hb, hk⟩; refine ⟨_, rfl, ?_⟩; replace BK381 := aa (KeepBut.blk hk (g' := gb381) (o := .cells #[.int .i64 0, .int .i64 0] 27 (0, 0)) (by (with_reducible repeat (first | refine blk_drewN ?_ _ | refine blk_drew ?_ | refine blk_alloc ?_ _)); refine blk_far ?_ NB381_396.out _; (with_reducible repeat (first | refine blk_drewN ?_ _ | refine blk_drew ?_ | refine blk_alloc ?_ _)); refine blk_far ?_ NB381_396.out _; exact iBK BK381.out) NB381_386.out (by simp)); replace BK382 := aa (KeepBut.blk hk (g' := gb382) (o := .cells #[.int .i64 0, .int .i64 0] 27 (0, 0)) (by (with_reducible repeat (first | refine blk_drewN ?_ _ | refine blk_drew ?_ | refine blk_alloc ?_ _)); refine blk_far ?_ NB382_396.out _; (with_reducible repeat (first | refine blk_drewN ?_ _ | refine blk_drew ?_ | refine blk_alloc ?_ _)); refine blk_far ?_ NB382_396.out _; exact iBK BK382.out) NB382_386.out (by simp)); replace BK391 := aa (KeepBut.blk hk (g' := gb391) (o := .cells #[.int .i64 t387, .int .i64 t388] 27 (0, 0)) (by (with_reducible repeat (first | refine blk_drewN ?_ _ | refine blk_drew ?_ | refine blk_alloc ?_ _)); refine blk_far ?_ NB391_396.out _; (with_reducible repeat (first | refine blk_drewN ?_ _ | refine blk_drew ?_ | refine blk_alloc ?_ _)); refine blk_far ?_ NB391_396.out _; exact iBK BK391.out) NB391_386.out (by simp)); replace BK396 := aa (KeepBut.blk hk (g' := gb396) (o := .cells #[.int .i64 t392, .int .i64 t393] 27 (0, 0)) (by (with_reducible repeat (first | refine blk_drewN ?_ _ | refine blk_drew ?_ | refine blk_alloc ?_ _)); refine blk_put (cs := #[.int .i64 t392, .int .i64 0]) ?_ 1 _ rfl; (with_reducible repeat (first | refine blk_drewN ?_ _ | refine blk_drew ?_ | refine blk_alloc ?_ _)); refine blk_put (cs := #[.int .i64 0, .int .i64 0]) ?_ 0 _ rfl; exact iBK BK396.out) NB396_386.out (by simp)); replace HB := aa (hb); replace HI386 := aa (hi); (try clear hb); (try clear hk); (try clear hi)))
      replace BK381 := aa (blk_drew BK381.out)
      replace BK382 := aa (blk_drew BK382.out)
      replace BK391 := aa (blk_drew BK391.out)
      replace BK396 := aa (blk_drew BK396.out)
      replace HI386 := aa (IsS81.drew HI386.out)
      replace HB := aa (below_drew1 HB.out)
      refine start_ (n := 8) (S := fun w' => w'.cell? ⟨gb391, 0, none⟩ = some (.int .i64 t387) ∧ w'.cell? ⟨gb391, 1, none⟩ = some (.int .i64 t388) ∧ w'.cell? ⟨gb396, 0, none⟩ = some (.int .i64 t392) ∧ w'.cell? ⟨gb396, 1, none⟩ = some (.int .i64 t393)) (ds := []) #[false, false, false, false, false, false, false, false] (by kernel_rfl) rfl rfl ⟨(blk_cell BK391.out 0).trans rfl, (blk_cell BK391.out 1).trans rfl, (blk_cell BK396.out 0).trans rfl, (blk_cell BK396.out 1).trans rfl⟩ (fun hHeld => ?_); refine with_tabW spec_l03Two.tab9 spec_l03Two.bits9 (fun HT_ HW_ => ?_)
      generalize w85.drew = w86 at BK381 BK382 BK391 BK396 HI386 HB hHeld ⊢
      refine pure_ (i := 0) (N := some 24) (v := ?_) (a' := ?_) #[true, false, false, false, false, false, false, false] rfl rfl (any_of HT_.out (by kernel_rfl)) (fun _ _ _ h => h) (Or.inl ⟨by rfl, ?_⟩) ?_ ?_
      rotate_left
      · intro w'
        go_simp
        with_reducible rfl
      rotate_left
      · simp only [Act.put, List.setIfInBounds_toArray, List.set_cons_zero, List.set_cons_succ, i64_w, i32_w]
        rfl
      refine pure_ (i := 3) (N := some 27) (v := ?_) (a' := ?_) #[true, false, false, true, false, false, false, false] rfl rfl (any_of HT_.out (by kernel_rfl)) (fun _ _ _ h => h) (Or.inl ⟨by rfl, ?_⟩) ?_ ?_
      rotate_left
      · intro w'
        go_simp
        with_reducible rfl
      rotate_left
      · simp only [Act.put, List.setIfInBounds_toArray, List.set_cons_zero, List.set_cons_succ, i64_w, i32_w]
        rfl
      refine take_ (i := 1) (N := some 25) (v := ?_) (a' := ?_) #[true, true, false, true, false, false, false, false] rfl rfl (take_ofW HT_.out HW_.out (by kernel_rfl)) (fun _ _ _ h => h) (Or.inl ⟨by rfl, ?_⟩) hHeld ?_ ?_
      rotate_left
      · rintro w' ⟨s0, s1, s2, s3⟩
        go_simp
        with_reducible rfl
      rotate_left
      · simp only [Act.put, List.setIfInBounds_toArray, List.set_cons_zero, List.set_cons_succ, i64_w, i32_w]
        rfl
      refine take_ (i := 4) (N := some 28) (v := ?_) (a' := ?_) #[true, true, false, true, true, false, false, false] rfl rfl (take_ofW HT_.out HW_.out (by kernel_rfl)) (fun _ _ _ h => h) (Or.inl ⟨by rfl, ?_⟩) hHeld ?_ ?_
      rotate_left
      · rintro w' ⟨s0, s1, s2, s3⟩
        go_simp
        with_reducible rfl
      rotate_left
      · simp only [Act.put, List.setIfInBounds_toArray, List.set_cons_zero, List.set_cons_succ, i64_w, i32_w]
        rfl
      refine one_ (i := 2) (N := some 26) #[true, true, true, true, true, false, false, false] rfl rfl (one_of HT_.out (by kernel_rfl)) (by decide) (fun K hK => ?_)
      refine goes_ Try.func106 (by kernel_rfl) rfl #[.pointer (some ⟨g386, 0, none⟩), .agg #[.int .i64 t387, .int .i64 t388]] (by rfl) rfl rfl iAR ?_
      with_reducible refine (spec_l01Bad.calls g386 t383 t398 t399 t387 t388 t420 t421 t422 t423 w _ ?side1 ?side2 A67.out).mono ?_
      (case side1 => exact iHI)
      (case side2 => exact iHS)
      rintro e w87 ⟨rfl, hi, hb, hk⟩
      refine ⟨_, rfl, ?_⟩
      replace BK381 := aa (KeepBut.blk hk (iBK BK381.out) NB381_386.out (by simp))
      replace BK382 := aa (KeepBut.blk hk (iBK BK382.out) NB382_386.out (by simp))
      replace BK391 := aa (KeepBut.blk hk (iBK BK391.out) NB391_386.out (by simp))
      replace BK396 := aa (KeepBut.blk hk (iBK BK396.out) NB396_386.out (by simp))
      replace HB := aa (hb)
      replace HI386 := aa (hi)
      (try clear hb)
      (try clear hb2)
      (try clear hk)
      (try clear hi)
      refine hK.out _ _ ⟨(blk_cell BK391.out 0).trans rfl, (blk_cell BK391.out 1).trans rfl, (blk_cell BK396.out 0).trans rfl, (blk_cell BK396.out 1).trans rfl⟩ (fun hHeld => ?_)
      clear hK K
      refine norm_ (a' := ?_) ?_ ?_
      rotate_left
      · show Act.put _ (some 26) _ = _
        simp only [Act.put, List.setIfInBounds_toArray, List.set_cons_zero, List.set_cons_succ, i64_w, i32_w]
        rfl
      refine one_ (i := 5) (N := some 29) #[true, true, true, true, true, true, false, false] rfl rfl (one_of HT_.out (by kernel_rfl)) (by decide) (fun K hK => ?_)
      refine goes_ Try.func106 (by kernel_rfl) rfl #[.pointer (some ⟨g386, 0, none⟩), .agg #[.int .i64 t392, .int .i64 t393]] (by rfl) rfl rfl iAR ?_
      with_reducible refine (spec_l01Bad.calls g386 t383 t422 t423 t392 t393 t424 t425 t426 t427 w _ ?side1 ?side2 A68.out).mono ?_
      (case side1 => exact iHI)
      (case side2 => exact iHS)
      rintro e w88 ⟨rfl, hi, hb, hk⟩
      refine ⟨_, rfl, ?_⟩
      replace BK381 := aa (KeepBut.blk hk (iBK BK381.out) NB381_386.out (by simp))
      replace BK382 := aa (KeepBut.blk hk (iBK BK382.out) NB382_386.out (by simp))
      replace BK391 := aa (KeepBut.blk hk (iBK BK391.out) NB391_386.out (by simp))
      replace BK396 := aa (KeepBut.blk hk (iBK BK396.out) NB396_386.out (by simp))
      replace HB := aa (hb)
      replace HI386 := aa (hi)
      (try clear hb)
      (try clear hb2)
      (try clear hk)
      (try clear hi)
      refine hK.out _ _ ⟨(blk_cell BK391.out 0).trans rfl, (blk_cell BK391.out 1).trans rfl, (blk_cell BK396.out 0).trans rfl, (blk_cell BK396.out 1).trans rfl⟩ (fun hHeld => ?_)
      clear hK K
      refine norm_ (a' := ?_) ?_ ?_
      rotate_left
      · show Act.put _ (some 29) _ = _
        simp only [Act.put, List.setIfInBounds_toArray, List.set_cons_zero, List.set_cons_succ, i64_w, i32_w]
        rfl
      refine one_ (i := 6) (N := none) #[true, true, true, true, true, true, true, false] rfl rfl (one_of HT_.out (by kernel_rfl)) (by decide) (fun K hK => ?_)
      have hs89 : w88.cell? ⟨gb381, 0, none⟩ = some (.int .i64 0) := (blk_cell BK381.out 0).trans rfl
      have hfs89 := blk_frozen BK381.out 0
      have hns89_1 := NB382_381.out
      have hns89_2 := NB391_381.out
      have hns89_3 := NB396_381.out
      have hms89_1 := NB381_382.out
      have hms89_2 := NB381_391.out
      have hms89_3 := NB381_396.out
      have hs90 : w88.cell? ⟨gb381, 1, none⟩ = some (.int .i64 0) := (blk_cell BK381.out 1).trans rfl
      have hfs90 := blk_frozen BK381.out 1
      have hns90_1 := NB382_381.out
      have hns90_2 := NB391_381.out
      have hns90_3 := NB396_381.out
      have hms90_1 := NB381_382.out
      have hms90_2 := NB381_391.out
      have hms90_3 := NB381_396.out
      refine skip_ (w1 := ?_) (by rfl) rfl ?_ ?_
      rotate_left
      · go_simp
        rfl
      refine hK.out _ _ ⟨((cell_far (p := ⟨gb381, _, none⟩) NB391_381.out _).trans (((cell_far (p := ⟨gb381, _, none⟩) NB391_381.out _).trans (hHeld.1)))), ((cell_far (p := ⟨gb381, _, none⟩) NB391_381.out _).trans (((cell_far (p := ⟨gb381, _, none⟩) NB391_381.out _).trans (hHeld.2.1)))), ((cell_far (p := ⟨gb381, _, none⟩) NB396_381.out _).trans (((cell_far (p := ⟨gb381, _, none⟩) NB396_381.out _).trans (hHeld.2.2.1)))), ((cell_far (p := ⟨gb381, _, none⟩) NB396_381.out _).trans (((cell_far (p := ⟨gb381, _, none⟩) NB396_381.out _).trans (hHeld.2.2.2))))⟩ (fun hHeld => ?_)
      clear hK K
      refine one_ (i := 7) (N := none) #[true, true, true, true, true, true, true, true] rfl rfl (one_of HT_.out (by kernel_rfl)) (by decide) (fun K hK => ?_)
      have hs91 : w88.cell? ⟨gb382, 0, none⟩ = some (.int .i64 0) := (blk_cell BK382.out 0).trans rfl
      have hfs91 := blk_frozen BK382.out 0
      have hns91_0 := NB381_382.out
      have hns91_2 := NB391_382.out
      have hns91_3 := NB396_382.out
      have hms91_0 := NB382_381.out
      have hms91_2 := NB382_391.out
      have hms91_3 := NB382_396.out
      have hs92 : w88.cell? ⟨gb382, 1, none⟩ = some (.int .i64 0) := (blk_cell BK382.out 1).trans rfl
      have hfs92 := blk_frozen BK382.out 1
      have hns92_0 := NB381_382.out
      have hns92_2 := NB391_382.out
      have hns92_3 := NB396_382.out
      have hms92_0 := NB382_381.out
      have hms92_2 := NB382_391.out
      have hms92_3 := NB382_396.out
      refine skip_ (w1 := ?_) (by rfl) rfl ?_ ?_
      rotate_left
      · go_simp
        rfl
      refine hK.out _ _ ⟨((cell_far (p := ⟨gb382, _, none⟩) NB391_382.out _).trans (((cell_far (p := ⟨gb382, _, none⟩) NB391_382.out _).trans (hHeld.1)))), ((cell_far (p := ⟨gb382, _, none⟩) NB391_382.out _).trans (((cell_far (p := ⟨gb382, _, none⟩) NB391_382.out _).trans (hHeld.2.1)))), ((cell_far (p := ⟨gb382, _, none⟩) NB396_382.out _).trans (((cell_far (p := ⟨gb382, _, none⟩) NB396_382.out _).trans (hHeld.2.2.1)))), ((cell_far (p := ⟨gb382, _, none⟩) NB396_382.out _).trans (((cell_far (p := ⟨gb382, _, none⟩) NB396_382.out _).trans (hHeld.2.2.2))))⟩ (fun hHeld => ?_)
      clear hK K
      refine done_ (done_of HT_.out (by kernel_rfl)) ?_
      try go_wp2
      refine bodyPost_ret (results_cc rfl _ _ gb381 gb382 27 27 #[.int .i64 t420, .int .i64 t421] #[.int .i64 t424, .int .i64 t425] (0, 0) (0, 0) _ _ rfl (by (with_reducible repeat (first | refine blk_drewN ?_ _ | refine blk_drew ?_ | refine blk_alloc ?_ _)); refine blk_far ?_ NB381_382.out _; (with_reducible repeat (first | refine blk_drewN ?_ _ | refine blk_drew ?_ | refine blk_alloc ?_ _)); refine blk_far ?_ NB381_382.out _; (with_reducible repeat (first | refine blk_drewN ?_ _ | refine blk_drew ?_ | refine blk_alloc ?_ _)); refine blk_put (cs := #[.int .i64 t420, .int .i64 0]) ?_ 1 _ rfl; (with_reducible repeat (first | refine blk_drewN ?_ _ | refine blk_drew ?_ | refine blk_alloc ?_ _)); refine blk_put (cs := #[.int .i64 0, .int .i64 0]) ?_ 0 _ rfl; exact iBK BK381.out) Try.underlying27 rfl (by kernel_rfl) rfl (by (with_reducible repeat (first | refine blk_drewN ?_ _ | refine blk_drew ?_ | refine blk_alloc ?_ _)); refine blk_put (cs := #[.int .i64 t424, .int .i64 0]) ?_ 1 _ rfl; (with_reducible repeat (first | refine blk_drewN ?_ _ | refine blk_drew ?_ | refine blk_alloc ?_ _)); refine blk_put (cs := #[.int .i64 0, .int .i64 0]) ?_ 0 _ rfl; (with_reducible repeat (first | refine blk_drewN ?_ _ | refine blk_drew ?_ | refine blk_alloc ?_ _)); refine blk_far ?_ NB382_381.out _; (with_reducible repeat (first | refine blk_drewN ?_ _ | refine blk_drew ?_ | refine blk_alloc ?_ _)); refine blk_far ?_ NB382_381.out _; exact iBK BK382.out) Try.underlying27 rfl (by kernel_rfl)) rfl ?_
      exact ⟨by first | rfl | (simp [errW_none, errW_some] <;> rfl) | (simp [*, errW_none, errW_some] <;> rfl), iHS⟩
def spec_DrawSumOfFuncs.f (k : Nat) (l0 : List Int) : Option (Int × Int × Int × Int) := (spec_l03Two.f k l0).bind fun bt430 => (some (bt430.1, bt430.2.1, bt430.2.2.1, bt430.2.2.2))
set_option maxHeartbeats 8000000 in
set_option maxRecDepth 100000 in
theorem spec_DrawSumOfFuncs.calls (k : Nat) (A0 : Option Addr) (c0 : Nat) (l0 : List Int) (r1 : Int) (r2 : Int) (r3 : Int) (r4 : Int) (w : World) (hr0 : Kd.C (Kd.int .u8) w A0 l0.length l0) (hc0 : l0.length ≤ c0) (h : spec_DrawSumOfFuncs.f k l0 = some (r1, r2, r3, r4)) :
    Calls Try.prog 53 #[.slice A0 l0.length c0] w fun e w' => e = .returned (.tuple #[.agg #[.int .i64 r1, .int .i64 r2], .agg #[.int .i64 r3, .int .i64 r4]]) ∧ Below w.heap.size w w' := by
  have hu27 := Try.underlying27
  have HR0 := Aside0.mk hr0
  have HC0 := Aside0.mk hc0
  clear hr0 hc0
  have HB := aa (Below.refl w.heap.size w)
  have H : ((spec_l03Two.f k l0).bind fun bt430 => (some (bt430.1, bt430.2.1, bt430.2.2.1, bt430.2.2.2))) = some (r1, r2, r3, r4) := h
  clear h
  replace H := Option.bind_eq_some_iff.mp H
  obtain ⟨⟨t430, t431, t432, t433⟩, A20, H⟩ := H
  replace H : (some (t430, t431, t432, t433)) = some (r1, r2, r3, r4) := H
  have A2 := Aside0.mk A20
  clear A20
  simp only [Option.some.injEq, Prod.mk.injEq] at H
  obtain ⟨rfl, rfl, rfl, rfl⟩ := H
  go_enter Try.func53, Try.ntmps53
  try go_wp2_with (first | ((with_reducible refine gate_dst (N := 2) rfl ?_); refine box_event ?hg (N := 2) ?hd (cs := #[.int .i64 0, .int .i64 0]) (t := 27) ?hr ?_; (case hd => rfl); (case hg => rfl); (case hr => first | (go_simp; done) | (go_simp; rfl)); intro gb428 hg w3 hbox hb; have BK428 := aa (hbox); have GW428 := gwB (w := w) hg iHB; have GE428 := gwB (w := w) hg iHB; replace HB := aa (below_step iHB hb); clear hb hbox hg) | ((with_reducible refine gate_dst (N := 3) rfl ?_); refine box_event ?hg (N := 3) ?hd (cs := #[.int .i64 0, .int .i64 0]) (t := 27) ?hr ?_; (case hd => rfl); (case hg => rfl); (case hr => first | (go_simp; done) | (go_simp; rfl)); intro gb429 hg w4 hbox hb; have BK429 := aa (hbox); have GW429 := gwB (w := w) hg iHB; have GE429 := gwB (w := w) hg iHB; replace HB := aa (below_step iHB hb); have NB428_429 := nbL hg (iBK BK428.out); have NB429_428 := nbR hg (iBK BK428.out); replace BK428 := aa (blk_below (iBK BK428.out) hb); clear hb hbox hg) | ((with_reducible refine gate_callee (f := 98) rfl ?_); refine goesL_ (some 8) rfl rfl Try.func98 (by kernel_rfl) rfl #[.slice A0 l0.length c0] rfl iAR ?_; (with_reducible refine (spec_l03Two.calls k _ _ l0 t430 t431 t432 t433 _ ?side1 ?side2 A2.out).mono ?_); (case side1 => repeat (first | exact (Kd.C_below HR0.out HB.out) | (with_reducible refine Kd.C_alloc ?_ _) | (with_reducible refine Kd.C_drewN ?_ _) | (with_reducible refine Kd.C_drew ?_))); (case side2 => exact HC0.out); rintro e w5 ⟨rfl, hb⟩; refine ⟨_, rfl, ?_⟩; replace BK428 := aa (blk_below (iBK BK428.out) hb); replace BK429 := aa (blk_below (iBK BK429.out) hb); replace HB := aa (below_step iHB hb); (try clear hb)) | ((with_reducible refine gate_dst (N := 4) rfl ?_); refine box_event ?hg (N := 4) ?hd (cs := #[.int .i64 0, .int .i64 0]) (t := 27) ?hr ?_; (case hd => rfl); (case hg => rfl); (case hr => first | (go_simp; done) | (go_simp; rfl)); intro gb434 hg w6 hbox hb; have BK434 := aa (hbox); have GW434 := gwB (w := w) hg iHB; have GE434 := gwB (w := w) hg iHB; replace HB := aa (below_step iHB hb); have NB428_434 := nbL hg (iBK BK428.out); have NB434_428 := nbR hg (iBK BK428.out); replace BK428 := aa (blk_below (iBK BK428.out) hb); have NB429_434 := nbL hg (iBK BK429.out); have NB434_429 := nbR hg (iBK BK429.out); replace BK429 := aa (blk_below (iBK BK429.out) hb); clear hb hbox hg) | ((with_reducible refine gate_dst (N := 5) rfl ?_); refine box_event ?hg (N := 5) ?hd (cs := #[.int .i64 0, .int .i64 0]) (t := 27) ?hr ?_; (case hd => rfl); (case hg => rfl); (case hr => first | (go_simp; done) | (go_simp; rfl)); intro gb435 hg w7 hbox hb; have BK435 := aa (hbox); have GW435 := gwB (w := w) hg iHB; have GE435 := gwB (w := w) hg iHB; replace HB := aa (below_step iHB hb); have NB428_435 := nbL hg (iBK BK428.out); have NB435_428 := nbR hg (iBK BK428.out); replace BK428 := aa (blk_below (iBK BK428.out) hb); have NB429_435 := nbL hg (iBK BK429.out); have NB435_429 := nbR hg (iBK BK429.out); replace BK429 := aa (blk_below (iBK BK429.out) hb); have NB434_435 := nbL hg (iBK BK434.out); have NB435_434 := nbR hg (iBK BK434.out); replace BK434 := aa (blk_below (iBK BK434.out) hb); clear hb hbox hg; have hnb8 := NB434_428.out; have hnc8 := NB428_434.out; have hnb9 := NB434_429.out; have hnc9 := NB429_434.out; have hnb10 := NB434_435.out; have hnc10 := NB435_434.out; have hcz11_0 : w7.cell? ⟨gb434, 0, none⟩ = some (.int .i64 0) := (blk_cell BK434.out 0).trans rfl; have hcz11_1 : w7.cell? ⟨gb434, 1, none⟩ = some (.int .i64 0) := (blk_cell BK434.out 1).trans rfl; have hfz11_0 := blk_frozen BK434.out 0; have hfz11_1 := blk_frozen BK434.out 1; have hnb12 := NB435_428.out; have hnc12 := NB428_435.out; have hnb13 := NB435_429.out; have hnc13 := NB429_435.out; have hcz14_0 : w7.cell? ⟨gb435, 0, none⟩ = some (.int .i64 0) := (blk_cell BK435.out 0).trans rfl; have hcz14_1 : w7.cell? ⟨gb435, 1, none⟩ = some (.int .i64 0) := (blk_cell BK435.out 1).trans rfl; have hfz14_0 := blk_frozen BK435.out 0; have hfz14_1 := blk_frozen BK435.out 1))
  have n0_ : Aside0 (((((w7.setCell ⟨gb434, 0, none⟩ (.int .i64 t430)).setCell ⟨gb434, 1, none⟩ (.int .i64 t431)).setCell ⟨gb435, 0, none⟩ (.int .i64 t432)).setCell ⟨gb435, 1, none⟩ (.int .i64 t433)).heap[gb428]? = some (.cells #[.int .i64 0, .int .i64 0] 27 (0, 0))) := ⟨by (with_reducible repeat (first | refine blk_drewN ?_ _ | refine blk_drew ?_ | refine blk_alloc ?_ _)); refine blk_far ?_ NB428_435.out _; (with_reducible repeat (first | refine blk_drewN ?_ _ | refine blk_drew ?_ | refine blk_alloc ?_ _)); refine blk_far ?_ NB428_435.out _; (with_reducible repeat (first | refine blk_drewN ?_ _ | refine blk_drew ?_ | refine blk_alloc ?_ _)); refine blk_far ?_ NB428_434.out _; (with_reducible repeat (first | refine blk_drewN ?_ _ | refine blk_drew ?_ | refine blk_alloc ?_ _)); refine blk_far ?_ NB428_434.out _; exact iBK BK428.out⟩
  have n1_ : Aside0 (((((w7.setCell ⟨gb434, 0, none⟩ (.int .i64 t430)).setCell ⟨gb434, 1, none⟩ (.int .i64 t431)).setCell ⟨gb435, 0, none⟩ (.int .i64 t432)).setCell ⟨gb435, 1, none⟩ (.int .i64 t433)).heap[gb429]? = some (.cells #[.int .i64 0, .int .i64 0] 27 (0, 0))) := ⟨by (with_reducible repeat (first | refine blk_drewN ?_ _ | refine blk_drew ?_ | refine blk_alloc ?_ _)); refine blk_far ?_ NB429_435.out _; (with_reducible repeat (first | refine blk_drewN ?_ _ | refine blk_drew ?_ | refine blk_alloc ?_ _)); refine blk_far ?_ NB429_435.out _; (with_reducible repeat (first | refine blk_drewN ?_ _ | refine blk_drew ?_ | refine blk_alloc ?_ _)); refine blk_far ?_ NB429_434.out _; (with_reducible repeat (first | refine blk_drewN ?_ _ | refine blk_drew ?_ | refine blk_alloc ?_ _)); refine blk_far ?_ NB429_434.out _; exact iBK BK429.out⟩
  have n2_ : Aside0 (((((w7.setCell ⟨gb434, 0, none⟩ (.int .i64 t430)).setCell ⟨gb434, 1, none⟩ (.int .i64 t431)).setCell ⟨gb435, 0, none⟩ (.int .i64 t432)).setCell ⟨gb435, 1, none⟩ (.int .i64 t433)).heap[gb434]? = some (.cells #[.int .i64 t430, .int .i64 t431] 27 (0, 0))) := ⟨by (with_reducible repeat (first | refine blk_drewN ?_ _ | refine blk_drew ?_ | refine blk_alloc ?_ _)); refine blk_far ?_ NB434_435.out _; (with_reducible repeat (first | refine blk_drewN ?_ _ | refine blk_drew ?_ | refine blk_alloc ?_ _)); refine blk_far ?_ NB434_435.out _; (with_reducible repeat (first | refine blk_drewN ?_ _ | refine blk_drew ?_ | refine blk_alloc ?_ _)); refine blk_put (cs := #[.int .i64 t430, .int .i64 0]) ?_ 1 _ rfl; (with_reducible repeat (first | refine blk_drewN ?_ _ | refine blk_drew ?_ | refine blk_alloc ?_ _)); refine blk_put (cs := #[.int .i64 0, .int .i64 0]) ?_ 0 _ rfl; exact iBK BK434.out⟩
  have n3_ : Aside0 (((((w7.setCell ⟨gb434, 0, none⟩ (.int .i64 t430)).setCell ⟨gb434, 1, none⟩ (.int .i64 t431)).setCell ⟨gb435, 0, none⟩ (.int .i64 t432)).setCell ⟨gb435, 1, none⟩ (.int .i64 t433)).heap[gb435]? = some (.cells #[.int .i64 t432, .int .i64 t433] 27 (0, 0))) := ⟨by (with_reducible repeat (first | refine blk_drewN ?_ _ | refine blk_drew ?_ | refine blk_alloc ?_ _)); refine blk_put (cs := #[.int .i64 t432, .int .i64 0]) ?_ 1 _ rfl; (with_reducible repeat (first | refine blk_drewN ?_ _ | refine blk_drew ?_ | refine blk_alloc ?_ _)); refine blk_put (cs := #[.int .i64 0, .int .i64 0]) ?_ 0 _ rfl; (with_reducible repeat (first | refine blk_drewN ?_ _ | refine blk_drew ?_ | refine blk_alloc ?_ _)); refine blk_far ?_ NB435_434.out _; (with_reducible repeat (first | refine blk_drewN ?_ _ | refine blk_drew ?_ | refine blk_alloc ?_ _)); refine blk_far ?_ NB435_434.out _; exact iBK BK435.out⟩
  have n4_ : Aside0 (Below w.heap.size w ((((w7.setCell ⟨gb434, 0, none⟩ (.int .i64 t430)).setCell ⟨gb434, 1, none⟩ (.int .i64 t431)).setCell ⟨gb435, 0, none⟩ (.int .i64 t432)).setCell ⟨gb435, 1, none⟩ (.int .i64 t433))) := ⟨iHB⟩
  (try clear BK428)
  (try clear BK429)
  (try clear BK434)
  (try clear BK435)
  (try clear HB)
  generalize ((((w7.setCell ⟨gb434, 0, none⟩ (.int .i64 t430)).setCell ⟨gb434, 1, none⟩ (.int .i64 t431)).setCell ⟨gb435, 0, none⟩ (.int .i64 t432)).setCell ⟨gb435, 1, none⟩ (.int .i64 t433)) = w15 at n0_ n1_ n2_ n3_ n4_ ⊢
  have BK428 := n0_
  have BK429 := n1_
  have BK434 := n2_
  have BK435 := n3_
  have HB := n4_
  clear n0_ n1_ n2_ n3_ n4_
  replace BK428 := aa (blk_drew BK428.out)
  replace BK429 := aa (blk_drew BK429.out)
  replace BK434 := aa (blk_drew BK434.out)
  replace BK435 := aa (blk_drew BK435.out)
  replace HB := aa (below_drew1 HB.out)
  refine start_ (n := 4) (S := fun w' => w'.cell? ⟨gb434, 0, none⟩ = some (.int .i64 t430) ∧ w'.cell? ⟨gb434, 1, none⟩ = some (.int .i64 t431) ∧ w'.cell? ⟨gb435, 0, none⟩ = some (.int .i64 t432) ∧ w'.cell? ⟨gb435, 1, none⟩ = some (.int .i64 t433)) (ds := []) #[false, false, false, false] (by kernel_rfl) rfl rfl ⟨(blk_cell BK434.out 0).trans rfl, (blk_cell BK434.out 1).trans rfl, (blk_cell BK435.out 0).trans rfl, (blk_cell BK435.out 1).trans rfl⟩ (fun hHeld => ?_)
  generalize w15.drew = w16 at BK428 BK429 BK434 BK435 HB hHeld ⊢
  refine take_ (i := 0) (N := some 11) (v := ?_) (a' := ?_) #[true, false, false, false] rfl rfl (by kernel_rfl) (fun _ _ _ h => h) (Or.inl ⟨by rfl, ?_⟩) hHeld ?_ ?_
  rotate_left
  · rintro w' ⟨s0, s1, s2, s3⟩
    go_simp
    with_reducible rfl
  rotate_left
  · simp only [Act.put, List.setIfInBounds_toArray, List.set_cons_zero, List.set_cons_succ, i64_w, i32_w]
    rfl
  refine take_ (i := 1) (N := some 12) (v := ?_) (a' := ?_) #[true, true, false, false] rfl rfl (by kernel_rfl) (fun _ _ _ h => h) (Or.inl ⟨by rfl, ?_⟩) hHeld ?_ ?_
  rotate_left
  · rintro w' ⟨s0, s1, s2, s3⟩
    go_simp
    with_reducible rfl
  rotate_left
  · simp only [Act.put, List.setIfInBounds_toArray, List.set_cons_zero, List.set_cons_succ, i64_w, i32_w]
    rfl
  refine one_ (i := 2) (N := none) #[true, true, true, false] rfl rfl (by kernel_rfl) (by decide) (fun K hK => ?_)
  have hs17 : w16.cell? ⟨gb428, 0, none⟩ = some (.int .i64 0) := (blk_cell BK428.out 0).trans rfl
  have hfs17 := blk_frozen BK428.out 0
  have hns17_1 := NB429_428.out
  have hns17_2 := NB434_428.out
  have hns17_3 := NB435_428.out
  have hms17_1 := NB428_429.out
  have hms17_2 := NB428_434.out
  have hms17_3 := NB428_435.out
  have hs18 : w16.cell? ⟨gb428, 1, none⟩ = some (.int .i64 0) := (blk_cell BK428.out 1).trans rfl
  have hfs18 := blk_frozen BK428.out 1
  have hns18_1 := NB429_428.out
  have hns18_2 := NB434_428.out
  have hns18_3 := NB435_428.out
  have hms18_1 := NB428_429.out
  have hms18_2 := NB428_434.out
  have hms18_3 := NB428_435.out
  refine skip_ (w1 := ?_) (by rfl) rfl ?_ ?_
  rotate_left
  · go_simp
    rfl
  refine hK.out _ _ ⟨((cell_far (p := ⟨gb428, _, none⟩) NB434_428.out _).trans (((cell_far (p := ⟨gb428, _, none⟩) NB434_428.out _).trans (hHeld.1)))), ((cell_far (p := ⟨gb428, _, none⟩) NB434_428.out _).trans (((cell_far (p := ⟨gb428, _, none⟩) NB434_428.out _).trans (hHeld.2.1)))), ((cell_far (p := ⟨gb428, _, none⟩) NB435_428.out _).trans (((cell_far (p := ⟨gb428, _, none⟩) NB435_428.out _).trans (hHeld.2.2.1)))), ((cell_far (p := ⟨gb428, _, none⟩) NB435_428.out _).trans (((cell_far (p := ⟨gb428, _, none⟩) NB435_428.out _).trans (hHeld.2.2.2))))⟩ (fun hHeld => ?_)
  clear hK K
  refine one_ (i := 3) (N := none) #[true, true, true, true] rfl rfl (by kernel_rfl) (by decide) (fun K hK => ?_)
  have hs19 : w16.cell? ⟨gb429, 0, none⟩ = some (.int .i64 0) := (blk_cell BK429.out 0).trans rfl
  have hfs19 := blk_frozen BK429.out 0
  have hns19_0 := NB428_429.out
  have hns19_2 := NB434_429.out
  have hns19_3 := NB435_429.out
  have hms19_0 := NB429_428.out
  have hms19_2 := NB429_434.out
  have hms19_3 := NB429_435.out
  have hs20 : w16.cell? ⟨gb429, 1, none⟩ = some (.int .i64 0) := (blk_cell BK429.out 1).trans rfl
  have hfs20 := blk_frozen BK429.out 1
  have hns20_0 := NB428_429.out
  have hns20_2 := NB434_429.out
  have hns20_3 := NB435_429.out
  have hms20_0 := NB429_428.out
  have hms20_2 := NB429_434.out
  have hms20_3 := NB429_435.out
  refine skip_ (w1 := ?_) (by rfl) rfl ?_ ?_
  rotate_left
  · go_simp
    rfl
  refine hK.out _ _ ⟨((cell_far (p := ⟨gb429, _, none⟩) NB434_429.out _).trans (((cell_far (p := ⟨gb429, _, none⟩) NB434_429.out _).trans (hHeld.1)))), ((cell_far (p := ⟨gb429, _, none⟩) NB434_429.out _).trans (((cell_far (p := ⟨gb429, _, none⟩) NB434_429.out _).trans (hHeld.2.1)))), ((cell_far (p := ⟨gb429, _, none⟩) NB435_429.out _).trans (((cell_far (p := ⟨gb429, _, none⟩) NB435_429.out _).trans (hHeld.2.2.1)))), ((cell_far (p := ⟨gb429, _, none⟩) NB435_429.out _).trans (((cell_far (p := ⟨gb429, _, none⟩) NB435_429.out _).trans (hHeld.2.2.2))))⟩ (fun hHeld => ?_)
  clear hK K
  refine done_ (by kernel_rfl) ?_
  try go_wp2
  refine bodyPost_ret (results_cc rfl _ _ gb428 gb429 27 27 #[.int .i64 t430, .int .i64 t431] #[.int .i64 t432, .int .i64 t433] (0, 0) (0, 0) _ _ rfl (by (with_reducible repeat (first | refine blk_drewN ?_ _ | refine blk_drew ?_ | refine blk_alloc ?_ _)); refine blk_far ?_ NB428_429.out _; (with_reducible repeat (first | refine blk_drewN ?_ _ | refine blk_drew ?_ | refine blk_alloc ?_ _)); refine blk_far ?_ NB428_429.out _; (with_reducible repeat (first | refine blk_drewN ?_ _ | refine blk_drew ?_ | refine blk_alloc ?_ _)); refine blk_put (cs := #[.int .i64 t430, .int .i64 0]) ?_ 1 _ rfl; (with_reducible repeat (first | refine blk_drewN ?_ _ | refine blk_drew ?_ | refine blk_alloc ?_ _)); refine blk_put (cs := #[.int .i64 0, .int .i64 0]) ?_ 0 _ rfl; exact iBK BK428.out) Try.underlying27 rfl (by kernel_rfl) rfl (by (with_reducible repeat (first | refine blk_drewN ?_ _ | refine blk_drew ?_ | refine blk_alloc ?_ _)); refine blk_put (cs := #[.int .i64 t432, .int .i64 0]) ?_ 1 _ rfl; (with_reducible repeat (first | refine blk_drewN ?_ _ | refine blk_drew ?_ | refine blk_alloc ?_ _)); refine blk_put (cs := #[.int .i64 0, .int .i64 0]) ?_ 0 _ rfl; (with_reducible repeat (first | refine blk_drewN ?_ _ | refine blk_drew ?_ | refine blk_alloc ?_ _)); refine blk_far ?_ NB429_428.out _; (with_reducible repeat (first | refine blk_drewN ?_ _ | refine blk_drew ?_ | refine blk_alloc ?_ _)); refine blk_far ?_ NB429_428.out _; exact iBK BK429.out) Try.underlying27 rfl (by kernel_rfl)) rfl ?_
  exact ⟨by first | rfl | (simp [errW_none, errW_some] <;> rfl) | (simp [*, errW_none, errW_some] <;> rfl), iHB⟩
def impl_pairCode.f (a0_0 a0_1 a1_0 a1_1 : Int) : Option Int := if (M.valid a0_0 a0_1 && M.valid a1_0 a1_1) = true then (if a0_0 = a1_0 then some 0 else some 2) else some 1
set_option maxHeartbeats 8000000 in
set_option maxRecDepth 100000 in
theorem impl_pairCode.calls (a0_0 a0_1 a1_0 a1_1 : Int) (r : Int) (w : World) (h : impl_pairCode.f a0_0 a0_1 a1_0 a1_1 = some r) :
    Calls Try.prog 99 #[.agg #[.int .i64 a0_0, .int .i64 a0_1], .agg #[.int .i64 a1_0, .int .i64 a1_1]] w fun e w' => e = .returned (.int .i64 r) ∧ Below w.heap.size w w' := by
  unfold impl_pairCode.f at h
  have HB0 := aa (below_alloc (below_alloc (below_alloc (Below.refl w.heap.size w) (.cells #[.int .i64 a0_0, .int .i64 a0_1] 27)) (.cells #[.int .i64 a1_0, .int .i64 a1_1] 27)) (.cells #[.int .i64 a0_0, .int .i64 a0_1, .int .i64 a1_0, .int .i64 a1_1] 27))
  have F0 := aa (blk_alloc (blk_alloc (blk_new w (.cells #[.int .i64 a0_0, .int .i64 a0_1] 27)) (.cells #[.int .i64 a1_0, .int .i64 a1_1] 27)) (.cells #[.int .i64 a0_0, .int .i64 a0_1, .int .i64 a1_0, .int .i64 a1_1] 27))
  have g0 := blk_alloc (blk_new (w.alloc (.cells #[.int .i64 a0_0, .int .i64 a0_1] 27)) (.cells #[.int .i64 a1_0, .int .i64 a1_1] 27)) (.cells #[.int .i64 a0_0, .int .i64 a0_1, .int .i64 a1_0, .int .i64 a1_1] 27)
  rw [World.size_alloc_] at g0
  have G0 := Aside0.mk g0
  have pn := blk_new ((w.alloc (.cells #[.int .i64 a0_0, .int .i64 a0_1] 27)).alloc (.cells #[.int .i64 a1_0, .int .i64 a1_1] 27)) (.cells #[.int .i64 a0_0, .int .i64 a0_1, .int .i64 a1_0, .int .i64 a1_1] 27)
  rw [World.size_alloc_, World.size_alloc_] at pn
  have FI : FnsIn (((w.alloc (.cells #[.int .i64 a0_0, .int .i64 a0_1] 27)).alloc (.cells #[.int .i64 a1_0, .int .i64 a1_1] 27)).alloc (.cells #[.int .i64 a0_0, .int .i64 a0_1, .int .i64 a1_0, .int .i64 a1_1] 27)) (some ⟨w.heap.size + 1 + 1, 0, none⟩) [(a0_0, a0_1), (a1_0, a1_1)] := by
    intro i hi
    have hi' : i = 0 ∨ i = 1 := by simp at hi; omega
    rcases hi' with rfl | rfl
    · exact ⟨_, rfl, (blk_cell pn 0).trans rfl, (blk_cell pn 1).trans rfl⟩
    · exact ⟨_, rfl, (blk_cell pn 2).trans rfl, (blk_cell pn 3).trans rfl⟩
  have hC := areFuncs_fns.calls (some ⟨w.heap.size + 1 + 1, 0, none⟩) 2 [(a0_0, a0_1), (a1_0, a1_1)] (by simp) _ FI
  rw [show ([(a0_0, a0_1), (a1_0, a1_1)] : List (Int × Int)).all (fun x => M.valid x.1 x.2) = (M.valid a0_0 a0_1 && M.valid a1_0 a1_1) from by simp, show ([(a0_0, a0_1), (a1_0, a1_1)] : List (Int × Int)).length = 2 from rfl] at hC
  have HC := Aside0.mk hC
  clear hC FI pn g0
  generalize (M.valid a0_0 a0_1 && M.valid a1_0 a1_1) = b at HC h
  cases b with
  | false =>
    rw [if_neg (by simp)] at h
    obtain rfl := Option.some.inj h
    clear h
    go_enter Try.func99, Try.ntmps99
    go_wp2_with ((with_reducible refine HC.out.mono ?_); rintro e w1 ⟨rfl, hb⟩; have HB1 := aa (below_step HB0.out hb); clear hb)
    go_ret
    exact ⟨rfl, HB1.out⟩
  | true =>
    rw [if_pos rfl] at h
    by_cases he : a0_0 = a1_0
    · rw [if_pos he] at h
      obtain rfl := Option.some.inj h
      subst he
      clear h
      go_enter Try.func99, Try.ntmps99
      go_wp2_with ((with_reducible refine HC.out.mono ?_); rintro e w1 ⟨rfl, hb⟩; have HB1 := aa (below_step HB0.out hb); have hc0 := blk_cell (blk_below F0.out hb) 0; have hc1 := blk_cell (blk_below G0.out hb) 0; simp at hc0 hc1; clear hb)
      go_ret
      exact ⟨rfl, HB1.out⟩
    · rw [if_neg he] at h
      obtain rfl := Option.some.inj h
      have hd : (a0_0 == a1_0) = false := by simpa using he
      clear h
      go_enter Try.func99, Try.ntmps99
      go_wp2_with ((with_reducible refine HC.out.mono ?_); rintro e w1 ⟨rfl, hb⟩; have HB1 := aa (below_step HB0.out hb); have hc0 := blk_cell (blk_below F0.out hb) 0; have hc1 := blk_cell (blk_below G0.out hb) 0; simp at hc0 hc1; clear hb)
      go_ret
      exact ⟨rfl, HB1.out⟩
end Go.Proofs.Ytdhfbgbclibagaa.P
