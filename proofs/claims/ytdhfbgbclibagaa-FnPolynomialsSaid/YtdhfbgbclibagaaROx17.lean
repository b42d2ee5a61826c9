/- Functions of the given program and their contracts, written by a program of this session (gen.py) over the kit's print. -/
import Derived.Test.YtdhfbgbclibagaaROx0
import Derived.Test.YtdhfbgbclibagaaROx10
import Derived.Test.YtdhfbgbclibagaaROx14
import Derived.Test.YtdhfbgbclibagaaROx15
import Derived.Test.YtdhfbgbclibagaaROx16
namespace Go.Proofs.Ytdhfbgbclibagaa.P
open Go.RowKit Go.Proofs.YtdhfbgbclibagaaW.PrintWords Go.Proofs.YtdhfbgbclibagaaW.PrintLast Go.Proofs.YtdhfbgbclibagaaW.PrintMore
attribute [local go_sem] max2_int min2_int max_two min_two max_three min_three max_four min_four   -- for this text's walks alone
set_option linter.unusedVariables false
set_option linter.unusedSimpArgs false
def spec_DrawProductOfFuncs.f (k : Nat) (l0 : List Int) : Option (Int × Int × Int × Int) := (spec_l03Two.f k l0).bind fun bt567 => (some (bt567.1, bt567.2.1, bt567.2.2.1, bt567.2.2.2))
set_option maxHeartbeats 8000000 in
set_option maxRecDepth 100000 in
theorem spec_DrawProductOfFuncs.calls (k : Nat) (A0 : Option Addr) (c0 : Nat) (l0 : List Int) (r1 : Int) (r2 : Int) (r3 : Int) (r4 : Int) (w : World) (hr0 : Kd.C (Kd.int .u8) w A0 l0.length l0) (hc0 : l0.length ≤ c0) (h : spec_DrawProductOfFuncs.f k l0 = some (r1, r2, r3, r4)) :
    Calls Try.prog 64 #[.slice A0 l0.length c0] w fun e w' => e = .returned (.tuple #[.agg #[.int .i64 r1, .int .i64 r2], .agg #[.int .i64 r3, .int .i64 r4]]) ∧ Below w.heap.size w w' := by
  have hu27 := Try.underlying27
  have HR0 := Aside0.mk hr0
  have HC0 := Aside0.mk hc0
  clear hr0 hc0
  have HB := aa (Below.refl w.heap.size w)
  have H : ((spec_l03Two.f k l0).bind fun bt567 => (some (bt567.1, bt567.2.1, bt567.2.2.1, bt567.2.2.2))) = some (r1, r2, r3, r4) := h
  clear h
  replace H := Option.bind_eq_some_iff.mp H
  obtain ⟨⟨t567, t568, t569, t570⟩, A20, H⟩ := H
  replace H : (some (t567, t568, t569, t570)) = some (r1, r2, r3, r4) := H
  have A2 := Aside0.mk A20
  clear A20
  simp only [Option.some.injEq, Prod.mk.injEq] at H
  obtain ⟨rfl, rfl, rfl, rfl⟩ := H
  go_enter Try.func64, Try.ntmps64
  try go_wp2_with (first | ((with_reducible refine gate_dst (N := 2) rfl ?_); refine box_event ?hg (N := 2) ?hd (cs := #[.int .i64 0, .int .i64 0]) (t := 27) ?hr ?_; (case hd => rfl); (case hg => rfl); (case hr => first | (go_simp; done) | (go_simp; rfl)); intro gb565 hg w3 hbox hb; have BK565 := aa (hbox); have GW565 := gwB (w := w) hg iHB; have GE565 := gwB (w := w) hg iHB; replace HB := aa (below_step iHB hb); clear hb hbox hg) | ((with_reducible refine gate_dst (N := 3) rfl ?_); refine box_event ?hg (N := 3) ?hd (cs := #[.int .i64 0, .int .i64 0]) (t := 27) ?hr ?_; (case hd => rfl); (case hg => rfl); (case hr => first | (go_simp; done) | (go_simp; rfl)); intro gb566 hg w4 hbox hb; have BK566 := aa (hbox); have GW566 := gwB (w := w) hg iHB; have GE566 := gwB (w := w) hg iHB; replace HB := aa (below_step iHB hb); have NB565_566 := nbL hg (iBK BK565.out); have NB566_565 := nbR hg (iBK BK565.out); replace BK565 := aa (blk_below (iBK BK565.out) hb); clear hb hbox hg) | ((with_reducible refine gate_callee (f := 98) rfl ?_); refine goesL_ (some 8) rfl rfl Try.func98 (by kernel_rfl) rfl #[.slice A0 l0.length c0] rfl iAR ?_; (with_reducible refine (spec_l03Two.calls k _ _ l0 t567 t568 t569 t570 _ ?side1 ?side2 A2.out).mono ?_); (case side1 => repeat (first | exact (Kd.C_below HR0.out HB.out) | (with_reducible refine Kd.C_alloc ?_ _) | (with_reducible refine Kd.C_drewN ?_ _) | (with_reducible refine Kd.C_drew ?_))); (case side2 => exact HC0.out); rintro e w5 ⟨rfl, hb⟩; refine ⟨_, rfl, ?_⟩; replace BK565 := aa (blk_below (iBK BK565.out) hb); replace BK566 := aa (blk_below (iBK BK566.out) hb); replace HB := aa (below_step iHB hb); (try clear hb)) | ((with_reducible refine gate_dst (N := 4) rfl ?_); refine box_event ?hg (N := 4) ?hd (cs := #[.int .i64 0, .int .i64 0]) (t := 27) ?hr ?_; (case hd => rfl); (case hg => rfl); (case hr => first | (go_simp; done) | (go_simp; rfl)); intro gb571 hg w6 hbox hb; have BK571 := aa (hbox); have GW571 := gwB (w := w) hg iHB; have GE571 := gwB (w := w) hg iHB; replace HB := aa (below_step iHB hb); have NB565_571 := nbL hg (iBK BK565.out); have NB571_565 := nbR hg (iBK BK565.out); replace BK565 := aa (blk_below (iBK BK565.out) hb); have NB566_571 := nbL hg (iBK BK566.out); have NB571_566 := nbR hg (iBK BK566.out); replace BK566 := aa (blk_below (iBK BK566.out) hb); clear hb hbox hg) | ((with_reducible refine gate_dst (N := 5) rfl ?_); refine box_event ?hg (N := 5) ?hd (cs := #[.int .i64 0, .int .i64 0]) (t := 27) ?hr ?_; (case hd => rfl); (case hg => rfl); (case hr => first | (go_simp; done) | (go_simp; rfl)); intro gb572 hg w7 hbox hb; have BK572 := aa (hbox); have GW572 := gwB (w := w) hg iHB; have GE572 := gwB (w := w) hg iHB; replace HB := aa (below_step iHB hb); have NB565_572 := nbL hg (iBK BK565.out); have NB572_565 := nbR hg (iBK BK565.out); replace BK565 := aa (blk_below (iBK BK565.out) hb); have NB566_572 := nbL hg (iBK BK566.out); have NB572_566 := nbR hg (iBK BK566.out); replace BK566 := aa (blk_below (iBK BK566.out) hb); have NB571_572 := nbL hg (iBK BK571.out); have NB572_571 := nbR hg (iBK BK571.out); replace BK571 := aa (blk_below (iBK BK571.out) hb); clear hb hbox hg; have hnb8 := NB571_565.out; have hnc8 := NB565_571.out; have hnb9 := NB571_566.out; have hnc9 := NB566_571.out; have hnb10 := NB571_572.out; have hnc10 := NB572_571.out; have hcz11_0 : w7.cell? ⟨gb571, 0, none⟩ = some (.int .i64 0) := (blk_cell BK571.out 0).trans rfl; have hcz11_1 : w7.cell? ⟨gb571, 1, none⟩ = some (.int .i64 0) := (blk_cell BK571.out 1).trans rfl; have hfz11_0 := blk_frozen BK571.out 0; have hfz11_1 := blk_frozen BK571.out 1; have hnb12 := NB572_565.out; have hnc12 := NB565_572.out; have hnb13 := NB572_566.out; have hnc13 := NB566_572.out; have hcz14_0 : w7.cell? ⟨gb572, 0, none⟩ = some (.int .i64 0) := (blk_cell BK572.out 0).trans rfl; have hcz14_1 : w7.cell? ⟨gb572, 1, none⟩ = some (.int .i64 0) := (blk_cell BK572.out 1).trans rfl; have hfz14_0 := blk_frozen BK572.out 0; have hfz14_1 := blk_frozen BK572.out 1))
  have n0_ : Aside0 (((((w7.setCell ⟨gb571, 0, none⟩ (.int .i64 t567)).setCell ⟨gb571, 1, none⟩ (.int .i64 t568)).setCell ⟨gb572, 0, none⟩ (.int .i64 t569)).setCell ⟨gb572, 1, none⟩ (.int .i64 t570)).heap[gb565]? = some (.cells #[.int .i64 0, .int .i64 0] 27 (0, 0))) := ⟨by (with_reducible repeat (first | refine blk_drewN ?_ _ | refine blk_drew ?_ | refine blk_alloc ?_ _)); refine blk_far ?_ NB565_572.out _; (with_reducible repeat (first | refine blk_drewN ?_ _ | refine blk_drew ?_ | refine blk_alloc ?_ _)); refine blk_far ?_ NB565_572.out _; (with_reducible repeat (first | refine blk_drewN ?_ _ | refine blk_drew ?_ | refine blk_alloc ?_ _)); refine blk_far ?_ NB565_571.out _; (with_reducible repeat (first | refine blk_drewN ?_ _ | refine blk_drew ?_ | refine blk_alloc ?_ _)); refine blk_far ?_ NB565_571.out _; exact iBK BK565.out⟩
  have n1_ : Aside0 (((((w7.setCell ⟨gb571, 0, none⟩ (.int .i64 t567)).setCell ⟨gb571, 1, none⟩ (.int .i64 t568)).setCell ⟨gb572, 0, none⟩ (.int .i64 t569)).setCell ⟨gb572, 1, none⟩ (.int .i64 t570)).heap[gb566]? = some (.cells #[.int .i64 0, .int .i64 0] 27 (0, 0))) := ⟨by (with_reducible repeat (first | refine blk_drewN ?_ _ | refine blk_drew ?_ | refine blk_alloc ?_ _)); refine blk_far ?_ NB566_572.out _; (with_reducible repeat (first | refine blk_drewN ?_ _ | refine blk_drew ?_ | refine blk_alloc ?_ _)); refine blk_far ?_ NB566_572.out _; (with_reducible repeat (first | refine blk_drewN ?_ _ | refine blk_drew ?_ | refine blk_alloc ?_ _)); refine blk_far ?_ NB566_571.out _; (with_reducible repeat (first | refine blk_drewN ?_ _ | refine blk_drew ?_ | refine blk_alloc ?_ _)); refine blk_far ?_ NB566_571.out _; exact iBK BK566.out⟩
  have n2_ : Aside0 (((((w7.setCell ⟨gb571, 0, none⟩ (.int .i64 t567)).setCell ⟨gb571, 1, none⟩ (.int .i64 t568)).setCell ⟨gb572, 0, none⟩ (.int .i64 t569)).setCell ⟨gb572, 1, none⟩ (.int .i64 t570)).heap[gb571]? = some (.cells #[.int .i64 t567, .int .i64 t568] 27 (0, 0))) := ⟨by (with_reducible repeat (first | refine blk_drewN ?_ _ | refine blk_drew ?_ | refine blk_alloc ?_ _)); refine blk_far ?_ NB571_572.out _; (with_reducible repeat (first | refine blk_drewN ?_ _ | refine blk_drew ?_ | refine blk_alloc ?_ _)); refine blk_far ?_ NB571_572.out _; (with_reducible repeat (first | refine blk_drewN ?_ _ | refine blk_drew ?_ | refine blk_alloc ?_ _)); refine blk_put (cs := #[.int .i64 t567, .int .i64 0]) ?_ 1 _ rfl; (with_reducible repeat (first | refine blk_drewN ?_ _ | refine blk_drew ?_ | refine blk_alloc ?_ _)); refine blk_put (cs := #[.int .i64 0, .int .i64 0]) ?_ 0 _ rfl; exact iBK BK571.out⟩
  have n3_ : Aside0 (((((w7.setCell ⟨gb571, 0, none⟩ (.int .i64 t567)).setCell ⟨gb571, 1, none⟩ (.int .i64 t568)).setCell ⟨gb572, 0, none⟩ (.int .i64 t569)).setCell ⟨gb572, 1, none⟩ (.int .i64 t570)).heap[gb572]? = some (.cells #[.int .i64 t569, .int .i64 t570] 27 (0, 0))) := ⟨by (with_reducible repeat (first | refine blk_drewN ?_ _ | refine blk_drew ?_ | refine blk_alloc ?_ _)); refine blk_put (cs := #[.int .i64 t569, .int .i64 0]) ?_ 1 _ rfl; (with_reducible repeat (first | refine blk_drewN ?_ _ | refine blk_drew ?_ | refine blk_alloc ?_ _)); refine blk_put (cs := #[.int .i64 0, .int .i64 0]) ?_ 0 _ rfl; (with_reducible repeat (first | refine blk_drewN ?_ _ | refine blk_drew ?_ | refine blk_alloc ?_ _)); refine blk_far ?_ NB572_571.out _; (with_reducible repeat (first | refine blk_drewN ?_ _ | refine blk_drew ?_ | refine blk_alloc ?_ _)); refine blk_far ?_ NB572_571.out _; exact iBK BK572.out⟩
  have n4_ : Aside0 (Below w.heap.size w ((((w7.setCell ⟨gb571, 0, none⟩ (.int .i64 t567)).setCell ⟨gb571, 1, none⟩ (.int .i64 t568)).setCell ⟨gb572, 0, none⟩ (.int .i64 t569)).setCell ⟨gb572, 1, none⟩ (.int .i64 t570))) := ⟨iHB⟩
  (try clear BK565)
  (try clear BK566)
  (try clear BK571)
  (try clear BK572)
  (try clear HB)
  generalize ((((w7.setCell ⟨gb571, 0, none⟩ (.int .i64 t567)).setCell ⟨gb571, 1, none⟩ (.int .i64 t568)).setCell ⟨gb572, 0, none⟩ (.int .i64 t569)).setCell ⟨gb572, 1, none⟩ (.int .i64 t570)) = w15 at n0_ n1_ n2_ n3_ n4_ ⊢
  have BK565 := n0_
  have BK566 := n1_
  have BK571 := n2_
  have BK572 := n3_
  have HB := n4_
  clear n0_ n1_ n2_ n3_ n4_
  replace BK565 := aa (blk_drew BK565.out)
  replace BK566 := aa (blk_drew BK566.out)
  replace BK571 := aa (blk_drew BK571.out)
  replace BK572 := aa (blk_drew BK572.out)
  replace HB := aa (below_drew1 HB.out)
  refine start_ (n := 4) (S := fun w' => w'.cell? ⟨gb571, 0, none⟩ = some (.int .i64 t567) ∧ w'.cell? ⟨gb571, 1, none⟩ = some (.int .i64 t568) ∧ w'.cell? ⟨gb572, 0, none⟩ = some (.int .i64 t569) ∧ w'.cell? ⟨gb572, 1, none⟩ = some (.int .i64 t570)) (ds := []) #[false, false, false, false] (by kernel_rfl) rfl rfl ⟨(blk_cell BK571.out 0).trans rfl, (blk_cell BK571.out 1).trans rfl, (blk_cell BK572.out 0).trans rfl, (blk_cell BK572.out 1).trans rfl⟩ (fun hHeld => ?_)
  generalize w15.drew = w16 at BK565 BK566 BK571 BK572 HB hHeld ⊢
  refine take_ (i := 0) (N := some 11) (v := ?_) (a' := ?_) #[true, false, false, false] rfl rfl (by kernel_rfl) (fun _ _ _ h => h) (Or.inl ⟨by rfl, ?_⟩) hHeld ?_ ?_
  rotate_left
  · rintro w' ⟨s0, s1, s2, s3⟩
    go_simp
    with_reducible rfl
  rotate_left
  · simp only [Act.put, List.setIfInBounds_toArray, List.set_cons_zero, List.set_cons_succ, i64_w, i32_w]
    rfl
  refine take_ (i := 1) (N := some 12) (v := ?_) (a' := ?_) #[true, true, false, false] rfl rfl (by kernel_rfl) (fun _ _ _ h => h) (Or.inl ⟨by rfl, ?_⟩) hHeld ?_ ?_
  rotate_left
  · rintro w' ⟨s0, s1, s2, s3⟩
    go_simp
    with_reducible rfl
  rotate_left
  · simp only [Act.put, List.setIfInBounds_toArray, List.set_cons_zero, List.set_cons_succ, i64_w, i32_w]
    rfl
  refine one_ (i := 2) (N := none) #[true, true, true, false] rfl rfl (by kernel_rfl) (by decide) (fun K hK => ?_)
  have hs17 : w16.cell? ⟨gb565, 0, none⟩ = some (.int .i64 0) := (blk_cell BK565.out 0).trans rfl
  have hfs17 := blk_frozen BK565.out 0
  have hns17_1 := NB566_565.out
  have hns17_2 := NB571_565.out
  have hns17_3 := NB572_565.out
  have hms17_1 := NB565_566.out
  have hms17_2 := NB565_571.out
  have hms17_3 := NB565_572.out
  have hs18 : w16.cell? ⟨gb565, 1, none⟩ = some (.int .i64 0) := (blk_cell BK565.out 1).trans rfl
  have hfs18 := blk_frozen BK565.out 1
  have hns18_1 := NB566_565.out
  have hns18_2 := NB571_565.out
  have hns18_3 := NB572_565.out
  have hms18_1 := NB565_566.out
  have hms18_2 := NB565_571.out
  have hms18_3 := NB565_572.out
  refine skip_ (w1 := ?_) (by rfl) rfl ?_ ?_
  rotate_left
  · go_simp
    rfl
  refine hK.out _ _ ⟨((cell_far (p := ⟨gb565, _, none⟩) NB571_565.out _).trans (((cell_far (p := ⟨gb565, _, none⟩) NB571_565.out _).trans (hHeld.1)))), ((cell_far (p := ⟨gb565, _, none⟩) NB571_565.out _).trans (((cell_far (p := ⟨gb565, _, none⟩) NB571_565.out _).trans (hHeld.2.1)))), ((cell_far (p := ⟨gb565, _, none⟩) NB572_565.out _).trans (((cell_far (p := ⟨gb565, _, none⟩) NB572_565.out _).trans (hHeld.2.2.1)))), ((cell_far (p := ⟨gb565, _, none⟩) NB572_565.out _).trans (((cell_far (p := ⟨gb565, _, none⟩) NB572_565.out _).trans (hHeld.2.2.2))))⟩ (fun hHeld => ?_)
  clear hK K
  refine one_ (i := 3) (N := none) #[true, true, true, true] rfl rfl (by kernel_rfl) (by decide) (fun K hK => ?_)
  have hs19 : w16.cell? ⟨gb566, 0, none⟩ = some (.int .i64 0) := (blk_cell BK566.out 0).trans rfl
  have hfs19 := blk_frozen BK566.out 0
  have hns19_0 := NB565_566.out
  have hns19_2 := NB571_566.out
  have hns19_3 := NB572_566.out
  have hms19_0 := NB566_565.out
  have hms19_2 := NB566_571.out
  have hms19_3 := NB566_572.out
  have hs20 : w16.cell? ⟨gb566, 1, none⟩ = some (.int .i64 0) := (blk_cell BK566.out 1).trans rfl
  have hfs20 := blk_frozen BK566.out 1
  have hns20_0 := NB565_566.out
  have hns20_2 := NB571_566.out
  have hns20_3 := NB572_566.out
  have hms20_0 := NB566_565.out
  have hms20_2 := NB566_571.out
  have hms20_3 := NB566_572.out
  refine skip_ (w1 := ?_) (by rfl) rfl ?_ ?_
  rotate_left
  · go_simp
    rfl
  refine hK.out _ _ ⟨((cell_far (p := ⟨gb566, _, none⟩) NB571_566.out _).trans (((cell_far (p := ⟨gb566, _, none⟩) NB571_566.out _).trans (hHeld.1)))), ((cell_far (p := ⟨gb566, _, none⟩) NB571_566.out _).trans (((cell_far (p := ⟨gb566, _, none⟩) NB571_566.out _).trans (hHeld.2.1)))), ((cell_far (p := ⟨gb566, _, none⟩) NB572_566.out _).trans (((cell_far (p := ⟨gb566, _, none⟩) NB572_566.out _).trans (hHeld.2.2.1)))), ((cell_far (p := ⟨gb566, _, none⟩) NB572_566.out _).trans (((cell_far (p := ⟨gb566, _, none⟩) NB572_566.out _).trans (hHeld.2.2.2))))⟩ (fun hHeld => ?_)
  clear hK K
  refine done_ (by kernel_rfl) ?_
  try go_wp2
  refine bodyPost_ret (results_cc rfl _ _ gb565 gb566 27 27 #[.int .i64 t567, .int .i64 t568] #[.int .i64 t569, .int .i64 t570] (0, 0) (0, 0) _ _ rfl (by (with_reducible repeat (first | refine blk_drewN ?_ _ | refine blk_drew ?_ | refine blk_alloc ?_ _)); refine blk_far ?_ NB565_566.out _; (with_reducible repeat (first | refine blk_drewN ?_ _ | refine blk_drew ?_ | refine blk_alloc ?_ _)); refine blk_far ?_ NB565_566.out _; (with_reducible repeat (first | refine blk_drewN ?_ _ | refine blk_drew ?_ | refine blk_alloc ?_ _)); refine blk_put (cs := #[.int .i64 t567, .int .i64 0]) ?_ 1 _ rfl; (with_reducible repeat (first | refine blk_drewN ?_ _ | refine blk_drew ?_ | refine blk_alloc ?_ _)); refine blk_put (cs := #[.int .i64 0, .int .i64 0]) ?_ 0 _ rfl; exact iBK BK565.out) Try.underlying27 rfl (by kernel_rfl) rfl (by (with_reducible repeat (first | refine blk_drewN ?_ _ | refine blk_drew ?_ | refine blk_alloc ?_ _)); refine blk_put (cs := #[.int .i64 t569, .int .i64 0]) ?_ 1 _ rfl; (with_reducible repeat (first | refine blk_drewN ?_ _ | refine blk_drew ?_ | refine blk_alloc ?_ _)); refine blk_put (cs := #[.int .i64 0, .int .i64 0]) ?_ 0 _ rfl; (with_reducible repeat (first | refine blk_drewN ?_ _ | refine blk_drew ?_ | refine blk_alloc ?_ _)); refine blk_far ?_ NB566_565.out _; (with_reducible repeat (first | refine blk_drewN ?_ _ | refine blk_drew ?_ | refine blk_alloc ?_ _)); refine blk_far ?_ NB566_565.out _; exact iBK BK566.out) Try.underlying27 rfl (by kernel_rfl)) rfl ?_
  exact ⟨by first | rfl | (simp [errW_none, errW_some] <;> rfl) | (simp [*, errW_none, errW_some] <;> rfl), iHB⟩
def spec_ProductOfFuncs.f (k : Nat) (a0_0 : Int) (a0_1 : Int) (a1_0 : Int) (a1_1 : Int) : Option (Int × Int × Int) := (spec_l03Like.f k a0_0 a0_1 a1_0 a1_1).bind fun t576 => (if t576 = 0 then (some (a0_0, Go.bits .and .i64 a0_1 a1_1, 0)) else (some (0, 0, t576)))
set_option maxHeartbeats 8000000 in
set_option maxRecDepth 100000 in
theorem spec_ProductOfFuncs.calls (k : Nat) (a0_0 : Int) (a0_1 : Int) (a1_0 : Int) (a1_1 : Int) (r1 : Int) (r2 : Int) (r3 : Int) (w : World) (h : spec_ProductOfFuncs.f k a0_0 a0_1 a1_0 a1_1 = some (r1, r2, r3)) :
    Calls Try.prog 65 #[.agg #[.int .i64 a0_0, .int .i64 a0_1], .agg #[.int .i64 a1_0, .int .i64 a1_1]] w fun e w' => e = .returned (.tuple #[.agg #[.int .i64 r1, .int .i64 r2], .int .i64 r3]) ∧ Below w.heap.size w w' := by
  have hu27 := Try.underlying27
  have HB := aa (Below.refl w.heap.size w)
  have H : ((spec_l03Like.f k a0_0 a0_1 a1_0 a1_1).bind fun t576 => (if t576 = 0 then (some (a0_0, Go.bits .and .i64 a0_1 a1_1, 0)) else (some (0, 0, t576)))) = some (r1, r2, r3) := h
  clear h
  replace H := Option.bind_eq_some_iff.mp H
  obtain ⟨t576, A30, H⟩ := H
  replace H : (if t576 = 0 then (some (a0_0, Go.bits .and .i64 a0_1 a1_1, 0)) else (some (0, 0, t576))) = some (r1, r2, r3) := H
  have A3 := Aside0.mk A30
  clear A30
  by_cases c4 : t576 = 0
  · rw [if_pos c4] at H
    have c4b0 : (t576 == 0) = true := beq_iff_eq.mpr c4
    have c4b1 : (t576 != 0) = false := bne_eq_false_iff_eq.mpr c4
    clear c4
    simp only [Option.some.injEq, Prod.mk.injEq] at H
    obtain ⟨rfl, rfl, rfl⟩ := H
    go_enter Try.func65, Try.ntmps65
    go_wp2_with (first | ((with_reducible refine gate_dst (N := 2) rfl ?_); refine box_event ?hg (N := 2) ?hd (cs := #[.int .i64 a0_0, .int .i64 a0_1]) (t := 27) ?hr ?_; (case hd => rfl); (case hg => rfl); (case hr => first | (go_simp; done) | (go_simp; rfl)); intro gb573 hg w5 hbox hb; have BK573 := aa (hbox); have GW573 := gwB (w := w) hg iHB; have GE573 := gwB (w := w) hg iHB; replace HB := aa (below_step iHB hb); clear hb hbox hg) | ((with_reducible refine gate_dst (N := 3) rfl ?_); refine box_event ?hg (N := 3) ?hd (cs := #[.int .i64 a1_0, .int .i64 a1_1]) (t := 27) ?hr ?_; (case hd => rfl); (case hg => rfl); (case hr => first | (go_simp; done) | (go_simp; rfl)); intro gb574 hg w6 hbox hb; have BK574 := aa (hbox); have GW574 := gwB (w := w) hg iHB; have GE574 := gwB (w := w) hg iHB; replace HB := aa (below_step iHB hb); have NB573_574 := nbL hg (iBK BK573.out); have NB574_573 := nbR hg (iBK BK573.out); replace BK573 := aa (blk_below (iBK BK573.out) hb); clear hb hbox hg) | ((with_reducible refine gate_dst (N := 4) rfl ?_); refine box_event ?hg (N := 4) ?hd (cs := #[.int .i64 0, .int .i64 0]) (t := 27) ?hr ?_; (case hd => rfl); (case hg => rfl); (case hr => first | (go_simp; done) | (go_simp; rfl)); intro gb575 hg w7 hbox hb; have BK575 := aa (hbox); have GW575 := gwB (w := w) hg iHB; have GE575 := gwB (w := w) hg iHB; replace HB := aa (below_step iHB hb); have NB573_575 := nbL hg (iBK BK573.out); have NB575_573 := nbR hg (iBK BK573.out); replace BK573 := aa (blk_below (iBK BK573.out) hb); have NB574_575 := nbL hg (iBK BK574.out); have NB575_574 := nbR hg (iBK BK574.out); replace BK574 := aa (blk_below (iBK BK574.out) hb); clear hb hbox hg; have hnb8 := NB573_574.out; have hnc8 := NB574_573.out; have hnb9 := NB573_575.out; have hnc9 := NB575_573.out; have hcz10_0 : w7.cell? ⟨gb573, 0, none⟩ = some (.int .i64 a0_0) := (blk_cell BK573.out 0).trans rfl; have hcz10_1 : w7.cell? ⟨gb573, 1, none⟩ = some (.int .i64 a0_1) := (blk_cell BK573.out 1).trans rfl; have hfz10_0 := blk_frozen BK573.out 0; have hfz10_1 := blk_frozen BK573.out 1; have hnb11 := NB574_575.out; have hnc11 := NB575_574.out; have hcz12_0 : w7.cell? ⟨gb574, 0, none⟩ = some (.int .i64 a1_0) := (blk_cell BK574.out 0).trans rfl; have hcz12_1 : w7.cell? ⟨gb574, 1, none⟩ = some (.int .i64 a1_1) := (blk_cell BK574.out 1).trans rfl; have hfz12_0 := blk_frozen BK574.out 0; have hfz12_1 := blk_frozen BK574.out 1) | ((with_reducible refine gate_callee (f := 100) rfl ?_); refine goesL_ (some 9) rfl rfl Try.func100 (by kernel_rfl) rfl #[.agg #[.int .i64 a0_0, .int .i64 a0_1], .agg #[.int .i64 a1_0, .int .i64 a1_1]] rfl iAR ?_; (with_reducible refine (spec_l03Like.calls k a0_0 a0_1 a1_0 a1_1 t576 _ A3.out).mono ?_); rintro e w13 ⟨rfl, hb⟩; refine ⟨_, rfl, ?_⟩; replace BK573 := aa (blk_below (iBK BK573.out) hb); replace BK574 := aa (blk_below (iBK BK574.out) hb); replace BK575 := aa (blk_below (iBK BK575.out) hb); replace HB := aa (below_step iHB hb); (try clear hb); have hcz14_0 : w13.cell? ⟨gb573, 0, none⟩ = some (.int .i64 a0_0) := (blk_cell BK573.out 0).trans rfl; have hcz14_1 : w13.cell? ⟨gb573, 1, none⟩ = some (.int .i64 a0_1) := (blk_cell BK573.out 1).trans rfl; have hfz14_0 := blk_frozen BK573.out 0; have hfz14_1 := blk_frozen BK573.out 1; have hcz15_0 : w13.cell? ⟨gb574, 0, none⟩ = some (.int .i64 a1_0) := (blk_cell BK574.out 0).trans rfl; have hcz15_1 : w13.cell? ⟨gb574, 1, none⟩ = some (.int .i64 a1_1) := (blk_cell BK574.out 1).trans rfl; have hfz15_0 := blk_frozen BK574.out 0; have hfz15_1 := blk_frozen BK574.out 1; have hcz16_0 : w13.cell? ⟨gb575, 0, none⟩ = some (.int .i64 0) := (blk_cell BK575.out 0).trans rfl; have hcz16_1 : w13.cell? ⟨gb575, 1, none⟩ = some (.int .i64 0) := (blk_cell BK575.out 1).trans rfl; have hfz16_0 := blk_frozen BK575.out 0; have hfz16_1 := blk_frozen BK575.out 1))
    refine bodyPost_ret (results_ct rfl _ _ gb575 27 #[.int .i64 a0_0, .int .i64 (Go.bits .and .i64 a0_1 a1_1)] (0, 0) _ rfl (by (with_reducible repeat (first | refine blk_drewN ?_ _ | refine blk_drew ?_ | refine blk_alloc ?_ _)); refine blk_put (cs := #[.int .i64 a0_0, .int .i64 0]) ?_ 1 _ rfl; (with_reducible repeat (first | refine blk_drewN ?_ _ | refine blk_drew ?_ | refine blk_alloc ?_ _)); refine blk_put (cs := #[.int .i64 0, .int .i64 0]) ?_ 0 _ rfl; exact iBK BK575.out) Try.underlying27 rfl (by kernel_rfl)) rfl ?_
    exact ⟨by first | rfl | (simp [errW_none, errW_some] <;> rfl) | (simp [*, errW_none, errW_some] <;> rfl), iHB⟩
  · rw [if_neg c4] at H
    have c4b0 : (t576 == 0) = false := beq_eq_false_iff_ne.mpr c4
    have c4b1 : (t576 != 0) = true := bne_iff_ne.mpr c4
    simp only [Option.some.injEq, Prod.mk.injEq] at H
    obtain ⟨rfl, rfl, rfl⟩ := H
    go_enter Try.func65, Try.ntmps65
    go_wp2_with (first | ((with_reducible refine gate_dst (N := 2) rfl ?_); refine box_event ?hg (N := 2) ?hd (cs := #[.int .i64 a0_0, .int .i64 a0_1]) (t := 27) ?hr ?_; (case hd => rfl); (case hg => rfl); (case hr => first | (go_simp; done) | (go_simp; rfl)); intro gb573 hg w17 hbox hb; have BK573 := aa (hbox); have GW573 := gwB (w := w) hg iHB; have GE573 := gwB (w := w) hg iHB; replace HB := aa (below_step iHB hb); clear hb hbox hg) | ((with_reducible refine gate_dst (N := 3) rfl ?_); refine box_event ?hg (N := 3) ?hd (cs := #[.int .i64 a1_0, .int .i64 a1_1]) (t := 27) ?hr ?_; (case hd => rfl); (case hg => rfl); (case hr => first | (go_simp; done) | (go_simp; rfl)); intro gb574 hg w18 hbox hb; have BK574 := aa (hbox); have GW574 := gwB (w := w) hg iHB; have GE574 := gwB (w := w) hg iHB; replace HB := aa (below_step iHB hb); have NB573_574 := nbL hg (iBK BK573.out); have NB574_573 := nbR hg (iBK BK573.out); replace BK573 := aa (blk_below (iBK BK573.out) hb); clear hb hbox hg) | ((with_reducible refine gate_dst (N := 4) rfl ?_); refine box_event ?hg (N := 4) ?hd (cs := #[.int .i64 0, .int .i64 0]) (t := 27) ?hr ?_; (case hd => rfl); (case hg => rfl); (case hr => first | (go_simp; done) | (go_simp; rfl)); intro gb575 hg w19 hbox hb; have BK575 := aa (hbox); have GW575 := gwB (w := w) hg iHB; have GE575 := gwB (w := w) hg iHB; replace HB := aa (below_step iHB hb); have NB573_575 := nbL hg (iBK BK573.out); have NB575_573 := nbR hg (iBK BK573.out); replace BK573 := aa (blk_below (iBK BK573.out) hb); have NB574_575 := nbL hg (iBK BK574.out); have NB575_574 := nbR hg (iBK BK574.out); replace BK574 := aa (blk_below (iBK BK574.out) hb); clear hb hbox hg; have hnb20 := NB573_574.out; have hnc20 := NB574_573.out; have hnb21 := NB573_575.out; have hnc21 := NB575_573.out; have hcz22_0 : w19.cell? ⟨gb573, 0, none⟩ = some (.int .i64 a0_0) := (blk_cell BK573.out 0).trans rfl; have hcz22_1 : w19.cell? ⟨gb573, 1, none⟩ = some (.int .i64 a0_1) := (blk_cell BK573.out 1).trans rfl; have hfz22_0 := blk_frozen BK573.out 0; have hfz22_1 := blk_frozen BK573.out 1; have hnb23 := NB574_575.out; have hnc23 := NB575_574.out; have hcz24_0 : w19.cell? ⟨gb574, 0, none⟩ = some (.int .i64 a1_0) := (blk_cell BK574.out 0).trans rfl; have hcz24_1 : w19.cell? ⟨gb574, 1, none⟩ = some (.int .i64 a1_1) := (blk_cell BK574.out 1).trans rfl; have hfz24_0 := blk_frozen BK574.out 0; have hfz24_1 := blk_frozen BK574.out 1) | ((with_reducible refine gate_callee (f := 100) rfl ?_); refine goesL_ (some 9) rfl rfl Try.func100 (by kernel_rfl) rfl #[.agg #[.int .i64 a0_0, .int .i64 a0_1], .agg #[.int .i64 a1_0, .int .i64 a1_1]] rfl iAR ?_; (with_reducible refine (spec_l03Like.calls k a0_0 a0_1 a1_0 a1_1 t576 _ A3.out).mono ?_); rintro e w25 ⟨rfl, hb⟩; refine ⟨_, rfl, ?_⟩; replace BK573 := aa (blk_below (iBK BK573.out) hb); replace BK574 := aa (blk_below (iBK BK574.out) hb); replace BK575 := aa (blk_below (iBK BK575.out) hb); replace HB := aa (below_step iHB hb); (try clear hb); have hcz26_0 : w25.cell? ⟨gb575, 0, none⟩ = some (.int .i64 0) := (blk_cell BK575.out 0).trans rfl; have hcz26_1 : w25.cell? ⟨gb575, 1, none⟩ = some (.int .i64 0) := (blk_cell BK575.out 1).trans rfl; have hfz26_0 := blk_frozen BK575.out 0; have hfz26_1 := blk_frozen BK575.out 1))
    refine bodyPost_ret (results_ct rfl _ _ gb575 27 #[.int .i64 0, .int .i64 0] (0, 0) _ rfl (by (with_reducible repeat (first | refine blk_drewN ?_ _ | refine blk_drew ?_ | refine blk_alloc ?_ _)); refine blk_put (cs := #[.int .i64 0, .int .i64 0]) ?_ 1 _ rfl; (with_reducible repeat (first | refine blk_drewN ?_ _ | refine blk_drew ?_ | refine blk_alloc ?_ _)); refine blk_put (cs := #[.int .i64 0, .int .i64 0]) ?_ 0 _ rfl; exact iBK BK575.out) Try.underlying27 rfl (by kernel_rfl)) rfl ?_
    exact ⟨by first | rfl | (simp [errW_none, errW_some] <;> rfl) | (simp [*, errW_none, errW_some] <;> rfl), iHB⟩
def spec_DrawDegreeOfFunc.f (k : Nat) (l0 : List Int) : Option (Int × Int) := (spec_l01From.f k l0).bind fun bt578 => ((spec_l01Spoil.f k bt578.1 bt578.2.1 bt578.2.2).bind fun bt582 => (some (bt582.1, bt582.2.1)))
set_option maxHeartbeats 8000000 in
set_option maxRecDepth 100000 in
theorem spec_DrawDegreeOfFunc.calls (k : Nat) (A0 : Option Addr) (c0 : Nat) (l0 : List Int) (r1 : Int) (r2 : Int) (w : World) (hr0 : Kd.C (Kd.int .u8) w A0 l0.length l0) (hc0 : l0.length ≤ c0) (h : spec_DrawDegreeOfFunc.f k l0 = some (r1, r2)) :
    Calls Try.prog 66 #[.slice A0 l0.length c0] w fun e w' => e = .returned (.agg #[.int .i64 r1, .int .i64 r2]) ∧ Below w.heap.size w w' := by
  have hu27 := Try.underlying27
  have HR0 := Aside0.mk hr0
  have HC0 := Aside0.mk hc0
  clear hr0 hc0
  have HB := aa (Below.refl w.heap.size w)
  have H : ((spec_l01From.f k l0).bind fun bt578 => ((spec_l01Spoil.f k bt578.1 bt578.2.1 bt578.2.2).bind fun bt582 => (some (bt582.1, bt582.2.1)))) = some (r1, r2) := h
  clear h
  replace H := Option.bind_eq_some_iff.mp H
  obtain ⟨⟨t578, t579, t580⟩, A20, H⟩ := H
  replace H : ((spec_l01Spoil.f k t578 t579 t580).bind fun bt582 => (some (bt582.1, bt582.2.1))) = some (r1, r2) := H
  have A2 := Aside0.mk A20
  clear A20
  replace H := Option.bind_eq_some_iff.mp H
  obtain ⟨⟨t582, t583, t584, t585⟩, A30, H⟩ := H
  replace H : (some (t582, t583)) = some (r1, r2) := H
  have A3 := Aside0.mk A30
  clear A30
  simp only [Option.some.injEq, Prod.mk.injEq] at H
  obtain ⟨rfl, rfl⟩ := H
  go_enter Try.func66, Try.ntmps66
  go_wp2_with (first | ((with_reducible refine gate_dst (N := 2) rfl ?_); refine box_event ?hg (N := 2) ?hd (cs := #[.int .i64 0, .int .i64 0]) (t := 27) ?hr ?_; (case hd => rfl); (case hg => rfl); (case hr => first | (go_simp; done) | (go_simp; rfl)); intro gb577 hg w4 hbox hb; have BK577 := aa (hbox); have GW577 := gwB (w := w) hg iHB; have GE577 := gwB (w := w) hg iHB; replace HB := aa (below_step iHB hb); clear hb hbox hg) | ((with_reducible refine gate_callee (f := 96) rfl ?_); refine goesL_ (some 4) rfl rfl Try.func96 (by kernel_rfl) rfl #[.slice A0 l0.length c0] rfl iAR ?_; (with_reducible refine (spec_l01From.calls k _ _ l0 t578 t579 t580 w _ ?side1 ?side2 ?side3 A2.out).mono ?_); (case side1 => exact iHB); (case side2 => exact HR0.out); (case side3 => exact HC0.out); rintro e w5 ⟨g581, rfl, hi, hb, hb2⟩; refine ⟨_, rfl, ?_⟩; replace HB := aa (hb); have HI581 := aa (hi); have NB581_577 := aa (IsS81.ne_blk hi (blk_below (iBK BK577.out) hb2) (by decide)); have NB577_581 := aa (Ne.symm (IsS81.ne_blk hi (blk_below (iBK BK577.out) hb2) (by decide))); replace BK577 := aa (blk_below (iBK BK577.out) hb2); (try clear hb); (try clear hb2); (try clear hi)) | ((with_reducible refine gate_callee (f := 95) rfl ?_); refine goesL_ (some 5) rfl rfl Try.func95 (by kernel_rfl) rfl #[.pointer (some ⟨g581, 0, none⟩)] rfl iAR ?_; (with_reducible refine (spec_l01Spoil.calls k g581 t578 t579 t580 t582 t583 t584 t585 w _ ?side1 ?side2 A3.out).mono ?_); (case side1 => exact iHI); (case side2 => exact iHS); rintro e w6 ⟨rfl, hi, hb, hk⟩; refine ⟨_, rfl, ?_⟩; replace BK577 := aa (KeepBut.blk hk (iBK BK577.out) NB577_581.out (by simp)); replace HB := aa (hb); replace HI581 := aa (hi); (try clear hb); (try clear hk); (try clear hi); have hnb7 := NB577_581.out; have hnc7 := NB581_577.out; have hcz8_0 : w6.cell? ⟨gb577, 0, none⟩ = some (.int .i64 0) := (blk_cell BK577.out 0).trans rfl; have hcz8_1 : w6.cell? ⟨gb577, 1, none⟩ = some (.int .i64 0) := (blk_cell BK577.out 1).trans rfl; have hfz8_0 := blk_frozen BK577.out 0; have hfz8_1 := blk_frozen BK577.out 1))
  refine bodyPost_ret (results_cell_row rfl _ _ gb577 27 #[.int .i64 t582, .int .i64 t583] (0, 0) _ rfl (by (with_reducible repeat (first | refine blk_drewN ?_ _ | refine blk_drew ?_ | refine blk_alloc ?_ _)); refine blk_put (cs := #[.int .i64 t582, .int .i64 0]) ?_ 1 _ rfl; (with_reducible repeat (first | refine blk_drewN ?_ _ | refine blk_drew ?_ | refine blk_alloc ?_ _)); refine blk_put (cs := #[.int .i64 0, .int .i64 0]) ?_ 0 _ rfl; exact iBK BK577.out) Try.underlying27 rfl (by kernel_rfl)) rfl ?_
  exact ⟨by first | rfl | (simp [errW_none, errW_some] <;> rfl) | (simp [*, errW_none, errW_some] <;> rfl), iHS⟩
end Go.Proofs.Ytdhfbgbclibagaa.P
