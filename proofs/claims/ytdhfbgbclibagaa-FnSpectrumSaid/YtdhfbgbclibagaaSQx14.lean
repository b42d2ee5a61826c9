/- Functions of the given program and their contracts, written by a program of this session (gen.py) over the kit's print. -/
import Derived.Test.YtdhfbgbclibagaaSQx0
import Derived.Test.YtdhfbgbclibagaaSQx1
import Derived.Test.YtdhfbgbclibagaaSQx2
import Derived.Test.YtdhfbgbclibagaaSQx10
namespace Go.Proofs.Ytdhfbgbclibagaa.P
open Go.RowKit Go.Proofs.YtdhfbgbclibagaaW.PrintWords Go.Proofs.YtdhfbgbclibagaaW.PrintLast Go.Proofs.YtdhfbgbclibagaaW.PrintMore
attribute [local go_sem] max2_int min2_int max_two min_two max_three min_three max_four min_four   -- for this text's walks alone
set_option linter.unusedVariables false
set_option linter.unusedSimpArgs false
mutual
def spec_l01Permute.l0 : Nat → List Int → List Int → Int → Int → Int → Option (Int × Int)
  | 0, _, _, _, _, _ => none
  | k + 1, x1, x5, x6, x407000, x407001 => (spec_l01Rows.f x407000).bind fun t411 => (if x6 < t411 then (spec_l01Permute.l1 k x1 x5 x6 0 0 x407000 x407001) else ((spec_l01Of.f k x407000 x5).bind fun bt412 => (some (bt412.1, bt412.2))))
def spec_l01Permute.l1 : Nat → List Int → List Int → Int → Int → Int → Int → Int → Option (Int × Int)
  | 0, _, _, _, _, _, _, _ => none
  | k + 1, x1, x5, x6, x7, x8, x407000, x407001 => if x8 < (x1.length : Int) then (if 0 ≤ x8 then (if 0 ≤ (IntKind.u64.wrap (rd x1 x8)) then (if 0 ≤ (IntKind.u64.wrap (x8)) then (spec_l01Permute.l1 k x1 x5 x6 (wrap64 (x7 + (shl .i64 (Go.bits .and .i64 (shr .i64 x6 (IntKind.u64.wrap (rd x1 x8))) 1) (IntKind.u64.wrap (x8))))) (wrap64 (x8 + 1)) x407000 x407001) else (none)) else (none)) else (none)) else ((spec_l01At.f x407000 x407001 x7).bind fun t415 => (if x5.length < 17592186044416 then (spec_l01Permute.l0 k x1 (x5 ++ [t415]) (wrap64 (x6 + 1)) x407000 x407001) else (none)))
end
def spec_l01Permute.f (k : Nat) (a0_0 : Int) (a0_1 : Int) (l1 : List Int) : Option (Int × Int) := spec_l01Permute.l0 k l1 (([] : List Int)) 0 a0_0 a0_1
set_option maxHeartbeats 8000000 in
set_option maxRecDepth 100000 in
theorem spec_l01Permute.calls (k : Nat) (a0_0 : Int) (a0_1 : Int) (A1 : Option Addr) (c1 : Nat) (l1 : List Int) (r1 : Int) (r2 : Int) (w : World) (hr1 : Kd.C (Kd.int .i64) w A1 l1.length l1) (hc1 : l1.length ≤ c1) (h : spec_l01Permute.f k a0_0 a0_1 l1 = some (r1, r2)) :
    Calls Try.prog 120 #[.agg #[.int .i64 a0_0, .int .i64 a0_1], .slice A1 l1.length c1] w fun e w' => e = .returned (.agg #[.int .i64 r1, .int .i64 r2]) ∧ Below w.heap.size w w' := by
  have hu27 := Try.underlying27
  have HR1 := Aside0.mk hr1
  have HC1 := Aside0.mk hc1
  clear hr1 hc1
  have HB := aa (Below.refl w.heap.size w)
  have H : (spec_l01Permute.l0 k l1 (([] : List Int)) 0 a0_0 a0_1) = some (r1, r2) := h
  clear h
  obtain ⟨y408, hy408⟩ : ∃ y_ : List Int, y_ = (([] : List Int)) := ⟨_, rfl⟩
  replace H : (spec_l01Permute.l0 k l1 y408 0 a0_0 a0_1) = some (r1, r2) := by first | (rw [hy408]; with_reducible exact H) | (have H2_ := (Option.bind_some _ _).symm.trans H; rw [hy408]; with_reducible exact H2_) | (have H2_ := (Option.bind_some _ _).symm.trans H; with_reducible exact H2_) | with_reducible exact H | (rw [hy408]; exact H) | exact H
  have Ny408 := Aside0.mk hy408
  clear hy408
  have H' := Aside0.mk H
  clear H
  go_enter Try.func120, Try.ntmps120
  go_wp2_with (first | ((with_reducible refine gate_dst (N := 2) rfl ?_); refine box_event ?hg (N := 2) ?hd (cs := #[.int .i64 a0_0, .int .i64 a0_1]) (t := 27) ?hr ?_; (case hd => rfl); (case hg => rfl); (case hr => first | (go_simp; done) | (go_simp; rfl)); intro gb406 hg w3 hbox hb; have n0_ := aa (below_step iHB hb); have n1_ := aa (hbox); have n2_ := aa ((by rw [hg]; exact (below_size iHB) : w.heap.size ≤ gb406)); have n3_ := aa ((by rw [hg]; exact (below_size iHB) : w.heap.size ≤ gb406)); clear HB; have HB := n0_; have BK406 := n1_; have GW406 := n2_; have GE406 := n3_; clear n0_ n1_ n2_ n3_; clear hb hbox hg) | ((with_reducible refine gate_dst (N := 4) rfl ?_); refine box_event ?hg (N := 4) ?hd (cs := #[.int .i64 0, .int .i64 0]) (t := 27) ?hr ?_; (case hd => rfl); (case hg => rfl); (case hr => first | (go_simp; done) | (go_simp; rfl)); intro gb407 hg w4 hbox hb; have n0_ := aa (blk_below (g := gb406) (o := .cells #[.int .i64 a0_0, .int .i64 a0_1] 27 (0, 0)) (iBK BK406.out) hb); have n1_ := aa (below_step iHB hb); have n2_ := aa (hbox); have n3_ := aa ((by rw [hg]; exact (below_size iHB) : w.heap.size ≤ gb407)); have n4_ := aa ((by rw [hg]; exact (below_size iHB) : w.heap.size ≤ gb407)); have n5_ := aa ((by rw [hg]; exact Nat.ne_of_lt (blk_lt (g := gb406) (o := .cells #[.int .i64 a0_0, .int .i64 a0_1] 27 (0, 0)) (iBK BK406.out)) : gb406 ≠ gb407)); have n6_ := aa ((by rw [hg]; exact Nat.ne_of_gt (blk_lt (g := gb406) (o := .cells #[.int .i64 a0_0, .int .i64 a0_1] 27 (0, 0)) (iBK BK406.out)) : gb407 ≠ gb406)); clear BK406; clear HB; have BK406 := n0_; have HB := n1_; have BK407 := n2_; have GW407 := n3_; have GE407 := n4_; have NB406_407 := n5_; have NB407_406 := n6_; clear n0_ n1_ n2_ n3_ n4_ n5_ n6_; clear hb hbox hg) | ((with_reducible refine gate_dst (N := 9) rfl ?_); refine Kd.R_lit (Kd.int .i64) _ 2 ?hg (N := 9) ?hd (xs := ([] : List Int)) (inner := []) (ok := fun _ => True) (okp := fun _ => True) ?hr ?hp (fun _ hk => hk) trivial (Below.refl _ _) (Nat.le_refl _) (by simp) ?_; (case hd => rfl); (case hg => rfl); (case hr => first | (go_simp; done) | (go_simp; rfl)); (case hp => exact (Reps.none _ _)); intro v409 w5 ho6 hb hg_ hnew_; clear hg_ hnew_; (first | rw [← Ny408.out] at ho6 | (simp only [Int.reduceToNat] at ho6; rw [← Ny408.out] at ho6)); have n0_ := aa (Kd.R_lower ho6 (below_size iHB)); have n1_ := aa (blk_below (g := gb406) (o := .cells #[.int .i64 a0_0, .int .i64 a0_1] 27 (0, 0)) (iBK BK406.out) hb); have n2_ := aa (blk_below (g := gb407) (o := .cells #[.int .i64 0, .int .i64 0] 27 (0, 0)) (iBK BK407.out) hb); have n3_ := aa (below_step iHB hb); clear BK406; clear BK407; clear HB; have HO410 := n0_; have BK406 := n1_; have BK407 := n2_; have HB := n3_; clear n0_ n1_ n2_ n3_; clear hb ho6))
  go_loopg [5, 6] k (fun kq v5 v6 w' => ∃ (x5_1 : List Int) (x6_1 : Int), v6 = .int .i64 x6_1 ∧ Aside0 (spec_l01Permute.l0 kq l1 x5_1 x6_1 a0_0 a0_1 = some (r1, r2)) ∧ Aside0 (kq ≤ k) ∧ Aside0 (Kd.R (Kd.int .i64) 2 w' w.heap.size (fun _ => True) v5 x5_1) ∧ Aside0 (w'.heap[gb406]? = some (.cells #[.int .i64 a0_0, .int .i64 a0_1] 27 (0, 0))) ∧ Aside0 (w'.heap[gb407]? = some (.cells #[.int .i64 0, .int .i64 0] 27 (0, 0))) ∧ Aside0 (Below w.heap.size w w'))
  case atStart => exact ⟨(y408), (0), (by first | rfl | (simp; done) | (simp [*]; done)), H', ⟨Nat.le_refl _⟩, ⟨by (with_reducible repeat (first | apply Kd.R_alloc | apply Kd.R_drewN | apply Kd.R_drew)); exact HO410.out⟩, ⟨iBK BK406.out⟩, ⟨iBK BK407.out⟩, ⟨iHB⟩⟩
  case round =>
    clear H'
    try clear c1
    try clear p2
    obtain ⟨x5_1, x6_1, rfl, HA, HK1, HO_5, BK406, BK407, HB⟩ := hrel
    cases gk with
    | zero => exact absurd HA.out (by simp [spec_l01Permute.l0])
    | succ k1 =>
      have H := HA.out
      clear HA
      simp only [spec_l01Permute.l0] at H
      replace H := Option.bind_eq_some_iff.mp H
      obtain ⟨t411, A70, H⟩ := H
      replace H : (if x6_1 < t411 then (spec_l01Permute.l1 k1 l1 x5_1 x6_1 0 0 a0_0 a0_1) else ((spec_l01Of.f k1 a0_0 x5_1).bind fun bt412 => (some (bt412.1, bt412.2)))) = some (r1, r2) := H
      have A7 := Aside0.mk A70
      clear A70
      by_cases c8 : x6_1 < t411
      · rw [if_pos c8] at H
        have c8b0 : decide (x6_1 < t411) = true := decide_eq_true c8
        clear c8
        have H' := Aside0.mk H
        clear H
        have hnb9 := NB406_407.out
        have hnc9 := NB407_406.out
        have hcz10_0 : wr.cell? ⟨gb406, 0, none⟩ = some (.int .i64 a0_0) := (blk_cell BK406.out 0).trans rfl
        have hcz10_1 : wr.cell? ⟨gb406, 1, none⟩ = some (.int .i64 a0_1) := (blk_cell BK406.out 1).trans rfl
        have hfz10_0 := blk_frozen BK406.out 0
        have hfz10_1 := blk_frozen BK406.out 1
        go_wp2_with (first | ((with_reducible refine gate_callee (f := 68) rfl ?_); refine goesL_ (some 13) rfl rfl Try.func68 (by kernel_rfl) rfl #[.int .i64 a0_0] rfl iAR ?_; (with_reducible refine (spec_l01Rows.calls a0_0 t411 _ A7.out).mono ?_); rintro e w' ⟨rfl, ⟨nd, rfl⟩⟩; refine ⟨_, rfl, ?_⟩))
        go_loopg [7, 8] k1 (fun kq v7 v8 w' => ∃ (x7_2 : Int) (x8_2 : Int), v7 = .int .i64 x7_2 ∧ v8 = .int .i64 x8_2 ∧ Aside0 (spec_l01Permute.l1 kq l1 x5_1 x6_1 x7_2 x8_2 a0_0 a0_1 = some (r1, r2)) ∧ Aside0 (kq ≤ k1) ∧ Aside0 (Kd.R (Kd.int .i64) 2 w' w.heap.size (fun _ => True) u5 x5_1) ∧ Aside0 (w'.heap[gb406]? = some (.cells #[.int .i64 a0_0, .int .i64 a0_1] 27 (0, 0))) ∧ Aside0 (w'.heap[gb407]? = some (.cells #[.int .i64 0, .int .i64 0] 27 (0, 0))) ∧ Aside0 (Below w.heap.size w w'))
        case atStart => exact ⟨(0), (0), (by first | rfl | (simp; done) | (simp [*]; done)), (by first | rfl | (simp; done) | (simp [*]; done)), H', ⟨Nat.le_refl _⟩, ⟨by (with_reducible repeat (first | apply Kd.R_alloc | apply Kd.R_drewN | apply Kd.R_drew)); exact HO_5.out⟩, ⟨iBK BK406.out⟩, ⟨iBK BK407.out⟩, ⟨iHB⟩⟩
        case round =>
          clear H'
          try clear c1
          try clear p2
          try clear c6
          try clear c8
          try clear c8b0
          try clear c9
          try clear hcz10_0
          try clear hcz10_1
          try clear hfz10_0
          try clear hfz10_1
          try clear p2
          obtain ⟨x7_2, x8_2, rfl, rfl, HA, HK2, HO_5, BK406, BK407, HB⟩ := hrel
          cases gk with
          | zero => exact absurd HA.out (by simp [spec_l01Permute.l1])
          | succ k2 =>
            have H := HA.out
            clear HA
            simp only [spec_l01Permute.l1] at H
            by_cases c11 : x8_2 < (l1.length : Int)
            · rw [if_pos c11] at H
              have c11b0 : decide (x8_2 < (l1.length : Int)) = true := decide_eq_true c11
              clear c11
              by_cases c12 : 0 ≤ x8_2
              · rw [if_pos c12] at H
                have c12b0 : decide (0 ≤ x8_2) = true := decide_eq_true c12
                clear c12
                obtain ⟨ji13, hji13⟩ : ∃ j_ : Int, (IntKind.u64.wrap (rd l1 x8_2)) = j_ := ⟨_, rfl⟩
                replace H : (if 0 ≤ (ji13) then (if 0 ≤ (IntKind.u64.wrap (x8_2)) then (spec_l01Permute.l1 k2 l1 x5_1 x6_1 (wrap64 (x7_2 + (shl .i64 (Go.bits .and .i64 (shr .i64 x6_1 (ji13)) 1) (IntKind.u64.wrap (x8_2))))) (wrap64 (x8_2 + 1)) a0_0 a0_1) else (none)) else (none)) = some (r1, r2) := by first | (rw [hji13] at H; exact H) | (simp only [hji13] at H ⊢; exact H)
                by_cases c14 : 0 ≤ (ji13)
                · rw [if_pos c14] at H
                  have c14b0 := eq_true c14
                  have c14b1 : decide (0 ≤ (ji13)) = true := decide_eq_true c14
                  clear c14
                  obtain ⟨ji15, hji15⟩ : ∃ j_ : Int, (shr .i64 x6_1 (ji13)) = j_ := ⟨_, rfl⟩
                  replace H : (if 0 ≤ (IntKind.u64.wrap (x8_2)) then (spec_l01Permute.l1 k2 l1 x5_1 x6_1 (wrap64 (x7_2 + (shl .i64 (Go.bits .and .i64 (ji15) 1) (IntKind.u64.wrap (x8_2))))) (wrap64 (x8_2 + 1)) a0_0 a0_1) else (none)) = some (r1, r2) := by first | (rw [hji15] at H; exact H) | (simp only [hji15] at H ⊢; exact H)
                  have hji15_ : (x6_1 / 2 ^ min (ji13).toNat 64) = ji15 := hji15
                  have hji15z : (ji13) ≤ 64 → (x6_1 / 2 ^ (ji13).toNat) = ji15 := shr_small hji15
                  obtain ⟨ji16, hji16⟩ : ∃ j_ : Int, (IntKind.u64.wrap (x8_2)) = j_ := ⟨_, rfl⟩
                  replace H : (if 0 ≤ (ji16) then (spec_l01Permute.l1 k2 l1 x5_1 x6_1 (wrap64 (x7_2 + (shl .i64 (Go.bits .and .i64 (ji15) 1) (ji16)))) (wrap64 (x8_2 + 1)) a0_0 a0_1) else (none)) = some (r1, r2) := by first | (rw [hji16] at H; exact H) | (simp only [hji16] at H ⊢; exact H)
                  by_cases c17 : 0 ≤ (ji16)
                  · rw [if_pos c17] at H
                    have c17b0 := eq_true c17
                    have c17b1 : decide (0 ≤ (ji16)) = true := decide_eq_true c17
                    clear c17
                    obtain ⟨ji18, hji18⟩ : ∃ j_ : Int, (shl .i64 (Go.bits .and .i64 (ji15) 1) (ji16)) = j_ := ⟨_, rfl⟩
                    replace H : (spec_l01Permute.l1 k2 l1 x5_1 x6_1 (wrap64 (x7_2 + (ji18))) (wrap64 (x8_2 + 1)) a0_0 a0_1) = some (r1, r2) := by first | (rw [hji18] at H; exact H) | (simp only [hji18] at H ⊢; exact H)
                    have hji18_ : (IntKind.i64.wrap ((Go.bits .and .i64 (ji15) 1) * 2 ^ min (ji16).toNat 64)) = ji18 := hji18
                    have hji18z : (ji16) ≤ 64 → (IntKind.i64.wrap ((Go.bits .and .i64 (ji15) 1) * 2 ^ (ji16).toNat)) = ji18 := shl_small hji18
                    have hji18y : (wrap64 ((Go.bits .and .i64 (ji15) 1) * 2 ^ min (ji16).toNat 64)) = ji18 := (i64_w _).symm.trans hji18_
                    have hji18x : (ji16) ≤ 64 → (wrap64 ((Go.bits .and .i64 (ji15) 1) * 2 ^ (ji16).toNat)) = ji18 := fun h_ => (i64_w _).symm.trans (hji18z h_)
                    have H' := Aside0.mk H
                    clear H
                    have p414 : 0 ≤ (x8_2 : Int) := of_decide_eq_true (by first | (with_reducible assumption) | assumption)
                    have q414 : x8_2 < (l1.length : Int) := of_decide_eq_true (by first | (with_reducible assumption) | assumption)
                    obtain ⟨ad414, e414, hx414_0⟩ := Kd.at_int HR1.out x8_2 p414 q414
                    cases e414
                    replace hx414_0 := (HB.out.cell (World.block_lt_of_cell? w _ hx414_0)).trans hx414_0
                    replace p414 := eq_true p414
                    replace q414 := eq_true q414
                    go_wp2
                    go_roundg k2
                    case measure => have := HK1.out; have := HK2.out; omega
                    case rel => exact ⟨(wrap64 (x7_2 + (ji18))), (wrap64 (x8_2 + 1)), (by first | rfl | (simp; done) | (simp only [← hji18] <;> (first | rfl | simp)) | (simp [*]; done)), (by first | rfl | (simp; done) | (simp [*]; done)), H', ⟨by have := HK1.out; have := HK2.out; omega⟩, ⟨by (with_reducible repeat (first | apply Kd.R_alloc | apply Kd.R_drewN | apply Kd.R_drew)); exact HO_5.out⟩, ⟨iBK BK406.out⟩, ⟨iBK BK407.out⟩, ⟨iHB⟩⟩
                  · rw [if_neg c17] at H
                    exact absurd H (by simp)
                · rw [if_neg c14] at H
                  exact absurd H (by simp)
              · rw [if_neg c12] at H
                exact absurd H (by simp)
            · rw [if_neg c11] at H
              have c11b0 : decide (x8_2 < (l1.length : Int)) = false := decide_eq_false c11
              clear c11
              replace H := Option.bind_eq_some_iff.mp H
              obtain ⟨t415, A190, H⟩ := H
              replace H : (if x5_1.length < 17592186044416 then (spec_l01Permute.l0 k2 l1 (x5_1 ++ [t415]) (wrap64 (x6_1 + 1)) a0_0 a0_1) else (none)) = some (r1, r2) := H
              have A19 := Aside0.mk A190
              clear A190
              by_cases c20 : x5_1.length < 17592186044416
              · rw [if_pos c20] at H
                have LMc20 := Aside0.mk c20
                clear c20
                obtain ⟨y416, hy416⟩ : ∃ y_ : List Int, y_ = (x5_1 ++ [t415]) := ⟨_, rfl⟩
                replace H : (spec_l01Permute.l0 k2 l1 y416 (wrap64 (x6_1 + 1)) a0_0 a0_1) = some (r1, r2) := by first | (rw [hy416]; with_reducible exact H) | (have H2_ := (Option.bind_some _ _).symm.trans H; rw [hy416]; with_reducible exact H2_) | (have H2_ := (Option.bind_some _ _).symm.trans H; with_reducible exact H2_) | with_reducible exact H | (rw [hy416]; exact H) | exact H
                have Ny416 := Aside0.mk hy416
                clear hy416
                have H' := Aside0.mk H
                clear H
                have hnb21 := NB406_407.out
                have hnc21 := NB407_406.out
                have hcz22_0 : wr.cell? ⟨gb406, 0, none⟩ = some (.int .i64 a0_0) := (blk_cell BK406.out 0).trans rfl
                have hcz22_1 : wr.cell? ⟨gb406, 1, none⟩ = some (.int .i64 a0_1) := (blk_cell BK406.out 1).trans rfl
                have hfz22_0 := blk_frozen BK406.out 0
                have hfz22_1 := blk_frozen BK406.out 1
                go_wp2_with (first | ((with_reducible refine gate_callee (f := 69) rfl ?_); refine goesL_ (some 39) rfl rfl Try.func69 (by kernel_rfl) rfl #[.agg #[.int .i64 a0_0, .int .i64 a0_1], .int .i64 x7_2] rfl iAR ?_; (with_reducible refine (spec_l01At.calls a0_0 a0_1 x7_2 t415 _ A19.out).mono ?_); rintro e w23 ⟨rfl, hb⟩; refine ⟨_, rfl, ?_⟩; have n0_ := aa (Kd.R_below (by (with_reducible repeat (first | apply Kd.R_alloc | apply Kd.R_drewN | apply Kd.R_drew)); exact HO_5.out) hb); have n1_ := aa (blk_below (g := gb406) (o := .cells #[.int .i64 a0_0, .int .i64 a0_1] 27 (0, 0)) (iBK BK406.out) hb); have n2_ := aa (blk_below (g := gb407) (o := .cells #[.int .i64 0, .int .i64 0] 27 (0, 0)) (iBK BK407.out) hb); have n3_ := aa (below_step iHB hb); clear HO_5; clear BK406; clear BK407; clear HB; have HO_5 := n0_; have BK406 := n1_; have BK407 := n2_; have HB := n3_; clear n0_ n1_ n2_ n3_; (try clear hb); (try clear hb2); (try clear hk); (try clear hi)) | ((with_reducible refine gate_builtin (b := .append) (xs := #[.tmp 36, .tmp 40]) rfl ?_); at_builtin; refine Kd.R_append (Kd.int .i64) (w0 := w) w.heap.size rfl (.tmp 36) (.tmp 40) 24 2 (.int .i64 0) 8 rfl Try.underlying24 info2 rfl (by decide) (by omega) u5 x5_1 t415 [.int .i64 t415] (fun _ => True) (fun _ => False) rfl rfl ?aP (fun _ hk => hk.elim) ?aF ?aO ?aB ?aS ?aL ?_; (case aP => exact rfl); (case aB => exact iHB); (case aF => exact (fun _ _ => trivial)); (case aO => exact (by (with_reducible repeat (first | apply Kd.R_alloc | apply Kd.R_drewN | apply Kd.R_drew)); exact HO_5.out)); (case aS => exact (below_size iHB)); (case aL => have := LMc20.out; omega); intro v417 w24 ho hb hg hat; rw [← Ny416.out] at ho; have n0_ := aa (blk_grown (g := gb406) (o := .cells #[.int .i64 a0_0, .int .i64 a0_1] 27 (0, 0)) (iBK BK406.out) hg (Kd.R_ne HO_5.out BK406.out (by decide))); have n1_ := aa (blk_grown (g := gb407) (o := .cells #[.int .i64 0, .int .i64 0] 27 (0, 0)) (iBK BK407.out) hg (Kd.R_ne HO_5.out BK407.out (by decide))); have n2_ := aa (hb); have n3_ := aa (ho); clear BK406; clear BK407; clear HB; clear HO_5; have BK406 := n0_; have BK407 := n1_; have HB := n2_; have HO418 := n3_; clear n0_ n1_ n2_ n3_; clear ho hb hg hat))
                go_roundg k2
                case measure => have := HK1.out; have := HK2.out; omega
                case rel => exact ⟨(y416), (wrap64 (x6_1 + 1)), (by first | rfl | (simp; done) | (simp [*]; done)), H', ⟨by have := HK1.out; have := HK2.out; omega⟩, ⟨by (with_reducible repeat (first | apply Kd.R_alloc | apply Kd.R_drewN | apply Kd.R_drew)); exact HO418.out⟩, ⟨iBK BK406.out⟩, ⟨iBK BK407.out⟩, ⟨iHB⟩⟩
              · rw [if_neg c20] at H
                exact absurd H (by simp)
      · rw [if_neg c8] at H
        have c8b0 : decide (x6_1 < t411) = false := decide_eq_false c8
        clear c8
        replace H := Option.bind_eq_some_iff.mp H
        obtain ⟨⟨t412, t413⟩, A250, H⟩ := H
        replace H : (some (t412, t413)) = some (r1, r2) := H
        have A25 := Aside0.mk A250
        clear A250
        simp only [Option.some.injEq, Prod.mk.injEq] at H
        obtain ⟨rfl, rfl⟩ := H
        have hnb26 := NB406_407.out
        have hnc26 := NB407_406.out
        have hcz27_0 : wr.cell? ⟨gb406, 0, none⟩ = some (.int .i64 a0_0) := (blk_cell BK406.out 0).trans rfl
        have hcz27_1 : wr.cell? ⟨gb406, 1, none⟩ = some (.int .i64 a0_1) := (blk_cell BK406.out 1).trans rfl
        have hfz27_0 := blk_frozen BK406.out 0
        have hfz27_1 := blk_frozen BK406.out 1
        go_wp2_with (first | ((with_reducible refine gate_callee (f := 68) rfl ?_); refine goesL_ (some 13) rfl rfl Try.func68 (by kernel_rfl) rfl #[.int .i64 a0_0] rfl iAR ?_; (with_reducible refine (spec_l01Rows.calls a0_0 t411 _ A7.out).mono ?_); rintro e w' ⟨rfl, ⟨nd, rfl⟩⟩; refine ⟨_, rfl, ?_⟩; (try (rw [drewN_self wr]; generalize hq_ : World.drewN wr _ = wr; have n0_ : Aside0 (Kd.R (Kd.int .i64) 2 wr w.heap.size (fun _ => True) u5 x5_1) := ⟨by rw [← hq_]; exact (by (with_reducible repeat (first | apply Kd.R_alloc | apply Kd.R_drewN | apply Kd.R_drew)); exact HO_5.out)⟩; have n1_ : Aside0 (wr.heap[gb406]? = some (.cells #[.int .i64 a0_0, .int .i64 a0_1] 27 (0, 0))) := ⟨by rw [← hq_]; exact (iBK BK406.out)⟩; have n2_ : Aside0 (wr.heap[gb407]? = some (.cells #[.int .i64 0, .int .i64 0] 27 (0, 0))) := ⟨by rw [← hq_]; exact (iBK BK407.out)⟩; have n3_ : Aside0 (Below w.heap.size w wr) := ⟨by rw [← hq_]; exact iHB⟩; clear HO_5 BK406 BK407 HB hq_; have HO_5 := n0_; have BK406 := n1_; have BK407 := n2_; have HB := n3_; clear n0_ n1_ n2_ n3_; have hzz406_0 : wr.cell? ⟨gb406, 0, none⟩ = some (.int .i64 a0_0) := (blk_cell BK406.out 0).trans rfl; have hzz406_1 : wr.cell? ⟨gb406, 1, none⟩ = some (.int .i64 a0_1) := (blk_cell BK406.out 1).trans rfl; have hzz407_0 : wr.cell? ⟨gb407, 0, none⟩ = some (.int .i64 0) := (blk_cell BK407.out 0).trans rfl; have hzz407_1 : wr.cell? ⟨gb407, 1, none⟩ = some (.int .i64 0) := (blk_cell BK407.out 1).trans rfl)); obtain ⟨Ao28, co28, eo28⟩ := Kd.R_slice HO_5.out; subst eo28) | ((with_reducible refine gate_callee (f := 86) rfl ?_); refine goesL_ (some 45) rfl rfl Try.func86 (by kernel_rfl) rfl #[.int .i64 a0_0, .slice Ao28 x5_1.length co28] rfl iAR ?_; (with_reducible refine (spec_l01Of.calls k1 a0_0 _ _ x5_1 t412 t413 _ ?side1 ?side2 A25.out).mono ?_); (case side1 => repeat (first | exact (Kd.R_reads' HO_5.out).2.2 | (with_reducible refine Kd.C_alloc ?_ _) | (with_reducible refine Kd.C_drewN ?_ _) | (with_reducible refine Kd.C_drew ?_))); (case side2 => exact (Kd.R_reads' HO_5.out).2.1); rintro e w29 ⟨rfl, hb⟩; refine ⟨_, rfl, ?_⟩; have n0_ := aa (Kd.R_below (by (with_reducible repeat (first | apply Kd.R_alloc | apply Kd.R_drewN | apply Kd.R_drew)); exact HO_5.out) hb); have n1_ := aa (blk_below (g := gb406) (o := .cells #[.int .i64 a0_0, .int .i64 a0_1] 27 (0, 0)) (iBK BK406.out) hb); have n2_ := aa (blk_below (g := gb407) (o := .cells #[.int .i64 0, .int .i64 0] 27 (0, 0)) (iBK BK407.out) hb); have n3_ := aa (below_step iHB hb); clear HO_5; clear BK406; clear BK407; clear HB; have HO_5 := n0_; have BK406 := n1_; have BK407 := n2_; have HB := n3_; clear n0_ n1_ n2_ n3_; (try clear hb); (try clear hb2); (try clear hk); (try clear hi); have hcz30_0 : w29.cell? ⟨gb407, 0, none⟩ = some (.int .i64 0) := (blk_cell BK407.out 0).trans rfl; have hcz30_1 : w29.cell? ⟨gb407, 1, none⟩ = some (.int .i64 0) := (blk_cell BK407.out 1).trans rfl; have hfz30_0 := blk_frozen BK407.out 0; have hfz30_1 := blk_frozen BK407.out 1))
        refine bodyPost_ret (results_cell_row rfl _ _ gb407 27 #[.int .i64 t412, .int .i64 t413] (0, 0) _ rfl (by (with_reducible repeat (first | refine blk_drewN ?_ _ | refine blk_drew ?_ | refine blk_alloc ?_ _)); refine blk_put (cs := #[.int .i64 t412, .int .i64 0]) ?_ 1 _ rfl; (with_reducible repeat (first | refine blk_drewN ?_ _ | refine blk_drew ?_ | refine blk_alloc ?_ _)); refine blk_put (cs := #[.int .i64 0, .int .i64 0]) ?_ 0 _ rfl; exact iBK BK407.out) Try.underlying27 rfl (by kernel_rfl)) rfl ?_
        exact ⟨by first | rfl | (simp [errW_none, errW_some] <;> rfl) | (simp [*, errW_none, errW_some] <;> rfl), iHB⟩
def spec_l01Own.f (l0 : List Int) : Option (List Int) := (some (([] : List Int) : List Int)).bind fun y419 => (if y419.length + l0.length < 17592186044416 then (some (y419 ++ l0)) else (none))
set_option maxHeartbeats 8000000 in
set_option maxRecDepth 100000 in
theorem spec_l01Own.calls (A0 : Option Addr) (c0 : Nat) (l0 : List Int) (r : List Int) (w : World) (hr0 : Kd.C (Kd.int .i64) w A0 l0.length l0) (hc0 : l0.length ≤ c0) (h : spec_l01Own.f l0 = some r) :
    Calls Try.prog 127 #[.slice A0 l0.length c0] w fun e w' => ∃ v0_ : Value, e = .returned (v0_) ∧ Kd.R (Kd.int .i64) 2 w' w.heap.size (fun _ => True) v0_ r ∧ Below w.heap.size w w' := by
  have HR0 := Aside0.mk hr0
  have HC0 := Aside0.mk hc0
  clear hr0 hc0
  have HB := aa (Below.refl w.heap.size w)
  have H : ((some (([] : List Int) : List Int)).bind fun y419 => (if y419.length + l0.length < 17592186044416 then (some (y419 ++ l0)) else (none))) = some r := h
  clear h
  obtain ⟨y419, hy419⟩ : ∃ y_ : List Int, y_ = (([] : List Int)) := ⟨_, rfl⟩
  replace H : (if y419.length + l0.length < 17592186044416 then (some (y419 ++ l0)) else (none)) = some r := by first | (rw [hy419]; with_reducible exact H) | (have H2_ := (Option.bind_some _ _).symm.trans H; rw [hy419]; with_reducible exact H2_) | (have H2_ := (Option.bind_some _ _).symm.trans H; with_reducible exact H2_) | with_reducible exact H | (rw [hy419]; exact H) | exact H
  have Ny419 := Aside0.mk hy419
  clear hy419
  by_cases c2 : y419.length + l0.length < 17592186044416
  · rw [if_pos c2] at H
    have LMc2 := Aside0.mk c2
    clear c2
    obtain ⟨y422, hy422⟩ : ∃ y_ : List Int, y_ = (y419 ++ l0) := ⟨_, rfl⟩
    replace H : (some y422) = some r := by first | (rw [hy422]; with_reducible exact H) | (have H2_ := (Option.bind_some _ _).symm.trans H; rw [hy422]; with_reducible exact H2_) | (have H2_ := (Option.bind_some _ _).symm.trans H; with_reducible exact H2_) | with_reducible exact H | (rw [hy422]; exact H) | exact H
    have Ny422 := Aside0.mk hy422
    clear hy422
    obtain rfl := Option.some.inj H
    go_enter Try.func127, Try.ntmps127
    go_wp2_with (first | ((with_reducible refine gate_dst (N := 3) rfl ?_); refine Kd.R_lit (Kd.int .i64) _ 2 ?hg (N := 3) ?hd (xs := ([] : List Int)) (inner := []) (ok := fun _ => True) (okp := fun _ => True) ?hr ?hp (fun _ hk => hk) trivial (Below.refl _ _) (Nat.le_refl _) (by simp) ?_; (case hd => rfl); (case hg => rfl); (case hr => first | (go_simp; done) | (go_simp; rfl)); (case hp => exact (Reps.none _ _)); intro v420 w3 ho4 hb hg_ hnew_; clear hg_ hnew_; (first | rw [← Ny419.out] at ho4 | (simp only [Int.reduceToNat] at ho4; rw [← Ny419.out] at ho4)); have n0_ := aa (Kd.R_lower ho4 (below_size iHB)); have n1_ := aa (below_step iHB hb); clear HB; have HO421 := n0_; have HB := n1_; clear n0_ n1_; clear hb ho4) | ((with_reducible refine gate_builtin (b := .append) (xs := #[.tmp 3, .tmp 4]) rfl ?_); at_builtin; refine Kd.R_append_rows (Kd.int .i64) (w0 := w) w.heap.size rfl (.tmp 3) (.tmp 4) 24 2 (.int .i64 0) 8 rfl Try.underlying24 info2 rfl (by decide) (by omega) v420 y419 l0 _ _ _ (fun _ => True) (fun _ => False) rfl rfl ?aO ?aR (fun _ _ h => h) (fun _ h => h.elim) ?aF ?aB ?aS ?aL ?_; (case aR => repeat (first | exact (Kd.C_below HR0.out HB.out) | (with_reducible refine Kd.C_alloc ?_ _) | (with_reducible refine Kd.C_drewN ?_ _) | (with_reducible refine Kd.C_drew ?_))); (case aB => exact iHB); (case aF => exact (fun _ _ => trivial)); (case aO => exact (by (with_reducible repeat (first | apply Kd.R_alloc | apply Kd.R_drewN | apply Kd.R_drew)); exact HO421.out)); (case aS => exact (below_size iHB)); (case aL => have := LMc2.out; omega); intro v423 w5 ho hb hg hat; rw [← Ny422.out] at ho; have n0_ := aa (hb); have n1_ := aa (ho); clear HB; clear HO421; have HB := n0_; have HO424 := n1_; clear n0_ n1_; clear ho hb hg hat))
    go_ret
    exact ⟨_, by first | rfl | (simp [errW_none, errW_some] <;> rfl) | (simp [*, errW_none, errW_some] <;> rfl), by (with_reducible repeat (first | apply Kd.R_alloc | apply Kd.R_drewN | apply Kd.R_drew)); exact HO424.out, iHB⟩
  · rw [if_neg c2] at H
    exact absurd H (by simp)
def spec_l01DrawOrder.l0 : Nat → Int → List Int → Int → List Int → Int → Int → Option (List Int × Int × Int)
  | 0, _, _, _, _, _, _ => none
  | k + 1, n, xs, i, s0, s1, s2 => if i < n then ((spec_l01Next.f s0 s1 s2 (wrap64 (i + 1))).bind fun q => (if 0 ≤ q.1 ∧ q.1 ≤ (xs.length : Int) ∧ xs.length < 1048576 then (spec_l01DrawOrder.l0 k n ((xs.take q.1.toNat ++ [i]) ++ xs.drop q.1.toNat) (wrap64 (i + 1)) s0 q.2.1 q.2.2) else none)) else (some (xs, s1, s2))
def spec_l01DrawOrder.f (k : Nat) (s0_0 : List Int) (s0_1 : Int) (s0_2 : Int) (a1 : Int) : Option (List Int × Int × Int) := spec_l01DrawOrder.l0 k a1 ([] : List Int) 0 s0_0 s0_1 s0_2
/-- A row of one, just made. -/
theorem C_one (W : World) (i : Int) : Kd.C (Kd.int .i64) (W.alloc (.cells #[.int .i64 i] 2)) (some ⟨W.heap.size, 0, none⟩) 1 [i] := by
  refine ⟨rfl, by decide, fun _ => ⟨_, rfl, fun j p hj => ?_⟩⟩
  match j, hj with
  | 0, hj =>
    obtain rfl : i = p := Option.some.inj hj
    refine ⟨[.int .i64 i], rfl, rfl, fun q u hu => ?_⟩
    match q, hu with
    | 0, hu =>
      obtain rfl : Value.int .i64 i = u := Option.some.inj hu
      exact (blk_cell (blk_new W (.cells #[.int .i64 i] 2)) 0).trans rfl
    | q + 1, hu => simp at hu
  | j + 1, hj => simp at hj
/-- What a call that leaves all but the state's block as it was leaves of a list that was made. -/
theorem R_next81 {w0 W W1 : World} {g : Nat} {f0 : List Int} {f1 f2 : Int} {b : Nat} {v : Value} {xs : List Int} (hI : IsS81 w0 W g f0 f1 f2) (ho : Kd.R (Kd.int .i64) 2 W b (fun _ => True) v xs) (hk : KeepBut W W1 g none) : Kd.R (Kd.int .i64) 2 W1 b (fun _ => True) v xs :=
  Kd.R_mono (Kd.R_keep (IsS81.apart hI ho (by decide)) hk (fun _ h => h.2)) (fun _ _ => trivial)
set_option maxHeartbeats 8000000 in
set_option maxRecDepth 100000 in
theorem spec_l01DrawOrder.calls (k : Nat) (g : Nat) (s0_0 : List Int) (s0_1 : Int) (s0_2 : Int) (a1 : Int) (r1 : List Int) (r2 : Int) (r3 : Int) (w0 w : World) (hI : IsS81 w0 w g s0_0 s0_1 s0_2) (hB : Below w0.heap.size w0 w) (h : spec_l01DrawOrder.f k s0_0 s0_1 s0_2 a1 = some (r1, r2, r3)) :
    Calls Try.prog 121 #[.pointer (some ⟨g, 0, none⟩), .int .i64 a1] w fun e w' => ∃ v0_ : Value, e = .returned (v0_) ∧ Kd.R (Kd.int .i64) 2 w' w.heap.size (fun _ => True) v0_ r1 ∧ IsS81 w0 w' g s0_0 r2 r3 ∧ Below w0.heap.size w0 w' ∧ KeepBut w w' g none := by
  have HI0 := Aside0.mk hI
  have HK := aa (KeepBut.refl w g none)
  have HB := Aside0.mk hB
  clear hI hB
  have H : spec_l01DrawOrder.l0 k a1 ([] : List Int) 0 s0_0 s0_1 s0_2 = some (r1, r2, r3) := h
  clear h
  have H' := Aside0.mk H
  clear H
  go_enter Try.func121, Try.ntmps121
  go_wp2_with (first | ((with_reducible refine gate_dst (N := 8) rfl ?_); refine Kd.R_lit (Kd.int .i64) _ 2 ?hg (N := 8) ?hd (xs := ([] : List Int)) (inner := []) (ok := fun _ => True) (okp := fun _ => True) ?hr ?hp (fun _ hk => hk) trivial (Below.refl _ _) (Nat.le_refl _) (by simp) ?_; (case hd => rfl); (case hg => rfl); (case hr => first | (go_simp; done) | (go_simp; rfl)); (case hp => exact (Reps.none _ _)); intro v0 w1 ho0 hb hg_ hnew_; clear hg_ hnew_; have HO := Aside0.mk ho0; have n1_ := aa (IsS81.below HI0.out hb); have n2_ := aa (KeepBut.trans (w := w) HK.out (KeepBut.of_below hb g none) (.inl rfl)); have n3_ := aa (below_step HB.out hb); clear HI0 HK HB ho0 hb; have HI0 := n1_; have HK := n2_; have HB := n3_; clear n1_ n2_ n3_))
  go_loopg [5, 6] k (fun kq v5 v6 w' => ∃ (xs : List Int) (i t1 t2 : Int), v6 = .int .i64 i ∧ Aside0 (spec_l01DrawOrder.l0 kq a1 xs i s0_0 t1 t2 = some (r1, r2, r3)) ∧ Aside0 (kq ≤ k) ∧ Aside0 (Kd.R (Kd.int .i64) 2 w' w.heap.size (fun _ => True) v5 xs) ∧ Aside0 (IsS81 w0 w' g s0_0 t1 t2) ∧ Aside0 (Below w0.heap.size w0 w') ∧ Aside0 (KeepBut w w' g none))
  case atStart => exact ⟨[], 0, s0_1, s0_2, (by first | rfl | (simp; done)), H', ⟨Nat.le_refl _⟩, HO, HI0, HB, HK⟩
  case round =>
    clear H' HO HI0 HB HK
    obtain ⟨xs, i, t1, t2, rfl, HA, HK1, HO, HI0, HB, HK⟩ := hrel
    cases gk with
    | zero => exact absurd HA.out (by simp [spec_l01DrawOrder.l0])
    | succ k1 =>
      have H := HA.out
      clear HA
      simp only [spec_l01DrawOrder.l0] at H
      by_cases c1 : i < a1
      · rw [if_pos c1] at H
        have c1b : decide (i < a1) = true := decide_eq_true c1
        clear c1
        obtain ⟨⟨q1, q2, q3⟩, hq, H⟩ := Option.bind_eq_some_iff.mp H
        simp only at H
        by_cases c2 : 0 ≤ q1 ∧ q1 ≤ (xs.length : Int) ∧ xs.length < 1048576
        · rw [if_pos c2] at H
          obtain ⟨c2, c3, c4⟩ := c2
          obtain ⟨m, rfl⟩ := Int.eq_ofNat_of_zero_le c2
          rw [Int.toNat_natCast] at H
          have HQ := Aside0.mk hq
          have H' := Aside0.mk H
          clear hq H c2
          have HM : Aside0 (m ≤ xs.length) := ⟨by omega⟩
          have HL := Aside0.mk c4
          clear c3 c4
          try go_wp2_with (first | (go_at_call 118; (with_reducible refine (spec_l01Next.calls g s0_0 t1 t2 (wrap64 (i + 1)) (m : Int) q2 q3 w0 _ ?side1 ?side2 HQ.out).mono ?_); (case side1 => exact HI0.out); (case side2 => exact HB.out); rintro e w2 ⟨rfl, hi, hb, hk⟩; have n0_ := aa (R_next81 HI0.out HO.out hk); have n1_ := aa (KeepBut.trans (w := w) HK.out hk (.inl rfl)); clear HI0 HO HB HK; have HO := n0_; have HI0 := Aside0.mk hi; have HB := Aside0.mk hb; have HK := n1_; clear n0_ n1_ hi hb hk))
          obtain ⟨A, c, rfl⟩ := Kd.R_slice HO.out
          have hm := HM.out
          obtain ⟨_, hxc, hC0⟩ := Kd.R_reads' HO.out
          have hC := Kd.C_drew hC0
          have HTL : Aside0 ((xs.take m).length = m) := ⟨by rw [List.length_take]; omega⟩
          have HDL : Aside0 ((xs.drop m).length = xs.length - m) := ⟨List.length_drop⟩
          have HT := aa (Kd.C_take hC hm)
          have HD := Kd.C_drop hC hm hxc
          rw [HDL.out, show m * (Kd.int .i64).sz = m from Nat.mul_one m] at HD
          replace HD := Aside0.mk HD
          rw [HTL.out] at HT
          have HI1 := aa (IsS81.drew HI0.out)
          have HB1 := aa (below_drew1 HB.out)
          have HK1_ := aa (keep_drew HK.out)
          have HOwn : Aside0 (∀ W', Kd.C (Kd.int .i64) W' A m (xs.take m) → Calls Try.prog 127 #[.slice A m c] W' fun e w' => ∃ v0_ : Value, e = .returned (v0_) ∧ Kd.R (Kd.int .i64) 2 w' W'.heap.size (fun _ => True) v0_ (xs.take m) ∧ Below W'.heap.size W' w') := ⟨fun W' hW' => by
            have h1 := spec_l01Own.calls A c (xs.take m) (xs.take m) W' (by rw [HTL.out]; exact hW') (by rw [HTL.out]; omega) (by
              unfold spec_l01Own.f
              rw [Option.bind_some, if_pos (by rw [HTL.out]; have := HL.out; simp only [List.length_nil]; omega)]; rfl)
            rw [HTL.out] at h1
            exact h1⟩
          have hmc : (m ≤ c) = True := eq_true (by omega)
          clear hC0
          refine start_ (n := 12) (S := fun w' => True) (ds := []) #[false, false, false, false, false, false, false, false, false, false, false, false] (by kernel_rfl) rfl rfl trivial (fun hHeld => ?_)
          generalize w2.drew = W at hC HT HD HI1 HB1 HK1_ ⊢
          refine pure_ (i := 0) (N := some 18) (v := ?_) (a' := ?_) #[true, false, false, false, false, false, false, false, false, false, false, false] rfl rfl (by kernel_rfl) (fun _ _ _ h => h) (Or.inl ⟨by rfl, ?_⟩) ?_ ?_
          rotate_left
          · intro w'
            go_simp
            with_reducible rfl
          rotate_left
          · simp only [Act.put, List.setIfInBounds_toArray, List.set_cons_zero, List.set_cons_succ, i64_w, i32_w]
            rfl
          refine pure_ (i := 1) (N := some 19) (v := ?_) (a' := ?_) #[true, true, false, false, false, false, false, false, false, false, false, false] rfl rfl (by kernel_rfl) (fun _ _ _ h => h) (Or.inl ⟨by rfl, ?_⟩) ?_ ?_
          rotate_left
          · intro w'
            go_simp
            with_reducible rfl
          rotate_left
          · simp only [Act.put, List.setIfInBounds_toArray, List.set_cons_zero, List.set_cons_succ, i64_w, i32_w]
            rfl
          refine pure_ (i := 2) (N := some 20) (v := ?_) (a' := ?_) #[true, true, true, false, false, false, false, false, false, false, false, false] rfl rfl (by kernel_rfl) (fun _ _ _ h => h) (Or.inl ⟨by rfl, ?_⟩) ?_ ?_
          rotate_left
          · intro w'
            go_simp
            with_reducible rfl
          rotate_left
          · simp only [Act.put, List.setIfInBounds_toArray, List.set_cons_zero, List.set_cons_succ, i64_w, i32_w]
            rfl
          refine pure_ (i := 4) (N := some 22) (v := ?_) (a' := ?_) #[true, true, true, false, true, false, false, false, false, false, false, false] rfl rfl (by kernel_rfl) (fun _ _ _ h => h) (Or.inl ⟨by rfl, ?_⟩) ?_ ?_
          rotate_left
          · intro w'
            go_simp
            with_reducible rfl
          rotate_left
          · simp only [Act.put, List.setIfInBounds_toArray, List.set_cons_zero, List.set_cons_succ, i64_w, i32_w]
            rfl
          refine pure_ (i := 7) (N := some 25) (v := ?_) (a' := ?_) #[true, true, true, false, true, false, false, true, false, false, false, false] rfl rfl (by kernel_rfl) (fun _ _ _ h => h) (Or.inl ⟨by rfl, ?_⟩) ?_ ?_
          rotate_left
          · intro w'
            go_simp
            with_reducible rfl
          rotate_left
          · simp only [Act.put, List.setIfInBounds_toArray, List.set_cons_zero, List.set_cons_succ, i64_w, i32_w]
            rfl
          refine pure_ (i := 8) (N := some 26) (v := ?_) (a' := ?_) #[true, true, true, false, true, false, false, true, true, false, false, false] rfl rfl (by kernel_rfl) (fun _ _ _ h => h) (Or.inl ⟨by rfl, ?_⟩) ?_ ?_
          rotate_left
          · intro w'
            go_simp
            with_reducible rfl
          rotate_left
          · simp only [Act.put, List.setIfInBounds_toArray, List.set_cons_zero, List.set_cons_succ, i64_w, i32_w]
            rfl
          refine pure_ (i := 9) (N := some 27) (v := ?_) (a' := ?_) #[true, true, true, false, true, false, false, true, true, true, false, false] rfl rfl (by kernel_rfl) (fun _ _ _ h => h) (Or.inl ⟨by rfl, ?_⟩) ?_ ?_
          rotate_left
          · intro w'
            go_simp
            with_reducible rfl
          rotate_left
          · simp only [Act.put, List.setIfInBounds_toArray, List.set_cons_zero, List.set_cons_succ, i64_w, i32_w]
            rfl
          refine join_ (σ := Value × Value) 3 #[true, true, true, true, true, true, false, true, true, true, false, false] (fun s => [(21, s.1), (23, s.2)]) (fun s w' => Kd.R (Kd.int .i64) 2 w' W.heap.size (fun _ => True) s.1 (xs.take m) ∧ (∃ ad, s.2 = .slice (some ad) 1 1 ∧ Kd.C (Kd.int .i64) w' (some ad) 1 [i]) ∧ Below W.heap.size W w') ?_ ?_
          rotate_left
          · intro hCont
            refine two_ (i := 3) (j := 5) (Ni := some 21) (Nj := some 23) #[true, true, true, true, true, false, false, true, true, true, false, false] #[true, true, true, false, true, true, false, true, true, true, false, false] rfl rfl rfl rfl (by kernel_rfl) (by decide) (by decide) (fun K hK => ?_) (fun K hK => ?_)
            · skip
              refine goes_ Try.func127 (by kernel_rfl) rfl #[.slice A m c] (by rfl) rfl rfl (by simp only [List.map_toArray, List.map_cons, List.map_nil]; rfl) ?_
              with_reducible refine (HOwn.out _ HT.out).mono ?_
              rintro e w3 ⟨v1, rfl, ho1, hb1⟩
              refine ⟨_, rfl, ?_⟩
              refine hK.out _ _ trivial (fun hHeld => ?_)
              clear hK K
              refine norm_ (a' := ?_) ?_ ?_
              rotate_left
              · show Act.put _ (some 21) _ = _
                simp only [Act.put, List.setIfInBounds_toArray, List.set_cons_zero, List.set_cons_succ, i64_w, i32_w]
                rfl
              refine one_ (i := 5) (N := some 23) #[true, true, true, true, true, true, false, true, true, true, false, false] rfl rfl (by kernel_rfl) (by decide) (fun K hK => ?_)
              refine value_ (w1 := ?_) (v := ?_) (by rfl) rfl ?_ ?_
              rotate_left 2
              · go_simp
                constructor
                · rfl
                · rfl
              refine hK.out _ _ trivial (fun hHeld => ?_)
              clear hK K
              refine norm_ (a' := ?_) ?_ ?_
              rotate_left
              · show Act.put _ (some 23) _ = _
                simp only [Act.put, List.setIfInBounds_toArray, List.set_cons_zero, List.set_cons_succ, i64_w, i32_w]
                rfl
              exact norm_ (by simp only [putAll, Act.put, List.setIfInBounds_toArray, List.set_cons_zero, List.set_cons_succ]) (hCont ⟨v1, .slice (some ⟨w3.heap.size, 0, none⟩) 1 1⟩ _ ⟨Kd.R_alloc ho1 _, ⟨_, rfl, C_one w3 i⟩, below_alloc hb1 _⟩)
            · skip
              refine value_ (w1 := ?_) (v := ?_) (by rfl) rfl ?_ ?_
              rotate_left 2
              · go_simp
                constructor
                · rfl
                · rfl
              refine hK.out _ _ trivial (fun hHeld => ?_)
              clear hK K
              refine norm_ (a' := ?_) ?_ ?_
              rotate_left
              · show Act.put _ (some 23) _ = _
                simp only [Act.put, List.setIfInBounds_toArray, List.set_cons_zero, List.set_cons_succ, i64_w, i32_w]
                rfl
              refine one_ (i := 3) (N := some 21) #[true, true, true, true, true, true, false, true, true, true, false, false] rfl rfl (by kernel_rfl) (by decide) (fun K hK => ?_)
              refine goes_ Try.func127 (by kernel_rfl) rfl #[.slice A m c] (by rfl) rfl rfl (by simp only [List.map_toArray, List.map_cons, List.map_nil]; rfl) ?_
              with_reducible refine (HOwn.out _ (Kd.C_alloc HT.out _)).mono ?_
              rintro e w3 ⟨v1, rfl, ho1, hb1⟩
              refine ⟨_, rfl, ?_⟩
              refine hK.out _ _ trivial (fun hHeld => ?_)
              clear hK K
              refine norm_ (a' := ?_) ?_ ?_
              rotate_left
              · show Act.put _ (some 21) _ = _
                simp only [Act.put, List.setIfInBounds_toArray, List.set_cons_zero, List.set_cons_succ, i64_w, i32_w]
                rfl
              exact norm_ (by simp only [putAll, Act.put, List.setIfInBounds_toArray, List.set_cons_zero, List.set_cons_succ]) (hCont ⟨v1, .slice (some ⟨W.heap.size, 0, none⟩) 1 1⟩ _ ⟨Kd.R_lower ho1 (by rw [World.size_alloc_]; omega), ⟨_, rfl, Kd.C_below (C_one W i) hb1⟩, below_step (below_alloc (Below.refl _ W) _) hb1⟩)
          rintro ⟨v1, v2⟩ w3 ⟨ho1, ⟨ad, e2, hc1⟩, hb1⟩
          obtain rfl : v2 = .slice (some ad) 1 1 := e2
          have hHeld : True := trivial
          refine norm_ (a' := ?_) ?_ ?_
          rotate_left
          · simp only [putAll, Act.put, List.setIfInBounds_toArray, List.set_cons_zero, List.set_cons_succ]
            rfl
          refine one_ (i := 6) (N := some 24) #[true, true, true, true, true, true, true, true, true, true, false, false] rfl rfl (by kernel_rfl) (by decide) (fun K hK => ?_)
          refine Kd.R_append_rows_step (Kd.int .i64) (w0 := W) W.heap.size (by rfl) (.tmp 21) (.tmp 23) 24 2 (.int .i64 0) 8 rfl Try.underlying24 info2 rfl (by decide) (by omega) v1 (xs.take m) [i] _ _ _ (fun _ => True) (fun _ => False) rfl rfl ?aO ?aR (fun _ _ h => h) (fun _ h => h.elim) ?aF ?aB ?aS ?aL ?_
          (case aO => exact ho1)
          (case aR => exact hc1)
          (case aF => exact (fun _ _ => trivial))
          (case aB => exact hb1)
          (case aS => exact (below_size hb1))
          (case aL => have := HL.out; have := HTL.out; omega)
          intro v3 w4 ho3 hb3 hg hat
          refine hK.out _ _ trivial (fun hHeld => ?_)
          clear hK K
          refine norm_ (a' := ?_) ?_ ?_
          rotate_left
          · show Act.put _ (some 24) _ = _
            simp only [Act.put, List.setIfInBounds_toArray, List.set_cons_zero, List.set_cons_succ, i64_w, i32_w]
            rfl
          refine one_ (i := 10) (N := some 28) #[true, true, true, true, true, true, true, true, true, true, true, false] rfl rfl (by kernel_rfl) (by decide) (fun K hK => ?_)
          refine Kd.R_append_rows_step (Kd.int .i64) (w0 := W) W.heap.size (by rfl) (.tmp 24) (.tmp 27) 24 2 (.int .i64 0) 8 rfl Try.underlying24 info2 rfl (by decide) (by omega) v3 (xs.take m ++ [i]) (xs.drop m) _ _ _ (fun _ => True) (fun _ => False) rfl rfl ?aO ?aR (fun _ _ h => h) (fun _ h => h.elim) ?aF ?aB ?aS ?aL ?_
          (case aO => exact ho3)
          (case aR => exact (Kd.C_below HD.out hb3))
          (case aF => exact (fun _ _ => trivial))
          (case aB => exact hb3)
          (case aS => exact (below_size hb3))
          (case aL => have := HL.out; have := HTL.out; have := HDL.out; simp only [List.length_append, List.length_singleton]; omega)
          intro v4 w5 ho4 hb4 hg hat
          refine hK.out _ _ trivial (fun hHeld => ?_)
          clear hK K
          refine norm_ (a' := ?_) ?_ ?_
          rotate_left
          · show Act.put _ (some 28) _ = _
            simp only [Act.put, List.setIfInBounds_toArray, List.set_cons_zero, List.set_cons_succ, i64_w, i32_w]
            rfl
          refine pure_ (i := 11) (N := some 5) (v := ?_) (a' := ?_) #[true, true, true, true, true, true, true, true, true, true, true, true] rfl rfl (by kernel_rfl) (fun _ _ _ h => h) (Or.inl ⟨by rfl, ?_⟩) ?_ ?_
          rotate_left
          · intro w'
            go_simp
            with_reducible rfl
          rotate_left
          · simp only [Act.put, List.setIfInBounds_toArray, List.set_cons_zero, List.set_cons_succ, i64_w, i32_w]
            rfl
          refine done_ (by kernel_rfl) ?_
          try go_wp2
          all_goals (go_roundg k1; (case measure => have := HK1.out; omega); (case rel => exact ⟨_, wrap64 (i + 1), q2, q3, rfl, H', ⟨by have := HK1.out; omega⟩, ⟨Kd.R_lower ho4 HK1_.out.1⟩, ⟨IsS81.below HI1.out hb4⟩, ⟨below_step HB1.out hb4⟩, ⟨KeepBut.trans (w := w) HK1_.out (KeepBut.of_below hb4 g none) (.inl rfl)⟩⟩))
        · rw [if_neg c2] at H
          exact absurd H (by simp)
      · rw [if_neg c1] at H
        have c1b : decide (i < a1) = false := decide_eq_false c1
        clear c1
        simp only [Option.some.injEq, Prod.mk.injEq] at H
        obtain ⟨rfl, rfl, rfl⟩ := H
        go_wp2
        go_ret
        exact ⟨_, rfl, HO.out, HI0.out, HB.out, HK.out⟩
end Go.Proofs.Ytdhfbgbclibagaa.P
