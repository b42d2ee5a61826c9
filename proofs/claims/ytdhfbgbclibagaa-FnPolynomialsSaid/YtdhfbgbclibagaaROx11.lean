/- Functions of the given program and their contracts, written by a program of this session (gen.py) over the kit's print. -/
import Derived.Test.YtdhfbgbclibagaaROx0
import Derived.Test.YtdhfbgbclibagaaROx2
import Derived.Test.YtdhfbgbclibagaaROx3
import Derived.Test.YtdhfbgbclibagaaROx4
namespace Go.Proofs.Ytdhfbgbclibagaa.P
open Go.RowKit Go.Proofs.YtdhfbgbclibagaaW.PrintWords Go.Proofs.YtdhfbgbclibagaaW.PrintLast Go.Proofs.YtdhfbgbclibagaaW.PrintMore
attribute [local go_sem] max2_int min2_int max_two min_two max_three min_three max_four min_four   -- for this text's walks alone
set_option linter.unusedVariables false
set_option linter.unusedSimpArgs false
def spec_l01Projection.l0 : Nat → Int → Int → List Int → Int → Option (Int × Int)
  | 0, _, _, _, _ => none
  | k + 1, x0, x1, x5, x6 => (spec_l01Rows.f x0).bind fun t229 => (if x6 < t229 then (if 0 ≤ (IntKind.u64.wrap (x1)) then (if x5.length < 17592186044416 then (spec_l01Projection.l0 k x0 x1 (x5 ++ [Go.bits .and .i64 (shr .i64 x6 (IntKind.u64.wrap (x1))) 1]) (wrap64 (x6 + 1))) else (none)) else (none)) else ((spec_l01Of.f k x0 x5).bind fun bt233 => (some (bt233.1, bt233.2))))
def spec_l01Projection.f (k : Nat) (a0 : Int) (a1 : Int) : Option (Int × Int) := spec_l01Projection.l0 k a0 a1 (([] : List Int)) 0
set_option maxHeartbeats 8000000 in
set_option maxRecDepth 100000 in
theorem spec_l01Projection.calls (k : Nat) (a0 : Int) (a1 : Int) (r1 : Int) (r2 : Int) (w : World) (h : spec_l01Projection.f k a0 a1 = some (r1, r2)) :
    Calls Try.prog 128 #[.int .i64 a0, .int .i64 a1] w fun e w' => e = .returned (.agg #[.int .i64 r1, .int .i64 r2]) ∧ Below w.heap.size w w' := by
  have hu27 := Try.underlying27
  have HB := aa (Below.refl w.heap.size w)
  have H : (spec_l01Projection.l0 k a0 a1 (([] : List Int)) 0) = some (r1, r2) := h
  clear h
  obtain ⟨y226, hy226⟩ : ∃ y_ : List Int, y_ = (([] : List Int)) := ⟨_, rfl⟩
  replace H : (spec_l01Projection.l0 k a0 a1 y226 0) = some (r1, r2) := by first | (rw [hy226]; with_reducible exact H) | (have H2_ := (Option.bind_some _ _).symm.trans H; rw [hy226]; with_reducible exact H2_) | (have H2_ := (Option.bind_some _ _).symm.trans H; with_reducible exact H2_) | with_reducible exact H | (rw [hy226]; exact H) | exact H
  have Ny226 := Aside0.mk hy226
  clear hy226
  have H' := Aside0.mk H
  clear H
  go_enter Try.func128, Try.ntmps128
  go_wp2_with (first | ((with_reducible refine gate_dst (N := 4) rfl ?_); refine box_event ?hg (N := 4) ?hd (cs := #[.int .i64 0, .int .i64 0]) (t := 27) ?hr ?_; (case hd => rfl); (case hg => rfl); (case hr => first | (go_simp; done) | (go_simp; rfl)); intro gb225 hg w3 hbox hb; have BK225 := aa (hbox); have GW225 := gwB (w := w) hg iHB; have GE225 := gwB (w := w) hg iHB; replace HB := aa (below_step iHB hb); clear hb hbox hg) | ((with_reducible refine gate_dst (N := 7) rfl ?_); refine Kd.R_lit (Kd.int .i64) _ 2 ?hg (N := 7) ?hd (xs := ([] : List Int)) (inner := []) (ok := fun _ => True) (okp := fun _ => True) ?hr ?hp (fun _ hk => hk) trivial (Below.refl _ _) (Nat.le_refl _) (by simp) ?_; (case hd => rfl); (case hg => rfl); (case hr => first | (go_simp; done) | (go_simp; rfl)); (case hp => exact (Reps.none _ _)); intro v227 w4 ho5 hb hg_ hnew_; clear hg_ hnew_; (first | rw [← Ny226.out] at ho5 | (simp only [Int.reduceToNat] at ho5; rw [← Ny226.out] at ho5)); have HO228 := aa (Kd.R_lower ho5 (below_size iHB)); replace BK225 := aa (blk_below (iBK BK225.out) hb); replace HB := aa (below_step iHB hb); clear hb ho5))
  go_loopg [5, 6] k (fun kq v5 v6 w' => ∃ (x5_1 : List Int) (x6_1 : Int), v6 = .int .i64 x6_1 ∧ Aside0 (spec_l01Projection.l0 kq a0 a1 x5_1 x6_1 = some (r1, r2)) ∧ Aside0 (kq ≤ k) ∧ Aside0 (Kd.R (Kd.int .i64) 2 w' w.heap.size (fun _ => True) v5 x5_1) ∧ Aside0 (w'.heap[gb225]? = some (.cells #[.int .i64 0, .int .i64 0] 27 (0, 0))) ∧ Aside0 (Below w.heap.size w w'))
  case atStart => exact ⟨(y226), (0), (by first | rfl | (simp; done) | (simp [*]; done)), H', ⟨Nat.le_refl _⟩, ⟨by (with_reducible repeat (first | apply Kd.R_alloc | apply Kd.R_drewN | apply Kd.R_drew)); exact HO228.out⟩, ⟨iBK BK225.out⟩, ⟨iHB⟩⟩
  case round =>
    clear H'
    obtain ⟨x5_1, x6_1, rfl, HA, HK1, HO_5, BK225, HB⟩ := hrel
    cases gk with
    | zero => exact absurd HA.out (by simp [spec_l01Projection.l0])
    | succ k1 =>
      have H := HA.out
      clear HA
      simp only [spec_l01Projection.l0] at H
      replace H := Option.bind_eq_some_iff.mp H
      obtain ⟨t229, A60, H⟩ := H
      replace H : (if x6_1 < t229 then (if 0 ≤ (IntKind.u64.wrap (a1)) then (if x5_1.length < 17592186044416 then (spec_l01Projection.l0 k1 a0 a1 (x5_1 ++ [Go.bits .and .i64 (shr .i64 x6_1 (IntKind.u64.wrap (a1))) 1]) (wrap64 (x6_1 + 1))) else (none)) else (none)) else ((spec_l01Of.f k1 a0 x5_1).bind fun bt233 => (some (bt233.1, bt233.2)))) = some (r1, r2) := H
      have A6 := Aside0.mk A60
      clear A60
      by_cases c7 : x6_1 < t229
      · rw [if_pos c7] at H
        have c7b0 : decide (x6_1 < t229) = true := decide_eq_true c7
        clear c7
        obtain ⟨ji8, hji8⟩ : ∃ j_ : Int, (IntKind.u64.wrap (a1)) = j_ := ⟨_, rfl⟩
        replace H : (if 0 ≤ (ji8) then (if x5_1.length < 17592186044416 then (spec_l01Projection.l0 k1 a0 a1 (x5_1 ++ [Go.bits .and .i64 (shr .i64 x6_1 (ji8)) 1]) (wrap64 (x6_1 + 1))) else (none)) else (none)) = some (r1, r2) := by first | (rw [hji8] at H; exact H) | (simp only [hji8] at H ⊢; exact H)
        (try rw [hji8] at A6)
        by_cases c9 : 0 ≤ (ji8)
        · rw [if_pos c9] at H
          have c9b0 := eq_true c9
          have c9b1 : decide (0 ≤ (ji8)) = true := decide_eq_true c9
          clear c9
          obtain ⟨ji10, hji10⟩ : ∃ j_ : Int, (shr .i64 x6_1 (ji8)) = j_ := ⟨_, rfl⟩
          replace H : (if x5_1.length < 17592186044416 then (spec_l01Projection.l0 k1 a0 a1 (x5_1 ++ [Go.bits .and .i64 (ji10) 1]) (wrap64 (x6_1 + 1))) else (none)) = some (r1, r2) := by first | (rw [hji10] at H; exact H) | (simp only [hji10] at H ⊢; exact H)
          (try rw [hji10] at A6)
          have hji10_ : (x6_1 / 2 ^ min (ji8).toNat 64) = ji10 := hji10
          have hji10z : (ji8) ≤ 64 → (x6_1 / 2 ^ (ji8).toNat) = ji10 := shr_small hji10
          by_cases c11 : x5_1.length < 17592186044416
          · rw [if_pos c11] at H
            have LMc11 := Aside0.mk c11
            clear c11
            obtain ⟨y230, hy230⟩ : ∃ y_ : List Int, y_ = (x5_1 ++ [Go.bits .and .i64 (ji10) 1]) := ⟨_, rfl⟩
            replace H : (spec_l01Projection.l0 k1 a0 a1 y230 (wrap64 (x6_1 + 1))) = some (r1, r2) := by first | (rw [hy230]; with_reducible exact H) | (have H2_ := (Option.bind_some _ _).symm.trans H; rw [hy230]; with_reducible exact H2_) | (have H2_ := (Option.bind_some _ _).symm.trans H; with_reducible exact H2_) | with_reducible exact H | (rw [hy230]; exact H) | exact H
            have Ny230 := Aside0.mk hy230
            clear hy230
            have H' := Aside0.mk H
            clear H
            go_wp2_with (first | ((with_reducible refine gate_callee (f := 68) rfl ?_); refine goesL_ (some 10) rfl rfl Try.func68 (by kernel_rfl) rfl #[.int .i64 a0] rfl iAR ?_; (with_reducible refine (spec_l01Rows.calls a0 t229 _ A6.out).mono ?_); rintro e w' ⟨rfl, ⟨nd, rfl⟩⟩; refine ⟨_, rfl, ?_⟩) | ((with_reducible refine gate_builtin (b := .append) (xs := #[.tmp 14, .tmp 20]) rfl ?_); at_builtin; refine Kd.R_append (Kd.int .i64) (w0 := w) w.heap.size rfl (.tmp 14) (.tmp 20) 24 2 (.int .i64 0) 8 rfl Try.underlying24 info2 rfl (by decide) (by omega) u5 x5_1 (Go.bits .and .i64 (ji10) 1) [.int .i64 (Go.bits .and .i64 (ji10) 1)] (fun _ => True) (fun _ => False) rfl rfl ?aP (fun _ hk => hk.elim) ?aF ?aO ?aB ?aS ?aL ?_; (case aP => exact rfl); (case aB => exact iHB); (case aF => exact (fun _ _ => trivial)); (case aO => exact (by (with_reducible repeat (first | apply Kd.R_alloc | apply Kd.R_drewN | apply Kd.R_drew)); exact HO_5.out)); (case aS => exact (below_size iHB)); (case aL => have := LMc11.out; omega); intro v231 w12 ho hb hg hat; rw [← Ny230.out] at ho; replace BK225 := aa (blk_grown (g := gb225) (o := .cells #[.int .i64 0, .int .i64 0] 27 (0, 0)) (iBK BK225.out) hg (Kd.R_ne HO_5.out BK225.out (by decide))); replace HB := aa (hb); have HO232 := aa (ho); clear HO_5 ho hb hg hat))
            go_roundg k1
            case measure => have := HK1.out; omega
            case rel => exact ⟨(y230), (wrap64 (x6_1 + 1)), (by first | rfl | (simp; done) | (simp [*]; done)), H', ⟨by have := HK1.out; omega⟩, ⟨by (with_reducible repeat (first | apply Kd.R_alloc | apply Kd.R_drewN | apply Kd.R_drew)); exact HO232.out⟩, ⟨iBK BK225.out⟩, ⟨iHB⟩⟩
          · rw [if_neg c11] at H
            exact absurd H (by simp)
        · rw [if_neg c9] at H
          exact absurd H (by simp)
      · rw [if_neg c7] at H
        have c7b0 : decide (x6_1 < t229) = false := decide_eq_false c7
        clear c7
        replace H := Option.bind_eq_some_iff.mp H
        obtain ⟨⟨t233, t234⟩, A130, H⟩ := H
        replace H : (some (t233, t234)) = some (r1, r2) := H
        have A13 := Aside0.mk A130
        clear A130
        simp only [Option.some.injEq, Prod.mk.injEq] at H
        obtain ⟨rfl, rfl⟩ := H
        go_wp2_with (first | ((with_reducible refine gate_callee (f := 68) rfl ?_); refine goesL_ (some 10) rfl rfl Try.func68 (by kernel_rfl) rfl #[.int .i64 a0] rfl iAR ?_; (with_reducible refine (spec_l01Rows.calls a0 t229 _ A6.out).mono ?_); rintro e w' ⟨rfl, ⟨nd, rfl⟩⟩; refine ⟨_, rfl, ?_⟩; (try (rw [drewN_self wr]; generalize hq_ : World.drewN wr _ = wr; replace HO_5 : Aside0 (Kd.R (Kd.int .i64) 2 wr w.heap.size (fun _ => True) u5 x5_1) := ⟨by rw [← hq_]; exact (by (with_reducible repeat (first | apply Kd.R_alloc | apply Kd.R_drewN | apply Kd.R_drew)); exact HO_5.out)⟩; replace BK225 : Aside0 (wr.heap[gb225]? = some (.cells #[.int .i64 0, .int .i64 0] 27 (0, 0))) := ⟨by rw [← hq_]; exact (iBK BK225.out)⟩; replace HB : Aside0 (Below w.heap.size w wr) := ⟨by rw [← hq_]; exact iHB⟩; clear hq_)); obtain ⟨Ao14, co14, eo14⟩ := Kd.R_slice HO_5.out; subst eo14) | ((with_reducible refine gate_callee (f := 86) rfl ?_); refine goesL_ (some 24) rfl rfl Try.func86 (by kernel_rfl) rfl #[.int .i64 a0, .slice Ao14 x5_1.length co14] rfl iAR ?_; (with_reducible refine (spec_l01Of.calls k1 a0 _ _ x5_1 t233 t234 _ ?side1 ?side2 A13.out).mono ?_); (case side1 => repeat (first | exact (Kd.R_reads' HO_5.out).2.2 | (with_reducible refine Kd.C_alloc ?_ _) | (with_reducible refine Kd.C_drewN ?_ _) | (with_reducible refine Kd.C_drew ?_))); (case side2 => exact (Kd.R_reads' HO_5.out).2.1); rintro e w15 ⟨rfl, hb⟩; refine ⟨_, rfl, ?_⟩; replace HO_5 := aa (Kd.R_below (by (with_reducible repeat (first | apply Kd.R_alloc | apply Kd.R_drewN | apply Kd.R_drew)); exact HO_5.out) hb); replace BK225 := aa (blk_below (iBK BK225.out) hb); replace HB := aa (below_step iHB hb); (try clear hb); have hcz16_0 : w15.cell? ⟨gb225, 0, none⟩ = some (.int .i64 0) := (blk_cell BK225.out 0).trans rfl; have hcz16_1 : w15.cell? ⟨gb225, 1, none⟩ = some (.int .i64 0) := (blk_cell BK225.out 1).trans rfl; have hfz16_0 := blk_frozen BK225.out 0; have hfz16_1 := blk_frozen BK225.out 1))
        refine bodyPost_ret (results_cell_row rfl _ _ gb225 27 #[.int .i64 t233, .int .i64 t234] (0, 0) _ rfl (by (with_reducible repeat (first | refine blk_drewN ?_ _ | refine blk_drew ?_ | refine blk_alloc ?_ _)); refine blk_put (cs := #[.int .i64 t233, .int .i64 0]) ?_ 1 _ rfl; (with_reducible repeat (first | refine blk_drewN ?_ _ | refine blk_drew ?_ | refine blk_alloc ?_ _)); refine blk_put (cs := #[.int .i64 0, .int .i64 0]) ?_ 0 _ rfl; exact iBK BK225.out) Try.underlying27 rfl (by kernel_rfl)) rfl ?_
        exact ⟨by first | rfl | (simp [errW_none, errW_some] <;> rfl) | (simp [*, errW_none, errW_some] <;> rfl), iHB⟩
def spec_l01Constant.f (a0 : Int) (a1 : Int) : Option (Int × Int) := (spec_l01All.f a0).bind fun t236 => (some (a0, wrap64 (a1 * t236)))
set_option maxHeartbeats 8000000 in
set_option maxRecDepth 100000 in
theorem spec_l01Constant.calls (a0 : Int) (a1 : Int) (r1 : Int) (r2 : Int) (w : World) (h : spec_l01Constant.f a0 a1 = some (r1, r2)) :
    Calls Try.prog 129 #[.int .i64 a0, .int .i64 a1] w fun e w' => e = .returned (.agg #[.int .i64 r1, .int .i64 r2]) ∧ Below w.heap.size w w' := by
  have hu27 := Try.underlying27
  have HB := aa (Below.refl w.heap.size w)
  have H : ((spec_l01All.f a0).bind fun t236 => (some (a0, wrap64 (a1 * t236)))) = some (r1, r2) := h
  clear h
  replace H := Option.bind_eq_some_iff.mp H
  obtain ⟨t236, A30, H⟩ := H
  replace H : (some (a0, wrap64 (a1 * t236))) = some (r1, r2) := H
  have A3 := Aside0.mk A30
  clear A30
  simp only [Option.some.injEq, Prod.mk.injEq] at H
  obtain ⟨rfl, rfl⟩ := H
  go_enter Try.func129, Try.ntmps129
  go_wp2_with (first | ((with_reducible refine gate_dst (N := 4) rfl ?_); refine box_event ?hg (N := 4) ?hd (cs := #[.int .i64 0, .int .i64 0]) (t := 27) ?hr ?_; (case hd => rfl); (case hg => rfl); (case hr => first | (go_simp; done) | (go_simp; rfl)); intro gb235 hg w4 hbox hb; have BK235 := aa (hbox); have GW235 := gwB (w := w) hg iHB; have GE235 := gwB (w := w) hg iHB; replace HB := aa (below_step iHB hb); clear hb hbox hg) | ((with_reducible refine gate_callee (f := 109) rfl ?_); refine goesL_ (some 8) rfl rfl Try.func109 (by kernel_rfl) rfl #[.int .i64 a0] rfl iAR ?_; (with_reducible refine (spec_l01All.calls a0 t236 _ A3.out).mono ?_); rintro e w' ⟨rfl, ⟨nd, rfl⟩⟩; refine ⟨_, rfl, ?_⟩; (try (rw [drewN_self w4]; generalize hq_ : World.drewN w4 _ = w4; replace BK235 : Aside0 (w4.heap[gb235]? = some (.cells #[.int .i64 0, .int .i64 0] 27 (0, 0))) := ⟨by rw [← hq_]; exact (iBK BK235.out)⟩; replace HB : Aside0 (Below w.heap.size w w4) := ⟨by rw [← hq_]; exact iHB⟩; clear hq_)); have hcz5_0 : w4.cell? ⟨gb235, 0, none⟩ = some (.int .i64 0) := (blk_cell BK235.out 0).trans rfl; have hcz5_1 : w4.cell? ⟨gb235, 1, none⟩ = some (.int .i64 0) := (blk_cell BK235.out 1).trans rfl; have hfz5_0 := blk_frozen BK235.out 0; have hfz5_1 := blk_frozen BK235.out 1))
  refine bodyPost_ret (results_cell_row rfl _ _ gb235 27 #[.int .i64 a0, .int .i64 (wrap64 (a1 * t236))] (0, 0) _ rfl (by (with_reducible repeat (first | refine blk_drewN ?_ _ | refine blk_drew ?_ | refine blk_alloc ?_ _)); refine blk_put (cs := #[.int .i64 a0, .int .i64 0]) ?_ 1 _ rfl; (with_reducible repeat (first | refine blk_drewN ?_ _ | refine blk_drew ?_ | refine blk_alloc ?_ _)); refine blk_put (cs := #[.int .i64 0, .int .i64 0]) ?_ 0 _ rfl; exact iBK BK235.out) Try.underlying27 rfl (by kernel_rfl)) rfl ?_
  exact ⟨by first | rfl | (simp [errW_none, errW_some] <;> rfl) | (simp [*, errW_none, errW_some] <;> rfl), iHB⟩
def spec_l01Known.f  : Option (List ByteArray) := some (([(⟨#[48, 58, 48]⟩ : ByteArray), (⟨#[48, 58, 49]⟩ : ByteArray), (⟨#[49, 58, 48, 49]⟩ : ByteArray), (⟨#[49, 58, 49, 48]⟩ : ByteArray), (⟨#[50, 58, 48, 48, 48, 49]⟩ : ByteArray), (⟨#[50, 58, 48, 49, 49, 49]⟩ : ByteArray), (⟨#[50, 58, 48, 49, 49, 48]⟩ : ByteArray), (⟨#[50, 58, 49, 49, 49, 48]⟩ : ByteArray), (⟨#[50, 58, 49, 48, 48, 48]⟩ : ByteArray), (⟨#[50, 58, 49, 48, 48, 49]⟩ : ByteArray), (⟨#[50, 58, 49, 48, 49, 49]⟩ : ByteArray), (⟨#[51, 58, 48, 48, 48, 49, 48, 49, 49, 49]⟩ : ByteArray), (⟨#[51, 58, 48, 49, 49, 48, 49, 48, 48, 49]⟩ : ByteArray), (⟨#[51, 58, 48, 48, 48, 49, 49, 48, 49, 49]⟩ : ByteArray)] : List ByteArray))
set_option maxHeartbeats 8000000 in
set_option maxRecDepth 100000 in
theorem spec_l01Known.calls  (r : List ByteArray) (w : World) (h : spec_l01Known.f  = some r) :
    Calls Try.prog 130 #[] w fun e w' => ∃ v0_ : Value, e = .returned (v0_) ∧ Kd.R Kd.string 9 w' w.heap.size (fun _ => True) v0_ r ∧ Below w.heap.size w w' := by
  have HB := aa (Below.refl w.heap.size w)
  have H : (some (([(⟨#[48, 58, 48]⟩ : ByteArray), (⟨#[48, 58, 49]⟩ : ByteArray), (⟨#[49, 58, 48, 49]⟩ : ByteArray), (⟨#[49, 58, 49, 48]⟩ : ByteArray), (⟨#[50, 58, 48, 48, 48, 49]⟩ : ByteArray), (⟨#[50, 58, 48, 49, 49, 49]⟩ : ByteArray), (⟨#[50, 58, 48, 49, 49, 48]⟩ : ByteArray), (⟨#[50, 58, 49, 49, 49, 48]⟩ : ByteArray), (⟨#[50, 58, 49, 48, 48, 48]⟩ : ByteArray), (⟨#[50, 58, 49, 48, 48, 49]⟩ : ByteArray), (⟨#[50, 58, 49, 48, 49, 49]⟩ : ByteArray), (⟨#[51, 58, 48, 48, 48, 49, 48, 49, 49, 49]⟩ : ByteArray), (⟨#[51, 58, 48, 49, 49, 48, 49, 48, 48, 49]⟩ : ByteArray), (⟨#[51, 58, 48, 48, 48, 49, 49, 48, 49, 49]⟩ : ByteArray)] : List ByteArray))) = some r := h
  clear h
  obtain ⟨y237, hy237⟩ : ∃ y_ : List ByteArray, y_ = (([(⟨#[48, 58, 48]⟩ : ByteArray), (⟨#[48, 58, 49]⟩ : ByteArray), (⟨#[49, 58, 48, 49]⟩ : ByteArray), (⟨#[49, 58, 49, 48]⟩ : ByteArray), (⟨#[50, 58, 48, 48, 48, 49]⟩ : ByteArray), (⟨#[50, 58, 48, 49, 49, 49]⟩ : ByteArray), (⟨#[50, 58, 48, 49, 49, 48]⟩ : ByteArray), (⟨#[50, 58, 49, 49, 49, 48]⟩ : ByteArray), (⟨#[50, 58, 49, 48, 48, 48]⟩ : ByteArray), (⟨#[50, 58, 49, 48, 48, 49]⟩ : ByteArray), (⟨#[50, 58, 49, 48, 49, 49]⟩ : ByteArray), (⟨#[51, 58, 48, 48, 48, 49, 48, 49, 49, 49]⟩ : ByteArray), (⟨#[51, 58, 48, 49, 49, 48, 49, 48, 48, 49]⟩ : ByteArray), (⟨#[51, 58, 48, 48, 48, 49, 49, 48, 49, 49]⟩ : ByteArray)] : List ByteArray)) := ⟨_, rfl⟩
  replace H : (some y237) = some r := by first | (rw [hy237]; with_reducible exact H) | (have H2_ := (Option.bind_some _ _).symm.trans H; rw [hy237]; with_reducible exact H2_) | (have H2_ := (Option.bind_some _ _).symm.trans H; with_reducible exact H2_) | with_reducible exact H | (rw [hy237]; exact H) | exact H
  have Ny237 := Aside0.mk hy237
  clear hy237
  obtain rfl := Option.some.inj H
  go_enter Try.func130, Try.ntmps130
  go_wp2_with (first | ((with_reducible refine gate_dst (N := 1) rfl ?_); refine Kd.R_lit Kd.string _ 9 ?hg (N := 1) ?hd (xs := ([(⟨#[48, 58, 48]⟩ : ByteArray), (⟨#[48, 58, 49]⟩ : ByteArray), (⟨#[49, 58, 48, 49]⟩ : ByteArray), (⟨#[49, 58, 49, 48]⟩ : ByteArray), (⟨#[50, 58, 48, 48, 48, 49]⟩ : ByteArray), (⟨#[50, 58, 48, 49, 49, 49]⟩ : ByteArray), (⟨#[50, 58, 48, 49, 49, 48]⟩ : ByteArray), (⟨#[50, 58, 49, 49, 49, 48]⟩ : ByteArray), (⟨#[50, 58, 49, 48, 48, 48]⟩ : ByteArray), (⟨#[50, 58, 49, 48, 48, 49]⟩ : ByteArray), (⟨#[50, 58, 49, 48, 49, 49]⟩ : ByteArray), (⟨#[51, 58, 48, 48, 48, 49, 48, 49, 49, 49]⟩ : ByteArray), (⟨#[51, 58, 48, 49, 49, 48, 49, 48, 48, 49]⟩ : ByteArray), (⟨#[51, 58, 48, 48, 48, 49, 49, 48, 49, 49]⟩ : ByteArray)] : List ByteArray)) (inner := [.string (⟨#[48, 58, 48]⟩ : ByteArray), .string (⟨#[48, 58, 49]⟩ : ByteArray), .string (⟨#[49, 58, 48, 49]⟩ : ByteArray), .string (⟨#[49, 58, 49, 48]⟩ : ByteArray), .string (⟨#[50, 58, 48, 48, 48, 49]⟩ : ByteArray), .string (⟨#[50, 58, 48, 49, 49, 49]⟩ : ByteArray), .string (⟨#[50, 58, 48, 49, 49, 48]⟩ : ByteArray), .string (⟨#[50, 58, 49, 49, 49, 48]⟩ : ByteArray), .string (⟨#[50, 58, 49, 48, 48, 48]⟩ : ByteArray), .string (⟨#[50, 58, 49, 48, 48, 49]⟩ : ByteArray), .string (⟨#[50, 58, 49, 48, 49, 49]⟩ : ByteArray), .string (⟨#[51, 58, 48, 48, 48, 49, 48, 49, 49, 49]⟩ : ByteArray), .string (⟨#[51, 58, 48, 49, 49, 48, 49, 48, 48, 49]⟩ : ByteArray), .string (⟨#[51, 58, 48, 48, 48, 49, 49, 48, 49, 49]⟩ : ByteArray)]) (ok := fun _ => True) (okp := fun _ => True) ?hr ?hp (fun _ hk => hk) trivial (Below.refl _ _) (Nat.le_refl _) (by simp) ?_; (case hd => rfl); (case hg => rfl); (case hr => first | (go_simp; done) | (go_simp; rfl)); (case hp => exact (Reps.one (show Kd.M Kd.string _ _ _ (⟨#[48, 58, 48]⟩ : ByteArray) [.string (⟨#[48, 58, 48]⟩ : ByteArray)] from rfl) (Reps.one (show Kd.M Kd.string _ _ _ (⟨#[48, 58, 49]⟩ : ByteArray) [.string (⟨#[48, 58, 49]⟩ : ByteArray)] from rfl) (Reps.one (show Kd.M Kd.string _ _ _ (⟨#[49, 58, 48, 49]⟩ : ByteArray) [.string (⟨#[49, 58, 48, 49]⟩ : ByteArray)] from rfl) (Reps.one (show Kd.M Kd.string _ _ _ (⟨#[49, 58, 49, 48]⟩ : ByteArray) [.string (⟨#[49, 58, 49, 48]⟩ : ByteArray)] from rfl) (Reps.one (show Kd.M Kd.string _ _ _ (⟨#[50, 58, 48, 48, 48, 49]⟩ : ByteArray) [.string (⟨#[50, 58, 48, 48, 48, 49]⟩ : ByteArray)] from rfl) (Reps.one (show Kd.M Kd.string _ _ _ (⟨#[50, 58, 48, 49, 49, 49]⟩ : ByteArray) [.string (⟨#[50, 58, 48, 49, 49, 49]⟩ : ByteArray)] from rfl) (Reps.one (show Kd.M Kd.string _ _ _ (⟨#[50, 58, 48, 49, 49, 48]⟩ : ByteArray) [.string (⟨#[50, 58, 48, 49, 49, 48]⟩ : ByteArray)] from rfl) (Reps.one (show Kd.M Kd.string _ _ _ (⟨#[50, 58, 49, 49, 49, 48]⟩ : ByteArray) [.string (⟨#[50, 58, 49, 49, 49, 48]⟩ : ByteArray)] from rfl) (Reps.one (show Kd.M Kd.string _ _ _ (⟨#[50, 58, 49, 48, 48, 48]⟩ : ByteArray) [.string (⟨#[50, 58, 49, 48, 48, 48]⟩ : ByteArray)] from rfl) (Reps.one (show Kd.M Kd.string _ _ _ (⟨#[50, 58, 49, 48, 48, 49]⟩ : ByteArray) [.string (⟨#[50, 58, 49, 48, 48, 49]⟩ : ByteArray)] from rfl) (Reps.one (show Kd.M Kd.string _ _ _ (⟨#[50, 58, 49, 48, 49, 49]⟩ : ByteArray) [.string (⟨#[50, 58, 49, 48, 49, 49]⟩ : ByteArray)] from rfl) (Reps.one (show Kd.M Kd.string _ _ _ (⟨#[51, 58, 48, 48, 48, 49, 48, 49, 49, 49]⟩ : ByteArray) [.string (⟨#[51, 58, 48, 48, 48, 49, 48, 49, 49, 49]⟩ : ByteArray)] from rfl) (Reps.one (show Kd.M Kd.string _ _ _ (⟨#[51, 58, 48, 49, 49, 48, 49, 48, 48, 49]⟩ : ByteArray) [.string (⟨#[51, 58, 48, 49, 49, 48, 49, 48, 48, 49]⟩ : ByteArray)] from rfl) (Reps.one (show Kd.M Kd.string _ _ _ (⟨#[51, 58, 48, 48, 48, 49, 49, 48, 49, 49]⟩ : ByteArray) [.string (⟨#[51, 58, 48, 48, 48, 49, 49, 48, 49, 49]⟩ : ByteArray)] from rfl) (Reps.none _ _)))))))))))))))); intro v238 w1 ho2 hb hg_ hnew_; clear hg_ hnew_; (first | rw [← Ny237.out] at ho2 | (simp only [Int.reduceToNat] at ho2; rw [← Ny237.out] at ho2)); have HO239 := aa (Kd.R_lower ho2 (below_size iHB)); replace HB := aa (below_step iHB hb); clear hb ho2))
  go_ret
  exact ⟨_, by first | rfl | (simp [errW_none, errW_some] <;> rfl) | (simp [*, errW_none, errW_some] <;> rfl), by (with_reducible repeat (first | apply Kd.R_alloc | apply Kd.R_drewN | apply Kd.R_drew)); exact HO239.out, iHB⟩
mutual
def spec_l01Read.j0 : Nat → ByteArray → Bool → Option (Int × Int × Bool)
  | 0, _, _ => none
  | k + 1, x0, x14 => if x14 = true then (some (0, 0, false)) else (if 0 < (x0.size : Int) then ((some (([] : List Int) : List Int)).bind fun y241 => ((spec_l01In.f (wrap64 ((wrap64 (bt x0 0)) - 48)) 0 4).bind fun t244 => (if t244 = true then ((spec_l01Rows.f (wrap64 ((wrap64 (bt x0 0)) - 48))).bind fun t245 => (spec_l01Read.j1 k x0 (wrap64 ((wrap64 (bt x0 0)) - 48)) y241 ((x0.size : Int) != (wrap64 (2 + t245))))) else (spec_l01Read.j1 k x0 (wrap64 ((wrap64 (bt x0 0)) - 48)) y241 true)))) else (none))
def spec_l01Read.j1 : Nat → ByteArray → Int → List Int → Bool → Option (Int × Int × Bool)
  | 0, _, _, _, _ => none
  | k + 1, x0, x4, x5, x31 => if x31 = true then (some (0, 0, false)) else (spec_l01Read.l0 k x0 x4 x5 2)
def spec_l01Read.l0 : Nat → ByteArray → Int → List Int → Int → Option (Int × Int × Bool)
  | 0, _, _, _, _ => none
  | k + 1, x0, x4, x5, x6 => if x6 < (x0.size : Int) then (if 0 ≤ x6 then (if x5.length < 17592186044416 then (spec_l01Read.l0 k x0 x4 (x5 ++ [wrap64 ((wrap64 (bt x0 x6)) - 48)]) (wrap64 (x6 + 1))) else (none)) else (none)) else ((spec_l01Bits.f k x5).bind fun t249 => (if t249 = true then ((spec_l01Of.f k x4 x5).bind fun bt250 => (some (bt250.1, bt250.2, true))) else (some (0, 0, false))))
end
def spec_l01Read.f (k : Nat) (a0 : ByteArray) : Option (Int × Int × Bool) := if (a0.size : Int) < 3 then (spec_l01Read.j0 k a0 true) else (if 1 < (a0.size : Int) then (spec_l01Read.j0 k a0 ((bt a0 1) != 58)) else (none))
theorem spec_l01Read.mono_l : ∀ k, (∀ y0 y1, LeO (spec_l01Read.j0 k y0 y1) (spec_l01Read.j0 (k + 1) y0 y1)) ∧ (∀ y0 y1 y2 y3, LeO (spec_l01Read.j1 k y0 y1 y2 y3) (spec_l01Read.j1 (k + 1) y0 y1 y2 y3)) ∧ (∀ y0 y1 y2 y3, LeO (spec_l01Read.l0 k y0 y1 y2 y3) (spec_l01Read.l0 (k + 1) y0 y1 y2 y3))
  | 0 => ⟨fun _ _ r h => by simp [spec_l01Read.j0] at h, fun _ _ _ _ r h => by simp [spec_l01Read.j1] at h, fun _ _ _ _ r h => by simp [spec_l01Read.l0] at h⟩
  | k + 1 => by
    obtain ⟨ih0, ih1, ih2⟩ := spec_l01Read.mono_l k
    refine ⟨?_, ?_, ?_⟩
    · intro y0 y1
      unfold spec_l01Read.j0
      repeat' first
      | (with_reducible exact ih0 _ _)
      | (with_reducible exact ih1 _ _ _ _)
      | (with_reducible exact ih2 _ _ _ _)
      | (with_reducible exact spec_l01Bits.mono _ _)
      | (with_reducible exact spec_l01Of.mono _ _ _)
      | (with_reducible exact LeO.refl _)
      | (with_reducible exact LeO.none _)
      | (with_reducible refine LeO.ite ?_ ?_)
      | (with_reducible refine LeO.bind ?_ (fun _ => ?_))
      | exact ih0 _ _
      | exact ih1 _ _ _ _
      | exact ih2 _ _ _ _
      | exact spec_l01Bits.mono _ _
      | exact spec_l01Of.mono _ _ _
      | exact LeO.none _
      | refine LeO.ite ?_ ?_
      | refine LeO.bind ?_ (fun _ => ?_)
    · intro y0 y1 y2 y3
      unfold spec_l01Read.j1
      repeat' first
      | (with_reducible exact ih0 _ _)
      | (with_reducible exact ih1 _ _ _ _)
      | (with_reducible exact ih2 _ _ _ _)
      | (with_reducible exact spec_l01Bits.mono _ _)
      | (with_reducible exact spec_l01Of.mono _ _ _)
      | (with_reducible exact LeO.refl _)
      | (with_reducible exact LeO.none _)
      | (with_reducible refine LeO.ite ?_ ?_)
      | (with_reducible refine LeO.bind ?_ (fun _ => ?_))
      | exact ih0 _ _
      | exact ih1 _ _ _ _
      | exact ih2 _ _ _ _
      | exact spec_l01Bits.mono _ _
      | exact spec_l01Of.mono _ _ _
      | exact LeO.none _
      | refine LeO.ite ?_ ?_
      | refine LeO.bind ?_ (fun _ => ?_)
    · intro y0 y1 y2 y3
      unfold spec_l01Read.l0
      repeat' first
      | (with_reducible exact ih0 _ _)
      | (with_reducible exact ih1 _ _ _ _)
      | (with_reducible exact ih2 _ _ _ _)
      | (with_reducible exact spec_l01Bits.mono _ _)
      | (with_reducible exact spec_l01Of.mono _ _ _)
      | (with_reducible exact LeO.refl _)
      | (with_reducible exact LeO.none _)
      | (with_reducible refine LeO.ite ?_ ?_)
      | (with_reducible refine LeO.bind ?_ (fun _ => ?_))
      | exact ih0 _ _
      | exact ih1 _ _ _ _
      | exact ih2 _ _ _ _
      | exact spec_l01Bits.mono _ _
      | exact spec_l01Of.mono _ _ _
      | exact LeO.none _
      | refine LeO.ite ?_ ?_
      | refine LeO.bind ?_ (fun _ => ?_)
theorem spec_l01Read.mono : ∀ a0 k, LeO (spec_l01Read.f k a0) (spec_l01Read.f (k + 1) a0) := by
  intro a0 k
  obtain ⟨ih0, ih1, ih2⟩ := spec_l01Read.mono_l k
  unfold spec_l01Read.f
  repeat' first
      | (with_reducible exact ih0 _ _)
      | (with_reducible exact ih1 _ _ _ _)
      | (with_reducible exact ih2 _ _ _ _)
      | (with_reducible exact spec_l01Bits.mono _ _)
      | (with_reducible exact spec_l01Of.mono _ _ _)
      | (with_reducible exact LeO.refl _)
      | (with_reducible exact LeO.none _)
      | (with_reducible refine LeO.ite ?_ ?_)
      | (with_reducible refine LeO.bind ?_ (fun _ => ?_))
      | exact ih0 _ _
      | exact ih1 _ _ _ _
      | exact ih2 _ _ _ _
      | exact spec_l01Bits.mono _ _
      | exact spec_l01Of.mono _ _ _
      | exact LeO.none _
      | refine LeO.ite ?_ ?_
      | refine LeO.bind ?_ (fun _ => ?_)
set_option maxHeartbeats 8000000 in
set_option maxRecDepth 100000 in
theorem spec_l01Read.calls (k : Nat) (a0 : ByteArray) (r1 : Int) (r2 : Int) (r3 : Bool) (w : World) (h : spec_l01Read.f k a0 = some (r1, r2, r3)) :
    Calls Try.prog 131 #[.string a0] w fun e w' => e = .returned (.tuple #[.agg #[.int .i64 r1, .int .i64 r2], .bool r3]) ∧ Below w.heap.size w w' := by
  have hu27 := Try.underlying27
  have HB := aa (Below.refl w.heap.size w)
  have H : (if (a0.size : Int) < 3 then (spec_l01Read.j0 k a0 true) else (if 1 < (a0.size : Int) then (spec_l01Read.j0 k a0 ((bt a0 1) != 58)) else (none))) = some (r1, r2, r3) := h
  clear h
  have HC2 := Aside0.mk H
  clear H
  go_enter Try.func131, Try.ntmps131
  go_upto_region 1 with (first | ((with_reducible refine gate_dst (N := 2) rfl ?_); (try (refine gate_guard (by rfl) ?_; dsimp only)); refine box_event ?hg (N := 2) ?hd (cs := #[.int .i64 0, .int .i64 0]) (t := 27) ?hr ?_; (case hd => rfl); (case hg => rfl); (case hr => first | (go_simp; done) | (go_simp; rfl)); intro gb240 hg w3 hbox hb; have BK240 := aa (hbox); have GW240 := gwB (w := w) hg iHB; have GE240 := gwB (w := w) hg iHB; replace HB := aa (below_step iHB hb); clear hb hbox hg))
  (try simp only [Act.put, List.setIfInBounds_toArray, List.set_cons_zero, List.set_cons_succ])
  go_cut [14] (fun v14 wc => ∃ (kq : Nat) (x14_1 : Bool), v14 = .bool x14_1 ∧ Aside0 (spec_l01Read.j0 kq a0 x14_1 = some (r1, r2, r3)) ∧ Aside0 (kq ≤ k) ∧ Aside0 (wc.heap[gb240]? = some (.cells #[.int .i64 0, .int .i64 0] 27 (0, 0))) ∧ Aside0 (Below w.heap.size w wc))
  case first =>
    have H := HC2.out
    clear HC2
    by_cases c4 : (a0.size : Int) < 3
    · rw [if_pos c4] at H
      have c4b0 : decide ((a0.size : Int) < 3) = true := decide_eq_true c4
      have c4b1 : decide (a0.size < 3) = true := decide_eq_true (by omega)
      clear c4
      (first | rw [c4b0] | (simp only [i64_w, i32_w]; rw [c4b0]) | skip)
      have H' := Aside0.mk H
      clear H
      go_wp2
      go_meet
      case rel => exact ⟨_, (true), (by first | rfl | (simp; done) | (simp [*]; done)), H', ⟨by first | omega | exact Nat.le_refl _⟩, ⟨iBK BK240.out⟩, ⟨iHB⟩⟩
    · rw [if_neg c4] at H
      have c4b0 : decide ((a0.size : Int) < 3) = false := decide_eq_false c4
      have c4b1 : decide (a0.size < 3) = false := decide_eq_false (by omega)
      clear c4
      (first | rw [c4b0] | (simp only [i64_w, i32_w]; rw [c4b0]) | skip)
      by_cases c5 : 1 < (a0.size : Int)
      · rw [if_pos c5] at H
        have c5b0 : decide (1 < (a0.size : Int)) = true := decide_eq_true c5
        have c5b1 : decide (1 < a0.size) = true := decide_eq_true (by omega)
        clear c5
        have H' := Aside0.mk H
        clear H
        have p6 : 0 ≤ (1 : Int) := (by omega)
        have q6 : 1 < a0.size := (by have : (1 : Int) < (a0.size : Int) := of_decide_eq_true (by first | (with_reducible assumption) | assumption); omega)
        have hx6 : ∀ h : 1 < a0.size, ((a0[1]'h).toNat : Int) = bt a0 1 := bt_at a0 1
        clear p6
        have qi6 : (1 < (a0.size : Int)) = True := eq_true (of_decide_eq_true (by first | (with_reducible assumption) | assumption))
        replace q6 := eq_true q6
        go_wp2
        go_meet
        case rel => exact ⟨_, (((bt a0 1) != 58)), (by first | rfl | (simp; done) | (simp [*]; done)), H', ⟨by first | omega | exact Nat.le_refl _⟩, ⟨iBK BK240.out⟩, ⟨iHB⟩⟩
      · rw [if_neg c5] at H
        exact absurd H (by simp)
  case rest =>
    clear HC2
    obtain ⟨kq, x14_1, rfl, HA, HJ1, BK240, HB⟩ := hcut
    cases kq with
    | zero => exact absurd HA.out (by simp [spec_l01Read.j0])
    | succ kj1 =>
      have H := HA.out
      clear HA
      simp only [spec_l01Read.j0] at H
      by_cases c7 : x14_1 = true
      · subst c7
        have H1 : (some (0, 0, false)) = some (r1, r2, r3) := by rw [if_pos rfl] at H; exact H
        clear H
        have H := H1
        clear H1
        simp only [Option.some.injEq, Prod.mk.injEq] at H
        obtain ⟨rfl, rfl, rfl⟩ := H
        have hcz8_0 : wc.cell? ⟨gb240, 0, none⟩ = some (.int .i64 0) := (blk_cell BK240.out 0).trans rfl
        have hcz8_1 : wc.cell? ⟨gb240, 1, none⟩ = some (.int .i64 0) := (blk_cell BK240.out 1).trans rfl
        have hfz8_0 := blk_frozen BK240.out 0
        have hfz8_1 := blk_frozen BK240.out 1
        go_wp2
        refine bodyPost_ret (results_ct rfl _ _ gb240 27 #[.int .i64 0, .int .i64 0] (0, 0) _ rfl (by (with_reducible repeat (first | refine blk_drewN ?_ _ | refine blk_drew ?_ | refine blk_alloc ?_ _)); refine blk_put (cs := #[.int .i64 0, .int .i64 0]) ?_ 1 _ rfl; (with_reducible repeat (first | refine blk_drewN ?_ _ | refine blk_drew ?_ | refine blk_alloc ?_ _)); refine blk_put (cs := #[.int .i64 0, .int .i64 0]) ?_ 0 _ rfl; exact iBK BK240.out) Try.underlying27 rfl (by kernel_rfl)) rfl ?_
        exact ⟨by first | rfl | (simp [errW_none, errW_some] <;> rfl) | (simp [*, errW_none, errW_some] <;> rfl), iHB⟩
      · replace c7 := Bool.eq_false_iff.mpr c7
        subst c7
        have H1 : (if 0 < (a0.size : Int) then ((some (([] : List Int) : List Int)).bind fun y241 => ((spec_l01In.f (wrap64 ((wrap64 (bt a0 0)) - 48)) 0 4).bind fun t244 => (if t244 = true then ((spec_l01Rows.f (wrap64 ((wrap64 (bt a0 0)) - 48))).bind fun t245 => (spec_l01Read.j1 kj1 a0 (wrap64 ((wrap64 (bt a0 0)) - 48)) y241 ((a0.size : Int) != (wrap64 (2 + t245))))) else (spec_l01Read.j1 kj1 a0 (wrap64 ((wrap64 (bt a0 0)) - 48)) y241 true)))) else (none)) = some (r1, r2, r3) := by rw [if_neg (show ¬ (false = true) by decide)] at H; exact H
        clear H
        have H := H1
        clear H1
        by_cases c9 : 0 < (a0.size : Int)
        · rw [if_pos c9] at H
          have c9b0 : decide (0 < (a0.size : Int)) = true := decide_eq_true c9
          have c9b1 : decide (0 < a0.size) = true := decide_eq_true (by omega)
          clear c9
          obtain ⟨y241, hy241⟩ : ∃ y_ : List Int, y_ = (([] : List Int)) := ⟨_, rfl⟩
          replace H : ((spec_l01In.f (wrap64 ((wrap64 (bt a0 0)) - 48)) 0 4).bind fun t244 => (if t244 = true then ((spec_l01Rows.f (wrap64 ((wrap64 (bt a0 0)) - 48))).bind fun t245 => (spec_l01Read.j1 kj1 a0 (wrap64 ((wrap64 (bt a0 0)) - 48)) y241 ((a0.size : Int) != (wrap64 (2 + t245))))) else (spec_l01Read.j1 kj1 a0 (wrap64 ((wrap64 (bt a0 0)) - 48)) y241 true))) = some (r1, r2, r3) := by first | (rw [hy241]; with_reducible exact H) | (have H2_ := (Option.bind_some _ _).symm.trans H; rw [hy241]; with_reducible exact H2_) | (have H2_ := (Option.bind_some _ _).symm.trans H; with_reducible exact H2_) | with_reducible exact H | (rw [hy241]; exact H) | exact H
          have Ny241 := Aside0.mk hy241
          clear hy241
          have HC11 := Aside0.mk H
          clear H
          have p10 : 0 ≤ (0 : Int) := (by omega)
          have q10 : 0 < a0.size := (by have : (0 : Int) < (a0.size : Int) := of_decide_eq_true (by first | (with_reducible assumption) | assumption); omega)
          have hx10 : ∀ h : 0 < a0.size, ((a0[0]'h).toNat : Int) = bt a0 0 := bt_at a0 0
          clear p10
          have qi10 : (0 < (a0.size : Int)) = True := eq_true (of_decide_eq_true (by first | (with_reducible assumption) | assumption))
          replace q10 := eq_true q10
          go_upto_region 4 with (first | ((with_reducible refine gate_dst (N := 20) rfl ?_); (try (refine gate_guard (by rfl) ?_; dsimp only)); refine Kd.R_lit (Kd.int .i64) _ 2 ?hg (N := 20) ?hd (xs := ([] : List Int)) (inner := []) (ok := fun _ => True) (okp := fun _ => True) ?hr ?hp (fun _ hk => hk) trivial (Below.refl _ _) (Nat.le_refl _) (by simp) ?_; (case hd => rfl); (case hg => rfl); (case hr => first | (go_simp; done) | (go_simp; rfl)); (case hp => exact (Reps.none _ _)); intro v242 w12 ho13 hb hg_ hnew_; clear hg_ hnew_; (first | rw [← Ny241.out] at ho13 | (simp only [Int.reduceToNat] at ho13; rw [← Ny241.out] at ho13)); have HO243 := aa (Kd.R_lower ho13 (below_size iHB)); replace BK240 := aa (blk_below (iBK BK240.out) hb); replace HB := aa (below_step iHB hb); clear hb ho13))
          (try simp only [Act.put, List.setIfInBounds_toArray, List.set_cons_zero, List.set_cons_succ])
          go_cut [31] (fun v31 wc => ∃ (kq : Nat) (x31_10 : Bool), v31 = .bool x31_10 ∧ Aside0 (spec_l01Read.j1 kq a0 (wrap64 ((wrap64 (bt a0 0)) - 48)) y241 x31_10 = some (r1, r2, r3)) ∧ Aside0 (kq ≤ kj1) ∧ Aside0 (Kd.R (Kd.int .i64) 2 wc w.heap.size (fun _ => True) v242 y241) ∧ Aside0 (wc.heap[gb240]? = some (.cells #[.int .i64 0, .int .i64 0] 27 (0, 0))) ∧ Aside0 (Below w.heap.size w wc))
          case first =>
            have H := HC11.out
            clear HC11
            replace H := Option.bind_eq_some_iff.mp H
            obtain ⟨t244, A140, H⟩ := H
            replace H : (if t244 = true then ((spec_l01Rows.f (wrap64 ((wrap64 (bt a0 0)) - 48))).bind fun t245 => (spec_l01Read.j1 kj1 a0 (wrap64 ((wrap64 (bt a0 0)) - 48)) y241 ((a0.size : Int) != (wrap64 (2 + t245))))) else (spec_l01Read.j1 kj1 a0 (wrap64 ((wrap64 (bt a0 0)) - 48)) y241 true)) = some (r1, r2, r3) := H
            have A14 := Aside0.mk A140
            clear A140
            by_cases c15 : t244 = true
            · subst c15
              have H1 : ((spec_l01Rows.f (wrap64 ((wrap64 (bt a0 0)) - 48))).bind fun t245 => (spec_l01Read.j1 kj1 a0 (wrap64 ((wrap64 (bt a0 0)) - 48)) y241 ((a0.size : Int) != (wrap64 (2 + t245))))) = some (r1, r2, r3) := by rw [if_pos rfl] at H; exact H
              clear H
              have H := H1
              clear H1
              replace H := Option.bind_eq_some_iff.mp H
              obtain ⟨t245, A160, H⟩ := H
              replace H : (spec_l01Read.j1 kj1 a0 (wrap64 ((wrap64 (bt a0 0)) - 48)) y241 ((a0.size : Int) != (wrap64 (2 + t245)))) = some (r1, r2, r3) := H
              have A16 := Aside0.mk A160
              clear A160
              have H' := Aside0.mk H
              clear H
              go_wp2_with (first | ((with_reducible refine gate_callee (f := 84) rfl ?_); refine goesL_ (some 22) rfl rfl Try.func84 (by kernel_rfl) rfl #[.int .i64 (wrap64 ((wrap64 (bt a0 0)) - 48)), .int .i64 0, .int .i64 4] rfl iAR ?_; (with_reducible refine (spec_l01In.calls (wrap64 ((wrap64 (bt a0 0)) - 48)) 0 4 true _ A14.out).mono ?_); rintro e w' ⟨rfl, ⟨nd, rfl⟩⟩; refine ⟨_, rfl, ?_⟩) | (go_at_call 68; (with_reducible refine (spec_l01Rows.calls (wrap64 ((wrap64 (bt a0 0)) - 48)) t245 _ A16.out).mono ?_); rintro e w' ⟨rfl, ⟨nd, rfl⟩⟩))
              go_meet
              case rel => exact ⟨_, (((a0.size : Int) != (wrap64 (2 + t245)))), (by first | rfl | (simp; done) | (simp [*]; done)), H', ⟨by have := HJ1.out; first | omega | exact Nat.le_refl _⟩, ⟨by (with_reducible repeat (first | apply Kd.R_alloc | apply Kd.R_drewN | apply Kd.R_drew)); exact HO243.out⟩, ⟨iBK BK240.out⟩, ⟨iHB⟩⟩
            · replace c15 := Bool.eq_false_iff.mpr c15
              subst c15
              have H1 : (spec_l01Read.j1 kj1 a0 (wrap64 ((wrap64 (bt a0 0)) - 48)) y241 true) = some (r1, r2, r3) := by rw [if_neg (show ¬ (false = true) by decide)] at H; exact H
              clear H
              have H := H1
              clear H1
              have H' := Aside0.mk H
              clear H
              go_wp2_with (first | ((with_reducible refine gate_callee (f := 84) rfl ?_); refine goesL_ (some 22) rfl rfl Try.func84 (by kernel_rfl) rfl #[.int .i64 (wrap64 ((wrap64 (bt a0 0)) - 48)), .int .i64 0, .int .i64 4] rfl iAR ?_; (with_reducible refine (spec_l01In.calls (wrap64 ((wrap64 (bt a0 0)) - 48)) 0 4 false _ A14.out).mono ?_); rintro e w' ⟨rfl, ⟨nd, rfl⟩⟩; refine ⟨_, rfl, ?_⟩))
              go_meet
              case rel => exact ⟨_, (true), (by first | rfl | (simp; done) | (simp [*]; done)), H', ⟨by have := HJ1.out; first | omega | exact Nat.le_refl _⟩, ⟨by (with_reducible repeat (first | apply Kd.R_alloc | apply Kd.R_drewN | apply Kd.R_drew)); exact HO243.out⟩, ⟨iBK BK240.out⟩, ⟨iHB⟩⟩
          case rest =>
            clear HC11
            try clear c7
            try clear c9
            try clear c9b0
            try clear c9b1
            try clear p10
            try clear q10
            try clear hx10
            try clear qi10
            obtain ⟨kq, x31_10, rfl, HA, HJ10, HO_5, BK240, HB⟩ := hcut
            cases kq with
            | zero => exact absurd HA.out (by simp [spec_l01Read.j1])
            | succ kj10 =>
              have H := HA.out
              clear HA
              simp only [spec_l01Read.j1] at H
              by_cases c17 : x31_10 = true
              · subst c17
                have H1 : (some (0, 0, false)) = some (r1, r2, r3) := by rw [if_pos rfl] at H; exact H
                clear H
                have H := H1
                clear H1
                simp only [Option.some.injEq, Prod.mk.injEq] at H
                obtain ⟨rfl, rfl, rfl⟩ := H
                have hcz18_0 : wc.cell? ⟨gb240, 0, none⟩ = some (.int .i64 0) := (blk_cell BK240.out 0).trans rfl
                have hcz18_1 : wc.cell? ⟨gb240, 1, none⟩ = some (.int .i64 0) := (blk_cell BK240.out 1).trans rfl
                have hfz18_0 := blk_frozen BK240.out 0
                have hfz18_1 := blk_frozen BK240.out 1
                go_wp2
                refine bodyPost_ret (results_ct rfl _ _ gb240 27 #[.int .i64 0, .int .i64 0] (0, 0) _ rfl (by (with_reducible repeat (first | refine blk_drewN ?_ _ | refine blk_drew ?_ | refine blk_alloc ?_ _)); refine blk_put (cs := #[.int .i64 0, .int .i64 0]) ?_ 1 _ rfl; (with_reducible repeat (first | refine blk_drewN ?_ _ | refine blk_drew ?_ | refine blk_alloc ?_ _)); refine blk_put (cs := #[.int .i64 0, .int .i64 0]) ?_ 0 _ rfl; exact iBK BK240.out) Try.underlying27 rfl (by kernel_rfl)) rfl ?_
                exact ⟨by first | rfl | (simp [errW_none, errW_some] <;> rfl) | (simp [*, errW_none, errW_some] <;> rfl), iHB⟩
              · replace c17 := Bool.eq_false_iff.mpr c17
                subst c17
                have H1 : (spec_l01Read.l0 kj10 a0 (wrap64 ((wrap64 (bt a0 0)) - 48)) y241 2) = some (r1, r2, r3) := by rw [if_neg (show ¬ (false = true) by decide)] at H; exact H
                clear H
                have H := H1
                clear H1
                have H' := Aside0.mk H
                clear H
                go_wp2
                go_loopg [5, 6] kj10 (fun kq v5 v6 w' => ∃ (x5_3 : List Int) (x6_3 : Int), v6 = .int .i64 x6_3 ∧ Aside0 (spec_l01Read.l0 kq a0 (wrap64 ((wrap64 (bt a0 0)) - 48)) x5_3 x6_3 = some (r1, r2, r3)) ∧ Aside0 (kq ≤ kj10) ∧ Aside0 (Kd.R (Kd.int .i64) 2 w' w.heap.size (fun _ => True) v5 x5_3) ∧ Aside0 (w'.heap[gb240]? = some (.cells #[.int .i64 0, .int .i64 0] 27 (0, 0))) ∧ Aside0 (Below w.heap.size w w'))
                case atStart => exact ⟨(y241), (2), (by first | rfl | (simp; done) | (simp [*]; done)), H', ⟨Nat.le_refl _⟩, ⟨by (with_reducible repeat (first | apply Kd.R_alloc | apply Kd.R_drewN | apply Kd.R_drew)); exact HO_5.out⟩, ⟨iBK BK240.out⟩, ⟨iHB⟩⟩
                case round =>
                  clear H'
                  try clear c17
                  obtain ⟨x5_3, x6_3, rfl, HA, HK3, HO_5, BK240, HB⟩ := hrel
                  cases gk with
                  | zero => exact absurd HA.out (by simp [spec_l01Read.l0])
                  | succ k3 =>
                    have H := HA.out
                    clear HA
                    simp only [spec_l01Read.l0] at H
                    by_cases c19 : x6_3 < (a0.size : Int)
                    · rw [if_pos c19] at H
                      have c19b0 : decide (x6_3 < (a0.size : Int)) = true := decide_eq_true c19
                      clear c19
                      by_cases c20 : 0 ≤ x6_3
                      · rw [if_pos c20] at H
                        have c20b0 : decide (0 ≤ x6_3) = true := decide_eq_true c20
                        clear c20
                        by_cases c22 : x5_3.length < 17592186044416
                        · rw [if_pos c22] at H
                          have LMc22 := Aside0.mk c22
                          clear c22
                          obtain ⟨y246, hy246⟩ : ∃ y_ : List Int, y_ = (x5_3 ++ [wrap64 ((wrap64 (bt a0 x6_3)) - 48)]) := ⟨_, rfl⟩
                          replace H : (spec_l01Read.l0 k3 a0 (wrap64 ((wrap64 (bt a0 0)) - 48)) y246 (wrap64 (x6_3 + 1))) = some (r1, r2, r3) := by first | (rw [hy246]; with_reducible exact H) | (have H2_ := (Option.bind_some _ _).symm.trans H; rw [hy246]; with_reducible exact H2_) | (have H2_ := (Option.bind_some _ _).symm.trans H; with_reducible exact H2_) | with_reducible exact H | (rw [hy246]; exact H) | exact H
                          have Ny246 := Aside0.mk hy246
                          clear hy246
                          have H' := Aside0.mk H
                          clear H
                          have p21 : 0 ≤ (x6_3 : Int) := of_decide_eq_true (by first | (with_reducible assumption) | assumption)
                          have q21 : x6_3 < (a0.size : Int) := of_decide_eq_true (by first | (with_reducible assumption) | assumption)
                          have hx21 := bt_at a0 x6_3
                          replace p21 := eq_true p21
                          replace q21 := eq_true q21
                          go_wp2_with (first | ((with_reducible refine gate_builtin (b := .append) (xs := #[.tmp 39, .tmp 45]) rfl ?_); (try (refine gate_guard (by rfl) ?_; dsimp only)); at_builtin; refine Kd.R_append (Kd.int .i64) (w0 := w) w.heap.size rfl (.tmp 39) (.tmp 45) 24 2 (.int .i64 0) 8 rfl Try.underlying24 info2 rfl (by decide) (by omega) u5 x5_3 (wrap64 ((wrap64 (bt a0 x6_3)) - 48)) [.int .i64 (wrap64 ((wrap64 (bt a0 x6_3)) - 48))] (fun _ => True) (fun _ => False) rfl rfl ?aP (fun _ hk => hk.elim) ?aF ?aO ?aB ?aS ?aL ?_; (case aP => exact rfl); (case aB => exact iHB); (case aF => exact (fun _ _ => trivial)); (case aO => exact (by (with_reducible repeat (first | apply Kd.R_alloc | apply Kd.R_drewN | apply Kd.R_drew)); exact HO_5.out)); (case aS => exact (below_size iHB)); (case aL => have := LMc22.out; omega); intro v247 w23 ho hb hg hat; rw [← Ny246.out] at ho; replace BK240 := aa (blk_grown (g := gb240) (o := .cells #[.int .i64 0, .int .i64 0] 27 (0, 0)) (iBK BK240.out) hg (Kd.R_ne HO_5.out BK240.out (by decide))); replace HB := aa (hb); have HO248 := aa (ho); clear HO_5 ho hb hg hat))
                          go_roundg k3
                          case measure => have := HJ1.out; have := HJ10.out; have := HK3.out; omega
                          case rel => exact ⟨(y246), (wrap64 (x6_3 + 1)), (by first | rfl | (simp; done) | (simp [*]; done)), H', ⟨by have := HJ1.out; have := HJ10.out; have := HK3.out; omega⟩, ⟨by (with_reducible repeat (first | apply Kd.R_alloc | apply Kd.R_drewN | apply Kd.R_drew)); exact HO248.out⟩, ⟨iBK BK240.out⟩, ⟨iHB⟩⟩
                        · rw [if_neg c22] at H
                          exact absurd H (by simp)
                      · rw [if_neg c20] at H
                        exact absurd H (by simp)
                    · rw [if_neg c19] at H
                      have c19b0 : decide (x6_3 < (a0.size : Int)) = false := decide_eq_false c19
                      clear c19
                      replace H := Option.bind_eq_some_iff.mp H
                      obtain ⟨t249, A240, H⟩ := H
                      replace H : (if t249 = true then ((spec_l01Of.f k3 (wrap64 ((wrap64 (bt a0 0)) - 48)) x5_3).bind fun bt250 => (some (bt250.1, bt250.2, true))) else (some (0, 0, false))) = some (r1, r2, r3) := H
                      have A24 := Aside0.mk A240
                      clear A240
                      by_cases c25 : t249 = true
                      · subst c25
                        have H1 : ((spec_l01Of.f k3 (wrap64 ((wrap64 (bt a0 0)) - 48)) x5_3).bind fun bt250 => (some (bt250.1, bt250.2, true))) = some (r1, r2, r3) := by rw [if_pos rfl] at H; exact H
                        clear H
                        have H := H1
                        clear H1
                        replace H := Option.bind_eq_some_iff.mp H
                        obtain ⟨⟨t250, t251⟩, A260, H⟩ := H
                        replace H : (some (t250, t251, true)) = some (r1, r2, r3) := H
                        have A26 := Aside0.mk A260
                        clear A260
                        simp only [Option.some.injEq, Prod.mk.injEq] at H
                        obtain ⟨rfl, rfl, rfl⟩ := H
                        obtain ⟨Ao27, co27, eo27⟩ := Kd.R_slice HO_5.out
                        subst eo27
                        go_wp2_with (first | ((with_reducible refine gate_callee (f := 85) rfl ?_); refine goesL_ (some 48) rfl rfl Try.func85 (by kernel_rfl) rfl #[.slice Ao27 x5_3.length co27] rfl iAR ?_; (with_reducible refine (spec_l01Bits.calls k3 _ _ x5_3 true _ ?side1 ?side2 A24.out).mono ?_); (case side1 => repeat (first | exact (Kd.R_reads' HO_5.out).2.2 | (with_reducible refine Kd.C_alloc ?_ _) | (with_reducible refine Kd.C_drewN ?_ _) | (with_reducible refine Kd.C_drew ?_))); (case side2 => exact (Kd.R_reads' HO_5.out).2.1); rintro e w' ⟨rfl, ⟨nd, rfl⟩⟩; refine ⟨_, rfl, ?_⟩; (try (rw [drewN_self wr]; generalize hq_ : World.drewN wr _ = wr; replace HO_5 : Aside0 (Kd.R (Kd.int .i64) 2 wr w.heap.size (fun _ => True) (.slice Ao27 x5_3.length co27) x5_3) := ⟨by rw [← hq_]; exact (by (with_reducible repeat (first | apply Kd.R_alloc | apply Kd.R_drewN | apply Kd.R_drew)); exact HO_5.out)⟩; replace BK240 : Aside0 (wr.heap[gb240]? = some (.cells #[.int .i64 0, .int .i64 0] 27 (0, 0))) := ⟨by rw [← hq_]; exact (iBK BK240.out)⟩; replace HB : Aside0 (Below w.heap.size w wr) := ⟨by rw [← hq_]; exact iHB⟩; clear hq_))) | ((with_reducible refine gate_callee (f := 86) rfl ?_); refine goesL_ (some 53) rfl rfl Try.func86 (by kernel_rfl) rfl #[.int .i64 (wrap64 ((wrap64 (bt a0 0)) - 48)), .slice Ao27 x5_3.length co27] rfl iAR ?_; (with_reducible refine (spec_l01Of.calls k3 (wrap64 ((wrap64 (bt a0 0)) - 48)) _ _ x5_3 t250 t251 _ ?side1 ?side2 A26.out).mono ?_); (case side1 => repeat (first | exact (Kd.R_reads' HO_5.out).2.2 | (with_reducible refine Kd.C_alloc ?_ _) | (with_reducible refine Kd.C_drewN ?_ _) | (with_reducible refine Kd.C_drew ?_))); (case side2 => exact (Kd.R_reads' HO_5.out).2.1); rintro e w28 ⟨rfl, hb⟩; refine ⟨_, rfl, ?_⟩; replace HO_5 := aa (Kd.R_below (by (with_reducible repeat (first | apply Kd.R_alloc | apply Kd.R_drewN | apply Kd.R_drew)); exact HO_5.out) hb); replace BK240 := aa (blk_below (iBK BK240.out) hb); replace HB := aa (below_step iHB hb); (try clear hb); have hcz29_0 : w28.cell? ⟨gb240, 0, none⟩ = some (.int .i64 0) := (blk_cell BK240.out 0).trans rfl; have hcz29_1 : w28.cell? ⟨gb240, 1, none⟩ = some (.int .i64 0) := (blk_cell BK240.out 1).trans rfl; have hfz29_0 := blk_frozen BK240.out 0; have hfz29_1 := blk_frozen BK240.out 1))
                        refine bodyPost_ret (results_ct rfl _ _ gb240 27 #[.int .i64 t250, .int .i64 t251] (0, 0) _ rfl (by (with_reducible repeat (first | refine blk_drewN ?_ _ | refine blk_drew ?_ | refine blk_alloc ?_ _)); refine blk_put (cs := #[.int .i64 t250, .int .i64 0]) ?_ 1 _ rfl; (with_reducible repeat (first | refine blk_drewN ?_ _ | refine blk_drew ?_ | refine blk_alloc ?_ _)); refine blk_put (cs := #[.int .i64 0, .int .i64 0]) ?_ 0 _ rfl; exact iBK BK240.out) Try.underlying27 rfl (by kernel_rfl)) rfl ?_
                        exact ⟨by first | rfl | (simp [errW_none, errW_some] <;> rfl) | (simp [*, errW_none, errW_some] <;> rfl), iHB⟩
                      · replace c25 := Bool.eq_false_iff.mpr c25
                        subst c25
                        have H1 : (some (0, 0, false)) = some (r1, r2, r3) := by rw [if_neg (show ¬ (false = true) by decide)] at H; exact H
                        clear H
                        have H := H1
                        clear H1
                        simp only [Option.some.injEq, Prod.mk.injEq] at H
                        obtain ⟨rfl, rfl, rfl⟩ := H
                        obtain ⟨Ao30, co30, eo30⟩ := Kd.R_slice HO_5.out
                        subst eo30
                        go_wp2_with (first | ((with_reducible refine gate_callee (f := 85) rfl ?_); refine goesL_ (some 48) rfl rfl Try.func85 (by kernel_rfl) rfl #[.slice Ao30 x5_3.length co30] rfl iAR ?_; (with_reducible refine (spec_l01Bits.calls k3 _ _ x5_3 false _ ?side1 ?side2 A24.out).mono ?_); (case side1 => repeat (first | exact (Kd.R_reads' HO_5.out).2.2 | (with_reducible refine Kd.C_alloc ?_ _) | (with_reducible refine Kd.C_drewN ?_ _) | (with_reducible refine Kd.C_drew ?_))); (case side2 => exact (Kd.R_reads' HO_5.out).2.1); rintro e w' ⟨rfl, ⟨nd, rfl⟩⟩; refine ⟨_, rfl, ?_⟩; (try (rw [drewN_self wr]; generalize hq_ : World.drewN wr _ = wr; replace HO_5 : Aside0 (Kd.R (Kd.int .i64) 2 wr w.heap.size (fun _ => True) (.slice Ao30 x5_3.length co30) x5_3) := ⟨by rw [← hq_]; exact (by (with_reducible repeat (first | apply Kd.R_alloc | apply Kd.R_drewN | apply Kd.R_drew)); exact HO_5.out)⟩; replace BK240 : Aside0 (wr.heap[gb240]? = some (.cells #[.int .i64 0, .int .i64 0] 27 (0, 0))) := ⟨by rw [← hq_]; exact (iBK BK240.out)⟩; replace HB : Aside0 (Below w.heap.size w wr) := ⟨by rw [← hq_]; exact iHB⟩; clear hq_)); have hcz31_0 : wr.cell? ⟨gb240, 0, none⟩ = some (.int .i64 0) := (blk_cell BK240.out 0).trans rfl; have hcz31_1 : wr.cell? ⟨gb240, 1, none⟩ = some (.int .i64 0) := (blk_cell BK240.out 1).trans rfl; have hfz31_0 := blk_frozen BK240.out 0; have hfz31_1 := blk_frozen BK240.out 1))
                        refine bodyPost_ret (results_ct rfl _ _ gb240 27 #[.int .i64 0, .int .i64 0] (0, 0) _ rfl (by (with_reducible repeat (first | refine blk_drewN ?_ _ | refine blk_drew ?_ | refine blk_alloc ?_ _)); refine blk_put (cs := #[.int .i64 0, .int .i64 0]) ?_ 1 _ rfl; (with_reducible repeat (first | refine blk_drewN ?_ _ | refine blk_drew ?_ | refine blk_alloc ?_ _)); refine blk_put (cs := #[.int .i64 0, .int .i64 0]) ?_ 0 _ rfl; exact iBK BK240.out) Try.underlying27 rfl (by kernel_rfl)) rfl ?_
                        exact ⟨by first | rfl | (simp [errW_none, errW_some] <;> rfl) | (simp [*, errW_none, errW_some] <;> rfl), iHB⟩
        · rw [if_neg c9] at H
          exact absurd H (by simp)
def spec_l01Fix.l0 : Nat → Int → Int → List Int → Int → Int → Int → Option (Int × Int)
  | 0, _, _, _, _, _, _ => none
  | k + 1, x1, x2, x7, x8, x253000, x253001 => (spec_l01Rows.f x253000).bind fun t257 => (if x8 < t257 then (if 0 ≤ (IntKind.u64.wrap (x1)) then (if (Go.bits .and .i64 (shr .i64 x8 (IntKind.u64.wrap (x1))) 1) = x2 then ((spec_l01At.f x253000 x253001 x8).bind fun t258 => (if x7.length < 17592186044416 then (spec_l01Fix.l0 k x1 x2 (x7 ++ [t258]) (wrap64 (x8 + 1)) x253000 x253001) else (none))) else (spec_l01Fix.l0 k x1 x2 x7 (wrap64 (x8 + 1)) x253000 x253001)) else (none)) else ((spec_l01Of.f k (wrap64 (x253000 - 1)) x7).bind fun bt262 => (some (bt262.1, bt262.2))))
def spec_l01Fix.f (k : Nat) (a0_0 : Int) (a0_1 : Int) (a1 : Int) (a2 : Int) : Option (Int × Int) := spec_l01Fix.l0 k a1 a2 (([] : List Int)) 0 a0_0 a0_1
set_option maxHeartbeats 8000000 in
set_option maxRecDepth 100000 in
theorem spec_l01Fix.calls (k : Nat) (a0_0 : Int) (a0_1 : Int) (a1 : Int) (a2 : Int) (r1 : Int) (r2 : Int) (w : World) (h : spec_l01Fix.f k a0_0 a0_1 a1 a2 = some (r1, r2)) :
    Calls Try.prog 132 #[.agg #[.int .i64 a0_0, .int .i64 a0_1], .int .i64 a1, .int .i64 a2] w fun e w' => e = .returned (.agg #[.int .i64 r1, .int .i64 r2]) ∧ Below w.heap.size w w' := by
  have hu27 := Try.underlying27
  have HB := aa (Below.refl w.heap.size w)
  have H : (spec_l01Fix.l0 k a1 a2 (([] : List Int)) 0 a0_0 a0_1) = some (r1, r2) := h
  clear h
  obtain ⟨y254, hy254⟩ : ∃ y_ : List Int, y_ = (([] : List Int)) := ⟨_, rfl⟩
  replace H : (spec_l01Fix.l0 k a1 a2 y254 0 a0_0 a0_1) = some (r1, r2) := by first | (rw [hy254]; with_reducible exact H) | (have H2_ := (Option.bind_some _ _).symm.trans H; rw [hy254]; with_reducible exact H2_) | (have H2_ := (Option.bind_some _ _).symm.trans H; with_reducible exact H2_) | with_reducible exact H | (rw [hy254]; exact H) | exact H
  have Ny254 := Aside0.mk hy254
  clear hy254
  have H' := Aside0.mk H
  clear H
  go_enter Try.func132, Try.ntmps132
  go_wp2_with (first | ((with_reducible refine gate_dst (N := 3) rfl ?_); refine box_event ?hg (N := 3) ?hd (cs := #[.int .i64 a0_0, .int .i64 a0_1]) (t := 27) ?hr ?_; (case hd => rfl); (case hg => rfl); (case hr => first | (go_simp; done) | (go_simp; rfl)); intro gb252 hg w4 hbox hb; have BK252 := aa (hbox); have GW252 := gwB (w := w) hg iHB; have GE252 := gwB (w := w) hg iHB; replace HB := aa (below_step iHB hb); clear hb hbox hg) | ((with_reducible refine gate_dst (N := 6) rfl ?_); refine box_event ?hg (N := 6) ?hd (cs := #[.int .i64 0, .int .i64 0]) (t := 27) ?hr ?_; (case hd => rfl); (case hg => rfl); (case hr => first | (go_simp; done) | (go_simp; rfl)); intro gb253 hg w5 hbox hb; have BK253 := aa (hbox); have GW253 := gwB (w := w) hg iHB; have GE253 := gwB (w := w) hg iHB; replace HB := aa (below_step iHB hb); have NB252_253 := nbL hg (iBK BK252.out); have NB253_252 := nbR hg (iBK BK252.out); replace BK252 := aa (blk_below (iBK BK252.out) hb); clear hb hbox hg) | ((with_reducible refine gate_dst (N := 9) rfl ?_); refine Kd.R_lit (Kd.int .i64) _ 2 ?hg (N := 9) ?hd (xs := ([] : List Int)) (inner := []) (ok := fun _ => True) (okp := fun _ => True) ?hr ?hp (fun _ hk => hk) trivial (Below.refl _ _) (Nat.le_refl _) (by simp) ?_; (case hd => rfl); (case hg => rfl); (case hr => first | (go_simp; done) | (go_simp; rfl)); (case hp => exact (Reps.none _ _)); intro v255 w6 ho7 hb hg_ hnew_; clear hg_ hnew_; (first | rw [← Ny254.out] at ho7 | (simp only [Int.reduceToNat] at ho7; rw [← Ny254.out] at ho7)); have HO256 := aa (Kd.R_lower ho7 (below_size iHB)); replace BK252 := aa (blk_below (iBK BK252.out) hb); replace BK253 := aa (blk_below (iBK BK253.out) hb); replace HB := aa (below_step iHB hb); clear hb ho7))
  go_loopg [7, 8] k (fun kq v7 v8 w' => ∃ (x7_1 : List Int) (x8_1 : Int), v8 = .int .i64 x8_1 ∧ Aside0 (spec_l01Fix.l0 kq a1 a2 x7_1 x8_1 a0_0 a0_1 = some (r1, r2)) ∧ Aside0 (kq ≤ k) ∧ Aside0 (Kd.R (Kd.int .i64) 2 w' w.heap.size (fun _ => True) v7 x7_1) ∧ Aside0 (w'.heap[gb252]? = some (.cells #[.int .i64 a0_0, .int .i64 a0_1] 27 (0, 0))) ∧ Aside0 (w'.heap[gb253]? = some (.cells #[.int .i64 0, .int .i64 0] 27 (0, 0))) ∧ Aside0 (Below w.heap.size w w'))
  case atStart => exact ⟨(y254), (0), (by first | rfl | (simp; done) | (simp [*]; done)), H', ⟨Nat.le_refl _⟩, ⟨by (with_reducible repeat (first | apply Kd.R_alloc | apply Kd.R_drewN | apply Kd.R_drew)); exact HO256.out⟩, ⟨iBK BK252.out⟩, ⟨iBK BK253.out⟩, ⟨iHB⟩⟩
  case round =>
    clear H'
    obtain ⟨x7_1, x8_1, rfl, HA, HK1, HO_7, BK252, BK253, HB⟩ := hrel
    cases gk with
    | zero => exact absurd HA.out (by simp [spec_l01Fix.l0])
    | succ k1 =>
      have H := HA.out
      clear HA
      simp only [spec_l01Fix.l0] at H
      replace H := Option.bind_eq_some_iff.mp H
      obtain ⟨t257, A80, H⟩ := H
      replace H : (if x8_1 < t257 then (if 0 ≤ (IntKind.u64.wrap (a1)) then (if (Go.bits .and .i64 (shr .i64 x8_1 (IntKind.u64.wrap (a1))) 1) = a2 then ((spec_l01At.f a0_0 a0_1 x8_1).bind fun t258 => (if x7_1.length < 17592186044416 then (spec_l01Fix.l0 k1 a1 a2 (x7_1 ++ [t258]) (wrap64 (x8_1 + 1)) a0_0 a0_1) else (none))) else (spec_l01Fix.l0 k1 a1 a2 x7_1 (wrap64 (x8_1 + 1)) a0_0 a0_1)) else (none)) else ((spec_l01Of.f k1 (wrap64 (a0_0 - 1)) x7_1).bind fun bt262 => (some (bt262.1, bt262.2)))) = some (r1, r2) := H
      have A8 := Aside0.mk A80
      clear A80
      by_cases c9 : x8_1 < t257
      · rw [if_pos c9] at H
        have c9b0 : decide (x8_1 < t257) = true := decide_eq_true c9
        clear c9
        obtain ⟨ji10, hji10⟩ : ∃ j_ : Int, (IntKind.u64.wrap (a1)) = j_ := ⟨_, rfl⟩
        replace H : (if 0 ≤ (ji10) then (if (Go.bits .and .i64 (shr .i64 x8_1 (ji10)) 1) = a2 then ((spec_l01At.f a0_0 a0_1 x8_1).bind fun t258 => (if x7_1.length < 17592186044416 then (spec_l01Fix.l0 k1 a1 a2 (x7_1 ++ [t258]) (wrap64 (x8_1 + 1)) a0_0 a0_1) else (none))) else (spec_l01Fix.l0 k1 a1 a2 x7_1 (wrap64 (x8_1 + 1)) a0_0 a0_1)) else (none)) = some (r1, r2) := by first | (rw [hji10] at H; exact H) | (simp only [hji10] at H ⊢; exact H)
        (try rw [hji10] at A8)
        by_cases c11 : 0 ≤ (ji10)
        · rw [if_pos c11] at H
          have c11b0 := eq_true c11
          have c11b1 : decide (0 ≤ (ji10)) = true := decide_eq_true c11
          clear c11
          obtain ⟨ji12, hji12⟩ : ∃ j_ : Int, (shr .i64 x8_1 (ji10)) = j_ := ⟨_, rfl⟩
          replace H : (if (Go.bits .and .i64 (ji12) 1) = a2 then ((spec_l01At.f a0_0 a0_1 x8_1).bind fun t258 => (if x7_1.length < 17592186044416 then (spec_l01Fix.l0 k1 a1 a2 (x7_1 ++ [t258]) (wrap64 (x8_1 + 1)) a0_0 a0_1) else (none))) else (spec_l01Fix.l0 k1 a1 a2 x7_1 (wrap64 (x8_1 + 1)) a0_0 a0_1)) = some (r1, r2) := by first | (rw [hji12] at H; exact H) | (simp only [hji12] at H ⊢; exact H)
          (try rw [hji12] at A8)
          have hji12_ : (x8_1 / 2 ^ min (ji10).toNat 64) = ji12 := hji12
          have hji12z : (ji10) ≤ 64 → (x8_1 / 2 ^ (ji10).toNat) = ji12 := shr_small hji12
          by_cases c13 : (Go.bits .and .i64 (ji12) 1) = a2
          · rw [if_pos c13] at H
            have c13b0 : ((Go.bits .and .i64 (ji12) 1) == a2) = true := beq_iff_eq.mpr c13
            have c13b1 : ((Go.bits .and .i64 (ji12) 1) != a2) = false := bne_eq_false_iff_eq.mpr c13
            clear c13
            replace H := Option.bind_eq_some_iff.mp H
            obtain ⟨t258, A140, H⟩ := H
            replace H : (if x7_1.length < 17592186044416 then (spec_l01Fix.l0 k1 a1 a2 (x7_1 ++ [t258]) (wrap64 (x8_1 + 1)) a0_0 a0_1) else (none)) = some (r1, r2) := H
            have A14 := Aside0.mk A140
            clear A140
            by_cases c15 : x7_1.length < 17592186044416
            · rw [if_pos c15] at H
              have LMc15 := Aside0.mk c15
              clear c15
              obtain ⟨y259, hy259⟩ : ∃ y_ : List Int, y_ = (x7_1 ++ [t258]) := ⟨_, rfl⟩
              replace H : (spec_l01Fix.l0 k1 a1 a2 y259 (wrap64 (x8_1 + 1)) a0_0 a0_1) = some (r1, r2) := by first | (rw [hy259]; with_reducible exact H) | (have H2_ := (Option.bind_some _ _).symm.trans H; rw [hy259]; with_reducible exact H2_) | (have H2_ := (Option.bind_some _ _).symm.trans H; with_reducible exact H2_) | with_reducible exact H | (rw [hy259]; exact H) | exact H
              have Ny259 := Aside0.mk hy259
              clear hy259
              have H' := Aside0.mk H
              clear H
              have hnb16 := NB252_253.out
              have hnc16 := NB253_252.out
              have hcz17_0 : wr.cell? ⟨gb252, 0, none⟩ = some (.int .i64 a0_0) := (blk_cell BK252.out 0).trans rfl
              have hcz17_1 : wr.cell? ⟨gb252, 1, none⟩ = some (.int .i64 a0_1) := (blk_cell BK252.out 1).trans rfl
              have hfz17_0 := blk_frozen BK252.out 0
              have hfz17_1 := blk_frozen BK252.out 1
              go_wp2_with (first | ((with_reducible refine gate_callee (f := 68) rfl ?_); refine goesL_ (some 13) rfl rfl Try.func68 (by kernel_rfl) rfl #[.int .i64 a0_0] rfl iAR ?_; (with_reducible refine (spec_l01Rows.calls a0_0 t257 _ A8.out).mono ?_); rintro e w' ⟨rfl, ⟨nd, rfl⟩⟩; refine ⟨_, rfl, ?_⟩) | ((with_reducible refine gate_callee (f := 69) rfl ?_); refine goesL_ (some 27) rfl rfl Try.func69 (by kernel_rfl) rfl #[.agg #[.int .i64 a0_0, .int .i64 a0_1], .int .i64 x8_1] rfl iAR ?_; (with_reducible refine (spec_l01At.calls a0_0 a0_1 x8_1 t258 _ A14.out).mono ?_); rintro e w18 ⟨rfl, hb⟩; refine ⟨_, rfl, ?_⟩; replace HO_7 := aa (Kd.R_below (by (with_reducible repeat (first | apply Kd.R_alloc | apply Kd.R_drewN | apply Kd.R_drew)); exact HO_7.out) hb); replace BK252 := aa (blk_below (iBK BK252.out) hb); replace BK253 := aa (blk_below (iBK BK253.out) hb); replace HB := aa (below_step iHB hb); (try clear hb)) | ((with_reducible refine gate_builtin (b := .append) (xs := #[.tmp 24, .tmp 28]) rfl ?_); at_builtin; refine Kd.R_append (Kd.int .i64) (w0 := w) w.heap.size rfl (.tmp 24) (.tmp 28) 24 2 (.int .i64 0) 8 rfl Try.underlying24 info2 rfl (by decide) (by omega) u7 x7_1 t258 [.int .i64 t258] (fun _ => True) (fun _ => False) rfl rfl ?aP (fun _ hk => hk.elim) ?aF ?aO ?aB ?aS ?aL ?_; (case aP => exact rfl); (case aB => exact iHB); (case aF => exact (fun _ _ => trivial)); (case aO => exact (by (with_reducible repeat (first | apply Kd.R_alloc | apply Kd.R_drewN | apply Kd.R_drew)); exact HO_7.out)); (case aS => exact (below_size iHB)); (case aL => have := LMc15.out; omega); intro v260 w19 ho hb hg hat; rw [← Ny259.out] at ho; replace BK252 := aa (blk_grown (g := gb252) (o := .cells #[.int .i64 a0_0, .int .i64 a0_1] 27 (0, 0)) (iBK BK252.out) hg (Kd.R_ne HO_7.out BK252.out (by decide))); replace BK253 := aa (blk_grown (g := gb253) (o := .cells #[.int .i64 0, .int .i64 0] 27 (0, 0)) (iBK BK253.out) hg (Kd.R_ne HO_7.out BK253.out (by decide))); replace HB := aa (hb); have HO261 := aa (ho); clear HO_7 ho hb hg hat))
              go_roundg k1
              case measure => have := HK1.out; omega
              case rel => exact ⟨(y259), (wrap64 (x8_1 + 1)), (by first | rfl | (simp; done) | (simp [*]; done)), H', ⟨by have := HK1.out; omega⟩, ⟨by (with_reducible repeat (first | apply Kd.R_alloc | apply Kd.R_drewN | apply Kd.R_drew)); exact HO261.out⟩, ⟨iBK BK252.out⟩, ⟨iBK BK253.out⟩, ⟨iHB⟩⟩
            · rw [if_neg c15] at H
              exact absurd H (by simp)
          · rw [if_neg c13] at H
            have c13b0 : ((Go.bits .and .i64 (ji12) 1) == a2) = false := beq_eq_false_iff_ne.mpr c13
            have c13b1 : ((Go.bits .and .i64 (ji12) 1) != a2) = true := bne_iff_ne.mpr c13
            have H' := Aside0.mk H
            clear H
            have hnb20 := NB252_253.out
            have hnc20 := NB253_252.out
            have hcz21_0 : wr.cell? ⟨gb252, 0, none⟩ = some (.int .i64 a0_0) := (blk_cell BK252.out 0).trans rfl
            have hcz21_1 : wr.cell? ⟨gb252, 1, none⟩ = some (.int .i64 a0_1) := (blk_cell BK252.out 1).trans rfl
            have hfz21_0 := blk_frozen BK252.out 0
            have hfz21_1 := blk_frozen BK252.out 1
            go_wp2_with (first | ((with_reducible refine gate_callee (f := 68) rfl ?_); refine goesL_ (some 13) rfl rfl Try.func68 (by kernel_rfl) rfl #[.int .i64 a0_0] rfl iAR ?_; (with_reducible refine (spec_l01Rows.calls a0_0 t257 _ A8.out).mono ?_); rintro e w' ⟨rfl, ⟨nd, rfl⟩⟩; refine ⟨_, rfl, ?_⟩))
            go_roundg k1
            case measure => have := HK1.out; omega
            case rel => exact ⟨(x7_1), (wrap64 (x8_1 + 1)), (by first | rfl | (simp; done) | (simp [*]; done)), H', ⟨by have := HK1.out; omega⟩, ⟨by (with_reducible repeat (first | apply Kd.R_alloc | apply Kd.R_drewN | apply Kd.R_drew)); exact HO_7.out⟩, ⟨iBK BK252.out⟩, ⟨iBK BK253.out⟩, ⟨iHB⟩⟩
        · rw [if_neg c11] at H
          exact absurd H (by simp)
      · rw [if_neg c9] at H
        have c9b0 : decide (x8_1 < t257) = false := decide_eq_false c9
        clear c9
        replace H := Option.bind_eq_some_iff.mp H
        obtain ⟨⟨t262, t263⟩, A220, H⟩ := H
        replace H : (some (t262, t263)) = some (r1, r2) := H
        have A22 := Aside0.mk A220
        clear A220
        simp only [Option.some.injEq, Prod.mk.injEq] at H
        obtain ⟨rfl, rfl⟩ := H
        have hnb23 := NB252_253.out
        have hnc23 := NB253_252.out
        have hcz24_0 : wr.cell? ⟨gb252, 0, none⟩ = some (.int .i64 a0_0) := (blk_cell BK252.out 0).trans rfl
        have hcz24_1 : wr.cell? ⟨gb252, 1, none⟩ = some (.int .i64 a0_1) := (blk_cell BK252.out 1).trans rfl
        have hfz24_0 := blk_frozen BK252.out 0
        have hfz24_1 := blk_frozen BK252.out 1
        go_wp2_with (first | ((with_reducible refine gate_callee (f := 68) rfl ?_); refine goesL_ (some 13) rfl rfl Try.func68 (by kernel_rfl) rfl #[.int .i64 a0_0] rfl iAR ?_; (with_reducible refine (spec_l01Rows.calls a0_0 t257 _ A8.out).mono ?_); rintro e w' ⟨rfl, ⟨nd, rfl⟩⟩; refine ⟨_, rfl, ?_⟩; (try (rw [drewN_self wr]; generalize hq_ : World.drewN wr _ = wr; replace HO_7 : Aside0 (Kd.R (Kd.int .i64) 2 wr w.heap.size (fun _ => True) u7 x7_1) := ⟨by rw [← hq_]; exact (by (with_reducible repeat (first | apply Kd.R_alloc | apply Kd.R_drewN | apply Kd.R_drew)); exact HO_7.out)⟩; replace BK252 : Aside0 (wr.heap[gb252]? = some (.cells #[.int .i64 a0_0, .int .i64 a0_1] 27 (0, 0))) := ⟨by rw [← hq_]; exact (iBK BK252.out)⟩; replace BK253 : Aside0 (wr.heap[gb253]? = some (.cells #[.int .i64 0, .int .i64 0] 27 (0, 0))) := ⟨by rw [← hq_]; exact (iBK BK253.out)⟩; replace HB : Aside0 (Below w.heap.size w wr) := ⟨by rw [← hq_]; exact iHB⟩; clear hq_; have hzz252_0 : wr.cell? ⟨gb252, 0, none⟩ = some (.int .i64 a0_0) := (blk_cell BK252.out 0).trans rfl; have hzz252_1 : wr.cell? ⟨gb252, 1, none⟩ = some (.int .i64 a0_1) := (blk_cell BK252.out 1).trans rfl; have hzz253_0 : wr.cell? ⟨gb253, 0, none⟩ = some (.int .i64 0) := (blk_cell BK253.out 0).trans rfl; have hzz253_1 : wr.cell? ⟨gb253, 1, none⟩ = some (.int .i64 0) := (blk_cell BK253.out 1).trans rfl)); obtain ⟨Ao25, co25, eo25⟩ := Kd.R_slice HO_7.out; subst eo25) | ((with_reducible refine gate_callee (f := 86) rfl ?_); refine goesL_ (some 34) rfl rfl Try.func86 (by kernel_rfl) rfl #[.int .i64 (wrap64 (a0_0 - 1)), .slice Ao25 x7_1.length co25] rfl iAR ?_; (with_reducible refine (spec_l01Of.calls k1 (wrap64 (a0_0 - 1)) _ _ x7_1 t262 t263 _ ?side1 ?side2 A22.out).mono ?_); (case side1 => repeat (first | exact (Kd.R_reads' HO_7.out).2.2 | (with_reducible refine Kd.C_alloc ?_ _) | (with_reducible refine Kd.C_drewN ?_ _) | (with_reducible refine Kd.C_drew ?_))); (case side2 => exact (Kd.R_reads' HO_7.out).2.1); rintro e w26 ⟨rfl, hb⟩; refine ⟨_, rfl, ?_⟩; replace HO_7 := aa (Kd.R_below (by (with_reducible repeat (first | apply Kd.R_alloc | apply Kd.R_drewN | apply Kd.R_drew)); exact HO_7.out) hb); replace BK252 := aa (blk_below (iBK BK252.out) hb); replace BK253 := aa (blk_below (iBK BK253.out) hb); replace HB := aa (below_step iHB hb); (try clear hb); have hcz27_0 : w26.cell? ⟨gb253, 0, none⟩ = some (.int .i64 0) := (blk_cell BK253.out 0).trans rfl; have hcz27_1 : w26.cell? ⟨gb253, 1, none⟩ = some (.int .i64 0) := (blk_cell BK253.out 1).trans rfl; have hfz27_0 := blk_frozen BK253.out 0; have hfz27_1 := blk_frozen BK253.out 1))
        refine bodyPost_ret (results_cell_row rfl _ _ gb253 27 #[.int .i64 t262, .int .i64 t263] (0, 0) _ rfl (by (with_reducible repeat (first | refine blk_drewN ?_ _ | refine blk_drew ?_ | refine blk_alloc ?_ _)); refine blk_put (cs := #[.int .i64 t262, .int .i64 0]) ?_ 1 _ rfl; (with_reducible repeat (first | refine blk_drewN ?_ _ | refine blk_drew ?_ | refine blk_alloc ?_ _)); refine blk_put (cs := #[.int .i64 0, .int .i64 0]) ?_ 0 _ rfl; exact iBK BK253.out) Try.underlying27 rfl (by kernel_rfl)) rfl ?_
        exact ⟨by first | rfl | (simp [errW_none, errW_some] <;> rfl) | (simp [*, errW_none, errW_some] <;> rfl), iHB⟩
def spec_l01Dual.l0 : Nat → List Int → Int → Int → Int → Int → Option (Int × Int)
  | 0, _, _, _, _, _ => none
  | k + 1, x3, x4, x5, x265000, x265001 => if x5 < x4 then ((spec_l01At.f x265000 x265001 (wrap64 ((wrap64 (x4 - 1)) - x5))).bind fun t270 => (if x3.length < 17592186044416 then (spec_l01Dual.l0 k (x3 ++ [wrap64 (1 - t270)]) x4 (wrap64 (x5 + 1)) x265000 x265001) else (none))) else ((spec_l01Of.f k x265000 x3).bind fun bt274 => (some (bt274.1, bt274.2)))
def spec_l01Dual.f (k : Nat) (a0_0 : Int) (a0_1 : Int) : Option (Int × Int) := (spec_l01Rows.f a0_0).bind fun t269 => (spec_l01Dual.l0 k (([] : List Int)) t269 0 a0_0 a0_1)
set_option maxHeartbeats 8000000 in
set_option maxRecDepth 100000 in
theorem spec_l01Dual.calls (k : Nat) (a0_0 : Int) (a0_1 : Int) (r1 : Int) (r2 : Int) (w : World) (h : spec_l01Dual.f k a0_0 a0_1 = some (r1, r2)) :
    Calls Try.prog 133 #[.agg #[.int .i64 a0_0, .int .i64 a0_1]] w fun e w' => e = .returned (.agg #[.int .i64 r1, .int .i64 r2]) ∧ Below w.heap.size w w' := by
  have hu27 := Try.underlying27
  have HB := aa (Below.refl w.heap.size w)
  have H : ((spec_l01Rows.f a0_0).bind fun t269 => (spec_l01Dual.l0 k (([] : List Int)) t269 0 a0_0 a0_1)) = some (r1, r2) := h
  clear h
  obtain ⟨y266, hy266⟩ : ∃ y_ : List Int, y_ = (([] : List Int)) := ⟨_, rfl⟩
  replace H : ((spec_l01Rows.f a0_0).bind fun t269 => (spec_l01Dual.l0 k y266 t269 0 a0_0 a0_1)) = some (r1, r2) := by first | (rw [hy266]; with_reducible exact H) | (have H2_ := (Option.bind_some _ _).symm.trans H; rw [hy266]; with_reducible exact H2_) | (have H2_ := (Option.bind_some _ _).symm.trans H; with_reducible exact H2_) | with_reducible exact H | (rw [hy266]; exact H) | exact H
  have Ny266 := Aside0.mk hy266
  clear hy266
  replace H := Option.bind_eq_some_iff.mp H
  obtain ⟨t269, A20, H⟩ := H
  replace H : (spec_l01Dual.l0 k y266 t269 0 a0_0 a0_1) = some (r1, r2) := H
  have A2 := Aside0.mk A20
  clear A20
  have H' := Aside0.mk H
  clear H
  go_enter Try.func133, Try.ntmps133
  go_wp2_with (first | ((with_reducible refine gate_dst (N := 1) rfl ?_); refine box_event ?hg (N := 1) ?hd (cs := #[.int .i64 a0_0, .int .i64 a0_1]) (t := 27) ?hr ?_; (case hd => rfl); (case hg => rfl); (case hr => first | (go_simp; done) | (go_simp; rfl)); intro gb264 hg w3 hbox hb; have BK264 := aa (hbox); have GW264 := gwB (w := w) hg iHB; have GE264 := gwB (w := w) hg iHB; replace HB := aa (below_step iHB hb); clear hb hbox hg) | ((with_reducible refine gate_dst (N := 2) rfl ?_); refine box_event ?hg (N := 2) ?hd (cs := #[.int .i64 0, .int .i64 0]) (t := 27) ?hr ?_; (case hd => rfl); (case hg => rfl); (case hr => first | (go_simp; done) | (go_simp; rfl)); intro gb265 hg w4 hbox hb; have BK265 := aa (hbox); have GW265 := gwB (w := w) hg iHB; have GE265 := gwB (w := w) hg iHB; replace HB := aa (below_step iHB hb); have NB264_265 := nbL hg (iBK BK264.out); have NB265_264 := nbR hg (iBK BK264.out); replace BK264 := aa (blk_below (iBK BK264.out) hb); clear hb hbox hg) | ((with_reducible refine gate_dst (N := 6) rfl ?_); refine Kd.R_lit (Kd.int .i64) _ 2 ?hg (N := 6) ?hd (xs := ([] : List Int)) (inner := []) (ok := fun _ => True) (okp := fun _ => True) ?hr ?hp (fun _ hk => hk) trivial (Below.refl _ _) (Nat.le_refl _) (by simp) ?_; (case hd => rfl); (case hg => rfl); (case hr => first | (go_simp; done) | (go_simp; rfl)); (case hp => exact (Reps.none _ _)); intro v267 w5 ho6 hb hg_ hnew_; clear hg_ hnew_; (first | rw [← Ny266.out] at ho6 | (simp only [Int.reduceToNat] at ho6; rw [← Ny266.out] at ho6)); have HO268 := aa (Kd.R_lower ho6 (below_size iHB)); replace BK264 := aa (blk_below (iBK BK264.out) hb); replace BK265 := aa (blk_below (iBK BK265.out) hb); replace HB := aa (below_step iHB hb); clear hb ho6; have hnb7 := NB264_265.out; have hnc7 := NB265_264.out; have hcz8_0 : w5.cell? ⟨gb264, 0, none⟩ = some (.int .i64 a0_0) := (blk_cell BK264.out 0).trans rfl; have hcz8_1 : w5.cell? ⟨gb264, 1, none⟩ = some (.int .i64 a0_1) := (blk_cell BK264.out 1).trans rfl; have hfz8_0 := blk_frozen BK264.out 0; have hfz8_1 := blk_frozen BK264.out 1) | ((with_reducible refine gate_callee (f := 68) rfl ?_); refine goesL_ (some 9) rfl rfl Try.func68 (by kernel_rfl) rfl #[.int .i64 a0_0] rfl iAR ?_; (with_reducible refine (spec_l01Rows.calls a0_0 t269 _ A2.out).mono ?_); rintro e w' ⟨rfl, ⟨nd, rfl⟩⟩; refine ⟨_, rfl, ?_⟩))
  go_loopg [3, 5] k (fun kq v3 v5 w' => ∃ (x3_1 : List Int) (x5_1 : Int), v5 = .int .i64 x5_1 ∧ Aside0 (spec_l01Dual.l0 kq x3_1 t269 x5_1 a0_0 a0_1 = some (r1, r2)) ∧ Aside0 (kq ≤ k) ∧ Aside0 (Kd.R (Kd.int .i64) 2 w' w.heap.size (fun _ => True) v3 x3_1) ∧ Aside0 (w'.heap[gb264]? = some (.cells #[.int .i64 a0_0, .int .i64 a0_1] 27 (0, 0))) ∧ Aside0 (w'.heap[gb265]? = some (.cells #[.int .i64 0, .int .i64 0] 27 (0, 0))) ∧ Aside0 (Below w.heap.size w w'))
  case atStart => exact ⟨(y266), (0), (by first | rfl | (simp; done) | (simp [*]; done)), H', ⟨Nat.le_refl _⟩, ⟨by (with_reducible repeat (first | apply Kd.R_alloc | apply Kd.R_drewN | apply Kd.R_drew)); exact HO268.out⟩, ⟨iBK BK264.out⟩, ⟨iBK BK265.out⟩, ⟨iHB⟩⟩
  case round =>
    clear H'
    try clear hcz8_0
    try clear hcz8_1
    try clear hfz8_0
    try clear hfz8_1
    obtain ⟨x3_1, x5_1, rfl, HA, HK1, HO_3, BK264, BK265, HB⟩ := hrel
    cases gk with
    | zero => exact absurd HA.out (by simp [spec_l01Dual.l0])
    | succ k1 =>
      have H := HA.out
      clear HA
      simp only [spec_l01Dual.l0] at H
      by_cases c9 : x5_1 < t269
      · rw [if_pos c9] at H
        have c9b0 : decide (x5_1 < t269) = true := decide_eq_true c9
        clear c9
        replace H := Option.bind_eq_some_iff.mp H
        obtain ⟨t270, A100, H⟩ := H
        replace H : (if x3_1.length < 17592186044416 then (spec_l01Dual.l0 k1 (x3_1 ++ [wrap64 (1 - t270)]) t269 (wrap64 (x5_1 + 1)) a0_0 a0_1) else (none)) = some (r1, r2) := H
        have A10 := Aside0.mk A100
        clear A100
        by_cases c11 : x3_1.length < 17592186044416
        · rw [if_pos c11] at H
          have LMc11 := Aside0.mk c11
          clear c11
          obtain ⟨y271, hy271⟩ : ∃ y_ : List Int, y_ = (x3_1 ++ [wrap64 (1 - t270)]) := ⟨_, rfl⟩
          replace H : (spec_l01Dual.l0 k1 y271 t269 (wrap64 (x5_1 + 1)) a0_0 a0_1) = some (r1, r2) := by first | (rw [hy271]; with_reducible exact H) | (have H2_ := (Option.bind_some _ _).symm.trans H; rw [hy271]; with_reducible exact H2_) | (have H2_ := (Option.bind_some _ _).symm.trans H; with_reducible exact H2_) | with_reducible exact H | (rw [hy271]; exact H) | exact H
          have Ny271 := Aside0.mk hy271
          clear hy271
          have H' := Aside0.mk H
          clear H
          have hnb12 := NB264_265.out
          have hnc12 := NB265_264.out
          have hcz13_0 : wr.cell? ⟨gb264, 0, none⟩ = some (.int .i64 a0_0) := (blk_cell BK264.out 0).trans rfl
          have hcz13_1 : wr.cell? ⟨gb264, 1, none⟩ = some (.int .i64 a0_1) := (blk_cell BK264.out 1).trans rfl
          have hfz13_0 := blk_frozen BK264.out 0
          have hfz13_1 := blk_frozen BK264.out 1
          go_wp2_with (first | ((with_reducible refine gate_callee (f := 69) rfl ?_); refine goesL_ (some 21) rfl rfl Try.func69 (by kernel_rfl) rfl #[.agg #[.int .i64 a0_0, .int .i64 a0_1], .int .i64 (wrap64 ((wrap64 (t269 - 1)) - x5_1))] rfl iAR ?_; (with_reducible refine (spec_l01At.calls a0_0 a0_1 (wrap64 ((wrap64 (t269 - 1)) - x5_1)) t270 _ A10.out).mono ?_); rintro e w14 ⟨rfl, hb⟩; refine ⟨_, rfl, ?_⟩; replace HO_3 := aa (Kd.R_below (by (with_reducible repeat (first | apply Kd.R_alloc | apply Kd.R_drewN | apply Kd.R_drew)); exact HO_3.out) hb); replace BK264 := aa (blk_below (iBK BK264.out) hb); replace BK265 := aa (blk_below (iBK BK265.out) hb); replace HB := aa (below_step iHB hb); (try clear hb)) | ((with_reducible refine gate_builtin (b := .append) (xs := #[.tmp 15, .tmp 23]) rfl ?_); at_builtin; refine Kd.R_append (Kd.int .i64) (w0 := w) w.heap.size rfl (.tmp 15) (.tmp 23) 24 2 (.int .i64 0) 8 rfl Try.underlying24 info2 rfl (by decide) (by omega) u3 x3_1 (wrap64 (1 - t270)) [.int .i64 (wrap64 (1 - t270))] (fun _ => True) (fun _ => False) rfl rfl ?aP (fun _ hk => hk.elim) ?aF ?aO ?aB ?aS ?aL ?_; (case aP => exact rfl); (case aB => exact iHB); (case aF => exact (fun _ _ => trivial)); (case aO => exact (by (with_reducible repeat (first | apply Kd.R_alloc | apply Kd.R_drewN | apply Kd.R_drew)); exact HO_3.out)); (case aS => exact (below_size iHB)); (case aL => have := LMc11.out; omega); intro v272 w15 ho hb hg hat; rw [← Ny271.out] at ho; replace BK264 := aa (blk_grown (g := gb264) (o := .cells #[.int .i64 a0_0, .int .i64 a0_1] 27 (0, 0)) (iBK BK264.out) hg (Kd.R_ne HO_3.out BK264.out (by decide))); replace BK265 := aa (blk_grown (g := gb265) (o := .cells #[.int .i64 0, .int .i64 0] 27 (0, 0)) (iBK BK265.out) hg (Kd.R_ne HO_3.out BK265.out (by decide))); replace HB := aa (hb); have HO273 := aa (ho); clear HO_3 ho hb hg hat))
          go_roundg k1
          case measure => have := HK1.out; omega
          case rel => exact ⟨(y271), (wrap64 (x5_1 + 1)), (by first | rfl | (simp; done) | (simp [*]; done)), H', ⟨by have := HK1.out; omega⟩, ⟨by (with_reducible repeat (first | apply Kd.R_alloc | apply Kd.R_drewN | apply Kd.R_drew)); exact HO273.out⟩, ⟨iBK BK264.out⟩, ⟨iBK BK265.out⟩, ⟨iHB⟩⟩
        · rw [if_neg c11] at H
          exact absurd H (by simp)
      · rw [if_neg c9] at H
        have c9b0 : decide (x5_1 < t269) = false := decide_eq_false c9
        clear c9
        replace H := Option.bind_eq_some_iff.mp H
        obtain ⟨⟨t274, t275⟩, A160, H⟩ := H
        replace H : (some (t274, t275)) = some (r1, r2) := H
        have A16 := Aside0.mk A160
        clear A160
        simp only [Option.some.injEq, Prod.mk.injEq] at H
        obtain ⟨rfl, rfl⟩ := H
        have hnb17 := NB264_265.out
        have hnc17 := NB265_264.out
        have hcz18_0 : wr.cell? ⟨gb264, 0, none⟩ = some (.int .i64 a0_0) := (blk_cell BK264.out 0).trans rfl
        have hcz18_1 : wr.cell? ⟨gb264, 1, none⟩ = some (.int .i64 a0_1) := (blk_cell BK264.out 1).trans rfl
        have hfz18_0 := blk_frozen BK264.out 0
        have hfz18_1 := blk_frozen BK264.out 1
        obtain ⟨Ao19, co19, eo19⟩ := Kd.R_slice HO_3.out
        subst eo19
        go_wp2_with (first | ((with_reducible refine gate_callee (f := 86) rfl ?_); refine goesL_ (some 28) rfl rfl Try.func86 (by kernel_rfl) rfl #[.int .i64 a0_0, .slice Ao19 x3_1.length co19] rfl iAR ?_; (with_reducible refine (spec_l01Of.calls k1 a0_0 _ _ x3_1 t274 t275 _ ?side1 ?side2 A16.out).mono ?_); (case side1 => repeat (first | exact (Kd.R_reads' HO_3.out).2.2 | (with_reducible refine Kd.C_alloc ?_ _) | (with_reducible refine Kd.C_drewN ?_ _) | (with_reducible refine Kd.C_drew ?_))); (case side2 => exact (Kd.R_reads' HO_3.out).2.1); rintro e w20 ⟨rfl, hb⟩; refine ⟨_, rfl, ?_⟩; replace HO_3 := aa (Kd.R_below (by (with_reducible repeat (first | apply Kd.R_alloc | apply Kd.R_drewN | apply Kd.R_drew)); exact HO_3.out) hb); replace BK264 := aa (blk_below (iBK BK264.out) hb); replace BK265 := aa (blk_below (iBK BK265.out) hb); replace HB := aa (below_step iHB hb); (try clear hb); have hcz21_0 : w20.cell? ⟨gb265, 0, none⟩ = some (.int .i64 0) := (blk_cell BK265.out 0).trans rfl; have hcz21_1 : w20.cell? ⟨gb265, 1, none⟩ = some (.int .i64 0) := (blk_cell BK265.out 1).trans rfl; have hfz21_0 := blk_frozen BK265.out 0; have hfz21_1 := blk_frozen BK265.out 1))
        refine bodyPost_ret (results_cell_row rfl _ _ gb265 27 #[.int .i64 t274, .int .i64 t275] (0, 0) _ rfl (by (with_reducible repeat (first | refine blk_drewN ?_ _ | refine blk_drew ?_ | refine blk_alloc ?_ _)); refine blk_put (cs := #[.int .i64 t274, .int .i64 0]) ?_ 1 _ rfl; (with_reducible repeat (first | refine blk_drewN ?_ _ | refine blk_drew ?_ | refine blk_alloc ?_ _)); refine blk_put (cs := #[.int .i64 0, .int .i64 0]) ?_ 0 _ rfl; exact iBK BK265.out) Try.underlying27 rfl (by kernel_rfl)) rfl ?_
        exact ⟨by first | rfl | (simp [errW_none, errW_some] <;> rfl) | (simp [*, errW_none, errW_some] <;> rfl), iHB⟩
end Go.Proofs.Ytdhfbgbclibagaa.P
