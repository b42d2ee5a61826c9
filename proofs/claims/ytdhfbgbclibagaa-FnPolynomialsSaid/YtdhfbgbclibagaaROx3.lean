/- Functions of the given program and their contracts, written by a program of this session (gen.py) over the kit's print. -/
import Derived.Test.YtdhfbgbclibagaaROx0
import Derived.Test.YtdhfbgbclibagaaROx2
namespace Go.Proofs.Ytdhfbgbclibagaa.P
open Go.RowKit Go.Proofs.YtdhfbgbclibagaaW.PrintWords Go.Proofs.YtdhfbgbclibagaaW.PrintLast Go.Proofs.YtdhfbgbclibagaaW.PrintMore
attribute [local go_sem] max2_int min2_int max_two min_two max_three min_three max_four min_four   -- for this text's walks alone
set_option linter.unusedVariables false
set_option linter.unusedSimpArgs false
def spec_l01Of.l0 : Nat → Int → List Int → Int → Int → Int → Option (Int × Int)
  | 0, _, _, _, _, _ => none
  | k + 1, x0, x1, x6, x119000, x119001 => (spec_l01Rows.f x0).bind fun t119 => (if x6 < t119 then (if 0 ≤ x6 then (if x6 < (x1.length : Int) then (if 0 ≤ (IntKind.u64.wrap (x6)) then (spec_l01Of.l0 k x0 x1 (wrap64 (x6 + 1)) x119000 (wrap64 (x119001 + (shl .i64 (rd x1 x6) (IntKind.u64.wrap (x6)))))) else (none)) else (none)) else (none)) else (some (x119000, x119001)))
def spec_l01Of.f (k : Nat) (a0 : Int) (l1 : List Int) : Option (Int × Int) := spec_l01Of.l0 k a0 l1 0 a0 0
theorem spec_l01Of.mono_l : ∀ k, (∀ y0 y1 y2 y3 y4, LeO (spec_l01Of.l0 k y0 y1 y2 y3 y4) (spec_l01Of.l0 (k + 1) y0 y1 y2 y3 y4))
  | 0 => fun _ _ _ _ _ r h => by simp [spec_l01Of.l0] at h
  | k + 1 => by
    have ih0 := spec_l01Of.mono_l k
    · intro y0 y1 y2 y3 y4
      unfold spec_l01Of.l0
      repeat' first
      | (with_reducible exact ih0 _ _ _ _ _)
      | (with_reducible exact LeO.refl _)
      | (with_reducible exact LeO.none _)
      | (with_reducible refine LeO.ite ?_ ?_)
      | (with_reducible refine LeO.bind ?_ (fun _ => ?_))
      | exact ih0 _ _ _ _ _
      | exact LeO.none _
      | refine LeO.ite ?_ ?_
      | refine LeO.bind ?_ (fun _ => ?_)
theorem spec_l01Of.mono : ∀ a0 a1 k, LeO (spec_l01Of.f k a0 a1) (spec_l01Of.f (k + 1) a0 a1) := by
  intro a0 a1 k
  have ih0 := spec_l01Of.mono_l k
  unfold spec_l01Of.f
  repeat' first
      | (with_reducible exact ih0 _ _ _ _ _)
      | (with_reducible exact LeO.refl _)
      | (with_reducible exact LeO.none _)
      | (with_reducible refine LeO.ite ?_ ?_)
      | (with_reducible refine LeO.bind ?_ (fun _ => ?_))
      | exact ih0 _ _ _ _ _
      | exact LeO.none _
      | refine LeO.ite ?_ ?_
      | refine LeO.bind ?_ (fun _ => ?_)
def spec_l01Of.T5 : Bool × List (List Nat × List Nat) := (true, [([], []), ([0], [0]), ([], []), ([], []), ([2, 3], [2, 3]), ([4], [4]), ([], []), ([6], [6]), ([5, 7], [5, 7]), ([1, 8], [1, 8]), ([0, 1, 2, 3, 4, 5, 6, 7, 8, 9], []), ([10, 9, 0, 1, 2, 3, 4, 5, 6, 7, 8, 9], [9, 10])])
def spec_l01Of.B5 : List Nat := [0, 1, 0, 0, 12, 28, 0, 64, 252, 511, 1023, 2047]
theorem spec_l01Of.tab5 : rtab .any (opsOf Try.f86 5) = spec_l01Of.T5 := by kernel_rfl
theorem spec_l01Of.bits5 : waitsOk spec_l01Of.T5.2 spec_l01Of.B5 = true := by kernel_rfl
set_option maxHeartbeats 8000000 in
set_option maxRecDepth 100000 in
theorem spec_l01Of.calls (k : Nat) (a0 : Int) (A1 : Option Addr) (c1 : Nat) (l1 : List Int) (r1 : Int) (r2 : Int) (w : World) (hr1 : Kd.C (Kd.int .i64) w A1 l1.length l1) (hc1 : l1.length ≤ c1) (h : spec_l01Of.f k a0 l1 = some (r1, r2)) :
    Calls Try.prog 86 #[.int .i64 a0, .slice A1 l1.length c1] w fun e w' => e = .returned (.agg #[.int .i64 r1, .int .i64 r2]) ∧ Below w.heap.size w w' := by
  have hu27 := Try.underlying27
  have HR1 := Aside0.mk hr1
  have HC1 := Aside0.mk hc1
  clear hr1 hc1
  have HB := aa (Below.refl w.heap.size w)
  have H : (spec_l01Of.l0 k a0 l1 0 a0 0) = some (r1, r2) := h
  clear h
  have H' := Aside0.mk H
  clear H
  go_enter Try.func86, Try.ntmps86
  go_wp2_with (first | ((with_reducible refine gate_dst (N := 4) rfl ?_); refine box_event ?hg (N := 4) ?hd (cs := #[.int .i64 0, .int .i64 0]) (t := 27) ?hr ?_; (case hd => rfl); (case hg => rfl); (case hr => first | (go_simp; done) | (go_simp; rfl)); intro gb117 hg w3 hbox hb; have BK117 := aa (hbox); have GW117 := gwB (w := w) hg iHB; have GE117 := gwB (w := w) hg iHB; replace HB := aa (below_step iHB hb); clear hb hbox hg) | ((with_reducible refine gate_dst (N := 5) rfl ?_); refine box_event ?hg (N := 5) ?hd (cs := #[.int .i64 0, .int .i64 0]) (t := 27) ?hr ?_; (case hd => rfl); (case hg => rfl); (case hr => first | (go_simp; done) | (go_simp; rfl)); intro gb118 hg w4 hbox hb; have BK118 := aa (hbox); have GW118 := gwB (w := w) hg iHB; have GE118 := gwB (w := w) hg iHB; replace HB := aa (below_step iHB hb); have NB117_118 := nbL hg (iBK BK117.out); have NB118_117 := nbR hg (iBK BK117.out); replace BK117 := aa (blk_below (iBK BK117.out) hb); clear hb hbox hg; have hnb5 := NB118_117.out; have hnc5 := NB117_118.out; have hcz6_0 : w4.cell? ⟨gb118, 0, none⟩ = some (.int .i64 0) := (blk_cell BK118.out 0).trans rfl; have hcz6_1 : w4.cell? ⟨gb118, 1, none⟩ = some (.int .i64 0) := (blk_cell BK118.out 1).trans rfl; have hfz6_0 := blk_frozen BK118.out 0; have hfz6_1 := blk_frozen BK118.out 1))
  go_loopg [6] k (fun kq v6 w' => ∃ (x6_1 : Int) (x119001_1 : Int), v6 = .int .i64 x6_1 ∧ Aside0 (spec_l01Of.l0 kq a0 l1 x6_1 a0 x119001_1 = some (r1, r2)) ∧ Aside0 (kq ≤ k) ∧ Aside0 (w'.heap[gb117]? = some (.cells #[.int .i64 0, .int .i64 0] 27 (0, 0))) ∧ Aside0 (w'.heap[gb118]? = some (.cells #[.int .i64 a0, .int .i64 x119001_1] 27 (0, 0))) ∧ Aside0 (Below w.heap.size w w'))
  case atStart => exact ⟨(0), (0), (by first | rfl | (simp; done) | (simp [*]; done)), H', ⟨Nat.le_refl _⟩, ⟨by (with_reducible repeat (first | refine blk_drewN ?_ _ | refine blk_drew ?_ | refine blk_alloc ?_ _)); refine blk_far ?_ NB117_118.out _; (with_reducible repeat (first | refine blk_drewN ?_ _ | refine blk_drew ?_ | refine blk_alloc ?_ _)); refine blk_far ?_ NB117_118.out _; exact iBK BK117.out⟩, ⟨by (with_reducible repeat (first | refine blk_drewN ?_ _ | refine blk_drew ?_ | refine blk_alloc ?_ _)); refine blk_put (cs := #[.int .i64 a0, .int .i64 0]) ?_ 1 _ rfl; (with_reducible repeat (first | refine blk_drewN ?_ _ | refine blk_drew ?_ | refine blk_alloc ?_ _)); refine blk_put (cs := #[.int .i64 0, .int .i64 0]) ?_ 0 _ rfl; exact iBK BK118.out⟩, ⟨iHB⟩⟩
  case round =>
    clear H'
    try clear c1
    try clear hcz6_0
    try clear hcz6_1
    try clear hfz6_0
    try clear hfz6_1
    obtain ⟨x6_1, x119001_1, rfl, HA, HK1, BK117, BK118, HB⟩ := hrel
    cases gk with
    | zero => exact absurd HA.out (by simp [spec_l01Of.l0])
    | succ k1 =>
      have H := HA.out
      clear HA
      simp only [spec_l01Of.l0] at H
      replace H := Option.bind_eq_some_iff.mp H
      obtain ⟨t119, A70, H⟩ := H
      replace H : (if x6_1 < t119 then (if 0 ≤ x6_1 then (if x6_1 < (l1.length : Int) then (if 0 ≤ (IntKind.u64.wrap (x6_1)) then (spec_l01Of.l0 k1 a0 l1 (wrap64 (x6_1 + 1)) a0 (wrap64 (x119001_1 + (shl .i64 (rd l1 x6_1) (IntKind.u64.wrap (x6_1)))))) else (none)) else (none)) else (none)) else (some (a0, x119001_1))) = some (r1, r2) := H
      have A7 := Aside0.mk A70
      clear A70
      by_cases c8 : x6_1 < t119
      · rw [if_pos c8] at H
        have c8b0 : decide (x6_1 < t119) = true := decide_eq_true c8
        clear c8
        by_cases c9 : 0 ≤ x6_1
        · rw [if_pos c9] at H
          have c9b0 : decide (0 ≤ x6_1) = true := decide_eq_true c9
          clear c9
          by_cases c10 : x6_1 < (l1.length : Int)
          · rw [if_pos c10] at H
            have c10b0 : decide (x6_1 < (l1.length : Int)) = true := decide_eq_true c10
            clear c10
            obtain ⟨ji11, hji11⟩ : ∃ j_ : Int, (IntKind.u64.wrap (x6_1)) = j_ := ⟨_, rfl⟩
            replace H : (if 0 ≤ (ji11) then (spec_l01Of.l0 k1 a0 l1 (wrap64 (x6_1 + 1)) a0 (wrap64 (x119001_1 + (shl .i64 (rd l1 x6_1) (ji11))))) else (none)) = some (r1, r2) := by first | (rw [hji11] at H; exact H) | (simp only [hji11] at H ⊢; exact H)
            (try rw [hji11] at A7)
            by_cases c12 : 0 ≤ (ji11)
            · rw [if_pos c12] at H
              have c12b0 := eq_true c12
              have c12b1 : decide (0 ≤ (ji11)) = true := decide_eq_true c12
              clear c12
              obtain ⟨ji13, hji13⟩ : ∃ j_ : Int, (shl .i64 (rd l1 x6_1) (ji11)) = j_ := ⟨_, rfl⟩
              replace H : (spec_l01Of.l0 k1 a0 l1 (wrap64 (x6_1 + 1)) a0 (wrap64 (x119001_1 + (ji13)))) = some (r1, r2) := by first | (rw [hji13] at H; exact H) | (simp only [hji13] at H ⊢; exact H)
              (try rw [hji13] at A7)
              have hji13_ : (IntKind.i64.wrap ((rd l1 x6_1) * 2 ^ min (ji11).toNat 64)) = ji13 := hji13
              have hji13z : (ji11) ≤ 64 → (IntKind.i64.wrap ((rd l1 x6_1) * 2 ^ (ji11).toNat)) = ji13 := shl_small hji13
              have hji13y : (wrap64 ((rd l1 x6_1) * 2 ^ min (ji11).toNat 64)) = ji13 := (i64_w _).symm.trans hji13_
              have hji13x : (ji11) ≤ 64 → (wrap64 ((rd l1 x6_1) * 2 ^ (ji11).toNat)) = ji13 := fun h_ => (i64_w _).symm.trans (hji13z h_)
              have H' := Aside0.mk H
              clear H
              try go_wp2_with (first | ((with_reducible refine gate_callee (f := 68) rfl ?_); refine goesL_ (some 11) rfl rfl Try.func68 (by kernel_rfl) rfl #[.int .i64 a0] rfl iAR ?_; (with_reducible refine (spec_l01Rows.calls a0 t119 _ A7.out).mono ?_); rintro e w' ⟨rfl, ⟨nd, rfl⟩⟩; refine ⟨_, rfl, ?_⟩; (try (rw [drewN_self wr]; generalize hq_ : World.drewN wr _ = wr; replace BK117 : Aside0 (wr.heap[gb117]? = some (.cells #[.int .i64 0, .int .i64 0] 27 (0, 0))) := ⟨by rw [← hq_]; exact (iBK BK117.out)⟩; replace BK118 : Aside0 (wr.heap[gb118]? = some (.cells #[.int .i64 a0, .int .i64 x119001_1] 27 (0, 0))) := ⟨by rw [← hq_]; exact (iBK BK118.out)⟩; replace HB : Aside0 (Below w.heap.size w wr) := ⟨by rw [← hq_]; exact iHB⟩; clear hq_))))
              replace BK117 := aa (blk_drew BK117.out)
              replace BK118 := aa (blk_drew BK118.out)
              replace HB := aa (below_drew1 HB.out)
              have p120 : 0 ≤ (x6_1 : Int) := of_decide_eq_true (by first | (with_reducible assumption) | assumption)
              have q120 : x6_1 < (l1.length : Int) := of_decide_eq_true (by first | (with_reducible assumption) | assumption)
              obtain ⟨ad120, e120, hx120_0⟩ := Kd.at_int HR1.out x6_1 p120 q120
              have hw120_0 := hx120_0
              cases e120
              replace hx120_0 := (HB.out.cell (World.block_lt_of_cell? w _ hx120_0)).trans hx120_0
              replace p120 := eq_true p120
              replace q120 := eq_true q120
              refine start_ (n := 12) (S := fun w' => w'.cell? ⟨gb118, 0, none⟩ = some (.int .i64 a0) ∧ w'.cell? ⟨gb118, 1, none⟩ = some (.int .i64 x119001_1) ∧ w'.cell? (ad120.add (x6_1).toNat) = some (.int .i64 (rd l1 x6_1))) (ds := [11]) #[false, false, false, false, false, false, false, false, false, false, false, false] (by kernel_rfl) rfl rfl ⟨(blk_cell BK118.out 0).trans rfl, (blk_cell BK118.out 1).trans rfl, ((HB.out.cell (World.block_lt_of_cell? w _ hw120_0)).trans hw120_0)⟩ (fun hHeld => ?_); refine with_tabW spec_l01Of.tab5 spec_l01Of.bits5 (fun HT_ HW_ => ?_)
              generalize wr.drew = w14 at BK117 BK118 HB hx120_0 hHeld ⊢
              refine pure_ (i := 0) (N := some 15) (v := ?_) (a' := ?_) #[true, false, false, false, false, false, false, false, false, false, false, false] rfl rfl (any_of HT_.out (by kernel_rfl)) (fun _ _ _ h => h) (Or.inl ⟨by rfl, ?_⟩) ?_ ?_
              rotate_left
              · intro w'
                go_simp
                with_reducible rfl
              rotate_left
              · simp only [Act.put, List.setIfInBounds_toArray, List.set_cons_zero, List.set_cons_succ, i64_w, i32_w]
                rfl
              refine pure_ (i := 2) (N := some 17) (v := ?_) (a' := ?_) #[true, false, true, false, false, false, false, false, false, false, false, false] rfl rfl (any_of HT_.out (by kernel_rfl)) (fun _ _ _ h => h) (Or.inl ⟨by rfl, ?_⟩) ?_ ?_
              rotate_left
              · intro w'
                go_simp
                with_reducible rfl
              rotate_left
              · simp only [Act.put, List.setIfInBounds_toArray, List.set_cons_zero, List.set_cons_succ, i64_w, i32_w]
                rfl
              refine pure_ (i := 3) (N := some 18) (v := ?_) (a' := ?_) #[true, false, true, true, false, false, false, false, false, false, false, false] rfl rfl (any_of HT_.out (by kernel_rfl)) (fun _ _ _ h => h) (Or.inl ⟨by rfl, ?_⟩) ?_ ?_
              rotate_left
              · intro w'
                go_simp
                with_reducible rfl
              rotate_left
              · simp only [Act.put, List.setIfInBounds_toArray, List.set_cons_zero, List.set_cons_succ, i64_w, i32_w]
                rfl
              refine pure_ (i := 4) (N := some 19) (v := ?_) (a' := ?_) #[true, false, true, true, true, false, false, false, false, false, false, false] rfl rfl (any_of HT_.out (by kernel_rfl)) (fun _ _ _ h => h) (Or.inl ⟨by rfl, ?_⟩) ?_ ?_
              rotate_left
              · intro w'
                go_simp
                with_reducible rfl
              rotate_left
              · simp only [Act.put, List.setIfInBounds_toArray, List.set_cons_zero, List.set_cons_succ, i64_w, i32_w]
                rfl
              refine pure_ (i := 6) (N := some 21) (v := ?_) (a' := ?_) #[true, false, true, true, true, false, true, false, false, false, false, false] rfl rfl (any_of HT_.out (by kernel_rfl)) (fun _ _ _ h => h) (Or.inl ⟨by rfl, ?_⟩) ?_ ?_
              rotate_left
              · intro w'
                go_simp
                with_reducible rfl
              rotate_left
              · simp only [Act.put, List.setIfInBounds_toArray, List.set_cons_zero, List.set_cons_succ, i64_w, i32_w]
                rfl
              refine pure_ (i := 7) (N := some 22) (v := ?_) (a' := ?_) #[true, false, true, true, true, false, true, true, false, false, false, false] rfl rfl (any_of HT_.out (by kernel_rfl)) (fun _ _ _ h => h) (Or.inl ⟨by rfl, ?_⟩) ?_ ?_
              rotate_left
              · intro w'
                go_simp
                with_reducible rfl
              rotate_left
              · simp only [Act.put, List.setIfInBounds_toArray, List.set_cons_zero, List.set_cons_succ, i64_w, i32_w]
                rfl
              refine take_ (i := 1) (N := some 16) (v := ?_) (a' := ?_) #[true, true, true, true, true, false, true, true, false, false, false, false] rfl rfl (take_ofW HT_.out HW_.out (by kernel_rfl)) (fun _ _ _ h => h) (Or.inl ⟨by rfl, ?_⟩) hHeld ?_ ?_
              rotate_left
              · rintro w' ⟨s0, s1, s2⟩
                go_simp
                with_reducible rfl
              rotate_left
              · simp only [Act.put, List.setIfInBounds_toArray, List.set_cons_zero, List.set_cons_succ, i64_w, i32_w]
                rfl
              refine take_ (i := 5) (N := some 20) (v := ?_) (a' := ?_) #[true, true, true, true, true, true, true, true, false, false, false, false] rfl rfl (take_ofW HT_.out HW_.out (by kernel_rfl)) (fun _ _ _ h => h) (Or.inl ⟨by rfl, ?_⟩) hHeld ?_ ?_
              rotate_left
              · rintro w' ⟨s0, s1, s2⟩
                go_simp
                with_reducible rfl
              rotate_left
              · simp only [Act.put, List.setIfInBounds_toArray, List.set_cons_zero, List.set_cons_succ, i64_w, i32_w]
                rfl
              refine pure_ (i := 8) (N := some 23) (v := ?_) (a' := ?_) #[true, true, true, true, true, true, true, true, true, false, false, false] rfl rfl (any_of HT_.out (by kernel_rfl)) (fun _ _ _ h => h) (Or.inl ⟨by rfl, ?_⟩) ?_ ?_
              rotate_left
              · intro w'
                go_simp
                with_reducible rfl
              rotate_left
              · simp only [Act.put, List.setIfInBounds_toArray, List.set_cons_zero, List.set_cons_succ, i64_w, i32_w]
                rfl
              refine pure_ (i := 9) (N := some 24) (v := ?_) (a' := ?_) #[true, true, true, true, true, true, true, true, true, true, false, false] rfl rfl (any_of HT_.out (by kernel_rfl)) (fun _ _ _ h => h) (Or.inl ⟨by rfl, ?_⟩) ?_ ?_
              rotate_left
              · intro w'
                go_simp
                with_reducible rfl
              rotate_left
              · simp only [Act.put, List.setIfInBounds_toArray, List.set_cons_zero, List.set_cons_succ, i64_w, i32_w]
                rfl
              refine pure_ (i := 10) (N := some 25) (v := ?_) (a' := ?_) #[true, true, true, true, true, true, true, true, true, true, true, false] rfl rfl (any_of HT_.out (by kernel_rfl)) (fun _ _ _ h => h) (Or.inl ⟨by rfl, ?_⟩) ?_ ?_
              rotate_left
              · intro w'
                go_simp
                with_reducible rfl
              rotate_left
              · simp only [Act.put, List.setIfInBounds_toArray, List.set_cons_zero, List.set_cons_succ, i64_w, i32_w]
                rfl
              refine last_ (i := 11) (N := none) #[true, true, true, true, true, true, true, true, true, true, true, true] rfl rfl (one_of HT_.out (by kernel_rfl)) (by decide) (fun K hK => ?_)
              have hs15 : w14.cell? ⟨gb118, 1, none⟩ = some (.int .i64 x119001_1) := (blk_cell BK118.out 1).trans rfl
              have hfs15 := blk_frozen BK118.out 1
              have hns15_0 := NB117_118.out
              have hms15_0 := NB118_117.out
              refine skip_ (w1 := ?_) (by rfl) rfl ?_ ?_
              rotate_left
              · go_simp
                rfl
              refine hK.out _ _ ?_
              clear hK K
              refine done_ (done_of HT_.out (by kernel_rfl)) ?_
              try go_wp2
              go_roundg k1
              case measure => have := HK1.out; omega
              case rel => exact ⟨(wrap64 (x6_1 + 1)), (wrap64 (x119001_1 + (ji13))), (by first | rfl | (simp; done) | (simp [*]; done)), H', ⟨by have := HK1.out; omega⟩, ⟨by (with_reducible repeat (first | refine blk_drewN ?_ _ | refine blk_drew ?_ | refine blk_alloc ?_ _)); refine blk_far ?_ NB117_118.out _; exact iBK BK117.out⟩, ⟨by (with_reducible repeat (first | refine blk_drewN ?_ _ | refine blk_drew ?_ | refine blk_alloc ?_ _)); refine blk_put (cs := #[.int .i64 a0, .int .i64 x119001_1]) ?_ 1 _ rfl; exact iBK BK118.out⟩, ⟨iHB⟩⟩
            · rw [if_neg c12] at H
              exact absurd H (by simp)
          · rw [if_neg c10] at H
            exact absurd H (by simp)
        · rw [if_neg c9] at H
          exact absurd H (by simp)
      · rw [if_neg c8] at H
        have c8b0 : decide (x6_1 < t119) = false := decide_eq_false c8
        clear c8
        simp only [Option.some.injEq, Prod.mk.injEq] at H
        obtain ⟨rfl, rfl⟩ := H
        go_wp2_with (first | ((with_reducible refine gate_callee (f := 68) rfl ?_); refine goesL_ (some 11) rfl rfl Try.func68 (by kernel_rfl) rfl #[.int .i64 a0] rfl iAR ?_; (with_reducible refine (spec_l01Rows.calls a0 t119 _ A7.out).mono ?_); rintro e w' ⟨rfl, ⟨nd, rfl⟩⟩; refine ⟨_, rfl, ?_⟩; (try (rw [drewN_self wr]; generalize hq_ : World.drewN wr _ = wr; replace BK117 : Aside0 (wr.heap[gb117]? = some (.cells #[.int .i64 0, .int .i64 0] 27 (0, 0))) := ⟨by rw [← hq_]; exact (iBK BK117.out)⟩; replace BK118 : Aside0 (wr.heap[gb118]? = some (.cells #[.int .i64 a0, .int .i64 x119001_1] 27 (0, 0))) := ⟨by rw [← hq_]; exact (iBK BK118.out)⟩; replace HB : Aside0 (Below w.heap.size w wr) := ⟨by rw [← hq_]; exact iHB⟩; clear hq_)); have hnb16 := NB118_117.out; have hnc16 := NB117_118.out; have hcz17_0 : wr.cell? ⟨gb118, 0, none⟩ = some (.int .i64 a0) := (blk_cell BK118.out 0).trans rfl; have hcz17_1 : wr.cell? ⟨gb118, 1, none⟩ = some (.int .i64 x119001_1) := (blk_cell BK118.out 1).trans rfl; have hfz17_0 := blk_frozen BK118.out 0; have hfz17_1 := blk_frozen BK118.out 1; have hcz18_0 : wr.cell? ⟨gb117, 0, none⟩ = some (.int .i64 0) := (blk_cell BK117.out 0).trans rfl; have hcz18_1 : wr.cell? ⟨gb117, 1, none⟩ = some (.int .i64 0) := (blk_cell BK117.out 1).trans rfl; have hfz18_0 := blk_frozen BK117.out 0; have hfz18_1 := blk_frozen BK117.out 1))
        refine bodyPost_ret (results_cell_row rfl _ _ gb117 27 #[.int .i64 a0, .int .i64 x119001_1] (0, 0) _ rfl (by (with_reducible repeat (first | refine blk_drewN ?_ _ | refine blk_drew ?_ | refine blk_alloc ?_ _)); refine blk_put (cs := #[.int .i64 a0, .int .i64 0]) ?_ 1 _ rfl; (with_reducible repeat (first | refine blk_drewN ?_ _ | refine blk_drew ?_ | refine blk_alloc ?_ _)); refine blk_put (cs := #[.int .i64 0, .int .i64 0]) ?_ 0 _ rfl; exact iBK BK117.out) Try.underlying27 rfl (by kernel_rfl)) rfl ?_
        exact ⟨by first | rfl | (simp [errW_none, errW_some] <;> rfl) | (simp [*, errW_none, errW_some] <;> rfl), iHB⟩
/-- What is asked of a function value on rows: it returns a digit, and leaves what lay as it was. -/
def GivesRow (g : Nat) (lb : Array Value) (m : Nat) (h : Nat → Nat) (w : World) : Prop :=
  ∀ (W : World) (r : Nat), r < m → Below w.heap.size w W →
    Calls Try.prog g (#[.int .i64 (r : Nat)] ++ lb) W fun e W' => e = .returned (.int .i64 (h r : Nat)) ∧ Below W.heap.size W W'
theorem rowsOf_some (n : Nat) (hn : n ≤ 4) : impl_rowsOf.f (n : Int) = some ((2 ^ n : Nat) : Int) := by
  unfold impl_rowsOf.f
  rw [if_pos (by omega), show (1 : Int) = ((1 : Nat) : Int) from rfl, M.shl_nat 1 n (by omega) (by rw [Nat.one_mul]; exact Nat.lt_of_le_of_lt (M.pow_le16 hn) (by decide)), Nat.one_mul]
theorem bit_some (b r : Nat) (hb : b < 2 ^ 62) (hr : r ≤ 64) : impl_bit.f (b : Int) (r : Int) = some ((M.atN b r : Nat) : Int) := by
  unfold impl_bit.f
  rw [if_pos (by omega), M.bit_nat b r hb hr]
theorem Func_rows_some (n : Nat) (b : Int) (hn : n ≤ 4) : impl_Func_rows.f (n : Int) b = some ((2 ^ n : Nat) : Int) := by
  unfold impl_Func_rows.f; rw [rowsOf_some n hn]; rfl
theorem Func_at_some (n : Int) (b r : Nat) (hb : b < 2 ^ 62) (hr : r ≤ 64) : impl_Func_at.f n (b : Int) (r : Int) = some ((M.atN b r : Nat) : Int) := by
  unfold impl_Func_at.f; rw [bit_some b r hb hr]; rfl
theorem within_some (a b c : Int) : impl_within.f a b c = some (decide (b ≤ a) && decide (a ≤ c)) := by
  unfold impl_within.f
  by_cases h : b ≤ a
  · rw [if_pos h]; simp [h]
  · rw [if_neg h]; simp [h]
theorem isArity_some (n : Int) : impl_isArity.f n = some (decide (0 ≤ n) && decide (n ≤ 4)) := by
  unfold impl_isArity.f; rw [within_some]; rfl
theorem funcsOf_some (n : Nat) (hn : n ≤ 4) : impl_funcsOf.f (n : Int) = some ((2 ^ 2 ^ n : Nat) : Int) := by
  have h := M.pow_le16 hn
  have h2 := (M.pow2_le (M.pow_le16 hn) : 2 ^ 2 ^ n ≤ 2 ^ 16)
  unfold impl_funcsOf.f
  rw [rowsOf_some n hn]
  simp only [Option.bind_some]
  generalize 2 ^ n = p at *
  rw [if_pos (by omega), show (1 : Int) = ((1 : Nat) : Int) from rfl, M.shl_nat 1 p (by omega) (by omega), Nat.one_mul]
theorem isFunc_some (n b : Int) : impl_IsFunc.f n b = some (M.valid n b) := by
  unfold impl_IsFunc.f
  rw [isArity_some]
  simp only [Option.bind_some]
  by_cases h : 0 ≤ n ∧ n ≤ 4
  · obtain ⟨h0, h4⟩ := h
    obtain ⟨m, rfl⟩ := Int.eq_ofNat_of_zero_le h0
    have h2 := (M.pow2_le (M.pow_le16 (by omega)) : 2 ^ 2 ^ m ≤ 2 ^ 16)
    have h3 := M.pow_pos (2 ^ m)
    rw [if_pos (by simp; omega), funcsOf_some m (by omega)]
    simp only [Option.bind_some]
    rw [within_some]
    simp only [Option.bind_some]
    unfold M.valid
    congr 1
    rw [Bool.eq_iff_iff, M.w64_in _ (by omega) (by omega)]
    simp only [Bool.and_eq_true, decide_eq_true_eq, Int.toNat_natCast]
    generalize 2 ^ 2 ^ m = q at *
    omega
  · rw [if_neg (by simp; omega)]
    unfold M.valid
    congr 1
    by_cases h0 : 0 ≤ n
    · have h4 : ¬ n ≤ 4 := by omega
      simp [h4]
    · simp [h0]
theorem step_val (h : Nat → Nat) (r m : Nat) (h16 : m ≤ 16) (hr : r < m) (hh : ∀ r, r < m → h r ≤ 1) :
    Go.bits .or .i64 ((M.tab r h : Nat) : Int) (shl .i64 ((h r : Nat) : Int) (r : Int)) = ((M.tab (r + 1) h : Nat) : Int) := by
  have h1 := hh r hr
  have h2 : M.tab r h < 2 ^ r := M.tab_lt r h (fun q hq => hh q (by omega))
  have h3 : 2 ^ r ≤ 2 ^ 15 := M.pow2_le (by omega)
  have h4 : h r * 2 ^ r ≤ 2 ^ 15 := Nat.le_trans (Nat.mul_le_mul_right _ h1) (by omega)
  rw [M.shl_nat (h r) r (by omega) (by omega), M.or_nat _ _ (by omega) (by omega), M.or_high _ _ _ h2, M.tab_succ]
theorem goesV_ {P : Program} {ops : Array Oper} {Q : Exit → Act → World → Prop} {oi : Oper} {N : Option Tmp} {a : Act} {w : World} {K : Act → World → Prop} {g : Nat} {lb : Array Value} {s : Tmp} {xs : Array Operand} {ts : Array TypeId}
    (eg : ∀ args w, (callFunc g args).run P w = .ok (.enter g args) w) (args : Array Value)
    (hw : Region.wanted oi (yielded ops a.tmps) = true) (hN : oi.dst = N) (hop : oi.op = .call { callee := .value (.tmp s), args := xs, argTypes := ts }) (hs : a.eval (.tmp s) = .func (.func g) #[] lb) (hargs : xs.map a.eval = args)
    (h : Calls P g (args ++ lb) w fun e w' => ∃ v, e = .returned v ∧ K (a.put N v) w') : if Region.wanted oi (yielded ops a.tmps) = true then Oper.wp P oi a w K Q else K (a.put N undef) w := by
  refine call_ g (args ++ lb) hw hN ?_ h
  have he := eg (args ++ lb) w
  unfold execOp
  simp [hop, resolve, Deferred.ofValue, invoke, hs, hargs, he]
theorem World.size_alloc_ (w : World) (o : Obj) : (w.alloc o).heap.size = w.heap.size + 1 := by simp
set_option maxHeartbeats 8000000 in
set_option maxRecDepth 100000 in
theorem impl_funcBy.core (g : Nat) (lb : Array Value) (eg : ∀ args w, (callFunc g args).run Try.prog w = .ok (.enter g args) w) (n : Int) (m : Nat) (hn : impl_rowsOf.f n = some (m : Int)) (h16 : m ≤ 16) (h : Nat → Nat) (hh : ∀ r, r < m → h r ≤ 1) (w : World) (hp : GivesRow g lb m h w) :
    Calls Try.prog 91 #[.int .i64 n, .func (.func g) #[] lb] w fun e w' => e = .returned (.agg #[.int .i64 n, .int .i64 ((M.tab m h : Nat) : Int)]) ∧ Below w.heap.size w w' := by
  have hu := Try.underlying27
  have HR := Aside0.mk hn
  have HP := Aside0.mk hp
  have HH := Aside0.mk hh
  clear hp hh hn
  go_enter Try.func91, Try.ntmps91
  go_wp2_with (first | (go_at_call 110; (with_reducible refine (impl_rowsOf.calls _ _ _ HR.out).mono ?_); rintro e w' ⟨rfl, ⟨nd, rfl⟩⟩))
  go_loopg [11] 17 (fun gg v11 wr => ∃ r : Nat, v11 = .int .i64 (r : Int) ∧ Aside0 (r ≤ m) ∧ Aside0 (m - r < gg) ∧ Aside0 (wr.heap[w.heap.size]? = some (.cells #[.int .i64 0, .int .i64 0] 27 (0, 0))) ∧ Aside0 (wr.heap[w.heap.size + 1]? = some (.cells #[.int .i64 n, .int .i64 ((M.tab r h : Nat) : Int)] 27 (0, 0))) ∧ Aside0 (Below w.heap.size w wr))
  case atStart => 
    refine ⟨0, rfl, ⟨by omega⟩, ⟨by omega⟩, ⟨?_⟩, ⟨?_⟩, ⟨?_⟩⟩
    · refine blk_drewN ?_ _; refine blk_alloc ?_ _; exact blk_new w _
    · rw [show M.tab 0 h = 0 from rfl]; refine blk_drewN ?_ _; have h_ := blk_new (w.alloc (.cells #[.int .i64 0, .int .i64 0] 27)) (.cells #[.int .i64 n, .int .i64 0] 27); rw [World.size_alloc_] at h_; exact h_
    · exact pw_below_drewN (below_alloc (below_alloc (Below.refl _ _) _) _) _
  case round =>
    obtain ⟨r, rfl, HR1, HR2, BK4, BK5, HB⟩ := hrel
    by_cases hlt : r < m
    · have hlti : decide (r < m) = true := by simpa using hlt
      have HL := Aside0.mk hlt
      have hd0 : 0 ≤ (r : Int) := by omega
      have CV := aa (step_val h r m h16 hlt HH.out)
      clear hlt
      have hc := blk_cell BK5.out 1
      have hf := blk_frozen BK5.out 1
      simp at hc
      generalize hx : (M.tab r h : Int) = x at hc
      have HX := Aside0.mk hx
      clear hx
      go_wp2_with fail
      refine start_ (n := 10) (S := fun w' => w'.cell? ⟨w.heap.size + 1, 1, none⟩ = some (.int .i64 x)) (ds := [9]) #[false, false, false, false, false, false, false, false, false, false] (by kernel_rfl) rfl rfl (hc) (fun hHeld => ?_)
      refine pure_ (i := 0) (N := some 14) (v := ?_) (a' := ?_) #[true, false, false, false, false, false, false, false, false, false] rfl rfl (by kernel_rfl) (fun _ _ _ h => h) (Or.inl ⟨by rfl, ?_⟩) ?_ ?_
      rotate_left
      · intro w'
        go_simp
        with_reducible rfl
      rotate_left
      · simp only [Act.put, List.setIfInBounds_toArray, List.set_cons_zero, List.set_cons_succ, i64_w, i32_w]
        rfl
      refine pure_ (i := 2) (N := some 16) (v := ?_) (a' := ?_) #[true, false, true, false, false, false, false, false, false, false] rfl rfl (by kernel_rfl) (fun _ _ _ h => h) (Or.inl ⟨by rfl, ?_⟩) ?_ ?_
      rotate_left
      · intro w'
        go_simp
        with_reducible rfl
      rotate_left
      · simp only [Act.put, List.setIfInBounds_toArray, List.set_cons_zero, List.set_cons_succ, i64_w, i32_w]
        rfl
      refine pure_ (i := 3) (N := some 17) (v := ?_) (a' := ?_) #[true, false, true, true, false, false, false, false, false, false] rfl rfl (by kernel_rfl) (fun _ _ _ h => h) (Or.inl ⟨by rfl, ?_⟩) ?_ ?_
      rotate_left
      · intro w'
        go_simp
        with_reducible rfl
      rotate_left
      · simp only [Act.put, List.setIfInBounds_toArray, List.set_cons_zero, List.set_cons_succ, i64_w, i32_w]
        rfl
      refine pure_ (i := 5) (N := some 19) (v := ?_) (a' := ?_) #[true, false, true, true, false, true, false, false, false, false] rfl rfl (by kernel_rfl) (fun _ _ _ h => h) (Or.inl ⟨by rfl, ?_⟩) ?_ ?_
      rotate_left
      · intro w'
        go_simp
        with_reducible rfl
      rotate_left
      · simp only [Act.put, List.setIfInBounds_toArray, List.set_cons_zero, List.set_cons_succ, i64_w, i32_w]
        rfl
      refine take_ (i := 1) (N := some 15) (v := ?_) (a' := ?_) #[true, true, true, true, false, true, false, false, false, false] rfl rfl (by kernel_rfl) (fun _ _ _ h => h) (Or.inl ⟨by rfl, ?_⟩) hHeld ?_ ?_
      rotate_left
      · intro w' s0
        go_simp
        with_reducible rfl
      rotate_left
      · simp only [Act.put, List.setIfInBounds_toArray, List.set_cons_zero, List.set_cons_succ, i64_w, i32_w]
        rfl
      refine one_ (i := 4) (N := some 18) #[true, true, true, true, true, true, false, false, false, false] rfl rfl (by kernel_rfl) (by decide) (fun K hK => ?_)
      refine goesV_ eg #[.int .i64 (r : Int)] (by rfl) rfl rfl rfl (by simp only [List.map_toArray, List.map_cons, List.map_nil]; rfl) ?_
      refine (HP.out _ r HL.out (below_drew1 HB.out)).mono ?_
      rintro e w1 ⟨rfl, hb⟩
      refine ⟨_, rfl, ?_⟩
      replace BK4 := aa (blk_below (blk_drew BK4.out) hb)
      have BK6 := aa (blk_below (blk_drew BK5.out) hb)
      replace HB := aa (below_step (below_drew1 HB.out) hb)
      refine hK.out _ _ (((hb.cell (p := ⟨w.heap.size + 1, 1, none⟩) (blk_lt (blk_drew BK5.out))).trans hc)) (fun hHeld => ?_)
      clear hK K
      refine norm_ (a' := ?_) ?_ ?_
      rotate_left
      · show Act.put _ (some 18) _ = _
        simp only [Act.put, List.setIfInBounds_toArray, List.set_cons_zero, List.set_cons_succ, i64_w, i32_w]
        rfl
      refine pure_ (i := 6) (N := some 20) (v := ?_) (a' := ?_) #[true, true, true, true, true, true, true, false, false, false] rfl rfl (by kernel_rfl) (fun _ _ _ h => h) (Or.inl ⟨by rfl, ?_⟩) ?_ ?_
      rotate_left
      · intro w'
        go_simp
        with_reducible rfl
      rotate_left
      · simp only [Act.put, List.setIfInBounds_toArray, List.set_cons_zero, List.set_cons_succ, i64_w, i32_w]
        rfl
      refine pure_ (i := 7) (N := some 21) (v := ?_) (a' := ?_) #[true, true, true, true, true, true, true, true, false, false] rfl rfl (by kernel_rfl) (fun _ _ _ h => h) (Or.inl ⟨by rfl, ?_⟩) ?_ ?_
      rotate_left
      · intro w'
        go_simp
        with_reducible rfl
      rotate_left
      · simp only [Act.put, List.setIfInBounds_toArray, List.set_cons_zero, List.set_cons_succ, i64_w, i32_w]
        rfl
      refine pure_ (i := 8) (N := some 22) (v := ?_) (a' := ?_) #[true, true, true, true, true, true, true, true, true, false] rfl rfl (by kernel_rfl) (fun _ _ _ h => h) (Or.inl ⟨by rfl, ?_⟩) ?_ ?_
      rotate_left
      · intro w'
        go_simp
        with_reducible rfl
      rotate_left
      · simp only [Act.put, List.setIfInBounds_toArray, List.set_cons_zero, List.set_cons_succ, i64_w, i32_w]
        rfl
      refine last_ (i := 9) (N := none) #[true, true, true, true, true, true, true, true, true, true] rfl rfl (by kernel_rfl) (by decide) (fun K hK => ?_)
      have hs9 : w1.cell? ⟨w.heap.size + 1, 1, none⟩ = some (.int .i64 x) := hHeld
      have hfs9 := blk_frozen BK6.out 1
      refine skip_ (w1 := ?_) (by rfl) rfl ?_ ?_
      rotate_left
      · go_simp
        rfl
      refine hK.out _ _ ?_
      clear hK K
      refine done_ (by kernel_rfl) ?_
      try go_wp2
      go_roundg (m - r)
      case measure => have := HR2.out; omega
      case rel =>
        have hl := HL.out
        refine ⟨r + 1, by rw [M.w64_in _ (by omega) (by omega)]; rfl, ⟨by omega⟩, ⟨by omega⟩, ⟨?_⟩, ⟨?_⟩, ⟨?_⟩⟩
        · exact blk_far BK4.out (by simp) _
        · refine blk_put BK6.out 1 _ ?_
          have cv := CV.out
          unfold shl at cv
          rw [HX.out] at cv
          simp only [Int.toNat_natCast, i64_w] at cv
          simp only [List.setIfInBounds_toArray, List.set_cons_succ, List.set_cons_zero]
          exact congrArg (fun z => #[Value.int .i64 n, Value.int .i64 z]) cv
        · exact HB.out.setCell (by simp) _
    · have hlti : decide (r < m) = false := by simpa using hlt
      have HE : Aside0 (r = m) := ⟨by have := HR1.out; omega⟩
      clear hlt
      have hc0 := blk_cell BK5.out 0
      have hc1 := blk_cell BK5.out 1
      have hd0 := blk_cell BK4.out 0
      have hd1 := blk_cell BK4.out 1
      have hf := blk_frozen BK5.out 1
      have he0 := blk_frozen BK4.out 0
      have he1 := blk_frozen BK4.out 1
      simp at hc0 hc1 hd0 hd1
      go_wp2
      refine bodyPost_ret (results_cell_row rfl _ _ w.heap.size 27 #[.int .i64 n, .int .i64 ((M.tab r h : Nat) : Int)] (0, 0) _ rfl (blk_put (cs := #[.int .i64 n, .int .i64 0]) (blk_put BK4.out 0 _ rfl) 1 _ rfl) hu rfl (by kernel_rfl)) rfl ⟨by rw [HE.out], ?_⟩
      exact (HB.out.setCell (by simp <;> omega) _).setCell (by simp <;> omega) _
/-- The same, for an arity. -/
theorem impl_funcBy.calls (g : Nat) (lb : Array Value) (eg : ∀ args w, (callFunc g args).run Try.prog w = .ok (.enter g args) w) (n : Nat) (hn : n ≤ 4) (h : Nat → Nat) (hh : ∀ r, r < 2 ^ n → h r ≤ 1) (w : World) (hp : GivesRow g lb (2 ^ n) h w) :
    Calls Try.prog 91 #[.int .i64 (n : Int), .func (.func g) #[] lb] w fun e w' => e = .returned (.agg #[.int .i64 (n : Int), .int .i64 ((M.tab (2 ^ n) h : Nat) : Int)]) ∧ Below w.heap.size w w' :=
  impl_funcBy.core g lb eg n (2 ^ n) (rowsOf_some n hn) (M.pow_le16 hn) h hh w hp
end Go.Proofs.Ytdhfbgbclibagaa.P
