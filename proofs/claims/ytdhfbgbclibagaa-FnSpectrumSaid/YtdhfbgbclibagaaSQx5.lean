/- Functions of the given program and their contracts, written by a program of this session (gen.py) over the kit's print. -/
import Derived.Test.YtdhfbgbclibagaaSQx0
import Derived.Test.YtdhfbgbclibagaaSQx1
import Derived.Test.YtdhfbgbclibagaaSQx2
import Derived.Test.YtdhfbgbclibagaaSQx4
namespace Go.Proofs.Ytdhfbgbclibagaa.P
open Go.RowKit Go.Proofs.YtdhfbgbclibagaaW.PrintWords Go.Proofs.YtdhfbgbclibagaaW.PrintLast Go.Proofs.YtdhfbgbclibagaaW.PrintMore
attribute [local go_sem] max2_int min2_int max_two min_two max_three min_three max_four min_four   -- for this text's walks alone
set_option linter.unusedVariables false
set_option linter.unusedSimpArgs false
mutual
def spec_l03Spectrum.l0 : Nat → List Int → Int → Int → Int → Int → Option (List Int)
  | 0, _, _, _, _, _ => none
  | k + 1, x3, x4, x5, x125000, x125001 => if x5 < x4 then (spec_l03Spectrum.l1 k x3 x4 x5 0 0 x125000 x125001) else (some x3)
def spec_l03Spectrum.l1 : Nat → List Int → Int → Int → Int → Int → Int → Int → Option (List Int)
  | 0, _, _, _, _, _, _, _ => none
  | k + 1, x3, x4, x5, x6, x7, x125000, x125001 => if x7 < x4 then ((spec_l01At.f x125000 x125001 x7).bind fun t129 => ((spec_l03Size.f k (Go.bits .and .i64 x7 x5)).bind fun t130 => (spec_l03Spectrum.l1 k x3 x4 x5 (wrap64 ((wrap64 (x6 + 1)) - (wrap64 (2 * (Int.tmod (wrap64 (t129 + t130)) 2))))) (wrap64 (x7 + 1)) x125000 x125001))) else (if x3.length < 17592186044416 then (spec_l03Spectrum.l0 k (x3 ++ [x6]) x4 (wrap64 (x5 + 1)) x125000 x125001) else (none))
end
def spec_l03Spectrum.f (k : Nat) (a0_0 : Int) (a0_1 : Int) : Option (List Int) := (spec_l01Rows.f a0_0).bind fun t128 => (spec_l03Spectrum.l0 k (([] : List Int)) t128 0 a0_0 a0_1)
set_option maxHeartbeats 8000000 in
set_option maxRecDepth 100000 in
theorem spec_l03Spectrum.calls (k : Nat) (a0_0 : Int) (a0_1 : Int) (r : List Int) (w : World) (h : spec_l03Spectrum.f k a0_0 a0_1 = some r) :
    Calls Try.prog 79 #[.agg #[.int .i64 a0_0, .int .i64 a0_1]] w fun e w' => ∃ v0_ : Value, e = .returned (v0_) ∧ Kd.R (Kd.int .i64) 2 w' w.heap.size (fun _ => True) v0_ r ∧ Below w.heap.size w w' := by
  have hu27 := Try.underlying27
  have HB := aa (Below.refl w.heap.size w)
  have H : ((spec_l01Rows.f a0_0).bind fun t128 => (spec_l03Spectrum.l0 k (([] : List Int)) t128 0 a0_0 a0_1)) = some r := h
  clear h
  obtain ⟨y125, hy125⟩ : ∃ y_ : List Int, y_ = (([] : List Int)) := ⟨_, rfl⟩
  replace H : ((spec_l01Rows.f a0_0).bind fun t128 => (spec_l03Spectrum.l0 k y125 t128 0 a0_0 a0_1)) = some r := by first | (rw [hy125]; with_reducible exact H) | (have H2_ := (Option.bind_some _ _).symm.trans H; rw [hy125]; with_reducible exact H2_) | (have H2_ := (Option.bind_some _ _).symm.trans H; with_reducible exact H2_) | with_reducible exact H | (rw [hy125]; exact H) | exact H
  have Ny125 := Aside0.mk hy125
  clear hy125
  replace H := Option.bind_eq_some_iff.mp H
  obtain ⟨t128, A20, H⟩ := H
  replace H : (spec_l03Spectrum.l0 k y125 t128 0 a0_0 a0_1) = some r := H
  have A2 := Aside0.mk A20
  clear A20
  have H' := Aside0.mk H
  clear H
  go_enter Try.func79, Try.ntmps79
  go_wp2_with (first | ((with_reducible refine gate_dst (N := 1) rfl ?_); refine box_event ?hg (N := 1) ?hd (cs := #[.int .i64 a0_0, .int .i64 a0_1]) (t := 27) ?hr ?_; (case hd => rfl); (case hg => rfl); (case hr => first | (go_simp; done) | (go_simp; rfl)); intro gb124 hg w3 hbox hb; have n0_ := aa (below_step iHB hb); have n1_ := aa (hbox); have n2_ := aa ((by rw [hg]; exact (below_size iHB) : w.heap.size ≤ gb124)); have n3_ := aa ((by rw [hg]; exact (below_size iHB) : w.heap.size ≤ gb124)); clear HB; have HB := n0_; have BK124 := n1_; have GW124 := n2_; have GE124 := n3_; clear n0_ n1_ n2_ n3_; clear hb hbox hg) | ((with_reducible refine gate_dst (N := 8) rfl ?_); refine Kd.R_lit (Kd.int .i64) _ 2 ?hg (N := 8) ?hd (xs := ([] : List Int)) (inner := []) (ok := fun _ => True) (okp := fun _ => True) ?hr ?hp (fun _ hk => hk) trivial (Below.refl _ _) (Nat.le_refl _) (by simp) ?_; (case hd => rfl); (case hg => rfl); (case hr => first | (go_simp; done) | (go_simp; rfl)); (case hp => exact (Reps.none _ _)); intro v126 w4 ho5 hb hg_ hnew_; clear hg_ hnew_; (first | rw [← Ny125.out] at ho5 | (simp only [Int.reduceToNat] at ho5; rw [← Ny125.out] at ho5)); have n0_ := aa (Kd.R_lower ho5 (below_size iHB)); have n1_ := aa (blk_below (g := gb124) (o := .cells #[.int .i64 a0_0, .int .i64 a0_1] 27 (0, 0)) (iBK BK124.out) hb); have n2_ := aa (below_step iHB hb); clear BK124; clear HB; have HO127 := n0_; have BK124 := n1_; have HB := n2_; clear n0_ n1_ n2_; clear hb ho5; have hcz6_0 : w4.cell? ⟨gb124, 0, none⟩ = some (.int .i64 a0_0) := (blk_cell BK124.out 0).trans rfl; have hcz6_1 : w4.cell? ⟨gb124, 1, none⟩ = some (.int .i64 a0_1) := (blk_cell BK124.out 1).trans rfl; have hfz6_0 := blk_frozen BK124.out 0; have hfz6_1 := blk_frozen BK124.out 1) | ((with_reducible refine gate_callee (f := 68) rfl ?_); refine goesL_ (some 11) rfl rfl Try.func68 (by kernel_rfl) rfl #[.int .i64 a0_0] rfl iAR ?_; (with_reducible refine (spec_l01Rows.calls a0_0 t128 _ A2.out).mono ?_); rintro e w' ⟨rfl, ⟨nd, rfl⟩⟩; refine ⟨_, rfl, ?_⟩))
  go_loopg [3, 5] k (fun kq v3 v5 w' => ∃ (x3_1 : List Int) (x5_1 : Int), v5 = .int .i64 x5_1 ∧ Aside0 (spec_l03Spectrum.l0 kq x3_1 t128 x5_1 a0_0 a0_1 = some r) ∧ Aside0 (kq ≤ k) ∧ Aside0 (Kd.R (Kd.int .i64) 2 w' w.heap.size (fun _ => True) v3 x3_1) ∧ Aside0 (w'.heap[gb124]? = some (.cells #[.int .i64 a0_0, .int .i64 a0_1] 27 (0, 0))) ∧ Aside0 (Below w.heap.size w w'))
  case atStart => exact ⟨(y125), (0), (by first | rfl | (simp; done) | (simp [*]; done)), H', ⟨Nat.le_refl _⟩, ⟨by (with_reducible repeat (first | apply Kd.R_alloc | apply Kd.R_drewN | apply Kd.R_drew)); exact HO127.out⟩, ⟨iBK BK124.out⟩, ⟨iHB⟩⟩
  case round =>
    clear H'
    try clear p2
    try clear c6
    try clear hcz6_0
    try clear hcz6_1
    try clear hfz6_0
    try clear hfz6_1
    obtain ⟨x3_1, x5_1, rfl, HA, HK1, HO_3, BK124, HB⟩ := hrel
    cases gk with
    | zero => exact absurd HA.out (by simp [spec_l03Spectrum.l0])
    | succ k1 =>
      have H := HA.out
      clear HA
      simp only [spec_l03Spectrum.l0] at H
      by_cases c7 : x5_1 < t128
      · rw [if_pos c7] at H
        have c7b0 : decide (x5_1 < t128) = true := decide_eq_true c7
        clear c7
        have H' := Aside0.mk H
        clear H
        go_wp2
        go_loopg [6, 7] k1 (fun kq v6 v7 w' => ∃ (x6_2 : Int) (x7_2 : Int), v6 = .int .i64 x6_2 ∧ v7 = .int .i64 x7_2 ∧ Aside0 (spec_l03Spectrum.l1 kq x3_1 t128 x5_1 x6_2 x7_2 a0_0 a0_1 = some r) ∧ Aside0 (kq ≤ k1) ∧ Aside0 (Kd.R (Kd.int .i64) 2 w' w.heap.size (fun _ => True) u3 x3_1) ∧ Aside0 (w'.heap[gb124]? = some (.cells #[.int .i64 a0_0, .int .i64 a0_1] 27 (0, 0))) ∧ Aside0 (Below w.heap.size w w'))
        case atStart => exact ⟨(0), (0), (by first | rfl | (simp; done) | (simp [*]; done)), (by first | rfl | (simp; done) | (simp [*]; done)), H', ⟨Nat.le_refl _⟩, ⟨by (with_reducible repeat (first | apply Kd.R_alloc | apply Kd.R_drewN | apply Kd.R_drew)); exact HO_3.out⟩, ⟨iBK BK124.out⟩, ⟨iHB⟩⟩
        case round =>
          clear H'
          try clear p2
          try clear c6
          try clear c7
          try clear c7b0
          try clear hcz6_0
          try clear hcz6_1
          try clear hfz6_0
          try clear hfz6_1
          try clear p2
          obtain ⟨x6_2, x7_2, rfl, rfl, HA, HK2, HO_3, BK124, HB⟩ := hrel
          cases gk with
          | zero => exact absurd HA.out (by simp [spec_l03Spectrum.l1])
          | succ k2 =>
            have H := HA.out
            clear HA
            simp only [spec_l03Spectrum.l1] at H
            by_cases c8 : x7_2 < t128
            · rw [if_pos c8] at H
              have c8b0 : decide (x7_2 < t128) = true := decide_eq_true c8
              clear c8
              replace H := Option.bind_eq_some_iff.mp H
              obtain ⟨t129, A90, H⟩ := H
              replace H : ((spec_l03Size.f k2 (Go.bits .and .i64 x7_2 x5_1)).bind fun t130 => (spec_l03Spectrum.l1 k2 x3_1 t128 x5_1 (wrap64 ((wrap64 (x6_2 + 1)) - (wrap64 (2 * (Int.tmod (wrap64 (t129 + t130)) 2))))) (wrap64 (x7_2 + 1)) a0_0 a0_1)) = some r := H
              have A9 := Aside0.mk A90
              clear A90
              replace H := Option.bind_eq_some_iff.mp H
              obtain ⟨t130, A100, H⟩ := H
              replace H : (spec_l03Spectrum.l1 k2 x3_1 t128 x5_1 (wrap64 ((wrap64 (x6_2 + 1)) - (wrap64 (2 * (Int.tmod (wrap64 (t129 + t130)) 2))))) (wrap64 (x7_2 + 1)) a0_0 a0_1) = some r := H
              have A10 := Aside0.mk A100
              clear A100
              have H' := Aside0.mk H
              clear H
              have hcz11_0 : wr.cell? ⟨gb124, 0, none⟩ = some (.int .i64 a0_0) := (blk_cell BK124.out 0).trans rfl
              have hcz11_1 : wr.cell? ⟨gb124, 1, none⟩ = some (.int .i64 a0_1) := (blk_cell BK124.out 1).trans rfl
              have hfz11_0 := blk_frozen BK124.out 0
              have hfz11_1 := blk_frozen BK124.out 1
              go_wp2_with (first | ((with_reducible refine gate_callee (f := 69) rfl ?_); refine goesL_ (some 26) rfl rfl Try.func69 (by kernel_rfl) rfl #[.agg #[.int .i64 a0_0, .int .i64 a0_1], .int .i64 x7_2] rfl iAR ?_; (with_reducible refine (spec_l01At.calls a0_0 a0_1 x7_2 t129 _ A9.out).mono ?_); rintro e w12 ⟨rfl, hb⟩; refine ⟨_, rfl, ?_⟩; have n0_ := aa (Kd.R_below (by (with_reducible repeat (first | apply Kd.R_alloc | apply Kd.R_drewN | apply Kd.R_drew)); exact HO_3.out) hb); have n1_ := aa (blk_below (g := gb124) (o := .cells #[.int .i64 a0_0, .int .i64 a0_1] 27 (0, 0)) (iBK BK124.out) hb); have n2_ := aa (below_step iHB hb); clear HO_3; clear BK124; clear HB; have HO_3 := n0_; have BK124 := n1_; have HB := n2_; clear n0_ n1_ n2_; (try clear hb); (try clear hb2); (try clear hk); (try clear hi)) | ((with_reducible refine gate_callee (f := 80) rfl ?_); refine goesL_ (some 30) rfl rfl Try.func80 (by kernel_rfl) rfl #[.int .i64 (Go.bits .and .i64 x7_2 x5_1)] rfl iAR ?_; (with_reducible refine (spec_l03Size.calls k2 (Go.bits .and .i64 x7_2 x5_1) t130 _ A10.out).mono ?_); rintro e w' ⟨rfl, ⟨nd, rfl⟩⟩; refine ⟨_, rfl, ?_⟩))
              go_roundg k2
              case measure => have := HK1.out; have := HK2.out; omega
              case rel => exact ⟨(wrap64 ((wrap64 (x6_2 + 1)) - (wrap64 (2 * (Int.tmod (wrap64 (t129 + t130)) 2))))), (wrap64 (x7_2 + 1)), (by first | rfl | (simp; done) | (simp [*]; done)), (by first | rfl | (simp; done) | (simp [*]; done)), H', ⟨by have := HK1.out; have := HK2.out; omega⟩, ⟨by (with_reducible repeat (first | apply Kd.R_alloc | apply Kd.R_drewN | apply Kd.R_drew)); exact HO_3.out⟩, ⟨iBK BK124.out⟩, ⟨iHB⟩⟩
            · rw [if_neg c8] at H
              have c8b0 : decide (x7_2 < t128) = false := decide_eq_false c8
              clear c8
              by_cases c13 : x3_1.length < 17592186044416
              · rw [if_pos c13] at H
                have LMc13 := Aside0.mk c13
                clear c13
                obtain ⟨y131, hy131⟩ : ∃ y_ : List Int, y_ = (x3_1 ++ [x6_2]) := ⟨_, rfl⟩
                replace H : (spec_l03Spectrum.l0 k2 y131 t128 (wrap64 (x5_1 + 1)) a0_0 a0_1) = some r := by first | (rw [hy131]; with_reducible exact H) | (have H2_ := (Option.bind_some _ _).symm.trans H; rw [hy131]; with_reducible exact H2_) | (have H2_ := (Option.bind_some _ _).symm.trans H; with_reducible exact H2_) | with_reducible exact H | (rw [hy131]; exact H) | exact H
                have Ny131 := Aside0.mk hy131
                clear hy131
                have H' := Aside0.mk H
                clear H
                go_wp2_with (first | ((with_reducible refine gate_builtin (b := .append) (xs := #[.tmp 35, .tmp 37]) rfl ?_); at_builtin; refine Kd.R_append (Kd.int .i64) (w0 := w) w.heap.size rfl (.tmp 35) (.tmp 37) 24 2 (.int .i64 0) 8 rfl Try.underlying24 info2 rfl (by decide) (by omega) u3 x3_1 x6_2 [.int .i64 x6_2] (fun _ => True) (fun _ => False) rfl rfl ?aP (fun _ hk => hk.elim) ?aF ?aO ?aB ?aS ?aL ?_; (case aP => exact rfl); (case aB => exact iHB); (case aF => exact (fun _ _ => trivial)); (case aO => exact (by (with_reducible repeat (first | apply Kd.R_alloc | apply Kd.R_drewN | apply Kd.R_drew)); exact HO_3.out)); (case aS => exact (below_size iHB)); (case aL => have := LMc13.out; omega); intro v132 w14 ho hb hg hat; rw [← Ny131.out] at ho; have n0_ := aa (blk_grown (g := gb124) (o := .cells #[.int .i64 a0_0, .int .i64 a0_1] 27 (0, 0)) (iBK BK124.out) hg (Kd.R_ne HO_3.out BK124.out (by decide))); have n1_ := aa (hb); have n2_ := aa (ho); clear BK124; clear HB; clear HO_3; have BK124 := n0_; have HB := n1_; have HO133 := n2_; clear n0_ n1_ n2_; clear ho hb hg hat))
                go_roundg k2
                case measure => have := HK1.out; have := HK2.out; omega
                case rel => exact ⟨(y131), (wrap64 (x5_1 + 1)), (by first | rfl | (simp; done) | (simp [*]; done)), H', ⟨by have := HK1.out; have := HK2.out; omega⟩, ⟨by (with_reducible repeat (first | apply Kd.R_alloc | apply Kd.R_drewN | apply Kd.R_drew)); exact HO133.out⟩, ⟨iBK BK124.out⟩, ⟨iHB⟩⟩
              · rw [if_neg c13] at H
                exact absurd H (by simp)
      · rw [if_neg c7] at H
        have c7b0 : decide (x5_1 < t128) = false := decide_eq_false c7
        clear c7
        obtain rfl := Option.some.inj H
        go_wp2
        go_ret
        exact ⟨_, by first | rfl | (simp [errW_none, errW_some] <;> rfl) | (simp [*, errW_none, errW_some] <;> rfl), by (with_reducible repeat (first | apply Kd.R_alloc | apply Kd.R_drewN | apply Kd.R_drew)); exact HO_3.out, iHB⟩
/-- What is asked of a function value on two rows: a small number, and what lay is left as it was. -/
def GivesPair (g : Nat) (lb : Array Value) (m : Nat) (h : Nat → Nat → Int) (w : World) : Prop :=
  ∀ (W : World) (a r : Nat), a < m → r < m → Below w.heap.size w W →
    Calls Try.prog g (#[.int .i64 (a : Nat), .int .i64 (r : Nat)] ++ lb) W fun e W' => e = .returned (.int .i64 (h a r)) ∧ Below W.heap.size W W'
/-- A new list of numbers. -/
def SomeInts (l : List Int) (w : World) (e : Ending) (w' : World) : Prop := ∃ v : Value, e = .returned v ∧ Kd.R (Kd.int .i64) 2 w' w.heap.size (fun _ => True) v l ∧ Below w.heap.size w w'
/-- The same beside a code. -/
def SomeIntsTwo (l : List Int) (c : Int) (w : World) (e : Ending) (w' : World) : Prop := ∃ v : Value, e = .returned (.tuple #[v, .int .i64 c]) ∧ Kd.R (Kd.int .i64) 2 w' w.heap.size (fun _ => True) v l ∧ Below w.heap.size w w'
set_option maxHeartbeats 8000000 in
set_option maxRecDepth 100000 in
theorem impl_Func_sums.core (g : Nat) (lb : Array Value) (eg : ∀ args w, (callFunc g args).run Try.prog w = .ok (.enter g args) w) (n b : Int) (m : Nat) (hn : impl_Func_rows.f n b = some (m : Int)) (h16 : m ≤ 16) (h : Nat → Nat → Int) (hh : ∀ a r, -1 ≤ h a r ∧ h a r ≤ 1) (w : World) (hp : GivesPair g lb m h w) :
    Calls Try.prog 70 #[.agg #[.int .i64 n, .int .i64 b], .func (.func g) #[] lb] w (SomeInts (M.sumL m h m) w) := by
  have HR := Aside0.mk hn
  have HP := Aside0.mk hp
  have HH := Aside0.mk hh
  clear hp hh hn
  go_enter Try.func70, Try.ntmps70
  have HB := aa (below_alloc (Below.refl w.heap.size w) (.cells #[.int .i64 n, .int .i64 b] 27))
  have BK := aa (blk_new w (.cells #[.int .i64 n, .int .i64 b] 27))
  go_wp2_with (first | (go_at_call 75; (with_reducible refine (impl_Func_rows.calls _ _ _ _ HR.out).mono ?_); rintro e w1 ⟨rfl, hb⟩; have HB1 := aa (below_step HB.out hb); have BK1 := aa (blk_below BK.out hb); clear hb HB BK))
  go_loopg [5, 11] 17 (fun gg v5 v11 wr => ∃ a : Nat, v11 = .int .i64 (a : Int) ∧ Aside0 (a ≤ m) ∧ Aside0 (m - a < gg) ∧ Aside0 (Kd.R (Kd.int .i64) 2 wr w.heap.size (fun _ => True) v5 (M.sumL m h a)) ∧ Aside0 (wr.heap[w.heap.size]? = some (.cells #[.int .i64 n, .int .i64 b] 27 (0, 0))) ∧ Aside0 (Below w.heap.size w wr))
  case atStart => exact ⟨0, rfl, ⟨by omega⟩, ⟨by omega⟩, ⟨Kd.R_nil _ _ _ _ _⟩, ⟨BK1.out⟩, ⟨HB1.out⟩⟩
  case round =>
    clear HB1 BK1
    obtain ⟨a, rfl, HA1, HA2, HO, BK, HB⟩ := hrel
    by_cases hlt : a < m
    · have hlti : decide (a < m) = true := by simpa using hlt
      have HL := Aside0.mk hlt
      clear hlt
      have hc0 := blk_cell BK.out 0
      have hc1 := blk_cell BK.out 1
      simp at hc0 hc1
      go_wp2_with (first | (go_at_call 75; (with_reducible refine (impl_Func_rows.calls _ _ _ _ HR.out).mono ?_); rintro e w1 ⟨rfl, hb⟩; have HB1 := aa (below_step HB.out hb); have BK1 := aa (blk_below BK.out hb); have HO1 := aa (Kd.R_below HO.out hb); clear hb HB BK HO hc0 hc1))
      obtain ⟨wo, rfl⟩ : ∃ wo : World, wo = wr := ⟨_, rfl⟩
      go_loopg [7, 16] 17 (fun gg v7 v16 wr => ∃ r : Nat, v16 = .int .i64 (r : Int) ∧ v7 = .int .i64 (M.part h a r) ∧ Aside0 (r ≤ m) ∧ Aside0 (m - r < gg) ∧ Aside0 (Kd.R (Kd.int .i64) 2 wr w.heap.size (fun _ => True) u5 (M.sumL m h a)) ∧ Aside0 (wr.heap[w.heap.size]? = some (.cells #[.int .i64 n, .int .i64 b] 27 (0, 0))) ∧ Aside0 (Below w.heap.size w wr))
      case atStart => exact ⟨0, rfl, rfl, ⟨by omega⟩, ⟨by omega⟩, ⟨HO1.out⟩, ⟨BK1.out⟩, ⟨HB1.out⟩⟩
      case round =>
        clear HB1 BK1 HO1
        obtain ⟨r, rfl, rfl, HR1, HR2, HO, BK, HB⟩ := hrel
        by_cases hlt : r < m
        · have hltj : decide (r < m) = true := by simpa using hlt
          have HL2 := Aside0.mk hlt
          clear hlt
          have HC := aa (HP.out wr a r HL.out HL2.out HB.out)
          go_wp2_with (((with_reducible refine HC.out.mono ?_); rintro e w1 ⟨rfl, hb⟩; have HB1 := aa (below_step HB.out hb); have BK1 := aa (blk_below BK.out hb); have HO1 := aa (Kd.R_below HO.out hb); clear hb HB BK HO))
          go_roundg (m - r)
          case measure => have := HR2.out; omega
          case rel =>
            have hl := HL2.out
            have hb1 := M.part_le h HH.out a r
            have hb2 := HH.out a r
            refine ⟨r + 1, by rw [M.w64_in _ (by omega) (by omega)]; rfl, ?_, ⟨by omega⟩, ⟨by omega⟩, ⟨HO1.out⟩, ⟨BK1.out⟩, ⟨HB1.out⟩⟩
            rw [M.part_succ]
            first | rfl | (rw [M.w64_in _ (by omega) (by omega)])
        · have hltj : decide (r < m) = false := by simpa using hlt
          have HE : Aside0 (r = m) := ⟨by have := HR1.out; omega⟩
          clear hlt
          have HLEN : Aside0 ((M.sumL m h a).length < 16) := ⟨by rw [M.sumL_length]; have := HL.out; omega⟩
          have hpl := M.part_le h HH.out a r
          have HPL := Aside0.mk hpl
          clear hpl
          go_wp2_with (first | ((with_reducible refine gate_builtin (b := .append) (xs := #[.tmp 26, .tmp 28]) rfl ?_); at_builtin; refine Kd.R_append (Kd.int .i64) (w0 := w) w.heap.size rfl (.tmp 26) (.tmp 28) 24 2 (.int .i64 0) 8 rfl Try.underlying24 info2 rfl (by decide) (by omega) u5 (M.sumL m h a) (M.part h a r) [.int .i64 (M.part h a r)] (fun _ => True) (fun _ => False) rfl rfl ?aP (fun _ hk => hk.elim) ?aF ?aO ?aB ?aS ?aL ?_; (case aP => exact rfl); (case aB => exact iHB); (case aF => exact (fun _ _ => trivial)); (case aO => exact (by (with_reducible repeat (first | apply Kd.R_alloc | apply Kd.R_drewN | apply Kd.R_drew)); exact HO.out)); (case aS => exact (below_size iHB)); (case aL => have := HLEN.out; omega); intro v192 w21 ho hb hg hat; have BK1 := aa (blk_grown (iBK BK.out) hg (Kd.R_ne HO.out BK.out (by decide))); have HB1 := Aside0.mk hb; have HO1 := Aside0.mk ho; clear BK HB HO ho hb hg hat))
          go_roundg (m - a)
          case measure => have := HA2.out; have := HL.out; omega
          case rel =>
            have hl := HL.out
            refine ⟨a + 1, by rw [M.w64_in _ (by omega) (by omega)]; rfl, ⟨by omega⟩, ⟨by omega⟩, ⟨?_⟩, ⟨BK1.out⟩, ⟨HB1.out⟩⟩
            have e := HO1.out
            rw [HE.out] at e
            rw [M.sumL_succ]
            exact e
    · have hlti : decide (a < m) = false := by simpa using hlt
      have HE : Aside0 (a = m) := ⟨by have := HA1.out; omega⟩
      clear hlt
      go_wp2
      go_ret
      have e := HO.out
      rw [HE.out] at e
      exact ⟨_, rfl, e, HB.out⟩
/-- The same, for an arity. -/
theorem impl_Func_sums.calls (g : Nat) (lb : Array Value) (eg : ∀ args w, (callFunc g args).run Try.prog w = .ok (.enter g args) w) (n : Nat) (b : Int) (hn : n ≤ 4) (h : Nat → Nat → Int) (hh : ∀ a r, -1 ≤ h a r ∧ h a r ≤ 1) (w : World) (hp : GivesPair g lb (2 ^ n) h w) :
    Calls Try.prog 70 #[.agg #[.int .i64 (n : Int), .int .i64 b], .func (.func g) #[] lb] w (SomeInts (M.sumL (2 ^ n) h (2 ^ n)) w) :=
  impl_Func_sums.core g lb eg n b (2 ^ n) (Func_rows_some n b hn) (M.pow_le16 hn) h hh w hp
def impl_sign.f (a0 : Int) : Option (Int) := some (wrap64 (1 - (wrap64 (2 * (Go.bits .and .i64 a0 1)))))
set_option maxHeartbeats 8000000 in
set_option maxRecDepth 100000 in
theorem impl_sign.calls (a0 : Int) (r : Int) (w : World) (h : impl_sign.f a0 = some r) :
    Calls Try.prog 72 #[.int .i64 a0] w fun e w' => e = .returned (.int .i64 r) ∧ Drawn0 w w' := by
  have H : (some (wrap64 (1 - (wrap64 (2 * (Go.bits .and .i64 a0 1)))))) = some r := h
  clear h
  obtain rfl := Option.some.inj H
  go_enter Try.func72, Try.ntmps72
  go_wp2
  go_ret
  exact ⟨by first | rfl | (simp; done) | (simp [*]; done), by repeat (first | exact Drawn0.refl _ | apply Drawn0.step)⟩
-- NOT PRINTED: function 113 (impl_Func_spectrum_1)
theorem ones_some : ∀ x, x < 16 → impl_ones.f (x : Nat) = some ((M.pop 16 x : Nat) : Int) := by decide +kernel
theorem sign_some : ∀ x, x < 40 → impl_sign.f (x : Nat) = some (M.sgn x) := by decide +kernel
set_option maxHeartbeats 8000000 in
set_option maxRecDepth 100000 in
theorem spectrum_lit (B n b : Nat) (hn : n ≤ 4) (hb : b < 2 ^ 62) (w : World) (hB : B < w.heap.size) (hc : w.heap[B]? = some (.cells #[.int .i64 (n : Int), .int .i64 (b : Int)] 27 (0, 0))) :
    GivesPair 113 #[.pointer (some ⟨B, 0, none⟩)] (2 ^ n) (M.spc b) w := by
  intro W a r ha hr hbW
  have BK := aa ((hbW.block B hB).trans hc)
  have h16 := M.pow_le16 hn
  have hp := M.pop_le16 (r &&& a)
  have hat := M.atN_le b r
  have hra : r &&& a < 16 := Nat.lt_of_le_of_lt Nat.and_le_left (by omega)
  have HA1 := aa (Func_at_some (n : Int) b r hb (by omega))
  have HO : Aside0 (impl_ones.f (Go.bits .and .i64 (r : Int) (a : Int)) = some ((M.pop 16 (r &&& a) : Nat) : Int)) := ⟨by rw [M.and_nat r a (by omega) (by omega)]; exact ones_some _ hra⟩
  have HS : Aside0 (impl_sign.f (wrap64 (((M.atN b r : Nat) : Int) + ((M.pop 16 (r &&& a) : Nat) : Int))) = some (M.spc b a r)) := ⟨by rw [M.w64_in _ (by omega) (by omega), ← Int.natCast_add]; exact sign_some _ (by omega)⟩
  show Calls Try.prog 113 #[.int .i64 (a : Int), .int .i64 (r : Int), .pointer (some ⟨B, 0, none⟩)] W _
  have hc0 := blk_cell BK.out 0
  have hc1 := blk_cell BK.out 1
  simp at hc0 hc1
  clear hn hb hB hc ha hr hbW h16 hp hat hra
  generalize hx : ((M.atN b r : Nat) : Int) = x at HA1 HS
  generalize ((M.pop 16 (r &&& a) : Nat) : Int) = y at HO HS
  generalize hz : M.spc b a r = z at HS
  have HZ := Aside0.mk hz
  clear hx hz
  go_enter Try.func113, Try.ntmps113
  go_wp2_with (first | (go_at_call 73; (with_reducible refine (impl_Func_at.calls _ _ _ _ _ HA1.out).mono ?_); rintro e w1 ⟨rfl, hb1⟩; have HB1 := Aside0.mk hb1; clear hb1) | (go_at_call 82; (with_reducible refine (impl_ones.calls _ _ _ HO.out).mono ?_); rintro e w2 ⟨rfl, ⟨nd, rfl⟩⟩) | (go_at_call 72; (with_reducible refine (impl_sign.calls _ _ _ HS.out).mono ?_); rintro e w3 ⟨rfl, ⟨nd2, rfl⟩⟩))
  go_ret
  exact ⟨rfl, pw_below_drewN HB1.out _⟩
def impl_Func_spectrum.f (a0_0 a0_1 : Int) : Option (List Int) := if M.valid a0_0 a0_1 = true then some (M.sumL (2 ^ a0_0.toNat) (M.spc a0_1.toNat) (2 ^ a0_0.toNat)) else none
set_option maxHeartbeats 8000000 in
set_option maxRecDepth 100000 in
theorem impl_Func_spectrum.calls (a0_0 a0_1 : Int) (r : List Int) (w : World) (h : impl_Func_spectrum.f a0_0 a0_1 = some r) :
    Calls Try.prog 81 #[.agg #[.int .i64 a0_0, .int .i64 a0_1]] w fun e w' => ∃ v0_ : Value, e = .returned (v0_) ∧ Kd.R (Kd.int .i64) 2 w' w.heap.size (fun _ => True) v0_ r ∧ Below w.heap.size w w' := by
  unfold impl_Func_spectrum.f at h
  by_cases hv : M.valid a0_0 a0_1 = true
  · rw [if_pos hv] at h
    obtain rfl := Option.some.inj h
    obtain ⟨n, b, hn, hb, rfl, rfl⟩ := (M.valid_iff _ _).1 hv
    simp only [Int.toNat_natCast]
    have hb6 : b < 2 ^ 62 := Nat.lt_trans (M.bits_lt hn hb) (by decide)
    have HC := aa (fun W hB hc => impl_Func_sums.calls 113 #[.pointer (some ⟨w.heap.size, 0, none⟩)] (fun args w => enters_ Try.func113 (by kernel_rfl) rfl args w) n (b : Int) hn (M.spc b) (fun _ _ => M.sgn_le _) W (spectrum_lit w.heap.size n b hn hb6 W hB hc))
    show Calls _ _ _ _ (SomeInts (M.sumL (2 ^ n) (M.spc b) (2 ^ n)) w)
    generalize M.sumL (2 ^ n) (M.spc b) (2 ^ n) = l at HC ⊢
    clear hv hn hb hb6
    have HB := aa (below_alloc (Below.refl w.heap.size w) (.cells #[.int .i64 (n : Int), .int .i64 (b : Int)] 27))
    go_enter Try.func81, Try.ntmps81
    go_wp2_with fail
    refine (HC.out _ (by rw [World.size_alloc_]; exact Nat.lt_succ_self _) (blk_new w _)).mono ?_
    rintro e w1 ⟨v, rfl, hr, hb⟩
    have HR := aa (Kd.R_lower hr (by rw [World.size_alloc_]; exact Nat.le_succ _))
    have HB2 := aa (below_step HB.out hb)
    clear hr hb
    go_wp2
    go_ret
    exact ⟨_, rfl, HR.out, HB2.out⟩
  · rw [if_neg hv] at h
    exact absurd h (by simp)
end Go.Proofs.Ytdhfbgbclibagaa.P
