/- Functions of the given program and their contracts, written by a program of this session (gen.py) over the kit's print. -/
import Derived.Test.YtdlnjbaldfdnpaaPx0
import Derived.Test.YtdlnjbaldfdnpaaPx4
import Derived.Test.YtdlnjbaldfdnpaaPx5
import Derived.Test.YtdlnjbaldfdnpaaPx15
import Derived.Test.YtdlnjbaldfdnpaaPx16
namespace Go.Proofs.Ytdlnjbaldfdnpaa.P
open Go.RowKit Go.Proofs.YtdlnjbaldfdnpaaW.PrintWords Go.Proofs.YtdlnjbaldfdnpaaW.PrintLast Go.Proofs.YtdlnjbaldfdnpaaW.PrintMore
attribute [local go_sem] max2_int min2_int max_two min_two max_three min_three max_four min_four   -- for this text's walks alone
set_option linter.unusedVariables false
set_option linter.unusedSimpArgs false

/-! ### spec_l05Depth: function 70 -/
mutual
def spec_l05Depth.l0 : Nat → List ByteArray → Int → Int → Option (Int)
  | 0, _, _, _ => none
  | k + 1, x3, x4, x5 => if x5 < (x3.length : Int) then (if 0 ≤ x5 then ((spec_l05Depth.f k (rdOf ByteArray.empty x3 x5)).bind fun t318 => (spec_l05Depth.l0 k x3 (mx x4 (wrap64 (t318 + 1))) (wrap64 (x5 + 1)))) else (none)) else (some x4)
def spec_l05Depth.f : Nat → ByteArray → Option (Int)
  | 0, _ => none
  | k + 1, a0 => (spec_l05Parts.f k a0).bind fun t314 => (spec_l05Depth.l0 k t314 0 0)
end
theorem spec_l05Depth.mono_l : ∀ k, (∀ y0, LeO (spec_l05Depth.f k y0) (spec_l05Depth.f (k + 1) y0)) ∧ (∀ y0 y1 y2, LeO (spec_l05Depth.l0 k y0 y1 y2) (spec_l05Depth.l0 (k + 1) y0 y1 y2))
  | 0 => ⟨fun _ r h => by simp [spec_l05Depth.f] at h, fun _ _ _ r h => by simp [spec_l05Depth.l0] at h⟩
  | k + 1 => by
    obtain ⟨ih0, ih1⟩ := spec_l05Depth.mono_l k
    refine ⟨?_, ?_⟩
    · intro y0
      unfold spec_l05Depth.f
      repeat' first
      | (with_reducible exact ih0 _)
      | (with_reducible exact ih1 _ _ _)
      | (with_reducible exact spec_l05Parts.mono _ _)
      | (with_reducible exact LeO.refl _)
      | (with_reducible exact LeO.none _)
      | (with_reducible refine LeO.ite ?_ ?_)
      | (with_reducible refine LeO.bind ?_ (fun _ => ?_))
      | exact ih0 _
      | exact ih1 _ _ _
      | exact spec_l05Parts.mono _ _
      | exact LeO.none _
      | refine LeO.ite ?_ ?_
      | refine LeO.bind ?_ (fun _ => ?_)
    · intro y0 y1 y2
      unfold spec_l05Depth.l0
      repeat' first
      | (with_reducible exact ih0 _)
      | (with_reducible exact ih1 _ _ _)
      | (with_reducible exact spec_l05Parts.mono _ _)
      | (with_reducible exact LeO.refl _)
      | (with_reducible exact LeO.none _)
      | (with_reducible refine LeO.ite ?_ ?_)
      | (with_reducible refine LeO.bind ?_ (fun _ => ?_))
      | exact ih0 _
      | exact ih1 _ _ _
      | exact spec_l05Parts.mono _ _
      | exact LeO.none _
      | refine LeO.ite ?_ ?_
      | refine LeO.bind ?_ (fun _ => ?_)
theorem spec_l05Depth.mono : ∀ a0 k, LeO (spec_l05Depth.f k a0) (spec_l05Depth.f (k + 1) a0) := by
  intro a0 k
  obtain ⟨ih0, ih1⟩ := spec_l05Depth.mono_l k
  exact ih0 a0
set_option maxHeartbeats 8000000 in
set_option maxRecDepth 100000 in
theorem spec_l05Depth.calls (k : Nat) : ∀ (a0 : ByteArray) (r : Int) (w : World) (h : spec_l05Depth.f k a0 = some r),
    Calls Try.prog 70 #[.string a0] w fun e w' => e = .returned (.int .i64 r) ∧ Below w.heap.size w w' := by
  induction k using Nat.strongRecOn with
  | _ k ih =>
  intro a0 r w h
  cases k with
  | zero => exact absurd h (by simp [spec_l05Depth.f])
  | succ k =>
  simp only [spec_l05Depth.f] at h
  have HB := Aside0.mk (Below.refl w.heap.size w)
  have H : ((spec_l05Parts.f k a0).bind fun t314 => (spec_l05Depth.l0 k t314 0 0)) = some r := h
  clear h
  replace H := Option.bind_eq_some_iff.mp H
  obtain ⟨t314, A20, H⟩ := H
  replace H : (spec_l05Depth.l0 k t314 0 0) = some r := H
  have A2 := Aside0.mk A20
  clear A20
  have H' := Aside0.mk H
  clear H
  go_enter Try.func70, Try.ntmps70
  go_wp2_with (first | ((with_reducible refine gate_callee (f := 72) rfl ?_); refine goesL_ (some 7) rfl rfl Try.func72 (by kernel_rfl) rfl #[.string a0] rfl (by (try simp only [List.map_toArray, List.map_cons, List.map_nil]); first | done | rfl | (simp only [List.length_drop, List.length_take]; rfl)) ?_; (with_reducible refine (spec_l05Parts.calls k a0 t314 _ A2.out).mono ?_); rintro e w3 ⟨v315, rfl, ho0, hb⟩; refine ⟨_, rfl, ?_⟩; have n0_ := Aside0.mk (Kd.R_lower ho0 (below_size (by repeat (first | (with_reducible first | exact HB.out | apply below_alloc | apply pw_below_drewN | apply below_drew1) | exact HB.out)))); have n1_ := Aside0.mk (below_step (by repeat (first | (with_reducible first | exact HB.out | apply below_alloc | apply pw_below_drewN | apply below_drew1) | exact HB.out)) hb); clear HB; have HO316 := n0_; have HB := n1_; clear n0_ n1_; (try clear hb); (try clear hb2); (try clear hk); (try clear hi); (try clear ho0)))
  go_loopg [4, 5] k (fun kq v4 v5 w' => ∃ (x4_1 : Int) (x5_1 : Int), v4 = .int .i64 x4_1 ∧ v5 = .int .i64 x5_1 ∧ Aside0 (spec_l05Depth.l0 kq t314 x4_1 x5_1 = some r) ∧ Aside0 (kq ≤ k) ∧ Aside0 (Kd.R Kd.string 9 w' w.heap.size (fun _ => True) v315 t314) ∧ Aside0 (Below w.heap.size w w'))
  case atStart => exact ⟨(0), (0), (by first | rfl | (simp; done) | (simp [*]; done)), (by first | rfl | (simp; done) | (simp [*]; done)), H', ⟨Nat.le_refl _⟩, ⟨by (with_reducible repeat (first | apply Kd.R_alloc | apply Kd.R_drewN | apply Kd.R_drew)); exact HO316.out⟩, ⟨by repeat (first | (with_reducible first | exact HB.out | apply below_alloc | apply pw_below_drewN | apply below_drew1) | exact HB.out)⟩⟩
  case round =>
    clear H'
    try clear p2
    obtain ⟨x4_1, x5_1, rfl, rfl, HA, HK1, HO_3, HB⟩ := hrel
    cases gk with
    | zero => exact absurd HA.out (by simp [spec_l05Depth.l0])
    | succ k1 =>
      have H := HA.out
      clear HA
      simp only [spec_l05Depth.l0] at H
      by_cases c4 : x5_1 < (t314.length : Int)
      · rw [if_pos c4] at H
        have c4b0 : decide (x5_1 < (t314.length : Int)) = true := decide_eq_true c4
        clear c4
        by_cases c5 : 0 ≤ x5_1
        · rw [if_pos c5] at H
          have c5b0 : decide (0 ≤ x5_1) = true := decide_eq_true c5
          clear c5
          replace H := Option.bind_eq_some_iff.mp H
          obtain ⟨t318, A60, H⟩ := H
          replace H : (spec_l05Depth.l0 k1 t314 (mx x4_1 (wrap64 (t318 + 1))) (wrap64 (x5_1 + 1))) = some r := H
          have A6 := Aside0.mk A60
          clear A60
          obtain ⟨ji7, hji7⟩ : ∃ j_ : Int, (mx x4_1 (wrap64 (t318 + 1))) = j_ := ⟨_, rfl⟩
          replace H : (spec_l05Depth.l0 k1 t314 ji7 (wrap64 (x5_1 + 1))) = some r := by first | (rw [hji7] at H; exact H) | (simp only [hji7] at H ⊢; exact H)
          (try rw [hji7] at A6)
          have hji7_ : (if x4_1 < (wrap64 (t318 + 1)) then (wrap64 (t318 + 1)) else x4_1) = ji7 := hji7
          have H' := Aside0.mk H
          clear H
          obtain ⟨Ao8, co8, eo8⟩ := Kd.R_slice HO_3.out
          subst eo8
          have p317 : 0 ≤ (x5_1 : Int) := of_decide_eq_true (by first | (with_reducible assumption) | assumption)
          have q317 : x5_1 < (t314.length : Int) := of_decide_eq_true (by first | (with_reducible assumption) | assumption)
          obtain ⟨ad317, e317, hx317_0⟩ := Kd.at_string (Kd.R_reads' HO_3.out).2.2 x5_1 p317 q317
          cases e317
          replace p317 := eq_true p317
          replace q317 := eq_true q317
          go_wp2_with (first | ((with_reducible refine gate_callee (f := 70) rfl ?_); refine goesL_ (some 19) rfl rfl Try.func70 (by kernel_rfl) rfl #[.string (rdOf ByteArray.empty t314 x5_1)] rfl (by (try simp only [List.map_toArray, List.map_cons, List.map_nil]); first | done | rfl | (simp only [List.length_drop, List.length_take]; rfl)) ?_; (with_reducible refine (ih k1 (by have := HK1.out; omega) (rdOf ByteArray.empty t314 x5_1) t318 _ A6.out).mono ?_); rintro e w9 ⟨rfl, hb⟩; refine ⟨_, rfl, ?_⟩; have n0_ := Aside0.mk (Kd.R_below (by (with_reducible repeat (first | apply Kd.R_alloc | apply Kd.R_drewN | apply Kd.R_drew)); exact HO_3.out) hb); have n1_ := Aside0.mk (below_step (by repeat (first | (with_reducible first | exact HB.out | apply below_alloc | apply pw_below_drewN | apply below_drew1) | exact HB.out)) hb); clear HO_3; clear HB; have HO_3 := n0_; have HB := n1_; clear n0_ n1_; (try clear hb); (try clear hb2); (try clear hk); (try clear hi)))
          go_roundg k1
          case measure => have := HK1.out; omega
          case rel => exact ⟨(ji7), (wrap64 (x5_1 + 1)), (by first | rfl | (simp; done) | (simp only [← hji7] <;> (first | rfl | simp)) | (simp [*]; done)), (by first | rfl | (simp; done) | (simp [*]; done)), H', ⟨by have := HK1.out; omega⟩, ⟨by (with_reducible repeat (first | apply Kd.R_alloc | apply Kd.R_drewN | apply Kd.R_drew)); exact HO_3.out⟩, ⟨by repeat (first | (with_reducible first | exact HB.out | apply below_alloc | apply pw_below_drewN | apply below_drew1) | exact HB.out)⟩⟩
        · rw [if_neg c5] at H
          exact absurd H (by simp)
      · rw [if_neg c4] at H
        have c4b0 : decide (x5_1 < (t314.length : Int)) = false := decide_eq_false c4
        clear c4
        obtain rfl := Option.some.inj H
        obtain ⟨Ao10, co10, eo10⟩ := Kd.R_slice HO_3.out
        subst eo10
        go_wp2
        go_ret
        exact ⟨by first | rfl | (simp [errW_none, errW_some] <;> rfl) | (simp [*, errW_none, errW_some] <;> rfl), by repeat (first | (with_reducible first | exact HB.out | apply below_alloc | apply pw_below_drewN | apply below_drew1) | exact HB.out)⟩

/-! ### spec_DepthOfFormula: function 30 -/
def spec_DepthOfFormula.f (k : Nat) (a0 : ByteArray) : Option (Int × Int) := (spec_l05Is.f k a0).bind fun t319 => (if t319 = true then ((spec_l05Depth.f k a0).bind fun t320 => (some (t320, 0))) else (some (0, 6)))
theorem spec_DepthOfFormula.mono : ∀ a0 k, LeO (spec_DepthOfFormula.f k a0) (spec_DepthOfFormula.f (k + 1) a0) := by
  intro a0 k
  unfold spec_DepthOfFormula.f
  repeat' first
      | (with_reducible exact spec_l05Depth.mono _ _)
      | (with_reducible exact spec_l05Is.mono _ _)
      | (with_reducible exact LeO.refl _)
      | (with_reducible exact LeO.none _)
      | (with_reducible refine LeO.ite ?_ ?_)
      | (with_reducible refine LeO.bind ?_ (fun _ => ?_))
      | exact spec_l05Depth.mono _ _
      | exact spec_l05Is.mono _ _
      | exact LeO.none _
      | refine LeO.ite ?_ ?_
      | refine LeO.bind ?_ (fun _ => ?_)
set_option maxHeartbeats 8000000 in
set_option maxRecDepth 100000 in
theorem spec_DepthOfFormula.calls (k : Nat) (a0 : ByteArray) (r1 : Int) (r2 : Int) (w : World) (h : spec_DepthOfFormula.f k a0 = some (r1, r2)) :
    Calls Try.prog 30 #[.string a0] w fun e w' => e = .returned (.tuple #[.int .i64 r1, .int .i64 r2]) ∧ Below w.heap.size w w' := by
  have HB := Aside0.mk (Below.refl w.heap.size w)
  have H : ((spec_l05Is.f k a0).bind fun t319 => (if t319 = true then ((spec_l05Depth.f k a0).bind fun t320 => (some (t320, 0))) else (some (0, 6)))) = some (r1, r2) := h
  clear h
  replace H := Option.bind_eq_some_iff.mp H
  obtain ⟨t319, A20, H⟩ := H
  replace H : (if t319 = true then ((spec_l05Depth.f k a0).bind fun t320 => (some (t320, 0))) else (some (0, 6))) = some (r1, r2) := H
  have A2 := Aside0.mk A20
  clear A20
  by_cases c3 : t319 = true
  · subst c3
    have H1 : ((spec_l05Depth.f k a0).bind fun t320 => (some (t320, 0))) = some (r1, r2) := by rw [if_pos rfl] at H; exact H
    clear H
    have H := H1
    clear H1
    replace H := Option.bind_eq_some_iff.mp H
    obtain ⟨t320, A40, H⟩ := H
    replace H : (some (t320, 0)) = some (r1, r2) := H
    have A4 := Aside0.mk A40
    clear A40
    simp only [Option.some.injEq, Prod.mk.injEq] at H
    obtain ⟨rfl, rfl⟩ := H
    go_enter Try.func30, Try.ntmps30
    go_wp2_with (first | ((with_reducible refine gate_callee (f := 62) rfl ?_); refine goesL_ (some 5) rfl rfl Try.func62 (by kernel_rfl) rfl #[.string a0] rfl (by (try simp only [List.map_toArray, List.map_cons, List.map_nil]); first | done | rfl | (simp only [List.length_drop, List.length_take]; rfl)) ?_; (with_reducible refine (spec_l05Is.calls k a0 true _ A2.out).mono ?_); rintro e w' ⟨rfl, ⟨nd, rfl⟩⟩; refine ⟨_, rfl, ?_⟩) | ((with_reducible refine gate_callee (f := 70) rfl ?_); refine goesL_ (some 8) rfl rfl Try.func70 (by kernel_rfl) rfl #[.string a0] rfl (by (try simp only [List.map_toArray, List.map_cons, List.map_nil]); first | done | rfl | (simp only [List.length_drop, List.length_take]; rfl)) ?_; (with_reducible refine (spec_l05Depth.calls k a0 t320 _ A4.out).mono ?_); rintro e w5 ⟨rfl, hb⟩; refine ⟨_, rfl, ?_⟩; have n0_ := Aside0.mk (below_step (by repeat (first | (with_reducible first | exact HB.out | apply below_alloc | apply pw_below_drewN | apply below_drew1) | exact HB.out)) hb); clear HB; have HB := n0_; clear n0_; (try clear hb); (try clear hb2); (try clear hk); (try clear hi)))
    go_ret2
    exact ⟨by first | rfl | (simp [errW_none, errW_some] <;> rfl) | (simp [*, errW_none, errW_some] <;> rfl), by repeat (first | (with_reducible first | exact HB.out | apply below_alloc | apply pw_below_drewN | apply below_drew1) | exact HB.out)⟩
  · replace c3 := Bool.eq_false_iff.mpr c3
    subst c3
    have H1 : (some (0, 6)) = some (r1, r2) := by rw [if_neg (show ¬ (false = true) by decide)] at H; exact H
    clear H
    have H := H1
    clear H1
    simp only [Option.some.injEq, Prod.mk.injEq] at H
    obtain ⟨rfl, rfl⟩ := H
    go_enter Try.func30, Try.ntmps30
    go_wp2_with (first | ((with_reducible refine gate_callee (f := 62) rfl ?_); refine goesL_ (some 5) rfl rfl Try.func62 (by kernel_rfl) rfl #[.string a0] rfl (by (try simp only [List.map_toArray, List.map_cons, List.map_nil]); first | done | rfl | (simp only [List.length_drop, List.length_take]; rfl)) ?_; (with_reducible refine (spec_l05Is.calls k a0 false _ A2.out).mono ?_); rintro e w' ⟨rfl, ⟨nd, rfl⟩⟩; refine ⟨_, rfl, ?_⟩))
    go_ret2
    exact ⟨by first | rfl | (simp [errW_none, errW_some] <;> rfl) | (simp [*, errW_none, errW_some] <;> rfl), by repeat (first | (with_reducible first | exact HB.out | apply below_alloc | apply pw_below_drewN | apply below_drew1) | exact HB.out)⟩

/-! ### impl_formula_depth: function 71, by hand -/
mutual
/-- The depth of a formula, as the program reckons it. -/
def fdepth : Frm → Int
  | ⟨_, ps⟩ => wrap64 (fdepthL ps 0 + (if 0 < ps.length then 1 else 0))
def fdepthL : List Frm → Int → Int
  | [], a => a
  | t :: ts, a => fdepthL ts (max a (fdepth t))
end
theorem fdepthL_snoc : ∀ (ts : List Frm) (t : Frm) (a : Int), fdepthL (ts ++ [t]) a = max (fdepthL ts a) (fdepth t)
  | [], t, a => by simp [fdepthL]
  | x :: ts, t, a => by simp [fdepthL, fdepthL_snoc ts t]
theorem fdepth_eq (t : Frm) : fdepth t = wrap64 (fdepthL t.f1 0 + (if 0 < t.f1.length then 1 else 0)) := by cases t; simp [fdepth]
set_option maxHeartbeats 8000000 in
set_option maxRecDepth 100000 in
theorem formula_depth.calls (t : Frm) : ∀ (ad : Addr) (w : World), FrmAt w ad t →
    Calls Try.prog 71 #[.pointer (some ad)] w fun e w' => e = .returned (.int .i64 (fdepth t)) ∧ Below w.heap.size w w' := by
  induction t using frm_ind with
  | h t ih =>
    intro ad w hA
    obtain ⟨A1, c1, h0, h1, h2, h3⟩ := hA
    have hlen : t.f1.length ≤ 9223372036854775807 := h3.2.1
    have HLEN := Aside0.mk hlen
    have HR := Aside0.mk h3
    have IH := Aside0.mk ih
    have HQ := Aside0.mk (fdepth_eq t)
    have HN : Aside0 (fdepthL (t.f1.take 0) 0 = 0) := ⟨rfl⟩
    have HT : Aside0 (t.f1.take t.f1.length = t.f1) := ⟨List.take_length⟩
    have HS : Aside0 (∀ j, j < t.f1.length → fdepthL (t.f1.take (j + 1)) 0 = max (fdepthL (t.f1.take j) 0) (fdepth (t.f1.getD j z70))) := ⟨fun j hj => by rw [frm_take _ j hj, fdepthL_snoc]⟩
    have HM : Aside0 (∀ j, j < t.f1.length → t.f1.getD j z70 ∈ t.f1) := ⟨fun j hj => frm_mem _ j hj⟩
    have HOne := Aside0.mk (fun (w : World) (b : Bool) => impl_one.calls b (if b = true then 1 else 0) w (by unfold impl_one.f; cases b <;> rfl))
    clear ih h3 hlen h2
    generalize t.f1 = ts at *
    generalize hn : ts.length = n at *
    have HNN := Aside0.mk hn
    clear hn
    go_enter Try.func71, Try.ntmps71
    go_wp2
    go_loopg [3, 10] (n + 1) (fun gg v3 v10 wr => ∃ j : Nat, v10 = .int .i64 (j : Int) ∧ v3 = .int .i64 (fdepthL (ts.take j) 0) ∧ Aside0 (j ≤ n) ∧ Aside0 (n - j < gg) ∧ Aside0 (Below w.heap.size w wr))
    case atStart => exact ⟨0, rfl, by rw [HN.out], ⟨by omega⟩, ⟨by omega⟩, ⟨Below.refl _ _⟩⟩
    case round =>
      obtain ⟨j, rfl, rfl, HJ1, HJ2, HB⟩ := hrel
      have hx1 := (HB.out.cell (World.block_lt_of_cell? w _ h1)).trans h1
      by_cases hlt : j < n
      · have hlti : decide (j < n) = true := by simpa using hlt
        have HL := Aside0.mk hlt
        obtain ⟨ad2, rfl, hF⟩ := frm_part (by rw [HNN.out]; exact HR.out) j (by rw [HNN.out]; exact hlt)
        have HC := Aside0.mk (IH.out _ (HM.out j hlt) (ad2.add (j * 2)) wr (hF.below HB.out))
        have hS := HS.out j hlt
        have HS2 := Aside0.mk hS
        clear hF hS hlt
        generalize fdepth (ts.getD j z70) = y at HC HS2
        have hj0 : 0 ≤ (j : Int) := by omega
        have hj1 : (j : Int) < (n : Int) := by have := HL.out; omega
        have hj2 : j < n := HL.out
        go_wp2_with (go_at_call 71; (with_reducible refine HC.out.mono ?_); rintro e w1 ⟨rfl, hb⟩; have HB1 := Aside0.mk (below_step HB.out hb); clear hb)
        all_goals
          go_roundg (n - j)
          case measure => have := HJ2.out; omega
          case rel =>
            have hl := HL.out
            have hll := HLEN.out
            exact ⟨j + 1, by rw [M.w64_in _ (by omega) (by omega)]; rfl, by rw [HS2.out]; congr 1; omega, ⟨by omega⟩, ⟨by omega⟩, HB1⟩
      · have hlti : decide (j < n) = false := by simpa using hlt
        have HE : Aside0 (j = n) := ⟨by have := HJ1.out; omega⟩
        clear hlt
        have HV : Aside0 (fdepth t = wrap64 (fdepthL (ts.take j) 0 + (if 0 < n then 1 else 0))) := ⟨by rw [HQ.out, HE.out, HT.out]⟩
        generalize fdepthL (ts.take j) 0 = y at HV ⊢
        go_wp2_with (go_at_call 99; refine (HOne.out _ _).mono ?_; rintro e w' ⟨rfl, ⟨nd, rfl⟩⟩)
        · have hz : 0 < n := by assumption
          go_ret
          exact ⟨by rw [HV.out, if_pos hz]; rfl, pw_below_drewN HB.out nd⟩
        · have hz : ¬ 0 < n := by omega
          go_ret
          exact ⟨by rw [HV.out, if_neg hz, Int.add_zero]; rfl, pw_below_drewN HB.out nd⟩

/-! ### impl_DepthOfFormula: function 31, by hand -/
def impl_DepthOfFormula.f (k : Nat) (a0 : ByteArray) : Option (Int × Int) := (impl_parse.f k a0).bind fun q => if q.2.2 = true then some (fdepth ⟨q.1, q.2.1⟩, 0) else some (0, 6)
theorem impl_DepthOfFormula.mono : ∀ a0 k, LeO (impl_DepthOfFormula.f k a0) (impl_DepthOfFormula.f (k + 1) a0) := by
  intro a0 k r h
  unfold impl_DepthOfFormula.f at h ⊢
  obtain ⟨t, ht, h⟩ := Option.bind_eq_some_iff.1 h
  rw [impl_parse.mono _ _ _ ht]
  exact h
set_option maxHeartbeats 8000000 in
set_option maxRecDepth 100000 in
theorem impl_DepthOfFormula.calls (k : Nat) (a0 : ByteArray) (r1 r2 : Int) (w : World) (h : impl_DepthOfFormula.f k a0 = some (r1, r2)) :
    Calls Try.prog 31 #[.string a0] w fun e w' => e = .returned (.tuple #[.int .i64 r1, .int .i64 r2]) ∧ Below w.heap.size w w' := by
  unfold impl_DepthOfFormula.f at h
  obtain ⟨⟨c, ps, ok⟩, hp, h⟩ := Option.bind_eq_some_iff.1 h
  have HP := Aside0.mk (impl_parse.calls k a0 c ps ok w hp)
  clear hp
  cases ok with
  | true =>
    rw [if_pos rfl] at h
    simp only [Option.some.injEq, Prod.mk.injEq] at h
    obtain ⟨rfl, rfl⟩ := h
    go_enter Try.func31, Try.ntmps31
    go_wp2_with (first | (go_at_call 65; (with_reducible refine HP.out.mono ?_); rintro e w1 ⟨v1, rfl, hR, hb⟩; obtain ⟨A1, c1, rfl⟩ := Kd.R_slice hR; have HF := Aside0.mk (frm_laid (c := c) hR); have HB1 := Aside0.mk (below_alloc hb (.cells #[.int .u8 c, .slice A1 ps.length c1] 70)); clear hR hb) | (go_at_call 71; (with_reducible refine (formula_depth.calls _ _ _ HF.out).mono ?_); rintro e w2 ⟨rfl, hb⟩; have HB2 := Aside0.mk (below_step HB1.out hb); clear hb))
    go_ret2
    exact ⟨rfl, HB2.out⟩
  | false =>
    rw [if_neg Bool.false_ne_true] at h
    simp only [Option.some.injEq, Prod.mk.injEq] at h
    obtain ⟨rfl, rfl⟩ := h
    go_enter Try.func31, Try.ntmps31
    go_wp2_with (go_at_call 65; (with_reducible refine HP.out.mono ?_); rintro e w1 ⟨v1, rfl, hR, hb⟩; obtain ⟨A1, c1, rfl⟩ := Kd.R_slice hR; have HB1 := Aside0.mk (below_alloc hb (.cells #[.int .u8 c, .slice A1 ps.length c1] 70)); clear hR hb)
    go_ret2
    exact ⟨rfl, HB1.out⟩

/-! ### laws_FnExactDepthOfFormula: function 8 -/
def laws_FnExactDepthOfFormula.f (k : Nat) (a0 : ByteArray) : Option (Bool) := if (a0.size : Int) > 1048576 then (some true) else ((spec_DepthOfFormula.f k a0).bind fun bt321 => ((impl_DepthOfFormula.f k a0).bind fun bt323 => (if bt323.1 = bt321.1 then (if bt323.2 = bt321.2 then (some true) else (some false)) else (some false))))
theorem laws_FnExactDepthOfFormula.mono : ∀ a0 k, LeO (laws_FnExactDepthOfFormula.f k a0) (laws_FnExactDepthOfFormula.f (k + 1) a0) := by
  intro a0 k
  unfold laws_FnExactDepthOfFormula.f
  repeat' first
      | (with_reducible exact impl_DepthOfFormula.mono _ _)
      | (with_reducible exact spec_DepthOfFormula.mono _ _)
      | (with_reducible exact LeO.refl _)
      | (with_reducible exact LeO.none _)
      | (with_reducible refine LeO.ite ?_ ?_)
      | (with_reducible refine LeO.bind ?_ (fun _ => ?_))
      | exact impl_DepthOfFormula.mono _ _
      | exact spec_DepthOfFormula.mono _ _
      | exact LeO.none _
      | refine LeO.ite ?_ ?_
      | refine LeO.bind ?_ (fun _ => ?_)
set_option maxHeartbeats 8000000 in
set_option maxRecDepth 100000 in
theorem laws_FnExactDepthOfFormula.calls (k : Nat) (a0 : ByteArray) (r : Bool) (w : World) (h : laws_FnExactDepthOfFormula.f k a0 = some r) :
    Calls Try.prog 8 #[.string a0] w fun e w' => e = .returned (.bool r) ∧ Below w.heap.size w w' := by
  have HB := Aside0.mk (Below.refl w.heap.size w)
  have H : (if (a0.size : Int) > 1048576 then (some true) else ((spec_DepthOfFormula.f k a0).bind fun bt321 => ((impl_DepthOfFormula.f k a0).bind fun bt323 => (if bt323.1 = bt321.1 then (if bt323.2 = bt321.2 then (some true) else (some false)) else (some false))))) = some r := h
  clear h
  by_cases c2 : (a0.size : Int) > 1048576
  · rw [if_pos c2] at H
    have c2b0 : decide (1048576 < (a0.size : Int)) = true := decide_eq_true c2
    have c2b1 : decide (1048576 < a0.size) = true := decide_eq_true (by omega)
    clear c2
    obtain rfl := Option.some.inj H
    go_enter Try.func8, Try.ntmps8
    go_wp2
    go_ret
    exact ⟨by first | rfl | (simp [errW_none, errW_some] <;> rfl) | (simp [*, errW_none, errW_some] <;> rfl), by repeat (first | (with_reducible first | exact HB.out | apply below_alloc | apply pw_below_drewN | apply below_drew1) | exact HB.out)⟩
  · rw [if_neg c2] at H
    have c2b0 : decide (1048576 < (a0.size : Int)) = false := decide_eq_false c2
    have c2b1 : decide (1048576 < a0.size) = false := decide_eq_false (by omega)
    clear c2
    replace H := Option.bind_eq_some_iff.mp H
    obtain ⟨⟨t321, t322⟩, A30, H⟩ := H
    replace H : ((impl_DepthOfFormula.f k a0).bind fun bt323 => (if bt323.1 = t321 then (if bt323.2 = t322 then (some true) else (some false)) else (some false))) = some r := H
    have A3 := Aside0.mk A30
    clear A30
    replace H := Option.bind_eq_some_iff.mp H
    obtain ⟨⟨t323, t324⟩, A40, H⟩ := H
    replace H : (if t323 = t321 then (if t324 = t322 then (some true) else (some false)) else (some false)) = some r := H
    have A4 := Aside0.mk A40
    clear A40
    by_cases c5 : t323 = t321
    · rw [if_pos c5] at H
      have c5b0 : (t323 == t321) = true := beq_iff_eq.mpr c5
      have c5b1 : (t323 != t321) = false := bne_eq_false_iff_eq.mpr c5
      clear c5
      by_cases c6 : t324 = t322
      · rw [if_pos c6] at H
        have c6b0 : (t324 == t322) = true := beq_iff_eq.mpr c6
        have c6b1 : (t324 != t322) = false := bne_eq_false_iff_eq.mpr c6
        clear c6
        obtain rfl := Option.some.inj H
        go_enter Try.func8, Try.ntmps8
        go_wp2_with (first | ((with_reducible refine gate_callee (f := 30) rfl ?_); refine goesL_ (some 12) rfl rfl Try.func30 (by kernel_rfl) rfl #[.string a0] rfl (by (try simp only [List.map_toArray, List.map_cons, List.map_nil]); first | done | rfl | (simp only [List.length_drop, List.length_take]; rfl)) ?_; (with_reducible refine (spec_DepthOfFormula.calls k a0 t321 t322 _ A3.out).mono ?_); rintro e w7 ⟨rfl, hb⟩; refine ⟨_, rfl, ?_⟩; have n0_ := Aside0.mk (below_step (by repeat (first | (with_reducible first | exact HB.out | apply below_alloc | apply pw_below_drewN | apply below_drew1) | exact HB.out)) hb); clear HB; have HB := n0_; clear n0_; (try clear hb); (try clear hb2); (try clear hk); (try clear hi)) | ((with_reducible refine gate_callee (f := 31) rfl ?_); refine goesL_ (some 17) rfl rfl Try.func31 (by kernel_rfl) rfl #[.string a0] rfl (by (try simp only [List.map_toArray, List.map_cons, List.map_nil]); first | done | rfl | (simp only [List.length_drop, List.length_take]; rfl)) ?_; (with_reducible refine (impl_DepthOfFormula.calls k a0 t323 t324 _ A4.out).mono ?_); rintro e w8 ⟨rfl, hb⟩; refine ⟨_, rfl, ?_⟩; have n0_ := Aside0.mk (below_step (by repeat (first | (with_reducible first | exact HB.out | apply below_alloc | apply pw_below_drewN | apply below_drew1) | exact HB.out)) hb); clear HB; have HB := n0_; clear n0_; (try clear hb); (try clear hb2); (try clear hk); (try clear hi)))
        go_ret
        exact ⟨by first | rfl | (simp [errW_none, errW_some] <;> rfl) | (simp [*, errW_none, errW_some] <;> rfl), by repeat (first | (with_reducible first | exact HB.out | apply below_alloc | apply pw_below_drewN | apply below_drew1) | exact HB.out)⟩
      · rw [if_neg c6] at H
        have c6b0 : (t324 == t322) = false := beq_eq_false_iff_ne.mpr c6
        have c6b1 : (t324 != t322) = true := bne_iff_ne.mpr c6
        obtain rfl := Option.some.inj H
        go_enter Try.func8, Try.ntmps8
        go_wp2_with (first | ((with_reducible refine gate_callee (f := 30) rfl ?_); refine goesL_ (some 12) rfl rfl Try.func30 (by kernel_rfl) rfl #[.string a0] rfl (by (try simp only [List.map_toArray, List.map_cons, List.map_nil]); first | done | rfl | (simp only [List.length_drop, List.length_take]; rfl)) ?_; (with_reducible refine (spec_DepthOfFormula.calls k a0 t321 t322 _ A3.out).mono ?_); rintro e w9 ⟨rfl, hb⟩; refine ⟨_, rfl, ?_⟩; have n0_ := Aside0.mk (below_step (by repeat (first | (with_reducible first | exact HB.out | apply below_alloc | apply pw_below_drewN | apply below_drew1) | exact HB.out)) hb); clear HB; have HB := n0_; clear n0_; (try clear hb); (try clear hb2); (try clear hk); (try clear hi)) | ((with_reducible refine gate_callee (f := 31) rfl ?_); refine goesL_ (some 17) rfl rfl Try.func31 (by kernel_rfl) rfl #[.string a0] rfl (by (try simp only [List.map_toArray, List.map_cons, List.map_nil]); first | done | rfl | (simp only [List.length_drop, List.length_take]; rfl)) ?_; (with_reducible refine (impl_DepthOfFormula.calls k a0 t323 t324 _ A4.out).mono ?_); rintro e w10 ⟨rfl, hb⟩; refine ⟨_, rfl, ?_⟩; have n0_ := Aside0.mk (below_step (by repeat (first | (with_reducible first | exact HB.out | apply below_alloc | apply pw_below_drewN | apply below_drew1) | exact HB.out)) hb); clear HB; have HB := n0_; clear n0_; (try clear hb); (try clear hb2); (try clear hk); (try clear hi)))
        go_ret
        exact ⟨by first | rfl | (simp [errW_none, errW_some] <;> rfl) | (simp [*, errW_none, errW_some] <;> rfl), by repeat (first | (with_reducible first | exact HB.out | apply below_alloc | apply pw_below_drewN | apply below_drew1) | exact HB.out)⟩
    · rw [if_neg c5] at H
      have c5b0 : (t323 == t321) = false := beq_eq_false_iff_ne.mpr c5
      have c5b1 : (t323 != t321) = true := bne_iff_ne.mpr c5
      obtain rfl := Option.some.inj H
      go_enter Try.func8, Try.ntmps8
      go_wp2_with (first | ((with_reducible refine gate_callee (f := 30) rfl ?_); refine goesL_ (some 12) rfl rfl Try.func30 (by kernel_rfl) rfl #[.string a0] rfl (by (try simp only [List.map_toArray, List.map_cons, List.map_nil]); first | done | rfl | (simp only [List.length_drop, List.length_take]; rfl)) ?_; (with_reducible refine (spec_DepthOfFormula.calls k a0 t321 t322 _ A3.out).mono ?_); rintro e w11 ⟨rfl, hb⟩; refine ⟨_, rfl, ?_⟩; have n0_ := Aside0.mk (below_step (by repeat (first | (with_reducible first | exact HB.out | apply below_alloc | apply pw_below_drewN | apply below_drew1) | exact HB.out)) hb); clear HB; have HB := n0_; clear n0_; (try clear hb); (try clear hb2); (try clear hk); (try clear hi)) | ((with_reducible refine gate_callee (f := 31) rfl ?_); refine goesL_ (some 17) rfl rfl Try.func31 (by kernel_rfl) rfl #[.string a0] rfl (by (try simp only [List.map_toArray, List.map_cons, List.map_nil]); first | done | rfl | (simp only [List.length_drop, List.length_take]; rfl)) ?_; (with_reducible refine (impl_DepthOfFormula.calls k a0 t323 t324 _ A4.out).mono ?_); rintro e w12 ⟨rfl, hb⟩; refine ⟨_, rfl, ?_⟩; have n0_ := Aside0.mk (below_step (by repeat (first | (with_reducible first | exact HB.out | apply below_alloc | apply pw_below_drewN | apply below_drew1) | exact HB.out)) hb); clear HB; have HB := n0_; clear n0_; (try clear hb); (try clear hb2); (try clear hk); (try clear hi)))
      go_ret
      exact ⟨by first | rfl | (simp [errW_none, errW_some] <;> rfl) | (simp [*, errW_none, errW_some] <;> rfl), by repeat (first | (with_reducible first | exact HB.out | apply below_alloc | apply pw_below_drewN | apply below_drew1) | exact HB.out)⟩

end Go.Proofs.Ytdlnjbaldfdnpaa.P
