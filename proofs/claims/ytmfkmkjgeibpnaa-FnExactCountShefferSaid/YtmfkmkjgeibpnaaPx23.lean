/- Functions of the given program and their contracts, written by a program of this session (gen.py) over the kit's print. -/
import Derived.Test.YtmfkmkjgeibpnaaPx0
import Derived.Test.YtmfkmkjgeibpnaaPx2
import Derived.Test.YtmfkmkjgeibpnaaPx3
import Derived.Test.YtmfkmkjgeibpnaaPx18
import Derived.Test.YtmfkmkjgeibpnaaPx20
namespace Go.Proofs.Ytmfkmkjgeibpnaa.P
open Go.RowKit Go.Proofs.YtmfkmkjgeibpnaaW.PrintWords Go.Proofs.YtmfkmkjgeibpnaaW.PrintLast Go.Proofs.YtmfkmkjgeibpnaaW.PrintMore
attribute [local go_sem] max2_int min2_int max_two min_two max_three min_three max_four min_four   -- for this text's walks alone
set_option linter.unusedVariables false
set_option linter.unusedSimpArgs false

/-! ### spec_CountInClass: function 42 -/
mutual
def spec_CountInClass.j0 : Nat → Int → Int → Bool → Option (Int × Int)
  | 0, _, _, _ => none
  | k + 1, x0, x1, x15 => if x15 = true then (some (0, 2)) else (spec_CountInClass.l0 k x0 x1 0 0)
def spec_CountInClass.l0 : Nat → Int → Int → Int → Int → Option (Int × Int)
  | 0, _, _, _, _ => none
  | k + 1, x0, x1, x6, x7 => (spec_l01All.f x0).bind fun t503 => (if x7 ≤ t503 then ((spec_l02In.f k x0 x7 x1).bind fun t504 => (if t504 = true then (spec_CountInClass.l0 k x0 x1 (wrap64 (x6 + 1)) (wrap64 (x7 + 1))) else (spec_CountInClass.l0 k x0 x1 x6 (wrap64 (x7 + 1))))) else (some (x6, 0)))
end
def spec_CountInClass.f (k : Nat) (a0 : Int) (a1 : Int) : Option (Int × Int) := (spec_l01In.f a0 0 4).bind fun t501 => (if t501 = true then ((spec_l01In.f a1 0 4).bind fun t502 => (spec_CountInClass.j0 k a0 a1 (!t502))) else (spec_CountInClass.j0 k a0 a1 true))
theorem spec_CountInClass.mono_l : ∀ k, (∀ y0 y1 y2, LeO (spec_CountInClass.j0 k y0 y1 y2) (spec_CountInClass.j0 (k + 1) y0 y1 y2)) ∧ (∀ y0 y1 y2 y3, LeO (spec_CountInClass.l0 k y0 y1 y2 y3) (spec_CountInClass.l0 (k + 1) y0 y1 y2 y3))
  | 0 => ⟨fun _ _ _ r h => by simp [spec_CountInClass.j0] at h, fun _ _ _ _ r h => by simp [spec_CountInClass.l0] at h⟩
  | k + 1 => by
    obtain ⟨ih0, ih1⟩ := spec_CountInClass.mono_l k
    refine ⟨?_, ?_⟩
    · intro y0 y1 y2
      unfold spec_CountInClass.j0
      repeat' first
      | (with_reducible exact ih0 _ _ _)
      | (with_reducible exact ih1 _ _ _ _)
      | (with_reducible exact spec_l02In.mono _ _ _ _)
      | (with_reducible exact LeO.refl _)
      | (with_reducible exact LeO.none _)
      | (with_reducible refine LeO.ite ?_ ?_)
      | (with_reducible refine LeO.bind ?_ (fun _ => ?_))
      | exact ih0 _ _ _
      | exact ih1 _ _ _ _
      | exact spec_l02In.mono _ _ _ _
      | exact LeO.none _
      | refine LeO.ite ?_ ?_
      | refine LeO.bind ?_ (fun _ => ?_)
    · intro y0 y1 y2 y3
      unfold spec_CountInClass.l0
      repeat' first
      | (with_reducible exact ih0 _ _ _)
      | (with_reducible exact ih1 _ _ _ _)
      | (with_reducible exact spec_l02In.mono _ _ _ _)
      | (with_reducible exact LeO.refl _)
      | (with_reducible exact LeO.none _)
      | (with_reducible refine LeO.ite ?_ ?_)
      | (with_reducible refine LeO.bind ?_ (fun _ => ?_))
      | exact ih0 _ _ _
      | exact ih1 _ _ _ _
      | exact spec_l02In.mono _ _ _ _
      | exact LeO.none _
      | refine LeO.ite ?_ ?_
      | refine LeO.bind ?_ (fun _ => ?_)
theorem spec_CountInClass.mono : ∀ a0 a1 k, LeO (spec_CountInClass.f k a0 a1) (spec_CountInClass.f (k + 1) a0 a1) := by
  intro a0 a1 k
  obtain ⟨ih0, ih1⟩ := spec_CountInClass.mono_l k
  unfold spec_CountInClass.f
  repeat' first
      | (with_reducible exact ih0 _ _ _)
      | (with_reducible exact ih1 _ _ _ _)
      | (with_reducible exact spec_l02In.mono _ _ _ _)
      | (with_reducible exact LeO.refl _)
      | (with_reducible exact LeO.none _)
      | (with_reducible refine LeO.ite ?_ ?_)
      | (with_reducible refine LeO.bind ?_ (fun _ => ?_))
      | exact ih0 _ _ _
      | exact ih1 _ _ _ _
      | exact spec_l02In.mono _ _ _ _
      | exact LeO.none _
      | refine LeO.ite ?_ ?_
      | refine LeO.bind ?_ (fun _ => ?_)
set_option maxHeartbeats 8000000 in
set_option maxRecDepth 100000 in
theorem spec_CountInClass.calls (k : Nat) (a0 : Int) (a1 : Int) (r1 : Int) (r2 : Int) (w : World) (h : spec_CountInClass.f k a0 a1 = some (r1, r2)) :
    Calls Try.prog 42 #[.int .i64 a0, .int .i64 a1] w fun e w' => e = .returned (.tuple #[.int .i64 r1, .int .i64 r2]) ∧ Below w.heap.size w w' := by
  have hu27 := Try.underlying27
  have HB := Aside0.mk (Below.refl w.heap.size w)
  have H : ((spec_l01In.f a0 0 4).bind fun t501 => (if t501 = true then ((spec_l01In.f a1 0 4).bind fun t502 => (spec_CountInClass.j0 k a0 a1 (!t502))) else (spec_CountInClass.j0 k a0 a1 true))) = some (r1, r2) := h
  clear h
  have HC3 := Aside0.mk H
  clear H
  go_enter Try.func42, Try.ntmps42
  go_upto_region 1 with (fail)
  go_cut [15] (fun v15 wc => ∃ (kq : Nat) (x15_2 : Bool), v15 = .bool x15_2 ∧ Aside0 (spec_CountInClass.j0 kq a0 a1 x15_2 = some (r1, r2)) ∧ Aside0 (kq ≤ k) ∧ Aside0 (Below w.heap.size w wc))
  case first =>
    have H := HC3.out
    clear HC3
    replace H := Option.bind_eq_some_iff.mp H
    obtain ⟨t501, A40, H⟩ := H
    replace H : (if t501 = true then ((spec_l01In.f a1 0 4).bind fun t502 => (spec_CountInClass.j0 k a0 a1 (!t502))) else (spec_CountInClass.j0 k a0 a1 true)) = some (r1, r2) := H
    have A4 := Aside0.mk A40
    clear A40
    by_cases c5 : t501 = true
    · subst c5
      have H1 : ((spec_l01In.f a1 0 4).bind fun t502 => (spec_CountInClass.j0 k a0 a1 (!t502))) = some (r1, r2) := by rw [if_pos rfl] at H; exact H
      clear H
      have H := H1
      clear H1
      replace H := Option.bind_eq_some_iff.mp H
      obtain ⟨t502, A60, H⟩ := H
      replace H : (spec_CountInClass.j0 k a0 a1 (!t502)) = some (r1, r2) := H
      have A6 := Aside0.mk A60
      clear A60
      have H' := Aside0.mk H
      clear H
      go_wp2_with (first | ((with_reducible refine gate_callee (f := 56) rfl ?_); refine goesL_ (some 9) rfl rfl Try.func56 (by kernel_rfl) rfl #[.int .i64 a0, .int .i64 0, .int .i64 4] rfl (by (try simp only [List.map_toArray, List.map_cons, List.map_nil]); first | done | rfl | (simp only [List.length_drop, List.length_take]; rfl)) ?_; (with_reducible refine (spec_l01In.calls a0 0 4 true _ A4.out).mono ?_); rintro e w' ⟨rfl, ⟨nd, rfl⟩⟩; refine ⟨_, rfl, ?_⟩) | (go_at_call 56; (with_reducible refine (spec_l01In.calls a1 0 4 t502 _ A6.out).mono ?_); rintro e w' ⟨rfl, ⟨nd, rfl⟩⟩))
      go_meet
      case rel => exact ⟨_, (!t502), (by first | rfl | (simp; done) | (simp [*]; done)), H', ⟨by first | omega | exact Nat.le_refl _⟩, ⟨by repeat (first | (with_reducible first | exact HB.out | apply below_alloc | apply pw_below_drewN | apply below_drew1) | exact HB.out)⟩⟩
    · replace c5 := Bool.eq_false_iff.mpr c5
      subst c5
      have H1 : (spec_CountInClass.j0 k a0 a1 true) = some (r1, r2) := by rw [if_neg (show ¬ (false = true) by decide)] at H; exact H
      clear H
      have H := H1
      clear H1
      have H' := Aside0.mk H
      clear H
      go_wp2_with (first | ((with_reducible refine gate_callee (f := 56) rfl ?_); refine goesL_ (some 9) rfl rfl Try.func56 (by kernel_rfl) rfl #[.int .i64 a0, .int .i64 0, .int .i64 4] rfl (by (try simp only [List.map_toArray, List.map_cons, List.map_nil]); first | done | rfl | (simp only [List.length_drop, List.length_take]; rfl)) ?_; (with_reducible refine (spec_l01In.calls a0 0 4 false _ A4.out).mono ?_); rintro e w' ⟨rfl, ⟨nd, rfl⟩⟩; refine ⟨_, rfl, ?_⟩))
      go_meet
      case rel => exact ⟨_, (true), (by first | rfl | (simp; done) | (simp [*]; done)), H', ⟨by first | omega | exact Nat.le_refl _⟩, ⟨by repeat (first | (with_reducible first | exact HB.out | apply below_alloc | apply pw_below_drewN | apply below_drew1) | exact HB.out)⟩⟩
  case rest =>
    clear HC3
    try clear p2
    try clear c4
    try clear c5
    obtain ⟨kq, x15_2, rfl, HA, HJ2, HB⟩ := hcut
    cases kq with
    | zero => exact absurd HA.out (by simp [spec_CountInClass.j0])
    | succ kj2 =>
      have H := HA.out
      clear HA
      simp only [spec_CountInClass.j0] at H
      by_cases c7 : x15_2 = true
      · subst c7
        have H1 : (some (0, 2)) = some (r1, r2) := by rw [if_pos rfl] at H; exact H
        clear H
        have H := H1
        clear H1
        simp only [Option.some.injEq, Prod.mk.injEq] at H
        obtain ⟨rfl, rfl⟩ := H
        go_wp2
        go_ret2
        exact ⟨by first | rfl | (simp [errW_none, errW_some] <;> rfl) | (simp [*, errW_none, errW_some] <;> rfl), by repeat (first | (with_reducible first | exact HB.out | apply below_alloc | apply pw_below_drewN | apply below_drew1) | exact HB.out)⟩
      · replace c7 := Bool.eq_false_iff.mpr c7
        subst c7
        have H1 : (spec_CountInClass.l0 kj2 a0 a1 0 0) = some (r1, r2) := by rw [if_neg (show ¬ (false = true) by decide)] at H; exact H
        clear H
        have H := H1
        clear H1
        have H' := Aside0.mk H
        clear H
        go_wp2
        go_loopg [6, 7] kj2 (fun kq v6 v7 w' => ∃ (x6_2 : Int) (x7_2 : Int), v6 = .int .i64 x6_2 ∧ v7 = .int .i64 x7_2 ∧ Aside0 (spec_CountInClass.l0 kq a0 a1 x6_2 x7_2 = some (r1, r2)) ∧ Aside0 (kq ≤ kj2) ∧ Aside0 (Below w.heap.size w w'))
        case atStart => exact ⟨(0), (0), (by first | rfl | (simp; done) | (simp [*]; done)), (by first | rfl | (simp; done) | (simp [*]; done)), H', ⟨Nat.le_refl _⟩, ⟨by repeat (first | (with_reducible first | exact HB.out | apply below_alloc | apply pw_below_drewN | apply below_drew1) | exact HB.out)⟩⟩
        case round =>
          clear H'
          try clear p2
          try clear c4
          try clear c5
          try clear c7
          try clear p2
          obtain ⟨x6_2, x7_2, rfl, rfl, HA, HK2, HB⟩ := hrel
          cases gk with
          | zero => exact absurd HA.out (by simp [spec_CountInClass.l0])
          | succ k2 =>
            have H := HA.out
            clear HA
            simp only [spec_CountInClass.l0] at H
            replace H := Option.bind_eq_some_iff.mp H
            obtain ⟨t503, A80, H⟩ := H
            replace H : (if x7_2 ≤ t503 then ((spec_l02In.f k2 a0 x7_2 a1).bind fun t504 => (if t504 = true then (spec_CountInClass.l0 k2 a0 a1 (wrap64 (x6_2 + 1)) (wrap64 (x7_2 + 1))) else (spec_CountInClass.l0 k2 a0 a1 x6_2 (wrap64 (x7_2 + 1))))) else (some (x6_2, 0))) = some (r1, r2) := H
            have A8 := Aside0.mk A80
            clear A80
            by_cases c9 : x7_2 ≤ t503
            · rw [if_pos c9] at H
              have c9b0 : decide (x7_2 ≤ t503) = true := decide_eq_true c9
              clear c9
              replace H := Option.bind_eq_some_iff.mp H
              obtain ⟨t504, A100, H⟩ := H
              replace H : (if t504 = true then (spec_CountInClass.l0 k2 a0 a1 (wrap64 (x6_2 + 1)) (wrap64 (x7_2 + 1))) else (spec_CountInClass.l0 k2 a0 a1 x6_2 (wrap64 (x7_2 + 1)))) = some (r1, r2) := H
              have A10 := Aside0.mk A100
              clear A100
              by_cases c11 : t504 = true
              · subst c11
                have H1 : (spec_CountInClass.l0 k2 a0 a1 (wrap64 (x6_2 + 1)) (wrap64 (x7_2 + 1))) = some (r1, r2) := by rw [if_pos rfl] at H; exact H
                clear H
                have H := H1
                clear H1
                have H' := Aside0.mk H
                clear H
                go_wp2_with (first | ((with_reducible refine gate_callee (f := 82) rfl ?_); refine goesL_ (some 18) rfl rfl Try.func82 (by kernel_rfl) rfl #[.int .i64 a0] rfl (by (try simp only [List.map_toArray, List.map_cons, List.map_nil]); first | done | rfl | (simp only [List.length_drop, List.length_take]; rfl)) ?_; (with_reducible refine (spec_l01All.calls a0 t503 _ A8.out).mono ?_); rintro e w' ⟨rfl, ⟨nd, rfl⟩⟩; refine ⟨_, rfl, ?_⟩) | ((with_reducible refine gate_callee (f := 79) rfl ?_); refine goesL_ (some 26) rfl rfl Try.func79 (by kernel_rfl) rfl #[.agg #[.int .i64 a0, .int .i64 x7_2], .int .i64 a1] rfl (by (try simp only [List.map_toArray, List.map_cons, List.map_nil]); first | done | rfl | (simp only [List.length_drop, List.length_take]; rfl)) ?_; (with_reducible refine (spec_l02In.calls k2 a0 x7_2 a1 true _ A10.out).mono ?_); rintro e w12 ⟨rfl, hb⟩; refine ⟨_, rfl, ?_⟩; have n0_ := Aside0.mk (below_step (by repeat (first | (with_reducible first | exact HB.out | apply below_alloc | apply pw_below_drewN | apply below_drew1) | exact HB.out)) hb); clear HB; have HB := n0_; clear n0_; (try clear hb); (try clear hb2); (try clear hk); (try clear hi)))
                go_roundg k2
                case measure => have := HJ2.out; have := HK2.out; omega
                case rel => exact ⟨(wrap64 (x6_2 + 1)), (wrap64 (x7_2 + 1)), (by first | rfl | (simp; done) | (simp [*]; done)), (by first | rfl | (simp; done) | (simp [*]; done)), H', ⟨by have := HJ2.out; have := HK2.out; omega⟩, ⟨by repeat (first | (with_reducible first | exact HB.out | apply below_alloc | apply pw_below_drewN | apply below_drew1) | exact HB.out)⟩⟩
              · replace c11 := Bool.eq_false_iff.mpr c11
                subst c11
                have H1 : (spec_CountInClass.l0 k2 a0 a1 x6_2 (wrap64 (x7_2 + 1))) = some (r1, r2) := by rw [if_neg (show ¬ (false = true) by decide)] at H; exact H
                clear H
                have H := H1
                clear H1
                have H' := Aside0.mk H
                clear H
                go_wp2_with (first | ((with_reducible refine gate_callee (f := 82) rfl ?_); refine goesL_ (some 18) rfl rfl Try.func82 (by kernel_rfl) rfl #[.int .i64 a0] rfl (by (try simp only [List.map_toArray, List.map_cons, List.map_nil]); first | done | rfl | (simp only [List.length_drop, List.length_take]; rfl)) ?_; (with_reducible refine (spec_l01All.calls a0 t503 _ A8.out).mono ?_); rintro e w' ⟨rfl, ⟨nd, rfl⟩⟩; refine ⟨_, rfl, ?_⟩) | ((with_reducible refine gate_callee (f := 79) rfl ?_); refine goesL_ (some 26) rfl rfl Try.func79 (by kernel_rfl) rfl #[.agg #[.int .i64 a0, .int .i64 x7_2], .int .i64 a1] rfl (by (try simp only [List.map_toArray, List.map_cons, List.map_nil]); first | done | rfl | (simp only [List.length_drop, List.length_take]; rfl)) ?_; (with_reducible refine (spec_l02In.calls k2 a0 x7_2 a1 false _ A10.out).mono ?_); rintro e w13 ⟨rfl, hb⟩; refine ⟨_, rfl, ?_⟩; have n0_ := Aside0.mk (below_step (by repeat (first | (with_reducible first | exact HB.out | apply below_alloc | apply pw_below_drewN | apply below_drew1) | exact HB.out)) hb); clear HB; have HB := n0_; clear n0_; (try clear hb); (try clear hb2); (try clear hk); (try clear hi)))
                go_roundg k2
                case measure => have := HJ2.out; have := HK2.out; omega
                case rel => exact ⟨(x6_2), (wrap64 (x7_2 + 1)), (by first | rfl | (simp; done) | (simp [*]; done)), (by first | rfl | (simp; done) | (simp [*]; done)), H', ⟨by have := HJ2.out; have := HK2.out; omega⟩, ⟨by repeat (first | (with_reducible first | exact HB.out | apply below_alloc | apply pw_below_drewN | apply below_drew1) | exact HB.out)⟩⟩
            · rw [if_neg c9] at H
              have c9b0 : decide (x7_2 ≤ t503) = false := decide_eq_false c9
              clear c9
              simp only [Option.some.injEq, Prod.mk.injEq] at H
              obtain ⟨rfl, rfl⟩ := H
              go_wp2_with (first | ((with_reducible refine gate_callee (f := 82) rfl ?_); refine goesL_ (some 18) rfl rfl Try.func82 (by kernel_rfl) rfl #[.int .i64 a0] rfl (by (try simp only [List.map_toArray, List.map_cons, List.map_nil]); first | done | rfl | (simp only [List.length_drop, List.length_take]; rfl)) ?_; (with_reducible refine (spec_l01All.calls a0 t503 _ A8.out).mono ?_); rintro e w' ⟨rfl, ⟨nd, rfl⟩⟩; refine ⟨_, rfl, ?_⟩))
              go_ret2
              exact ⟨by first | rfl | (simp [errW_none, errW_some] <;> rfl) | (simp [*, errW_none, errW_some] <;> rfl), by repeat (first | (with_reducible first | exact HB.out | apply below_alloc | apply pw_below_drewN | apply below_drew1) | exact HB.out)⟩

/-! ### impl_funcsThat: function 84, by hand -/
/-- What is asked of a predicate on the functions of an arity, told by their bits. -/
def GivesBits (g : Nat) (lb : Array Value) (n : Int) (m : Nat) (p : Nat → Bool) (w : World) : Prop :=
  ∀ (W : World) (b : Nat), b < m → Below w.heap.size w W →
    Calls Try.prog g (#[.agg #[.int .i64 n, .int .i64 (b : Nat)]] ++ lb) W fun e W' => e = .returned (.bool (p b)) ∧ Below W.heap.size W W'
/-- The functions of an arity with bits below m that are such. -/
def fnsThat (n : Int) (p : Nat → Bool) (m : Nat) : List S27 := ((List.range m).filter p).map fun b => ⟨n, (b : Nat)⟩
theorem fnsThat_true (n : Int) (p : Nat → Bool) (m : Nat) (h : p m = true) : fnsThat n p (m + 1) = fnsThat n p m ++ [⟨n, (m : Nat)⟩] := by simp [fnsThat, List.range_succ, h]
theorem fnsThat_false (n : Int) (p : Nat → Bool) (m : Nat) (h : p m = false) : fnsThat n p (m + 1) = fnsThat n p m := by simp [fnsThat, List.range_succ, h]
theorem fnsThat_le (n : Int) (p : Nat → Bool) (m : Nat) : (fnsThat n p m).length ≤ m := by
  unfold fnsThat
  rw [List.length_map]
  exact Nat.le_trans (List.length_filter_le _ _) (by simp)
set_option maxHeartbeats 8000000 in
set_option maxRecDepth 100000 in
theorem funcsThat_fns.calls (g : Nat) (lb : Array Value) (eg : ∀ args w, (callFunc g args).run Try.prog w = .ok (.enter g args) w) (n : Nat) (m : Nat) (hn : impl_funcsOf.f (n : Int) = some (m : Int)) (hm : m ≤ 65536) (p : Nat → Bool) (w : World) (hp : GivesBits g lb (n : Int) m p w) :
    Calls Try.prog 84 #[.int .i64 (n : Int), .func (.func g) #[] lb] w fun e w' => ∃ v : Value, e = .returned v ∧ Kd.R k27 27 w' w.heap.size (fun _ => True) v (fnsThat (n : Int) p m) ∧ Below w.heap.size w w' := by
  have HF := Aside0.mk hn
  have HP := Aside0.mk hp
  have HM := Aside0.mk hm
  clear hp hn hm
  generalize hni : (n : Int) = ni at HF HP ⊢
  clear hni
  go_enter Try.func84, Try.ntmps84
  go_wp2_with (first | (go_at_call 88; (with_reducible refine (impl_funcsOf.calls _ _ _ HF.out).mono ?_); rintro e w' ⟨rfl, ⟨nd, rfl⟩⟩))
  go_loopg [5, 10] (m + 1) (fun gg v5 v10 wr => ∃ b : Nat, v10 = .int .i64 (b : Int) ∧ Aside0 (b ≤ m) ∧ Aside0 (m - b < gg) ∧ Aside0 (Kd.R k27 27 wr w.heap.size (fun _ => True) v5 (fnsThat ni p b)) ∧ Aside0 (Below w.heap.size w wr))
  case atStart => exact ⟨0, rfl, ⟨by omega⟩, ⟨by omega⟩, ⟨Kd.R_nil _ _ _ _ _⟩, ⟨pw_below_drewN (Below.refl _ _) _⟩⟩
  case round =>
    obtain ⟨b, rfl, HB1, HB2, HO, HB⟩ := hrel
    by_cases hlt : b < m
    · have hlti : decide (b < m) = true := by simpa using hlt
      have HL := Aside0.mk hlt
      clear hlt
      have HC := Aside0.mk (HP.out (wr.alloc (.cells #[.int .i64 ni, .int .i64 (b : Int)] 27)) b HL.out (below_alloc HB.out _))
      have BK := blk_new wr (.cells #[.int .i64 ni, .int .i64 (b : Int)] 27)
      replace BK := Aside0.mk BK
      cases hq : p b with
      | true =>
        have HQ := Aside0.mk hq
        rw [hq] at HC
        clear hq
        go_wp2_with (first | ((with_reducible refine HC.out.mono ?_); rintro e w1 ⟨rfl, hb⟩; have HB3 := Aside0.mk (below_step (below_alloc HB.out _) hb); have HO3 := Aside0.mk (Kd.R_below (Kd.R_alloc HO.out _) hb); have hc0 := blk_cell (blk_below BK.out hb) 0; have hc1 := blk_cell (blk_below BK.out hb) 1; simp at hc0 hc1; clear hb) | ((with_reducible refine gate_builtin (b := .append) (xs := #[.tmp 19, .tmp 21]) rfl ?_); at_builtin; refine Kd.R_append k27 (w0 := w) w.heap.size rfl (.tmp 19) (.tmp 21) 42 27 (.agg #[(.int .i64 0), (.int .i64 0)]) 16 rfl Try.underlying42 info27 rfl (by decide) (by omega) u5 (fnsThat ni p b) ⟨ni, (b : Nat)⟩ [.int .i64 ni, .int .i64 (b : Int)] (fun _ => True) (fun _ => False) rfl rfl ?aP (fun _ hk => hk.elim) ?aF ?aO ?aB ?aS ?aL ?_; (case aP => exact k27_mkM _ _ _ ⟨ni, (b : Nat)⟩); (case aB => exact HB3.out); (case aF => exact (fun _ _ => trivial)); (case aO => exact HO3.out); (case aS => exact below_size HB3.out); (case aL => have := fnsThat_le ni p b; have := HL.out; have := HM.out; omega); intro v4 w5 ho hb hg hat; rw [← fnsThat_true ni p b HQ.out] at ho; have HO5 := Aside0.mk ho; have HB5 := Aside0.mk hb; clear ho hb hg hat))
        go_roundg (m - b)
        case measure => have := HB2.out; omega
        case rel =>
          have hl := HL.out
          have hmm := HM.out
          exact ⟨b + 1, by rw [M.w64_in _ (by omega) (by omega)]; rfl, ⟨by omega⟩, ⟨by omega⟩, HO5, HB5⟩
      | false =>
        have HQ := Aside0.mk hq
        rw [hq] at HC
        clear hq
        go_wp2_with (((with_reducible refine HC.out.mono ?_); rintro e w1 ⟨rfl, hb⟩; have HB3 := Aside0.mk (below_step (below_alloc HB.out _) hb); have HO3 := Aside0.mk (Kd.R_below (Kd.R_alloc HO.out _) hb); clear hb))
        go_roundg (m - b)
        case measure => have := HB2.out; omega
        case rel =>
          have hl := HL.out
          have hmm := HM.out
          exact ⟨b + 1, by rw [M.w64_in _ (by omega) (by omega)]; rfl, ⟨by omega⟩, ⟨by omega⟩, ⟨by rw [fnsThat_false ni p b HQ.out]; exact HO3.out⟩, HB3⟩
    · have hlti : decide (b < m) = false := by simpa using hlt
      have HE : Aside0 (b = m) := ⟨by have := HB1.out; omega⟩
      clear hlt
      go_wp2
      go_ret
      exact ⟨_, rfl, by rw [← HE.out]; exact HO.out, HB.out⟩

-- NOT PRINTED: function 85 (impl_CountInClass_1)

/-! ### impl_CountInClass: function 43, by hand -/
set_option maxHeartbeats 8000000 in
set_option maxRecDepth 100000 in
theorem countInClass_lit (B : Nat) (n k : Int) (m : Nat) (p : Nat → Bool) (hall : ∀ b, b < m → impl_Func_isIn.f 300 n (b : Nat) k = some (p b)) (w : World) (hB : B < w.heap.size) (hc : w.cell? ⟨B, 0, none⟩ = some (.int .i64 k)) :
    GivesBits 85 #[.pointer (some ⟨B, 0, none⟩)] n m p w := by
  intro W b hb hbW
  have hx0 := (hbW.cell (p := ⟨B, 0, none⟩) hB).trans hc
  have hx := ((below_alloc (Below.refl W.heap.size W) (.cells #[.int .i64 n, .int .i64 (b : Int)] 27)).cell (p := ⟨B, 0, none⟩) (Nat.lt_of_lt_of_le hB (below_size hbW))).trans hx0
  have HC := Aside0.mk (hall b hb)
  show Calls Try.prog 85 #[.agg #[.int .i64 n, .int .i64 (b : Int)], .pointer (some ⟨B, 0, none⟩)] W _
  clear hall hc hx0 hbW hB hb
  generalize hv : p b = v at HC
  have HV := Aside0.mk hv
  clear hv
  have HB0 := Aside0.mk (below_alloc (Below.refl W.heap.size W) (.cells #[.int .i64 n, .int .i64 (b : Int)] 27))
  go_enter Try.func85, Try.ntmps85
  go_wp2_with (go_at_call 80; (with_reducible refine (impl_Func_isIn.calls 300 _ _ _ _ _ HC.out).mono ?_); rintro e w1 ⟨rfl, hb⟩; have HB1 := Aside0.mk (below_step HB0.out hb); clear hb)
  go_ret
  exact ⟨rfl, HB1.out⟩
def inBits (n k : Int) (b : Nat) : Bool := impl_Func_isIn.f 300 n (b : Nat) k == some true
def impl_CountInClass.f (a0 a1 : Int) : Option (Int × Int) :=
  if ((decide (0 ≤ a0) && decide (a0 ≤ 4)) && (decide (0 ≤ a1) && decide (a1 ≤ 4))) = true then
    (if (∀ b, b < 2 ^ 2 ^ a0.toNat → (impl_Func_isIn.f 300 a0 (b : Nat) a1).isSome = true) then some (((fnsThat a0 (inBits a0 a1) (2 ^ 2 ^ a0.toNat)).length : Int), 0) else none)
  else some (0, 2)
set_option maxHeartbeats 8000000 in
set_option maxRecDepth 100000 in
theorem impl_CountInClass.calls (a0 a1 : Int) (r1 r2 : Int) (w : World) (h : impl_CountInClass.f a0 a1 = some (r1, r2)) :
    Calls Try.prog 43 #[.int .i64 a0, .int .i64 a1] w fun e w' => e = .returned (.tuple #[.int .i64 r1, .int .i64 r2]) ∧ Below w.heap.size w w' := by
  unfold impl_CountInClass.f at h
  have HA := Aside0.mk (isArity_some a0)
  have HW := Aside0.mk (within_some a1 0 4)
  have hk := blk_cell (blk_new w (.cells #[.int .i64 a1] 2)) 0
  have BK := Aside0.mk (blk_new w (.cells #[.int .i64 a1] 2))
  have HB0 := Aside0.mk (below_alloc (Below.refl w.heap.size w) (.cells #[.int .i64 a1] 2))
  simp at hk
  by_cases hv : ((decide (0 ≤ a0) && decide (a0 ≤ 4)) && (decide (0 ≤ a1) && decide (a1 ≤ 4))) = true
  · rw [if_pos hv] at h
    have hv1 : (decide (0 ≤ a0) && decide (a0 ≤ 4)) = true := by simp at hv ⊢; omega
    have hv2 : (decide (0 ≤ a1) && decide (a1 ≤ 4)) = true := by simp at hv ⊢; omega
    rw [hv1] at HA
    rw [hv2] at HW
    have h04 : 0 ≤ a0 ∧ a0 ≤ 4 := by simpa using hv1
    obtain ⟨n, rfl⟩ := Int.eq_ofNat_of_zero_le h04.1
    have hn : n ≤ 4 := by omega
    rw [Int.toNat_natCast] at h
    by_cases hall : (∀ b, b < 2 ^ 2 ^ n → (impl_Func_isIn.f 300 (n : Int) (b : Nat) a1).isSome = true)
    · rw [if_pos hall] at h
      simp only [Option.some.injEq, Prod.mk.injEq] at h
      obtain ⟨rfl, rfl⟩ := h
      have hall2 : ∀ b, b < 2 ^ 2 ^ n → impl_Func_isIn.f 300 (n : Int) (b : Nat) a1 = some (inBits (n : Int) a1 b) := by
        intro b hb
        obtain ⟨y, hy⟩ := Option.isSome_iff_exists.1 (hall b hb)
        unfold inBits
        rw [hy]
        cases y <;> rfl
      have h2 := (M.pow2_le (M.pow_le16 hn) : 2 ^ 2 ^ n ≤ 2 ^ 16)
      have HC := Aside0.mk (fun W hB hc => funcsThat_fns.calls 85 #[.pointer (some ⟨w.heap.size, 0, none⟩)] (fun args w => enters_ Try.func85 (by kernel_rfl) rfl args w) n (2 ^ 2 ^ n) (funcsOf_some n hn) (Nat.le_trans h2 (by decide)) (inBits (n : Int) a1) W (countInClass_lit w.heap.size (n : Int) a1 (2 ^ 2 ^ n) (inBits (n : Int) a1) hall2 W hB hc))
      generalize fnsThat (n : Int) (inBits (n : Int) a1) (2 ^ 2 ^ n) = l at HC ⊢
      clear hv hn h2 hall hall2 hv1 hv2 h04
      generalize (n : Int) = ni at HC HA ⊢
      go_enter Try.func43, Try.ntmps43
      go_wp2_with (first | (go_at_call 83; (with_reducible refine (impl_isArity.calls _ _ _ HA.out).mono ?_); rintro e w' ⟨rfl, ⟨nd, rfl⟩⟩) | (go_at_call 58; (with_reducible refine (impl_within.calls _ _ _ _ _ HW.out).mono ?_); rintro e w' ⟨rfl, ⟨nd2, rfl⟩⟩))
      refine (HC.out _ (by simp <;> omega) (by go_simp)).mono ?_
      rintro e w1 ⟨v, rfl, hR, hb⟩
      obtain ⟨A, c, rfl⟩ := Kd.R_slice hR
      have HB1 := Aside0.mk (below_step (pw_below_drewN HB0.out (nd + nd2)) hb)
      clear hR hb
      go_wp2
      go_ret2
      exact ⟨rfl, HB1.out⟩
    · rw [if_neg hall] at h
      exact absurd h (by simp)
  · rw [if_neg hv] at h
    simp only [Option.some.injEq, Prod.mk.injEq] at h
    obtain ⟨rfl, rfl⟩ := h
    replace hv : ((decide (0 ≤ a0) && decide (a0 ≤ 4)) && (decide (0 ≤ a1) && decide (a1 ≤ 4))) = false := by simpa using hv
    generalize (decide (0 ≤ a0) && decide (a0 ≤ 4)) = b1 at HA hv
    generalize (decide (0 ≤ a1) && decide (a1 ≤ 4)) = b2 at HW hv
    cases b1 with
    | false =>
      clear hv
      go_enter Try.func43, Try.ntmps43
      go_wp2_with (first | (go_at_call 83; (with_reducible refine (impl_isArity.calls _ _ _ HA.out).mono ?_); rintro e w' ⟨rfl, ⟨nd, rfl⟩⟩) | (go_at_call 58; (with_reducible refine (impl_within.calls _ _ _ _ _ HW.out).mono ?_); rintro e w' ⟨rfl, ⟨nd2, rfl⟩⟩))
      go_ret2
      exact ⟨rfl, pw_below_drewN HB0.out nd⟩
    | true =>
      cases b2 with
      | true => exact absurd hv (by decide)
      | false =>
        clear hv
        go_enter Try.func43, Try.ntmps43
        go_wp2_with (first | (go_at_call 83; (with_reducible refine (impl_isArity.calls _ _ _ HA.out).mono ?_); rintro e w' ⟨rfl, ⟨nd, rfl⟩⟩) | (go_at_call 58; (with_reducible refine (impl_within.calls _ _ _ _ _ HW.out).mono ?_); rintro e w' ⟨rfl, ⟨nd2, rfl⟩⟩))
        go_ret2
        exact ⟨rfl, pw_below_drewN HB0.out (nd + nd2)⟩

/-! ### laws_FnExactCountInClass: function 12 -/
def laws_FnExactCountInClass.f (k : Nat) (a0 : Int) (a1 : Int) : Option (Bool) := (spec_CountInClass.f k a0 a1).bind fun bt505 => ((impl_CountInClass.f a0 a1).bind fun bt507 => (if bt507.1 = bt505.1 then (if bt507.2 = bt505.2 then (some true) else (some false)) else (some false)))
theorem laws_FnExactCountInClass.mono : ∀ a0 a1 k, LeO (laws_FnExactCountInClass.f k a0 a1) (laws_FnExactCountInClass.f (k + 1) a0 a1) := by
  intro a0 a1 k
  unfold laws_FnExactCountInClass.f
  repeat' first
      | (with_reducible exact spec_CountInClass.mono _ _ _)
      | (with_reducible exact LeO.refl _)
      | (with_reducible exact LeO.none _)
      | (with_reducible refine LeO.ite ?_ ?_)
      | (with_reducible refine LeO.bind ?_ (fun _ => ?_))
      | exact spec_CountInClass.mono _ _ _
      | exact LeO.none _
      | refine LeO.ite ?_ ?_
      | refine LeO.bind ?_ (fun _ => ?_)
set_option maxHeartbeats 8000000 in
set_option maxRecDepth 100000 in
theorem laws_FnExactCountInClass.calls (k : Nat) (a0 : Int) (a1 : Int) (r : Bool) (w : World) (h : laws_FnExactCountInClass.f k a0 a1 = some r) :
    Calls Try.prog 12 #[.int .i64 a0, .int .i64 a1] w fun e w' => e = .returned (.bool r) ∧ Below w.heap.size w w' := by
  have HB := Aside0.mk (Below.refl w.heap.size w)
  have H : ((spec_CountInClass.f k a0 a1).bind fun bt505 => ((impl_CountInClass.f a0 a1).bind fun bt507 => (if bt507.1 = bt505.1 then (if bt507.2 = bt505.2 then (some true) else (some false)) else (some false)))) = some r := h
  clear h
  replace H := Option.bind_eq_some_iff.mp H
  obtain ⟨⟨t505, t506⟩, A30, H⟩ := H
  replace H : ((impl_CountInClass.f a0 a1).bind fun bt507 => (if bt507.1 = t505 then (if bt507.2 = t506 then (some true) else (some false)) else (some false))) = some r := H
  have A3 := Aside0.mk A30
  clear A30
  replace H := Option.bind_eq_some_iff.mp H
  obtain ⟨⟨t507, t508⟩, A40, H⟩ := H
  replace H : (if t507 = t505 then (if t508 = t506 then (some true) else (some false)) else (some false)) = some r := H
  have A4 := Aside0.mk A40
  clear A40
  by_cases c5 : t507 = t505
  · rw [if_pos c5] at H
    have c5b0 : (t507 == t505) = true := beq_iff_eq.mpr c5
    have c5b1 : (t507 != t505) = false := bne_eq_false_iff_eq.mpr c5
    clear c5
    by_cases c6 : t508 = t506
    · rw [if_pos c6] at H
      have c6b0 : (t508 == t506) = true := beq_iff_eq.mpr c6
      have c6b1 : (t508 != t506) = false := bne_eq_false_iff_eq.mpr c6
      clear c6
      obtain rfl := Option.some.inj H
      go_enter Try.func12, Try.ntmps12
      go_wp2_with (first | ((with_reducible refine gate_callee (f := 42) rfl ?_); refine goesL_ (some 12) rfl rfl Try.func42 (by kernel_rfl) rfl #[.int .i64 a0, .int .i64 a1] rfl (by (try simp only [List.map_toArray, List.map_cons, List.map_nil]); first | done | rfl | (simp only [List.length_drop, List.length_take]; rfl)) ?_; (with_reducible refine (spec_CountInClass.calls k a0 a1 t505 t506 _ A3.out).mono ?_); rintro e w7 ⟨rfl, hb⟩; refine ⟨_, rfl, ?_⟩; have n0_ := Aside0.mk (below_step (by repeat (first | (with_reducible first | exact HB.out | apply below_alloc | apply pw_below_drewN | apply below_drew1) | exact HB.out)) hb); clear HB; have HB := n0_; clear n0_; (try clear hb); (try clear hb2); (try clear hk); (try clear hi)) | ((with_reducible refine gate_callee (f := 43) rfl ?_); refine goesL_ (some 18) rfl rfl Try.func43 (by kernel_rfl) rfl #[.int .i64 a0, .int .i64 a1] rfl (by (try simp only [List.map_toArray, List.map_cons, List.map_nil]); first | done | rfl | (simp only [List.length_drop, List.length_take]; rfl)) ?_; (with_reducible refine (impl_CountInClass.calls a0 a1 t507 t508 _ A4.out).mono ?_); rintro e w8 ⟨rfl, hb⟩; refine ⟨_, rfl, ?_⟩; have n0_ := Aside0.mk (below_step (by repeat (first | (with_reducible first | exact HB.out | apply below_alloc | apply pw_below_drewN | apply below_drew1) | exact HB.out)) hb); clear HB; have HB := n0_; clear n0_; (try clear hb); (try clear hb2); (try clear hk); (try clear hi)))
      go_ret
      exact ⟨by first | rfl | (simp [errW_none, errW_some] <;> rfl) | (simp [*, errW_none, errW_some] <;> rfl), by repeat (first | (with_reducible first | exact HB.out | apply below_alloc | apply pw_below_drewN | apply below_drew1) | exact HB.out)⟩
    · rw [if_neg c6] at H
      have c6b0 : (t508 == t506) = false := beq_eq_false_iff_ne.mpr c6
      have c6b1 : (t508 != t506) = true := bne_iff_ne.mpr c6
      obtain rfl := Option.some.inj H
      go_enter Try.func12, Try.ntmps12
      go_wp2_with (first | ((with_reducible refine gate_callee (f := 42) rfl ?_); refine goesL_ (some 12) rfl rfl Try.func42 (by kernel_rfl) rfl #[.int .i64 a0, .int .i64 a1] rfl (by (try simp only [List.map_toArray, List.map_cons, List.map_nil]); first | done | rfl | (simp only [List.length_drop, List.length_take]; rfl)) ?_; (with_reducible refine (spec_CountInClass.calls k a0 a1 t505 t506 _ A3.out).mono ?_); rintro e w9 ⟨rfl, hb⟩; refine ⟨_, rfl, ?_⟩; have n0_ := Aside0.mk (below_step (by repeat (first | (with_reducible first | exact HB.out | apply below_alloc | apply pw_below_drewN | apply below_drew1) | exact HB.out)) hb); clear HB; have HB := n0_; clear n0_; (try clear hb); (try clear hb2); (try clear hk); (try clear hi)) | ((with_reducible refine gate_callee (f := 43) rfl ?_); refine goesL_ (some 18) rfl rfl Try.func43 (by kernel_rfl) rfl #[.int .i64 a0, .int .i64 a1] rfl (by (try simp only [List.map_toArray, List.map_cons, List.map_nil]); first | done | rfl | (simp only [List.length_drop, List.length_take]; rfl)) ?_; (with_reducible refine (impl_CountInClass.calls a0 a1 t507 t508 _ A4.out).mono ?_); rintro e w10 ⟨rfl, hb⟩; refine ⟨_, rfl, ?_⟩; have n0_ := Aside0.mk (below_step (by repeat (first | (with_reducible first | exact HB.out | apply below_alloc | apply pw_below_drewN | apply below_drew1) | exact HB.out)) hb); clear HB; have HB := n0_; clear n0_; (try clear hb); (try clear hb2); (try clear hk); (try clear hi)))
      go_ret
      exact ⟨by first | rfl | (simp [errW_none, errW_some] <;> rfl) | (simp [*, errW_none, errW_some] <;> rfl), by repeat (first | (with_reducible first | exact HB.out | apply below_alloc | apply pw_below_drewN | apply below_drew1) | exact HB.out)⟩
  · rw [if_neg c5] at H
    have c5b0 : (t507 == t505) = false := beq_eq_false_iff_ne.mpr c5
    have c5b1 : (t507 != t505) = true := bne_iff_ne.mpr c5
    obtain rfl := Option.some.inj H
    go_enter Try.func12, Try.ntmps12
    go_wp2_with (first | ((with_reducible refine gate_callee (f := 42) rfl ?_); refine goesL_ (some 12) rfl rfl Try.func42 (by kernel_rfl) rfl #[.int .i64 a0, .int .i64 a1] rfl (by (try simp only [List.map_toArray, List.map_cons, List.map_nil]); first | done | rfl | (simp only [List.length_drop, List.length_take]; rfl)) ?_; (with_reducible refine (spec_CountInClass.calls k a0 a1 t505 t506 _ A3.out).mono ?_); rintro e w11 ⟨rfl, hb⟩; refine ⟨_, rfl, ?_⟩; have n0_ := Aside0.mk (below_step (by repeat (first | (with_reducible first | exact HB.out | apply below_alloc | apply pw_below_drewN | apply below_drew1) | exact HB.out)) hb); clear HB; have HB := n0_; clear n0_; (try clear hb); (try clear hb2); (try clear hk); (try clear hi)) | ((with_reducible refine gate_callee (f := 43) rfl ?_); refine goesL_ (some 18) rfl rfl Try.func43 (by kernel_rfl) rfl #[.int .i64 a0, .int .i64 a1] rfl (by (try simp only [List.map_toArray, List.map_cons, List.map_nil]); first | done | rfl | (simp only [List.length_drop, List.length_take]; rfl)) ?_; (with_reducible refine (impl_CountInClass.calls a0 a1 t507 t508 _ A4.out).mono ?_); rintro e w12 ⟨rfl, hb⟩; refine ⟨_, rfl, ?_⟩; have n0_ := Aside0.mk (below_step (by repeat (first | (with_reducible first | exact HB.out | apply below_alloc | apply pw_below_drewN | apply below_drew1) | exact HB.out)) hb); clear HB; have HB := n0_; clear n0_; (try clear hb); (try clear hb2); (try clear hk); (try clear hi)))
    go_ret
    exact ⟨by first | rfl | (simp [errW_none, errW_some] <;> rfl) | (simp [*, errW_none, errW_some] <;> rfl), by repeat (first | (with_reducible first | exact HB.out | apply below_alloc | apply pw_below_drewN | apply below_drew1) | exact HB.out)⟩

end Go.Proofs.Ytmfkmkjgeibpnaa.P
