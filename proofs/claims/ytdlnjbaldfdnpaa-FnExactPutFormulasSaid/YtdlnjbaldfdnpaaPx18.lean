/- Functions of the given program and their contracts, written by a program of this session (gen.py) over the kit's print. -/
import Derived.Test.YtdlnjbaldfdnpaaPx0
import Derived.Test.YtdlnjbaldfdnpaaPx4
import Derived.Test.YtdlnjbaldfdnpaaPx5
namespace Go.Proofs.Ytdlnjbaldfdnpaa.P
open Go.RowKit Go.Proofs.YtdlnjbaldfdnpaaW.PrintWords Go.Proofs.YtdlnjbaldfdnpaaW.PrintLast Go.Proofs.YtdlnjbaldfdnpaaW.PrintMore
attribute [local go_sem] max2_int min2_int max_two min_two max_three min_three max_four min_four   -- for this text's walks alone
set_option linter.unusedVariables false
set_option linter.unusedSimpArgs false

/-! ### spec_l05Size: function 68 -/
def spec_l05Size.l0 : Nat → ByteArray → Int → Int → Option (Int)
  | 0, _, _, _ => none
  | k + 1, x0, x3, x4 => if x4 < (x0.size : Int) then (if 0 ≤ x4 then ((spec_l05Places.f k (bt x0 x4)).bind fun t313 => (if t313 > 0 then (spec_l05Size.l0 k x0 (wrap64 (x3 + 1)) (wrap64 (x4 + 1))) else (spec_l05Size.l0 k x0 x3 (wrap64 (x4 + 1))))) else (none)) else (some x3)
def spec_l05Size.f (k : Nat) (a0 : ByteArray) : Option (Int) := spec_l05Size.l0 k a0 0 0
theorem spec_l05Size.mono_l : ∀ k, (∀ y0 y1 y2, LeO (spec_l05Size.l0 k y0 y1 y2) (spec_l05Size.l0 (k + 1) y0 y1 y2))
  | 0 => fun _ _ _ r h => by simp [spec_l05Size.l0] at h
  | k + 1 => by
    have ih0 := spec_l05Size.mono_l k
    · intro y0 y1 y2
      unfold spec_l05Size.l0
      repeat' first
      | (with_reducible exact ih0 _ _ _)
      | (with_reducible exact spec_l05Places.mono _ _)
      | (with_reducible exact LeO.refl _)
      | (with_reducible exact LeO.none _)
      | (with_reducible refine LeO.ite ?_ ?_)
      | (with_reducible refine LeO.bind ?_ (fun _ => ?_))
      | exact ih0 _ _ _
      | exact spec_l05Places.mono _ _
      | exact LeO.none _
      | refine LeO.ite ?_ ?_
      | refine LeO.bind ?_ (fun _ => ?_)
theorem spec_l05Size.mono : ∀ a0 k, LeO (spec_l05Size.f k a0) (spec_l05Size.f (k + 1) a0) := by
  intro a0 k
  have ih0 := spec_l05Size.mono_l k
  unfold spec_l05Size.f
  repeat' first
      | (with_reducible exact ih0 _ _ _)
      | (with_reducible exact spec_l05Places.mono _ _)
      | (with_reducible exact LeO.refl _)
      | (with_reducible exact LeO.none _)
      | (with_reducible refine LeO.ite ?_ ?_)
      | (with_reducible refine LeO.bind ?_ (fun _ => ?_))
      | exact ih0 _ _ _
      | exact spec_l05Places.mono _ _
      | exact LeO.none _
      | refine LeO.ite ?_ ?_
      | refine LeO.bind ?_ (fun _ => ?_)
set_option maxHeartbeats 8000000 in
set_option maxRecDepth 100000 in
theorem spec_l05Size.calls (k : Nat) (a0 : ByteArray) (r : Int) (w : World) (h : spec_l05Size.f k a0 = some r) :
    Calls Try.prog 68 #[.string a0] w fun e w' => e = .returned (.int .i64 r) ∧ Drawn0 w w' := by
  have H : (spec_l05Size.l0 k a0 0 0) = some r := h
  clear h
  have H' := Aside0.mk H
  clear H
  go_enter Try.func68, Try.ntmps68
  go_wp2
  go_loopg [3, 4] k (fun kq v3 v4 w' => ∃ (x3_1 : Int) (x4_1 : Int), v3 = .int .i64 x3_1 ∧ v4 = .int .i64 x4_1 ∧ Aside0 (spec_l05Size.l0 kq a0 x3_1 x4_1 = some r) ∧ Aside0 (kq ≤ k) ∧ Drawn0 w w')
  case atStart => exact ⟨(0), (0), (by first | rfl | (simp; done) | (simp [*]; done)), (by first | rfl | (simp; done) | (simp [*]; done)), H', ⟨Nat.le_refl _⟩, by repeat (first | exact Drawn0.refl _ | apply Drawn0.step)⟩
  case round =>
    clear H'
    obtain ⟨x3_1, x4_1, rfl, rfl, HA, HK1, ⟨m1, rfl⟩⟩ := hrel
    cases gk with
    | zero => exact absurd HA.out (by simp [spec_l05Size.l0])
    | succ k1 =>
      have H := HA.out
      clear HA
      simp only [spec_l05Size.l0] at H
      by_cases c2 : x4_1 < (a0.size : Int)
      · rw [if_pos c2] at H
        have c2b0 : decide (x4_1 < (a0.size : Int)) = true := decide_eq_true c2
        clear c2
        by_cases c3 : 0 ≤ x4_1
        · rw [if_pos c3] at H
          have c3b0 : decide (0 ≤ x4_1) = true := decide_eq_true c3
          clear c3
          replace H := Option.bind_eq_some_iff.mp H
          obtain ⟨t313, A50, H⟩ := H
          replace H : (if t313 > 0 then (spec_l05Size.l0 k1 a0 (wrap64 (x3_1 + 1)) (wrap64 (x4_1 + 1))) else (spec_l05Size.l0 k1 a0 x3_1 (wrap64 (x4_1 + 1)))) = some r := H
          have A5 := Aside0.mk A50
          clear A50
          by_cases c6 : t313 > 0
          · rw [if_pos c6] at H
            have c6b0 : decide (0 < t313) = true := decide_eq_true c6
            clear c6
            have H' := Aside0.mk H
            clear H
            have p4 : 0 ≤ (x4_1 : Int) := of_decide_eq_true (by first | (with_reducible assumption) | assumption)
            have q4 : x4_1 < (a0.size : Int) := of_decide_eq_true (by first | (with_reducible assumption) | assumption)
            have hx4 := bt_at a0 x4_1
            replace p4 := eq_true p4
            replace q4 := eq_true q4
            go_wp2_with (first | ((with_reducible refine gate_callee (f := 98) rfl ?_); refine goesL_ (some 14) rfl rfl Try.func98 (by kernel_rfl) rfl #[.int .u8 (bt a0 x4_1)] rfl (by (try simp only [List.map_toArray, List.map_cons, List.map_nil]); first | done | rfl | (simp only [List.length_drop, List.length_take]; rfl)) ?_; (with_reducible refine (spec_l05Places.calls k1 (bt a0 x4_1) t313 _ A5.out).mono ?_); rintro e w' ⟨rfl, ⟨nd, rfl⟩⟩; refine ⟨_, rfl, ?_⟩))
            go_roundg k1
            case measure => have := HK1.out; omega
            case rel => exact ⟨(wrap64 (x3_1 + 1)), (wrap64 (x4_1 + 1)), (by first | rfl | (simp; done) | (simp [*]; done)), (by first | rfl | (simp; done) | (simp [*]; done)), H', ⟨by have := HK1.out; omega⟩, by repeat (first | exact Drawn0.refl _ | apply Drawn0.step)⟩
          · rw [if_neg c6] at H
            have c6b0 : decide (0 < t313) = false := decide_eq_false c6
            clear c6
            have H' := Aside0.mk H
            clear H
            have p4 : 0 ≤ (x4_1 : Int) := of_decide_eq_true (by first | (with_reducible assumption) | assumption)
            have q4 : x4_1 < (a0.size : Int) := of_decide_eq_true (by first | (with_reducible assumption) | assumption)
            have hx4 := bt_at a0 x4_1
            replace p4 := eq_true p4
            replace q4 := eq_true q4
            go_wp2_with (first | ((with_reducible refine gate_callee (f := 98) rfl ?_); refine goesL_ (some 14) rfl rfl Try.func98 (by kernel_rfl) rfl #[.int .u8 (bt a0 x4_1)] rfl (by (try simp only [List.map_toArray, List.map_cons, List.map_nil]); first | done | rfl | (simp only [List.length_drop, List.length_take]; rfl)) ?_; (with_reducible refine (spec_l05Places.calls k1 (bt a0 x4_1) t313 _ A5.out).mono ?_); rintro e w' ⟨rfl, ⟨nd, rfl⟩⟩; refine ⟨_, rfl, ?_⟩))
            go_roundg k1
            case measure => have := HK1.out; omega
            case rel => exact ⟨(x3_1), (wrap64 (x4_1 + 1)), (by first | rfl | (simp; done) | (simp [*]; done)), (by first | rfl | (simp; done) | (simp [*]; done)), H', ⟨by have := HK1.out; omega⟩, by repeat (first | exact Drawn0.refl _ | apply Drawn0.step)⟩
        · rw [if_neg c3] at H
          exact absurd H (by simp)
      · rw [if_neg c2] at H
        have c2b0 : decide (x4_1 < (a0.size : Int)) = false := decide_eq_false c2
        clear c2
        obtain rfl := Option.some.inj H
        go_wp2
        go_ret
        exact ⟨by first | rfl | (simp; done) | (simp [*]; done), by repeat (first | exact Drawn0.refl _ | apply Drawn0.step)⟩

/-! ### spec_SizeOfFormula: function 28 -/
def spec_SizeOfFormula.f (k : Nat) (a0 : ByteArray) : Option (Int × Int) := (spec_l05Is.f k a0).bind fun t314 => (if t314 = true then ((spec_l05Size.f k a0).bind fun t315 => (some (t315, 0))) else (some (0, 6)))
theorem spec_SizeOfFormula.mono : ∀ a0 k, LeO (spec_SizeOfFormula.f k a0) (spec_SizeOfFormula.f (k + 1) a0) := by
  intro a0 k
  unfold spec_SizeOfFormula.f
  repeat' first
      | (with_reducible exact spec_l05Is.mono _ _)
      | (with_reducible exact spec_l05Size.mono _ _)
      | (with_reducible exact LeO.refl _)
      | (with_reducible exact LeO.none _)
      | (with_reducible refine LeO.ite ?_ ?_)
      | (with_reducible refine LeO.bind ?_ (fun _ => ?_))
      | exact spec_l05Is.mono _ _
      | exact spec_l05Size.mono _ _
      | exact LeO.none _
      | refine LeO.ite ?_ ?_
      | refine LeO.bind ?_ (fun _ => ?_)
set_option maxHeartbeats 8000000 in
set_option maxRecDepth 100000 in
theorem spec_SizeOfFormula.calls (k : Nat) (a0 : ByteArray) (r1 : Int) (r2 : Int) (w : World) (h : spec_SizeOfFormula.f k a0 = some (r1, r2)) :
    Calls Try.prog 28 #[.string a0] w fun e w' => e = .returned (.tuple #[.int .i64 r1, .int .i64 r2]) ∧ Drawn0 w w' := by
  have H : ((spec_l05Is.f k a0).bind fun t314 => (if t314 = true then ((spec_l05Size.f k a0).bind fun t315 => (some (t315, 0))) else (some (0, 6)))) = some (r1, r2) := h
  clear h
  replace H := Option.bind_eq_some_iff.mp H
  obtain ⟨t314, A20, H⟩ := H
  replace H : (if t314 = true then ((spec_l05Size.f k a0).bind fun t315 => (some (t315, 0))) else (some (0, 6))) = some (r1, r2) := H
  have A2 := Aside0.mk A20
  clear A20
  by_cases c3 : t314 = true
  · subst c3
    have H1 : ((spec_l05Size.f k a0).bind fun t315 => (some (t315, 0))) = some (r1, r2) := by rw [if_pos rfl] at H; exact H
    clear H
    have H := H1
    clear H1
    replace H := Option.bind_eq_some_iff.mp H
    obtain ⟨t315, A40, H⟩ := H
    replace H : (some (t315, 0)) = some (r1, r2) := H
    have A4 := Aside0.mk A40
    clear A40
    simp only [Option.some.injEq, Prod.mk.injEq] at H
    obtain ⟨rfl, rfl⟩ := H
    go_enter Try.func28, Try.ntmps28
    go_wp2_with (first | ((with_reducible refine gate_callee (f := 62) rfl ?_); refine goesL_ (some 5) rfl rfl Try.func62 (by kernel_rfl) rfl #[.string a0] rfl (by (try simp only [List.map_toArray, List.map_cons, List.map_nil]); first | done | rfl | (simp only [List.length_drop, List.length_take]; rfl)) ?_; (with_reducible refine (spec_l05Is.calls k a0 true _ A2.out).mono ?_); rintro e w' ⟨rfl, ⟨nd, rfl⟩⟩; refine ⟨_, rfl, ?_⟩) | ((with_reducible refine gate_callee (f := 68) rfl ?_); refine goesL_ (some 8) rfl rfl Try.func68 (by kernel_rfl) rfl #[.string a0] rfl (by (try simp only [List.map_toArray, List.map_cons, List.map_nil]); first | done | rfl | (simp only [List.length_drop, List.length_take]; rfl)) ?_; (with_reducible refine (spec_l05Size.calls k a0 t315 _ A4.out).mono ?_); rintro e w' ⟨rfl, ⟨nd, rfl⟩⟩; refine ⟨_, rfl, ?_⟩))
    go_ret2
    exact ⟨by first | rfl | (simp; done) | (simp [*]; done), by repeat (first | exact Drawn0.refl _ | apply Drawn0.step)⟩
  · replace c3 := Bool.eq_false_iff.mpr c3
    subst c3
    have H1 : (some (0, 6)) = some (r1, r2) := by rw [if_neg (show ¬ (false = true) by decide)] at H; exact H
    clear H
    have H := H1
    clear H1
    simp only [Option.some.injEq, Prod.mk.injEq] at H
    obtain ⟨rfl, rfl⟩ := H
    go_enter Try.func28, Try.ntmps28
    go_wp2_with (first | ((with_reducible refine gate_callee (f := 62) rfl ?_); refine goesL_ (some 5) rfl rfl Try.func62 (by kernel_rfl) rfl #[.string a0] rfl (by (try simp only [List.map_toArray, List.map_cons, List.map_nil]); first | done | rfl | (simp only [List.length_drop, List.length_take]; rfl)) ?_; (with_reducible refine (spec_l05Is.calls k a0 false _ A2.out).mono ?_); rintro e w' ⟨rfl, ⟨nd, rfl⟩⟩; refine ⟨_, rfl, ?_⟩))
    go_ret2
    exact ⟨by first | rfl | (simp; done) | (simp [*]; done), by repeat (first | exact Drawn0.refl _ | apply Drawn0.step)⟩

/-! ### impl_one: function 99 -/
def impl_one.f (a0 : Bool) : Option (Int) := if a0 = true then (some 1) else (some 0)
set_option maxHeartbeats 8000000 in
set_option maxRecDepth 100000 in
theorem impl_one.calls (a0 : Bool) (r : Int) (w : World) (h : impl_one.f a0 = some r) :
    Calls Try.prog 99 #[.bool a0] w fun e w' => e = .returned (.int .i64 r) ∧ Drawn0 w w' := by
  have H : (if a0 = true then (some 1) else (some 0)) = some r := h
  clear h
  by_cases c2 : a0 = true
  · subst c2
    have H1 : (some 1) = some r := by rw [if_pos rfl] at H; exact H
    clear H
    have H := H1
    clear H1
    obtain rfl := Option.some.inj H
    go_enter Try.func99, Try.ntmps99
    go_wp2
    go_ret
    exact ⟨by first | rfl | (simp; done) | (simp [*]; done), by repeat (first | exact Drawn0.refl _ | apply Drawn0.step)⟩
  · replace c2 := Bool.eq_false_iff.mpr c2
    subst c2
    have H1 : (some 0) = some r := by rw [if_neg (show ¬ (false = true) by decide)] at H; exact H
    clear H
    have H := H1
    clear H1
    obtain rfl := Option.some.inj H
    go_enter Try.func99, Try.ntmps99
    go_wp2
    go_ret
    exact ⟨by first | rfl | (simp; done) | (simp [*]; done), by repeat (first | exact Drawn0.refl _ | apply Drawn0.step)⟩

/-! ### impl_formula_size: function 69, by hand -/
abbrev Frm := S70
/-- A formula lies in memory at an address. -/
def FrmAt (w : World) (ad : Addr) (t : Frm) : Prop := ∃ A1 c1, w.cell? ad = some (.int .u8 t.f0) ∧ w.cell? ⟨ad.block, ad.off + 1, none⟩ = some (.slice A1 t.f1.length c1) ∧ t.f1.length ≤ c1 ∧ Kd.C k70 w A1 t.f1.length t.f1
theorem FrmAt.below {w w1 : World} {ad : Addr} {t : Frm} (h : FrmAt w ad t) (hb : Below w.heap.size w w1) : FrmAt w1 ad t := by
  obtain ⟨A1, c1, h0, h1, h2, h3⟩ := h
  exact ⟨A1, c1, (hb.cell (World.block_lt_of_cell? w _ h0)).trans h0, (hb.cell (World.block_lt_of_cell? w _ h1)).trans h1, h2, Kd.C_below h3 hb⟩
/-- The part of a formula at a place, and where it lies. -/
theorem frm_part {w : World} {A1 : Option Addr} {ts : List Frm} (h : Kd.C k70 w A1 ts.length ts) (j : Nat) (hj : j < ts.length) : ∃ ad, A1 = some ad ∧ FrmAt w (ad.add (j * 2)) (ts.getD j z70) := by
  obtain ⟨ad, A, c, e, h0, h1, h2, h3⟩ := at_T70 h (j : Int) (by omega) (by omega)
  have hr : rd_T70 ts (j : Int) = ts.getD j z70 := by
    unfold rd_T70
    rw [Int.toNat_natCast]
  rw [hr, Int.toNat_natCast] at h0 h1
  rw [hr] at h2 h3
  exact ⟨ad, e, A, c, h0, h1, h2, h3⟩
theorem frm_mem (ts : List Frm) (j : Nat) (hj : j < ts.length) : ts.getD j z70 ∈ ts := by
  rw [List.getD_eq_getElem?_getD, List.getElem?_eq_getElem hj]
  exact List.getElem_mem hj
theorem frm_take (ts : List Frm) (j : Nat) (hj : j < ts.length) : ts.take (j + 1) = ts.take j ++ [ts.getD j z70] := by
  rw [List.take_succ_eq_append_getElem hj, List.getD_eq_getElem?_getD, List.getElem?_eq_getElem hj]
  rfl
theorem frm_ind {p : Frm → Prop} (h : ∀ t, (∀ x ∈ t.f1, p x) → p t) (t : Frm) : p t := by
  suffices H : ∀ n (t : Frm), SizeOf.sizeOf t < n → p t from H _ t (Nat.lt_succ_self _)
  intro n
  induction n with
  | zero => intro t ht; omega
  | succ n ih =>
    intro t ht
    refine h t fun x hx => ih x ?_
    have h1 := List.sizeOf_lt_of_mem hx
    have h2 : SizeOf.sizeOf t = 1 + SizeOf.sizeOf t.f0 + SizeOf.sizeOf t.f1 := by cases t; exact S70.mk.sizeOf_spec _ _
    omega
mutual
/-- The size of a formula, as the program adds it up. -/
def fsize : Frm → Int
  | ⟨_, ps⟩ => wrap64 (fsizeL ps 0 + (if 0 < ps.length then 1 else 0))
def fsizeL : List Frm → Int → Int
  | [], a => a
  | t :: ts, a => fsizeL ts (wrap64 (a + fsize t))
end
theorem fsizeL_snoc : ∀ (ts : List Frm) (t : Frm) (a : Int), fsizeL (ts ++ [t]) a = wrap64 (fsizeL ts a + fsize t)
  | [], t, a => by simp [fsizeL]
  | x :: ts, t, a => by simp [fsizeL, fsizeL_snoc ts t]
theorem fsize_eq (t : Frm) : fsize t = wrap64 (fsizeL t.f1 0 + (if 0 < t.f1.length then 1 else 0)) := by cases t; simp [fsize]
set_option maxHeartbeats 8000000 in
set_option maxRecDepth 100000 in
theorem formula_size.calls (t : Frm) : ∀ (ad : Addr) (w : World), FrmAt w ad t →
    Calls Try.prog 69 #[.pointer (some ad)] w fun e w' => e = .returned (.int .i64 (fsize t)) ∧ Below w.heap.size w w' := by
  induction t using frm_ind with
  | h t ih =>
    intro ad w hA
    obtain ⟨A1, c1, h0, h1, h2, h3⟩ := hA
    have hlen : t.f1.length ≤ 9223372036854775807 := h3.2.1
    have HLEN := Aside0.mk hlen
    have HR := Aside0.mk h3
    have IH := Aside0.mk ih
    have HQ := Aside0.mk (fsize_eq t)
    have HN : Aside0 (fsizeL (t.f1.take 0) 0 = 0) := ⟨rfl⟩
    have HT : Aside0 (t.f1.take t.f1.length = t.f1) := ⟨List.take_length⟩
    have HS : Aside0 (∀ j, j < t.f1.length → fsizeL (t.f1.take (j + 1)) 0 = wrap64 (fsizeL (t.f1.take j) 0 + fsize (t.f1.getD j z70))) := ⟨fun j hj => by rw [frm_take _ j hj, fsizeL_snoc]⟩
    have HM : Aside0 (∀ j, j < t.f1.length → t.f1.getD j z70 ∈ t.f1) := ⟨fun j hj => frm_mem _ j hj⟩
    have HOne := Aside0.mk (fun (w : World) (b : Bool) => impl_one.calls b (if b = true then 1 else 0) w (by unfold impl_one.f; cases b <;> rfl))
    clear ih h3 hlen h2
    generalize t.f1 = ts at *
    generalize hn : ts.length = n at *
    have HNN := Aside0.mk hn
    clear hn
    go_enter Try.func69, Try.ntmps69
    go_wp2
    go_loopg [3, 10] (n + 1) (fun gg v3 v10 wr => ∃ j : Nat, v10 = .int .i64 (j : Int) ∧ v3 = .int .i64 (fsizeL (ts.take j) 0) ∧ Aside0 (j ≤ n) ∧ Aside0 (n - j < gg) ∧ Aside0 (Below w.heap.size w wr))
    case atStart => exact ⟨0, rfl, by rw [HN.out], ⟨by omega⟩, ⟨by omega⟩, ⟨Below.refl _ _⟩⟩
    case round =>
      obtain ⟨j, rfl, rfl, HJ1, HJ2, HB⟩ := hrel
      have hx1 := (HB.out.cell (World.block_lt_of_cell? w _ h1)).trans h1
      by_cases hlt : j < n
      · have hlti : decide (j < n) = true := by simpa using hlt
        have HL := Aside0.mk hlt
        obtain ⟨ad2, rfl, hF⟩ := frm_part (by rw [HNN.out]; exact HR.out) j (by rw [HNN.out]; exact hlt)
        have HC := Aside0.mk (IH.out _ (HM.out j hlt) (ad2.add (j * 2)) wr (hF.below HB.out))
        have hS := HS.out j hlt
        have HS2 := Aside0.mk hS
        clear hF hS hlt
        generalize fsize (ts.getD j z70) = y at HC HS2
        have hj0 : 0 ≤ (j : Int) := by omega
        have hj1 : (j : Int) < (n : Int) := by have := HL.out; omega
        have hj2 : j < n := HL.out
        go_wp2_with (go_at_call 69; (with_reducible refine HC.out.mono ?_); rintro e w1 ⟨rfl, hb⟩; have HB1 := Aside0.mk (below_step HB.out hb); clear hb)
        go_roundg (n - j)
        case measure => have := HJ2.out; omega
        case rel =>
          have hl := HL.out
          have hll := HLEN.out
          exact ⟨j + 1, by rw [M.w64_in _ (by omega) (by omega)]; rfl, by rw [HS2.out], ⟨by omega⟩, ⟨by omega⟩, HB1⟩
      · have hlti : decide (j < n) = false := by simpa using hlt
        have HE : Aside0 (j = n) := ⟨by have := HJ1.out; omega⟩
        clear hlt
        have HV : Aside0 (fsize t = wrap64 (fsizeL (ts.take j) 0 + (if 0 < n then 1 else 0))) := ⟨by rw [HQ.out, HE.out, HT.out]⟩
        generalize fsizeL (ts.take j) 0 = y at HV ⊢
        go_wp2_with (go_at_call 99; refine (HOne.out _ _).mono ?_; rintro e w' ⟨rfl, ⟨nd, rfl⟩⟩)
        · have hz : 0 < n := by assumption
          go_ret
          exact ⟨by rw [HV.out, if_pos hz]; rfl, pw_below_drewN HB.out nd⟩
        · have hz : ¬ 0 < n := by omega
          go_ret
          exact ⟨by rw [HV.out, if_neg hz, Int.add_zero]; rfl, pw_below_drewN HB.out nd⟩

/-! ### impl_SizeOfFormula: function 29, by hand -/
def impl_SizeOfFormula.f (k : Nat) (a0 : ByteArray) : Option (Int × Int) := (impl_parse.f k a0).bind fun q => if q.2.2 = true then some (fsize ⟨q.1, q.2.1⟩, 0) else some (0, 6)
theorem impl_SizeOfFormula.mono : ∀ a0 k, LeO (impl_SizeOfFormula.f k a0) (impl_SizeOfFormula.f (k + 1) a0) := by
  intro a0 k r h
  unfold impl_SizeOfFormula.f at h ⊢
  obtain ⟨t, ht, h⟩ := Option.bind_eq_some_iff.1 h
  rw [impl_parse.mono _ _ _ ht]
  exact h
/-- A formula that was just read, laid into a variable. -/
theorem frm_laid {w : World} {base : Nat} {c : Int} {ps : List Frm} {v : Value} (h : Kd.R k70 70 w base (fun _ => True) v ps) :
    FrmAt (w.alloc (.cells #[.int .u8 c, v] 70)) ⟨w.heap.size, 0, none⟩ ⟨c, ps⟩ := by
  obtain ⟨A, c1, rfl, h1, h2⟩ := Kd.R_reads h
  have hb := blk_new w (.cells #[.int .u8 c, .slice A ps.length c1] 70)
  exact ⟨A, c1, (blk_cell hb 0).trans rfl, (blk_cell hb 1).trans rfl, h1, Kd.C_below h2 (below_alloc (Below.refl _ _) _)⟩
set_option maxHeartbeats 8000000 in
set_option maxRecDepth 100000 in
theorem impl_SizeOfFormula.calls (k : Nat) (a0 : ByteArray) (r1 r2 : Int) (w : World) (h : impl_SizeOfFormula.f k a0 = some (r1, r2)) :
    Calls Try.prog 29 #[.string a0] w fun e w' => e = .returned (.tuple #[.int .i64 r1, .int .i64 r2]) ∧ Below w.heap.size w w' := by
  unfold impl_SizeOfFormula.f at h
  obtain ⟨⟨c, ps, ok⟩, hp, h⟩ := Option.bind_eq_some_iff.1 h
  have HP := Aside0.mk (impl_parse.calls k a0 c ps ok w hp)
  clear hp
  cases ok with
  | true =>
    rw [if_pos rfl] at h
    simp only [Option.some.injEq, Prod.mk.injEq] at h
    obtain ⟨rfl, rfl⟩ := h
    go_enter Try.func29, Try.ntmps29
    go_wp2_with (first | (go_at_call 65; (with_reducible refine HP.out.mono ?_); rintro e w1 ⟨v1, rfl, hR, hb⟩; obtain ⟨A1, c1, rfl⟩ := Kd.R_slice hR; have HF := Aside0.mk (frm_laid (c := c) hR); have HB1 := Aside0.mk (below_alloc hb (.cells #[.int .u8 c, .slice A1 ps.length c1] 70)); clear hR hb) | (go_at_call 69; (with_reducible refine (formula_size.calls _ _ _ HF.out).mono ?_); rintro e w2 ⟨rfl, hb⟩; have HB2 := Aside0.mk (below_step HB1.out hb); clear hb))
    go_ret2
    exact ⟨rfl, HB2.out⟩
  | false =>
    rw [if_neg Bool.false_ne_true] at h
    simp only [Option.some.injEq, Prod.mk.injEq] at h
    obtain ⟨rfl, rfl⟩ := h
    go_enter Try.func29, Try.ntmps29
    go_wp2_with (go_at_call 65; (with_reducible refine HP.out.mono ?_); rintro e w1 ⟨v1, rfl, hR, hb⟩; obtain ⟨A1, c1, rfl⟩ := Kd.R_slice hR; have HB1 := Aside0.mk (below_alloc hb (.cells #[.int .u8 c, .slice A1 ps.length c1] 70)); clear hR hb)
    go_ret2
    exact ⟨rfl, HB1.out⟩

/-! ### laws_FnExactSizeOfFormula: function 7 -/
def laws_FnExactSizeOfFormula.f (k : Nat) (a0 : ByteArray) : Option (Bool) := if (a0.size : Int) > 1048576 then (some true) else ((spec_SizeOfFormula.f k a0).bind fun bt316 => ((impl_SizeOfFormula.f k a0).bind fun bt318 => (if bt318.1 = bt316.1 then (if bt318.2 = bt316.2 then (some true) else (some false)) else (some false))))
theorem laws_FnExactSizeOfFormula.mono : ∀ a0 k, LeO (laws_FnExactSizeOfFormula.f k a0) (laws_FnExactSizeOfFormula.f (k + 1) a0) := by
  intro a0 k
  unfold laws_FnExactSizeOfFormula.f
  repeat' first
      | (with_reducible exact impl_SizeOfFormula.mono _ _)
      | (with_reducible exact spec_SizeOfFormula.mono _ _)
      | (with_reducible exact LeO.refl _)
      | (with_reducible exact LeO.none _)
      | (with_reducible refine LeO.ite ?_ ?_)
      | (with_reducible refine LeO.bind ?_ (fun _ => ?_))
      | exact impl_SizeOfFormula.mono _ _
      | exact spec_SizeOfFormula.mono _ _
      | exact LeO.none _
      | refine LeO.ite ?_ ?_
      | refine LeO.bind ?_ (fun _ => ?_)
set_option maxHeartbeats 8000000 in
set_option maxRecDepth 100000 in
theorem laws_FnExactSizeOfFormula.calls (k : Nat) (a0 : ByteArray) (r : Bool) (w : World) (h : laws_FnExactSizeOfFormula.f k a0 = some r) :
    Calls Try.prog 7 #[.string a0] w fun e w' => e = .returned (.bool r) ∧ Below w.heap.size w w' := by
  have HB := Aside0.mk (Below.refl w.heap.size w)
  have H : (if (a0.size : Int) > 1048576 then (some true) else ((spec_SizeOfFormula.f k a0).bind fun bt316 => ((impl_SizeOfFormula.f k a0).bind fun bt318 => (if bt318.1 = bt316.1 then (if bt318.2 = bt316.2 then (some true) else (some false)) else (some false))))) = some r := h
  clear h
  by_cases c2 : (a0.size : Int) > 1048576
  · rw [if_pos c2] at H
    have c2b0 : decide (1048576 < (a0.size : Int)) = true := decide_eq_true c2
    have c2b1 : decide (1048576 < a0.size) = true := decide_eq_true (by omega)
    clear c2
    obtain rfl := Option.some.inj H
    go_enter Try.func7, Try.ntmps7
    go_wp2
    go_ret
    exact ⟨by first | rfl | (simp [errW_none, errW_some] <;> rfl) | (simp [*, errW_none, errW_some] <;> rfl), by repeat (first | (with_reducible first | exact HB.out | apply below_alloc | apply pw_below_drewN | apply below_drew1) | exact HB.out)⟩
  · rw [if_neg c2] at H
    have c2b0 : decide (1048576 < (a0.size : Int)) = false := decide_eq_false c2
    have c2b1 : decide (1048576 < a0.size) = false := decide_eq_false (by omega)
    clear c2
    replace H := Option.bind_eq_some_iff.mp H
    obtain ⟨⟨t316, t317⟩, A30, H⟩ := H
    replace H : ((impl_SizeOfFormula.f k a0).bind fun bt318 => (if bt318.1 = t316 then (if bt318.2 = t317 then (some true) else (some false)) else (some false))) = some r := H
    have A3 := Aside0.mk A30
    clear A30
    replace H := Option.bind_eq_some_iff.mp H
    obtain ⟨⟨t318, t319⟩, A40, H⟩ := H
    replace H : (if t318 = t316 then (if t319 = t317 then (some true) else (some false)) else (some false)) = some r := H
    have A4 := Aside0.mk A40
    clear A40
    by_cases c5 : t318 = t316
    · rw [if_pos c5] at H
      have c5b0 : (t318 == t316) = true := beq_iff_eq.mpr c5
      have c5b1 : (t318 != t316) = false := bne_eq_false_iff_eq.mpr c5
      clear c5
      by_cases c6 : t319 = t317
      · rw [if_pos c6] at H
        have c6b0 : (t319 == t317) = true := beq_iff_eq.mpr c6
        have c6b1 : (t319 != t317) = false := bne_eq_false_iff_eq.mpr c6
        clear c6
        obtain rfl := Option.some.inj H
        go_enter Try.func7, Try.ntmps7
        go_wp2_with (first | ((with_reducible refine gate_callee (f := 28) rfl ?_); refine goesL_ (some 12) rfl rfl Try.func28 (by kernel_rfl) rfl #[.string a0] rfl (by (try simp only [List.map_toArray, List.map_cons, List.map_nil]); first | done | rfl | (simp only [List.length_drop, List.length_take]; rfl)) ?_; (with_reducible refine (spec_SizeOfFormula.calls k a0 t316 t317 _ A3.out).mono ?_); rintro e w' ⟨rfl, ⟨nd, rfl⟩⟩; refine ⟨_, rfl, ?_⟩) | ((with_reducible refine gate_callee (f := 29) rfl ?_); refine goesL_ (some 17) rfl rfl Try.func29 (by kernel_rfl) rfl #[.string a0] rfl (by (try simp only [List.map_toArray, List.map_cons, List.map_nil]); first | done | rfl | (simp only [List.length_drop, List.length_take]; rfl)) ?_; (with_reducible refine (impl_SizeOfFormula.calls k a0 t318 t319 _ A4.out).mono ?_); rintro e w7 ⟨rfl, hb⟩; refine ⟨_, rfl, ?_⟩; have n0_ := Aside0.mk (below_step (by repeat (first | (with_reducible first | exact HB.out | apply below_alloc | apply pw_below_drewN | apply below_drew1) | exact HB.out)) hb); clear HB; have HB := n0_; clear n0_; (try clear hb); (try clear hb2); (try clear hk); (try clear hi)))
        go_ret
        exact ⟨by first | rfl | (simp [errW_none, errW_some] <;> rfl) | (simp [*, errW_none, errW_some] <;> rfl), by repeat (first | (with_reducible first | exact HB.out | apply below_alloc | apply pw_below_drewN | apply below_drew1) | exact HB.out)⟩
      · rw [if_neg c6] at H
        have c6b0 : (t319 == t317) = false := beq_eq_false_iff_ne.mpr c6
        have c6b1 : (t319 != t317) = true := bne_iff_ne.mpr c6
        obtain rfl := Option.some.inj H
        go_enter Try.func7, Try.ntmps7
        go_wp2_with (first | ((with_reducible refine gate_callee (f := 28) rfl ?_); refine goesL_ (some 12) rfl rfl Try.func28 (by kernel_rfl) rfl #[.string a0] rfl (by (try simp only [List.map_toArray, List.map_cons, List.map_nil]); first | done | rfl | (simp only [List.length_drop, List.length_take]; rfl)) ?_; (with_reducible refine (spec_SizeOfFormula.calls k a0 t316 t317 _ A3.out).mono ?_); rintro e w' ⟨rfl, ⟨nd, rfl⟩⟩; refine ⟨_, rfl, ?_⟩) | ((with_reducible refine gate_callee (f := 29) rfl ?_); refine goesL_ (some 17) rfl rfl Try.func29 (by kernel_rfl) rfl #[.string a0] rfl (by (try simp only [List.map_toArray, List.map_cons, List.map_nil]); first | done | rfl | (simp only [List.length_drop, List.length_take]; rfl)) ?_; (with_reducible refine (impl_SizeOfFormula.calls k a0 t318 t319 _ A4.out).mono ?_); rintro e w8 ⟨rfl, hb⟩; refine ⟨_, rfl, ?_⟩; have n0_ := Aside0.mk (below_step (by repeat (first | (with_reducible first | exact HB.out | apply below_alloc | apply pw_below_drewN | apply below_drew1) | exact HB.out)) hb); clear HB; have HB := n0_; clear n0_; (try clear hb); (try clear hb2); (try clear hk); (try clear hi)))
        go_ret
        exact ⟨by first | rfl | (simp [errW_none, errW_some] <;> rfl) | (simp [*, errW_none, errW_some] <;> rfl), by repeat (first | (with_reducible first | exact HB.out | apply below_alloc | apply pw_below_drewN | apply below_drew1) | exact HB.out)⟩
    · rw [if_neg c5] at H
      have c5b0 : (t318 == t316) = false := beq_eq_false_iff_ne.mpr c5
      have c5b1 : (t318 != t316) = true := bne_iff_ne.mpr c5
      obtain rfl := Option.some.inj H
      go_enter Try.func7, Try.ntmps7
      go_wp2_with (first | ((with_reducible refine gate_callee (f := 28) rfl ?_); refine goesL_ (some 12) rfl rfl Try.func28 (by kernel_rfl) rfl #[.string a0] rfl (by (try simp only [List.map_toArray, List.map_cons, List.map_nil]); first | done | rfl | (simp only [List.length_drop, List.length_take]; rfl)) ?_; (with_reducible refine (spec_SizeOfFormula.calls k a0 t316 t317 _ A3.out).mono ?_); rintro e w' ⟨rfl, ⟨nd, rfl⟩⟩; refine ⟨_, rfl, ?_⟩) | ((with_reducible refine gate_callee (f := 29) rfl ?_); refine goesL_ (some 17) rfl rfl Try.func29 (by kernel_rfl) rfl #[.string a0] rfl (by (try simp only [List.map_toArray, List.map_cons, List.map_nil]); first | done | rfl | (simp only [List.length_drop, List.length_take]; rfl)) ?_; (with_reducible refine (impl_SizeOfFormula.calls k a0 t318 t319 _ A4.out).mono ?_); rintro e w9 ⟨rfl, hb⟩; refine ⟨_, rfl, ?_⟩; have n0_ := Aside0.mk (below_step (by repeat (first | (with_reducible first | exact HB.out | apply below_alloc | apply pw_below_drewN | apply below_drew1) | exact HB.out)) hb); clear HB; have HB := n0_; clear n0_; (try clear hb); (try clear hb2); (try clear hk); (try clear hi)))
      go_ret
      exact ⟨by first | rfl | (simp [errW_none, errW_some] <;> rfl) | (simp [*, errW_none, errW_some] <;> rfl), by repeat (first | (with_reducible first | exact HB.out | apply below_alloc | apply pw_below_drewN | apply below_drew1) | exact HB.out)⟩

end Go.Proofs.Ytdlnjbaldfdnpaa.P
