/- Functions of the given program and their contracts, written by a program of this session (gen.py) over the kit's print. -/
import Derived.Test.YtdlnjbaldfdnpaaPx0
import Derived.Test.YtdlnjbaldfdnpaaPx4
import Derived.Test.YtdlnjbaldfdnpaaPx5
import Derived.Test.YtdlnjbaldfdnpaaPx15
namespace Go.Proofs.Ytdlnjbaldfdnpaa.P
open Go.RowKit Go.Proofs.YtdlnjbaldfdnpaaW.PrintWords Go.Proofs.YtdlnjbaldfdnpaaW.PrintLast Go.Proofs.YtdlnjbaldfdnpaaW.PrintMore
attribute [local go_sem] max2_int min2_int max_two min_two max_three min_three max_four min_four   -- for this text's walks alone
set_option linter.unusedVariables false
set_option linter.unusedSimpArgs false

/-! ### spec_DualFormula: function 24 -/
def spec_DualFormula.f (k : Nat) (a0 : ByteArray) : Option (ByteArray × Int) := (spec_l05Is.f k a0).bind fun t296 => (if t296 = true then ((spec_l05Dual.f k a0).bind fun t297 => ((spec_l05Told.f t297).bind fun bt298 => (some (bt298.1, bt298.2)))) else (some ((⟨#[]⟩ : ByteArray), 6)))
theorem spec_DualFormula.mono : ∀ a0 k, LeO (spec_DualFormula.f k a0) (spec_DualFormula.f (k + 1) a0) := by
  intro a0 k
  unfold spec_DualFormula.f
  repeat' first
      | (with_reducible exact spec_l05Dual.mono _ _)
      | (with_reducible exact spec_l05Is.mono _ _)
      | (with_reducible exact LeO.refl _)
      | (with_reducible exact LeO.none _)
      | (with_reducible refine LeO.ite ?_ ?_)
      | (with_reducible refine LeO.bind ?_ (fun _ => ?_))
      | exact spec_l05Dual.mono _ _
      | exact spec_l05Is.mono _ _
      | exact LeO.none _
      | refine LeO.ite ?_ ?_
      | refine LeO.bind ?_ (fun _ => ?_)
set_option maxHeartbeats 8000000 in
set_option maxRecDepth 100000 in
theorem spec_DualFormula.calls (k : Nat) (a0 : ByteArray) (r1 : ByteArray) (r2 : Int) (w : World) (h : spec_DualFormula.f k a0 = some (r1, r2)) :
    Calls Try.prog 24 #[.string a0] w fun e w' => e = .returned (.tuple #[.string r1, .int .i64 r2]) ∧ Below w.heap.size w w' := by
  have HB := Aside0.mk (Below.refl w.heap.size w)
  have H : ((spec_l05Is.f k a0).bind fun t296 => (if t296 = true then ((spec_l05Dual.f k a0).bind fun t297 => ((spec_l05Told.f t297).bind fun bt298 => (some (bt298.1, bt298.2)))) else (some ((⟨#[]⟩ : ByteArray), 6)))) = some (r1, r2) := h
  clear h
  replace H := Option.bind_eq_some_iff.mp H
  obtain ⟨t296, A20, H⟩ := H
  replace H : (if t296 = true then ((spec_l05Dual.f k a0).bind fun t297 => ((spec_l05Told.f t297).bind fun bt298 => (some (bt298.1, bt298.2)))) else (some ((⟨#[]⟩ : ByteArray), 6))) = some (r1, r2) := H
  have A2 := Aside0.mk A20
  clear A20
  by_cases c3 : t296 = true
  · subst c3
    have H1 : ((spec_l05Dual.f k a0).bind fun t297 => ((spec_l05Told.f t297).bind fun bt298 => (some (bt298.1, bt298.2)))) = some (r1, r2) := by rw [if_pos rfl] at H; exact H
    clear H
    have H := H1
    clear H1
    replace H := Option.bind_eq_some_iff.mp H
    obtain ⟨t297, A40, H⟩ := H
    replace H : ((spec_l05Told.f t297).bind fun bt298 => (some (bt298.1, bt298.2))) = some (r1, r2) := H
    have A4 := Aside0.mk A40
    clear A40
    replace H := Option.bind_eq_some_iff.mp H
    obtain ⟨⟨t298, t299⟩, A50, H⟩ := H
    replace H : (some (t298, t299)) = some (r1, r2) := H
    have A5 := Aside0.mk A50
    clear A50
    simp only [Option.some.injEq, Prod.mk.injEq] at H
    obtain ⟨rfl, rfl⟩ := H
    go_enter Try.func24, Try.ntmps24
    go_wp2_with (first | ((with_reducible refine gate_callee (f := 62) rfl ?_); refine goesL_ (some 7) rfl rfl Try.func62 (by kernel_rfl) rfl #[.string a0] rfl (by (try simp only [List.map_toArray, List.map_cons, List.map_nil]); first | done | rfl | (simp only [List.length_drop, List.length_take]; rfl)) ?_; (with_reducible refine (spec_l05Is.calls k a0 true _ A2.out).mono ?_); rintro e w' ⟨rfl, ⟨nd, rfl⟩⟩; refine ⟨_, rfl, ?_⟩) | ((with_reducible refine gate_callee (f := 64) rfl ?_); refine goesL_ (some 11) rfl rfl Try.func64 (by kernel_rfl) rfl #[.string a0] rfl (by (try simp only [List.map_toArray, List.map_cons, List.map_nil]); first | done | rfl | (simp only [List.length_drop, List.length_take]; rfl)) ?_; (with_reducible refine (spec_l05Dual.calls k a0 t297 _ A4.out).mono ?_); rintro e w6 ⟨rfl, hb⟩; refine ⟨_, rfl, ?_⟩; have n0_ := Aside0.mk (below_step (by repeat (first | (with_reducible first | exact HB.out | apply below_alloc | apply pw_below_drewN | apply below_drew1) | exact HB.out)) hb); clear HB; have HB := n0_; clear n0_; (try clear hb); (try clear hb2); (try clear hk); (try clear hi)) | ((with_reducible refine gate_callee (f := 63) rfl ?_); refine goesL_ (some 12) rfl rfl Try.func63 (by kernel_rfl) rfl #[.string t297] rfl (by (try simp only [List.map_toArray, List.map_cons, List.map_nil]); first | done | rfl | (simp only [List.length_drop, List.length_take]; rfl)) ?_; (with_reducible refine (spec_l05Told.calls t297 t298 t299 _ A5.out).mono ?_); rintro e w' ⟨rfl, ⟨nd, rfl⟩⟩; refine ⟨_, rfl, ?_⟩))
    go_ret2
    exact ⟨by first | rfl | (simp [errW_none, errW_some] <;> rfl) | (simp [*, errW_none, errW_some] <;> rfl), by repeat (first | (with_reducible first | exact HB.out | apply below_alloc | apply pw_below_drewN | apply below_drew1) | exact HB.out)⟩
  · replace c3 := Bool.eq_false_iff.mpr c3
    subst c3
    have H1 : (some ((⟨#[]⟩ : ByteArray), 6)) = some (r1, r2) := by rw [if_neg (show ¬ (false = true) by decide)] at H; exact H
    clear H
    have H := H1
    clear H1
    simp only [Option.some.injEq, Prod.mk.injEq] at H
    obtain ⟨rfl, rfl⟩ := H
    go_enter Try.func24, Try.ntmps24
    go_wp2_with (first | ((with_reducible refine gate_callee (f := 62) rfl ?_); refine goesL_ (some 7) rfl rfl Try.func62 (by kernel_rfl) rfl #[.string a0] rfl (by (try simp only [List.map_toArray, List.map_cons, List.map_nil]); first | done | rfl | (simp only [List.length_drop, List.length_take]; rfl)) ?_; (with_reducible refine (spec_l05Is.calls k a0 false _ A2.out).mono ?_); rintro e w' ⟨rfl, ⟨nd, rfl⟩⟩; refine ⟨_, rfl, ?_⟩))
    go_ret2
    exact ⟨by first | rfl | (simp [errW_none, errW_some] <;> rfl) | (simp [*, errW_none, errW_some] <;> rfl), by repeat (first | (with_reducible first | exact HB.out | apply below_alloc | apply pw_below_drewN | apply below_drew1) | exact HB.out)⟩

/-! ### impl_one: function 99 -/
def impl_one.f (a0 : Bool) : Option (Int) := if a0 = true then (some 1) else (some 0)
set_option maxHeartbeats 8000000 in
set_option maxRecDepth 100000 in
theorem impl_one.calls (a0 : Bool) (r : Int) (w : World) (h : impl_one.f a0 = some r) :
    Calls Try.prog 99 #[.bool a0] w fun e w' => e = .returned (.int .i64 r) ∧ Drawn0 w w' := by
  have H : (if a0 = true then (some 1) else (some 0)) = some r := h
  clear h
  by_cases c2 : a0 = true
  · subst c2
    have H1 : (some 1) = some r := by rw [if_pos rfl] at H; exact H
    clear H
    have H := H1
    clear H1
    obtain rfl := Option.some.inj H
    go_enter Try.func99, Try.ntmps99
    go_wp2
    go_ret
    exact ⟨by first | rfl | (simp; done) | (simp [*]; done), by repeat (first | exact Drawn0.refl _ | apply Drawn0.step)⟩
  · replace c2 := Bool.eq_false_iff.mpr c2
    subst c2
    have H1 : (some 0) = some r := by rw [if_neg (show ¬ (false = true) by decide)] at H; exact H
    clear H
    have H := H1
    clear H1
    obtain rfl := Option.some.inj H
    go_enter Try.func99, Try.ntmps99
    go_wp2
    go_ret
    exact ⟨by first | rfl | (simp; done) | (simp [*]; done), by repeat (first | exact Drawn0.refl _ | apply Drawn0.step)⟩

/-! ### impl_formula_size: function 69, by hand -/
abbrev Frm := S70
/-- A formula lies in memory at an address. -/
def FrmAt (w : World) (ad : Addr) (t : Frm) : Prop := ∃ A1 c1, w.cell? ad = some (.int .u8 t.f0) ∧ w.cell? ⟨ad.block, ad.off + 1, none⟩ = some (.slice A1 t.f1.length c1) ∧ t.f1.length ≤ c1 ∧ Kd.C k70 w A1 t.f1.length t.f1
theorem FrmAt.below {w w1 : World} {ad : Addr} {t : Frm} (h : FrmAt w ad t) (hb : Below w.heap.size w w1) : FrmAt w1 ad t := by
  obtain ⟨A1, c1, h0, h1, h2, h3⟩ := h
  exact ⟨A1, c1, (hb.cell (World.block_lt_of_cell? w _ h0)).trans h0, (hb.cell (World.block_lt_of_cell? w _ h1)).trans h1, h2, Kd.C_below h3 hb⟩
/-- The part of a formula at a place, and where it lies. -/
theorem frm_part {w : World} {A1 : Option Addr} {ts : List Frm} (h : Kd.C k70 w A1 ts.length ts) (j : Nat) (hj : j < ts.length) : ∃ ad, A1 = some ad ∧ FrmAt w (ad.add (j * 2)) (ts.getD j z70) := by
  obtain ⟨ad, A, c, e, h0, h1, h2, h3⟩ := at_T70 h (j : Int) (by omega) (by omega)
  have hr : rd_T70 ts (j : Int) = ts.getD j z70 := by
    unfold rd_T70
    rw [Int.toNat_natCast]
  rw [hr, Int.toNat_natCast] at h0 h1
  rw [hr] at h2 h3
  exact ⟨ad, e, A, c, h0, h1, h2, h3⟩
theorem frm_mem (ts : List Frm) (j : Nat) (hj : j < ts.length) : ts.getD j z70 ∈ ts := by
  rw [List.getD_eq_getElem?_getD, List.getElem?_eq_getElem hj]
  exact List.getElem_mem hj
theorem frm_take (ts : List Frm) (j : Nat) (hj : j < ts.length) : ts.take (j + 1) = ts.take j ++ [ts.getD j z70] := by
  rw [List.take_succ_eq_append_getElem hj, List.getD_eq_getElem?_getD, List.getElem?_eq_getElem hj]
  rfl
theorem frm_ind {p : Frm → Prop} (h : ∀ t, (∀ x ∈ t.f1, p x) → p t) (t : Frm) : p t := by
  suffices H : ∀ n (t : Frm), SizeOf.sizeOf t < n → p t from H _ t (Nat.lt_succ_self _)
  intro n
  induction n with
  | zero => intro t ht; omega
  | succ n ih =>
    intro t ht
    refine h t fun x hx => ih x ?_
    have h1 := List.sizeOf_lt_of_mem hx
    have h2 : SizeOf.sizeOf t = 1 + SizeOf.sizeOf t.f0 + SizeOf.sizeOf t.f1 := by cases t; exact S70.mk.sizeOf_spec _ _
    omega
mutual
/-- The size of a formula, as the program adds it up. -/
def fsize : Frm → Int
  | ⟨_, ps⟩ => wrap64 (fsizeL ps 0 + (if 0 < ps.length then 1 else 0))
def fsizeL : List Frm → Int → Int
  | [], a => a
  | t :: ts, a => fsizeL ts (wrap64 (a + fsize t))
end
theorem fsizeL_snoc : ∀ (ts : List Frm) (t : Frm) (a : Int), fsizeL (ts ++ [t]) a = wrap64 (fsizeL ts a + fsize t)
  | [], t, a => by simp [fsizeL]
  | x :: ts, t, a => by simp [fsizeL, fsizeL_snoc ts t]
theorem fsize_eq (t : Frm) : fsize t = wrap64 (fsizeL t.f1 0 + (if 0 < t.f1.length then 1 else 0)) := by cases t; simp [fsize]
set_option maxHeartbeats 8000000 in
set_option maxRecDepth 100000 in
theorem formula_size.calls (t : Frm) : ∀ (ad : Addr) (w : World), FrmAt w ad t →
    Calls Try.prog 69 #[.pointer (some ad)] w fun e w' => e = .returned (.int .i64 (fsize t)) ∧ Below w.heap.size w w' := by
  induction t using frm_ind with
  | h t ih =>
    intro ad w hA
    obtain ⟨A1, c1, h0, h1, h2, h3⟩ := hA
    have hlen : t.f1.length ≤ 9223372036854775807 := h3.2.1
    have HLEN := Aside0.mk hlen
    have HR := Aside0.mk h3
    have IH := Aside0.mk ih
    have HQ := Aside0.mk (fsize_eq t)
    have HN : Aside0 (fsizeL (t.f1.take 0) 0 = 0) := ⟨rfl⟩
    have HT : Aside0 (t.f1.take t.f1.length = t.f1) := ⟨List.take_length⟩
    have HS : Aside0 (∀ j, j < t.f1.length → fsizeL (t.f1.take (j + 1)) 0 = wrap64 (fsizeL (t.f1.take j) 0 + fsize (t.f1.getD j z70))) := ⟨fun j hj => by rw [frm_take _ j hj, fsizeL_snoc]⟩
    have HM : Aside0 (∀ j, j < t.f1.length → t.f1.getD j z70 ∈ t.f1) := ⟨fun j hj => frm_mem _ j hj⟩
    have HOne := Aside0.mk (fun (w : World) (b : Bool) => impl_one.calls b (if b = true then 1 else 0) w (by unfold impl_one.f; cases b <;> rfl))
    clear ih h3 hlen h2
    generalize t.f1 = ts at *
    generalize hn : ts.length = n at *
    have HNN := Aside0.mk hn
    clear hn
    go_enter Try.func69, Try.ntmps69
    go_wp2
    go_loopg [3, 10] (n + 1) (fun gg v3 v10 wr => ∃ j : Nat, v10 = .int .i64 (j : Int) ∧ v3 = .int .i64 (fsizeL (ts.take j) 0) ∧ Aside0 (j ≤ n) ∧ Aside0 (n - j < gg) ∧ Aside0 (Below w.heap.size w wr))
    case atStart => exact ⟨0, rfl, by rw [HN.out], ⟨by omega⟩, ⟨by omega⟩, ⟨Below.refl _ _⟩⟩
    case round =>
      obtain ⟨j, rfl, rfl, HJ1, HJ2, HB⟩ := hrel
      have hx1 := (HB.out.cell (World.block_lt_of_cell? w _ h1)).trans h1
      by_cases hlt : j < n
      · have hlti : decide (j < n) = true := by simpa using hlt
        have HL := Aside0.mk hlt
        obtain ⟨ad2, rfl, hF⟩ := frm_part (by rw [HNN.out]; exact HR.out) j (by rw [HNN.out]; exact hlt)
        have HC := Aside0.mk (IH.out _ (HM.out j hlt) (ad2.add (j * 2)) wr (hF.below HB.out))
        have hS := HS.out j hlt
        have HS2 := Aside0.mk hS
        clear hF hS hlt
        generalize fsize (ts.getD j z70) = y at HC HS2
        have hj0 : 0 ≤ (j : Int) := by omega
        have hj1 : (j : Int) < (n : Int) := by have := HL.out; omega
        have hj2 : j < n := HL.out
        go_wp2_with (go_at_call 69; (with_reducible refine HC.out.mono ?_); rintro e w1 ⟨rfl, hb⟩; have HB1 := Aside0.mk (below_step HB.out hb); clear hb)
        go_roundg (n - j)
        case measure => have := HJ2.out; omega
        case rel =>
          have hl := HL.out
          have hll := HLEN.out
          exact ⟨j + 1, by rw [M.w64_in _ (by omega) (by omega)]; rfl, by rw [HS2.out], ⟨by omega⟩, ⟨by omega⟩, HB1⟩
      · have hlti : decide (j < n) = false := by simpa using hlt
        have HE : Aside0 (j = n) := ⟨by have := HJ1.out; omega⟩
        clear hlt
        have HV : Aside0 (fsize t = wrap64 (fsizeL (ts.take j) 0 + (if 0 < n then 1 else 0))) := ⟨by rw [HQ.out, HE.out, HT.out]⟩
        generalize fsizeL (ts.take j) 0 = y at HV ⊢
        go_wp2_with (go_at_call 99; refine (HOne.out _ _).mono ?_; rintro e w' ⟨rfl, ⟨nd, rfl⟩⟩)
        · have hz : 0 < n := by assumption
          go_ret
          exact ⟨by rw [HV.out, if_pos hz]; rfl, pw_below_drewN HB.out nd⟩
        · have hz : ¬ 0 < n := by omega
          go_ret
          exact ⟨by rw [HV.out, if_neg hz, Int.add_zero]; rfl, pw_below_drewN HB.out nd⟩

/-! ### impl_SizeOfFormula: function 29, by hand -/
def impl_SizeOfFormula.f (k : Nat) (a0 : ByteArray) : Option (Int × Int) := (impl_parse.f k a0).bind fun q => if q.2.2 = true then some (fsize ⟨q.1, q.2.1⟩, 0) else some (0, 6)
theorem impl_SizeOfFormula.mono : ∀ a0 k, LeO (impl_SizeOfFormula.f k a0) (impl_SizeOfFormula.f (k + 1) a0) := by
  intro a0 k r h
  unfold impl_SizeOfFormula.f at h ⊢
  obtain ⟨t, ht, h⟩ := Option.bind_eq_some_iff.1 h
  rw [impl_parse.mono _ _ _ ht]
  exact h
/-- A formula that was just read, laid into a variable. -/
theorem frm_laid {w : World} {base : Nat} {c : Int} {ps : List Frm} {v : Value} (h : Kd.R k70 70 w base (fun _ => True) v ps) :
    FrmAt (w.alloc (.cells #[.int .u8 c, v] 70)) ⟨w.heap.size, 0, none⟩ ⟨c, ps⟩ := by
  obtain ⟨A, c1, rfl, h1, h2⟩ := Kd.R_reads h
  have hb := blk_new w (.cells #[.int .u8 c, .slice A ps.length c1] 70)
  exact ⟨A, c1, (blk_cell hb 0).trans rfl, (blk_cell hb 1).trans rfl, h1, Kd.C_below h2 (below_alloc (Below.refl _ _) _)⟩
set_option maxHeartbeats 8000000 in
set_option maxRecDepth 100000 in
theorem impl_SizeOfFormula.calls (k : Nat) (a0 : ByteArray) (r1 r2 : Int) (w : World) (h : impl_SizeOfFormula.f k a0 = some (r1, r2)) :
    Calls Try.prog 29 #[.string a0] w fun e w' => e = .returned (.tuple #[.int .i64 r1, .int .i64 r2]) ∧ Below w.heap.size w w' := by
  unfold impl_SizeOfFormula.f at h
  obtain ⟨⟨c, ps, ok⟩, hp, h⟩ := Option.bind_eq_some_iff.1 h
  have HP := Aside0.mk (impl_parse.calls k a0 c ps ok w hp)
  clear hp
  cases ok with
  | true =>
    rw [if_pos rfl] at h
    simp only [Option.some.injEq, Prod.mk.injEq] at h
    obtain ⟨rfl, rfl⟩ := h
    go_enter Try.func29, Try.ntmps29
    go_wp2_with (first | (go_at_call 65; (with_reducible refine HP.out.mono ?_); rintro e w1 ⟨v1, rfl, hR, hb⟩; obtain ⟨A1, c1, rfl⟩ := Kd.R_slice hR; have HF := Aside0.mk (frm_laid (c := c) hR); have HB1 := Aside0.mk (below_alloc hb (.cells #[.int .u8 c, .slice A1 ps.length c1] 70)); clear hR hb) | (go_at_call 69; (with_reducible refine (formula_size.calls _ _ _ HF.out).mono ?_); rintro e w2 ⟨rfl, hb⟩; have HB2 := Aside0.mk (below_step HB1.out hb); clear hb))
    go_ret2
    exact ⟨rfl, HB2.out⟩
  | false =>
    rw [if_neg Bool.false_ne_true] at h
    simp only [Option.some.injEq, Prod.mk.injEq] at h
    obtain ⟨rfl, rfl⟩ := h
    go_enter Try.func29, Try.ntmps29
    go_wp2_with (go_at_call 65; (with_reducible refine HP.out.mono ?_); rintro e w1 ⟨v1, rfl, hR, hb⟩; obtain ⟨A1, c1, rfl⟩ := Kd.R_slice hR; have HB1 := Aside0.mk (below_alloc hb (.cells #[.int .u8 c, .slice A1 ps.length c1] 70)); clear hR hb)
    go_ret2
    exact ⟨rfl, HB1.out⟩

/-! ### impl_limited: function 66 -/
def impl_limited.f (a0 : ByteArray) : Option (ByteArray × Int) := if (a0.size : Int) > 60 then (some ((⟨#[]⟩ : ByteArray), 3)) else (some (a0, 0))
set_option maxHeartbeats 8000000 in
set_option maxRecDepth 100000 in
theorem impl_limited.calls (a0 : ByteArray) (r1 : ByteArray) (r2 : Int) (w : World) (h : impl_limited.f a0 = some (r1, r2)) :
    Calls Try.prog 66 #[.string a0] w fun e w' => e = .returned (.tuple #[.string r1, .int .i64 r2]) ∧ Drawn0 w w' := by
  have H : (if (a0.size : Int) > 60 then (some ((⟨#[]⟩ : ByteArray), 3)) else (some (a0, 0))) = some (r1, r2) := h
  clear h
  by_cases c2 : (a0.size : Int) > 60
  · rw [if_pos c2] at H
    have c2b0 : decide (60 < (a0.size : Int)) = true := decide_eq_true c2
    have c2b1 : decide (60 < a0.size) = true := decide_eq_true (by omega)
    clear c2
    simp only [Option.some.injEq, Prod.mk.injEq] at H
    obtain ⟨rfl, rfl⟩ := H
    go_enter Try.func66, Try.ntmps66
    go_wp2
    go_ret2
    exact ⟨by first | rfl | (simp; done) | (simp [*]; done), by repeat (first | exact Drawn0.refl _ | apply Drawn0.step)⟩
  · rw [if_neg c2] at H
    have c2b0 : decide (60 < (a0.size : Int)) = false := decide_eq_false c2
    have c2b1 : decide (60 < a0.size) = false := decide_eq_false (by omega)
    clear c2
    simp only [Option.some.injEq, Prod.mk.injEq] at H
    obtain ⟨rfl, rfl⟩ := H
    go_enter Try.func66, Try.ntmps66
    go_wp2
    go_ret2
    exact ⟨by first | rfl | (simp; done) | (simp [*]; done), by repeat (first | exact Drawn0.refl _ | apply Drawn0.step)⟩

/-! ### impl_formula_text: function 73, by hand -/
mutual
/-- How long the text of a formula is. -/
def flen : Frm → Nat
  | ⟨_, ps⟩ => 1 + flenL ps
def flenL : List Frm → Nat
  | [] => 0
  | t :: ts => flen t + flenL ts
end
mutual
/-- The text of a formula, as the program puts it together. -/
def ftxt : Frm → ByteArray
  | ⟨c, ps⟩ => ftxtL ps (strOfNums [c])
def ftxtL : List Frm → ByteArray → ByteArray
  | [], a => a
  | t :: ts, a => ftxtL ts (a ++ ftxt t)
end
theorem ftxtL_snoc : ∀ (ts : List Frm) (t : Frm) (a : ByteArray), ftxtL (ts ++ [t]) a = ftxtL ts a ++ ftxt t
  | [], t, a => by simp [ftxtL]
  | x :: ts, t, a => by simp [ftxtL, ftxtL_snoc ts t]
theorem flenL_snoc : ∀ (ts : List Frm) (t : Frm), flenL (ts ++ [t]) = flenL ts + flen t
  | [], t => by simp [flenL]
  | x :: ts, t => by simp [flenL, flenL_snoc ts t, Nat.add_assoc]
theorem flenL_take : ∀ (ts : List Frm) (j : Nat), flenL (ts.take j) ≤ flenL ts
  | [], j => by simp [flenL]
  | x :: ts, 0 => by simp [flenL]
  | x :: ts, j + 1 => by simp only [List.take_succ_cons, flenL]; have := flenL_take ts j; omega
mutual
theorem ftxt_size : ∀ t : Frm, (ftxt t).size = flen t
  | ⟨c, ps⟩ => by
    simp only [ftxt, flen]
    rw [ftxtL_size ps]
    rw [strOfNums_size]
    rfl
theorem ftxtL_size : ∀ (ts : List Frm) (a : ByteArray), (ftxtL ts a).size = a.size + flenL ts
  | [], a => by simp [ftxtL, flenL]
  | t :: ts, a => by
    simp only [ftxtL, flenL]
    rw [ftxtL_size ts, ByteArray.size_append, ftxt_size t]
    omega
end
theorem ftxt_eq (t : Frm) : ftxt t = ftxtL t.f1 (strOfNums [t.f0]) := by cases t; simp [ftxt]
theorem flen_eq (t : Frm) : flen t = 1 + flenL t.f1 := by cases t; simp [flen]
theorem str_of_byte (W : World) (c : Int) (hc : True) : (convert 94 9 (.slice (some ⟨W.heap.size, 0, none⟩) 1 1)).run Try.prog (W.alloc (.cells #[.int .u8 c] 5)) = .ok (.string (strOfNums [c])) (W.alloc (.cells #[.int .u8 c] 5)) := by
  have hb := blk_new W (.cells #[.int .u8 c] 5)
  exact run_convert_bytes_arg _ _ _ Try.underlying94 Try.underlying5 _ 0 1 1 [c] rfl (fun i hi => by
    obtain rfl : i = 0 := by omega
    exact (blk_cell hb 0).trans rfl) _ Try.underlying9
set_option maxHeartbeats 8000000 in
set_option maxRecDepth 100000 in
theorem formula_text.calls (t : Frm) : ∀ (ad : Addr) (w : World), FrmAt w ad t → flen t ≤ 4611686018427387904 →
    Calls Try.prog 73 #[.pointer (some ad)] w fun e w' => e = .returned (.string (ftxt t)) ∧ Below w.heap.size w w' := by
  induction t using frm_ind with
  | h t ih =>
    intro ad w hA hbig
    obtain ⟨A1, c1, h0, h1, h2, h3⟩ := hA
    have hlen : t.f1.length ≤ 9223372036854775807 := h3.2.1
    have HLEN := Aside0.mk hlen
    have HR := Aside0.mk h3
    have IH := Aside0.mk ih
    have HQ := Aside0.mk (ftxt_eq t)
    have HT : Aside0 (t.f1.take t.f1.length = t.f1) := ⟨List.take_length⟩
    have hS : ∀ (a : ByteArray) j, j < t.f1.length → ftxtL (t.f1.take (j + 1)) a = ftxtL (t.f1.take j) a ++ ftxt (t.f1.getD j z70) := fun a j hj => by rw [frm_take _ j hj, ftxtL_snoc]
    have hfl := flen_eq t
    have HZ : Aside0 (∀ j, j < t.f1.length → (ftxtL (t.f1.take j) (strOfNums [t.f0])).size + (ftxt (t.f1.getD j z70)).size ≤ 4611686018427387904) := ⟨fun j hj => by
      rw [← ByteArray.size_append, ← hS _ j hj, ftxtL_size, strOfNums_size]
      have := flenL_take t.f1 (j + 1)
      simp only [List.length_singleton]
      omega⟩
    have HY : Aside0 (∀ j, j < t.f1.length → flen (t.f1.getD j z70) ≤ 4611686018427387904) := ⟨fun j hj => by
      have h5 := flenL_take t.f1 (j + 1)
      rw [frm_take _ j hj, flenL_snoc] at h5
      omega⟩
    have HS := Aside0.mk (hS (strOfNums [t.f0]))
    have HM : Aside0 (∀ j, j < t.f1.length → t.f1.getD j z70 ∈ t.f1) := ⟨fun j hj => frm_mem _ j hj⟩
    clear ih h3 hlen h2 hS hfl hbig
    generalize t.f1 = ts at *
    generalize hn : ts.length = n at *
    have HNN := Aside0.mk hn
    clear hn
    have HN : Aside0 (ftxtL (ts.take 0) (strOfNums [t.f0]) = strOfNums [t.f0]) := ⟨rfl⟩
    generalize t.f0 = c at *
    have hcv := str_of_byte w c trivial
    generalize strOfNums [c] = s0 at *
    have HB0 := Aside0.mk (below_alloc (Below.refl w.heap.size w) (.cells #[.int .u8 c] 5))
    have h1' := (HB0.out.cell (World.block_lt_of_cell? w _ h1)).trans h1
    go_enter Try.func73, Try.ntmps73
    go_wp2
    go_loopg [3, 16] (n + 1) (fun gg v3 v16 wr => ∃ j : Nat, v16 = .int .i64 (j : Int) ∧ v3 = .string (ftxtL (ts.take j) s0) ∧ Aside0 (j ≤ n) ∧ Aside0 (n - j < gg) ∧ Aside0 (Below w.heap.size w wr))
    case atStart => exact ⟨0, rfl, by rw [HN.out], ⟨by omega⟩, ⟨by omega⟩, HB0⟩
    case round =>
      clear hcv
      obtain ⟨j, rfl, rfl, HJ1, HJ2, HB⟩ := hrel
      have hx1 := (HB.out.cell (World.block_lt_of_cell? w _ h1)).trans h1
      by_cases hlt : j < n
      · have hlti : decide (j < n) = true := by simpa using hlt
        have HL := Aside0.mk hlt
        obtain ⟨ad2, rfl, hF⟩ := frm_part (by rw [HNN.out]; exact HR.out) j (by rw [HNN.out]; exact hlt)
        have HC := Aside0.mk (IH.out _ (HM.out j hlt) (ad2.add (j * 2)) wr (hF.below HB.out) (HY.out j hlt))
        have HS2 := Aside0.mk (HS.out j hlt)
        have hsz := HZ.out j hlt
        clear hF hlt
        generalize ftxt (ts.getD j z70) = y at HC HS2 hsz
        generalize ftxtL (ts.take j) s0 = acc at HS2 hsz ⊢
        have hsz2 : acc.size + y.size ≤ 9223372036854775807 := by omega
        clear hsz
        have hj0 : 0 ≤ (j : Int) := by omega
        have hj1 : (j : Int) < (n : Int) := by have := HL.out; omega
        have hj2 : j < n := HL.out
        go_wp2_with (go_at_call 73; (with_reducible refine HC.out.mono ?_); rintro e w1 ⟨rfl, hb⟩; have HB1 := Aside0.mk (below_step HB.out hb); clear hb)
        go_roundg (n - j)
        case measure => have := HJ2.out; omega
        case rel =>
          have hl := HL.out
          have hll := HLEN.out
          exact ⟨j + 1, by rw [M.w64_in _ (by omega) (by omega)]; rfl, by rw [HS2.out], ⟨by omega⟩, ⟨by omega⟩, HB1⟩
      · have hlti : decide (j < n) = false := by simpa using hlt
        have HE : Aside0 (j = n) := ⟨by have := HJ1.out; omega⟩
        clear hlt
        have HV : Aside0 (ftxt t = ftxtL (ts.take j) s0) := ⟨by rw [HQ.out, HE.out, HT.out]⟩
        generalize ftxtL (ts.take j) s0 = y at HV ⊢
        go_wp2
        go_ret
        exact ⟨by rw [HV.out]; rfl, HB.out⟩

/-! ### strings_Join: function 97, by hand -/
open Go.Shelf in
def joinRen : Go.Shelf.Ren := ⟨fun | 156 => 97 | 165 => 110 | 166 => 111 | 169 => 112 | 240 => 117 | 241 => 118 | 276 => 121 | 277 => 122 | n => n, fun | 31 => 39 | 9 => 9 | 3 => 3 | 4 => 4 | 0 => 0 | 20 => 20 | 72 => 106 | 76 => 110 | 70 => 104 | 37 => 94 | 75 => 109 | 127 => 114 | 164 => 116 | 5 => 5 | 80 => 73 | n => n, fun | n => n⟩
open Go.Shelf in
theorem joinLays : Go.Proofs.Lays.n156 Try.prog joinRen := {
  mixed := by kernel_rfl
  f156 := Try.func97.trans (congrArg some (by kernel_rfl))
  f165 := Try.func110.trans (congrArg some (by kernel_rfl))
  f166 := Try.func111.trans (congrArg some (by kernel_rfl))
  f169 := Try.func112.trans (congrArg some (by kernel_rfl))
  f240 := Try.func117.trans (congrArg some (by kernel_rfl))
  f241 := Try.func118.trans (congrArg some (by kernel_rfl))
  f276 := Try.func121.trans (congrArg some (by kernel_rfl))
  f277 := Try.func122.trans (congrArg some (by kernel_rfl))
  t0 := Try.underlying0
  a0 := Try.isAgg0
  z0 := Try.sizeOf0
  v0 := Try.zeroValue0
  t3 := Try.underlying3
  a3 := Try.isAgg3
  z3 := Try.sizeOf3
  v3 := Try.zeroValue3
  t4 := Try.underlying4
  a4 := Try.isAgg4
  z4 := Try.sizeOf4
  v4 := Try.zeroValue4
  t9 := Try.underlying9
  a9 := Try.isAgg9
  z9 := Try.sizeOf9
  v9 := Try.zeroValue9
  t20 := Try.underlying20
  a20 := Try.isAgg20
  z20 := Try.sizeOf20
  v20 := Try.zeroValue20
  t31 := Try.underlying39
  a31 := Try.isAgg39
  z31 := Try.sizeOf39
  v31 := Try.zeroValue39
  t37 := Try.underlying94
  a37 := Try.isAgg94
  z37 := Try.sizeOf94
  v37 := Try.zeroValue94
  t70 := Try.underlying104
  a70 := Try.isAgg104
  z70 := Try.sizeOf104
  v70 := Try.zeroValue104
  t72 := Try.underlying106
  a72 := Try.isAgg106
  z72 := Try.sizeOf106
  v72 := Try.zeroValue106
  t75 := Try.underlying109
  a75 := Try.isAgg109
  z75 := Try.sizeOf109
  v75 := Try.zeroValue109
  t76 := Try.underlying110
  a76 := Try.isAgg110
  z76 := Try.sizeOf110
  v76 := Try.zeroValue110
  t127 := Try.underlying114
  a127 := Try.isAgg114
  z127 := Try.sizeOf114
  v127 := Try.zeroValue114
  t164 := Try.underlying116
  a164 := Try.isAgg116
  z164 := Try.sizeOf116
  v164 := Try.zeroValue116 }
open Go.Shelf in
theorem joinExtra : Builder.Extra Try.prog joinRen := {
  sizeBuilder := by kernel_rfl
  liesBuilder := by kernel_rfl
  t5 := Try.underlying5
  a5 := Try.isAgg5
  z5 := Try.sizeOf5
  v5 := Try.zeroValue5
  infoByte := by kernel_rfl
  cellsByte := by kernel_rfl
  sizeByte := by kernel_rfl
  neB5 := by decide }
/-- Texts one behind the other. -/
def joinB (l : List ByteArray) : ByteArray := ⟨(Lib.join (l.map (·.data.toList)) []).toArray⟩
theorem join_nosep (l : List (List UInt8)) : Lib.join l [] = l.flatten := by
  cases l with
  | nil => rfl
  | cons x r =>
    rw [Lib.join_cons]
    unfold Lib.joinTail
    simp
/-- How long texts are together. -/
def slen : List ByteArray → Nat
  | [] => 0
  | x :: r => x.size + slen r
theorem joinB_size (l : List ByteArray) : (joinB l).size = slen l := by
  unfold joinB
  rw [join_nosep]
  show (((l.map (·.data.toList)).flatten).toArray).size = slen l
  rw [List.size_toArray]
  induction l with
  | nil => rfl
  | cons x r ih =>
    rw [List.map_cons, List.flatten_cons, List.length_append, ih]
    simp only [slen]
    rw [Array.length_toList]
    rfl
/-- The texts of a list lie behind an address. -/
def StrsAt (w : World) (A : Option Addr) (xs : List ByteArray) : Prop := ∀ (j : Nat) x, xs[j]? = some x → ∃ g, A = some ⟨g, 0, none⟩ ∧ w.cell? ⟨g, 0 + j, none⟩ = some (.string x)
theorem strings_Join_texts.calls (W : World) (A : Option Addr) (cp : Nat) (xs : List ByteArray) (h : StrsAt W A xs) (hc : xs.length ≤ cp) (hn : xs.length ≤ 1048576) (hs : slen xs ≤ 140737488355328) :
    Calls Try.prog 97 #[.slice A xs.length cp, .string ⟨#[]⟩] W fun e w' => e = .returned (.string (joinB xs)) ∧ Below W.heap.size W w' := by
  cases xs with
  | nil => exact (Any.strings_Join_none joinLays joinExtra A cp ⟨#[]⟩ W).mono fun e w' ⟨he, hw⟩ => ⟨he, hw ▸ Below.refl _ _⟩
  | cons x r =>
    obtain ⟨g, rfl, h0⟩ := h 0 x rfl
    refine Any.strings_Join joinLays joinExtra g 0 cp (x :: r) ⟨#[]⟩ W (fun j y hj => ?_) (World.block_lt_of_cell? W _ h0) (Nat.le_trans hn (by decide)) hc ?_
    · obtain ⟨g2, e, h2⟩ := h j y hj
      obtain rfl : g = g2 := by injection e with e; injection e
      exact h2
    · have := joinB_size (x :: r)
      unfold joinB at this
      have e : ∀ l : List UInt8, (⟨l.toArray⟩ : ByteArray).size = l.length := fun l => List.size_toArray
      rw [e] at this
      show (Lib.join ((x :: r).map (·.data.toList)) []).length ≤ _
      rw [this]
      exact hs
theorem strsAt_of {w : World} {base cap : Nat} {xs : List ByteArray} {A : Option Addr} (h : Kd.R Kd.string 9 w base (fun _ => True) (.slice A xs.length cap) xs) : StrsAt w A xs := by
  intro j x hj
  have hjl : j < xs.length := (List.getElem?_eq_some_iff.1 hj).1
  obtain ⟨g2, cap2, e, _, _, _⟩ := Kd.R_form h (by omega)
  have hC := (Kd.R_reads' h).2.2
  injection e with e1 e2 e3
  obtain ⟨ad, e4, hx⟩ := Kd.at_string hC (j : Int) (by omega) (by omega)
  rw [e1] at e4
  injection e4 with e4
  subst e4
  rw [Int.toNat_natCast] at hx
  have hadd : (⟨g2, 0, none⟩ : Addr).add j = ⟨g2, 0 + j, none⟩ := by unfold Addr.add; split <;> simp_all
  rw [hadd] at hx
  have hr : rdOf ByteArray.empty xs (j : Int) = x := by
    unfold rdOf
    rw [Int.toNat_natCast, List.getD_eq_getElem?_getD, hj]
    rfl
  rw [hr] at hx
  exact ⟨g2, e1, hx⟩
theorem StrsAt.below {w w1 : World} {A : Option Addr} {xs : List ByteArray} (h : StrsAt w A xs) (hb : Below w.heap.size w w1) : StrsAt w1 A xs := by
  intro j x hj
  obtain ⟨g, e, hx⟩ := h j x hj
  exact ⟨g, e, (hb.cell (World.block_lt_of_cell? w _ hx)).trans hx⟩

end Go.Proofs.Ytdlnjbaldfdnpaa.P
