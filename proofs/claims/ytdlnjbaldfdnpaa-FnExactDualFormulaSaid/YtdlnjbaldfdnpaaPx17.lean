/- Functions of the given program and their contracts, written by a program of this session (gen.py) over the kit's print. -/
import Derived.Test.YtdlnjbaldfdnpaaPx0
import Derived.Test.YtdlnjbaldfdnpaaPx5
import Derived.Test.YtdlnjbaldfdnpaaPx16
import Derived.Test.YtdlnjbaldfdnpaaPx21
namespace Go.Proofs.Ytdlnjbaldfdnpaa.P
open Go.RowKit Go.Proofs.YtdlnjbaldfdnpaaW.PrintWords Go.Proofs.YtdlnjbaldfdnpaaW.PrintLast Go.Proofs.YtdlnjbaldfdnpaaW.PrintMore
attribute [local go_sem] max2_int min2_int max_two min_two max_three min_three max_four min_four   -- for this text's walks alone
set_option linter.unusedVariables false
set_option linter.unusedSimpArgs false

/-! ### impl_formula_dual: function 67, by hand -/
/-- The sign of the dual gate. -/
def dsign (c : Int) : ByteArray := if c = 38 then ⟨#[124]⟩ else if c = 124 then ⟨#[38]⟩ else if c = 48 then ⟨#[49]⟩ else if c = 49 then ⟨#[48]⟩ else if c = 94 then ⟨#[33, 94]⟩ else strOfNums [c]
/-- The parts in the order of the dual gate. -/
def dswap (c : Int) (l : List ByteArray) : List ByteArray := if c = 63 then [l.getD 0 ⟨#[]⟩, l.getD 2 ⟨#[]⟩, l.getD 1 ⟨#[]⟩] else l
mutual
/-- The text of the dual formula, as the program puts it together. -/
def fdual : Frm → ByteArray
  | ⟨c, ps⟩ => dsign c ++ joinB (dswap c (fdualL ps))
def fdualL : List Frm → List ByteArray
  | [] => []
  | t :: ts => fdual t :: fdualL ts
end
mutual
/-- A gate with the sign '?' has three parts. -/
def fok : Frm → Bool
  | ⟨c, ps⟩ => (c != 63 || ps.length == 3) && fokL ps
def fokL : List Frm → Bool
  | [] => true
  | t :: ts => fok t && fokL ts
end
theorem fdualL_map : ∀ ts : List Frm, fdualL ts = ts.map fdual
  | [] => by simp [fdualL]
  | t :: ts => by simp [fdualL, fdualL_map ts]
theorem fdual_eq (t : Frm) : fdual t = dsign t.f0 ++ joinB (dswap t.f0 (t.f1.map fdual)) := by cases t; simp [fdual, fdualL_map]
theorem fok_eq (t : Frm) : fok t = ((t.f0 != 63 || t.f1.length == 3) && fokL t.f1) := by cases t; simp [fok]
theorem fokL_mem : ∀ (ts : List Frm), fokL ts = true → ∀ x ∈ ts, fok x = true
  | [], _, x, hx => by simp at hx
  | t :: ts, h, x, hx => by
    simp only [fokL, Bool.and_eq_true] at h
    rcases List.mem_cons.1 hx with rfl | hx
    · exact h.1
    · exact fokL_mem ts h.2 x hx
theorem dsign_size (c : Int) : (dsign c).size ≤ 2 := by
  unfold dsign
  repeat' split
  all_goals first | (show (1 : Nat) ≤ 2; omega) | (show (2 : Nat) ≤ 2; omega) | (rw [strOfNums_size]; simp)
theorem slen_swap (c : Int) (l : List ByteArray) (h : c = 63 → l.length = 3) : slen (dswap c l) = slen l ∧ (dswap c l).length = l.length := by
  unfold dswap
  by_cases hc : c = 63
  · rw [if_pos hc]
    match l, h hc with
    | [x, y, z], _ => simp only [slen, List.getD_cons_zero, List.getD_cons_succ]; exact ⟨by omega, rfl⟩
  · rw [if_neg hc]
    exact ⟨rfl, rfl⟩
theorem fok_three (t : Frm) (h : fok t = true) : t.f0 = 63 → t.f1.length = 3 := by
  rw [fok_eq] at h
  intro hc
  simp only [Bool.and_eq_true, Bool.or_eq_true, bne_iff_ne, beq_iff_eq] at h
  rcases h.1 with h1 | h1
  · exact absurd hc h1
  · exact h1
theorem fdual_size (t : Frm) : fok t = true → (fdual t).size ≤ 2 * flen t := by
  induction t using frm_ind with
  | h t ih =>
    intro hok
    have h3 := fok_three t hok
    rw [fok_eq, Bool.and_eq_true] at hok
    have hs : ∀ (ts : List Frm), (∀ x ∈ ts, x ∈ t.f1) → fokL ts = true → slen (ts.map fdual) ≤ 2 * flenL ts := by
      intro ts
      induction ts with
      | nil => intro _ _; simp [slen]
      | cons x ts ihl =>
        intro hin hk
        simp only [fokL, Bool.and_eq_true] at hk
        have h1 := ih x (hin x List.mem_cons_self) hk.1
        have h2 := ihl (fun y hy => hin y (List.mem_cons_of_mem _ hy)) hk.2
        simp only [List.map_cons, slen, flenL]
        omega
    have h4 := hs t.f1 (fun x hx => hx) hok.2
    rw [fdual_eq, ByteArray.size_append, joinB_size, (slen_swap _ _ (fun hc => by rw [List.length_map]; exact h3 hc)).1, flen_eq]
    have := dsign_size t.f0
    omega
theorem fdual_slen (t : Frm) (hok : fok t = true) (hbig : flen t ≤ 1048576) : slen (dswap t.f0 (t.f1.map fdual)) ≤ 2097152 := by
  have h1 := fdual_size t hok
  rw [fdual_eq, ByteArray.size_append, joinB_size] at h1
  omega
set_option maxHeartbeats 8000000 in
set_option maxRecDepth 100000 in
theorem formula_dual.calls (t : Frm) : ∀ (ad : Addr) (w : World), FrmAt w ad t → fok t = true → flen t ≤ 1048576 →
    Calls Try.prog 67 #[.pointer (some ad)] w fun e w' => e = .returned (.string (fdual t)) ∧ Below w.heap.size w w' := by
  induction t using frm_ind with
  | h t ih =>
    intro ad w hA hok hbig
    obtain ⟨A1, c1, h0, h1, h2, h3⟩ := hA
    have HR := Aside0.mk h3
    have IH := Aside0.mk ih
    have HQ := Aside0.mk (fdual_eq t)
    have HT : Aside0 (t.f1.take t.f1.length = t.f1) := ⟨List.take_length⟩
    have H3 := Aside0.mk (fok_three t hok)
    have HSL := Aside0.mk (fdual_slen t hok hbig)
    have hok2 := hok
    rw [fok_eq, Bool.and_eq_true] at hok2
    have HOK : Aside0 (∀ j, j < t.f1.length → fok (t.f1.getD j z70) = true) := ⟨fun j hj => fokL_mem _ hok2.2 _ (frm_mem _ j hj)⟩
    have hfl := flen_eq t
    have hln := flenL_len t.f1
    have HLEN : Aside0 (t.f1.length ≤ 1048576) := ⟨by omega⟩
    have HY : Aside0 (∀ j, j < t.f1.length → flen (t.f1.getD j z70) ≤ 1048576) := ⟨fun j hj => by
      have h5 := flenL_take t.f1 (j + 1)
      rw [frm_take _ j hj, flenL_snoc] at h5
      omega⟩
    have HM : Aside0 (∀ j, j < t.f1.length → t.f1.getD j z70 ∈ t.f1) := ⟨fun j hj => frm_mem _ j hj⟩
    have HS : Aside0 (∀ j, j < t.f1.length → (t.f1.take (j + 1)).map fdual = (t.f1.take j).map fdual ++ [fdual (t.f1.getD j z70)]) := ⟨fun j hj => by rw [frm_take _ j hj]; simp⟩
    have HK : Aside0 (∀ j, ((t.f1.take j).map fdual).length ≤ 1048576) := ⟨fun j => by simp; omega⟩
    clear ih h3 h2 hfl hln hok hok2 hbig
    generalize t.f1 = ts at *
    generalize hn : ts.length = n at *
    have HNN := Aside0.mk hn
    clear hn
    generalize t.f0 = c at *
    go_enter Try.func67, Try.ntmps67
    go_wp2
    go_loopg [3, 11] (n + 1) (fun gg v3 v11 wr => ∃ j : Nat, v11 = .int .i64 (j : Int) ∧ Aside0 (j ≤ n) ∧ Aside0 (n - j < gg) ∧ Aside0 (Kd.R Kd.string 9 wr w.heap.size (fun _ => True) v3 ((ts.take j).map fdual)) ∧ Aside0 (Below w.heap.size w wr))
    case atStart => exact ⟨0, rfl, ⟨by omega⟩, ⟨by omega⟩, ⟨Kd.R_nil _ _ _ _ _⟩, ⟨Below.refl _ _⟩⟩
    case round =>
      obtain ⟨j, rfl, HJ1, HJ2, HO, HB⟩ := hrel
      have hx0 := (HB.out.cell (World.block_lt_of_cell? w _ h0)).trans h0
      have hx1 := (HB.out.cell (World.block_lt_of_cell? w _ h1)).trans h1
      by_cases hlt : j < n
      · have hlti : decide (j < n) = true := by simpa using hlt
        have HL := Aside0.mk hlt
        obtain ⟨ad2, rfl, hF⟩ := frm_part (by rw [HNN.out]; exact HR.out) j (by rw [HNN.out]; exact hlt)
        have HC := Aside0.mk (IH.out _ (HM.out j hlt) (ad2.add (j * 2)) wr (hF.below HB.out) (HOK.out j hlt) (HY.out j hlt))
        have HS2 := Aside0.mk (HS.out j hlt)
        have HK2 := Aside0.mk (HK.out j)
        clear hF hlt
        generalize fdual (ts.getD j z70) = y at HC HS2
        have hj0 : 0 ≤ (j : Int) := by omega
        have hj1 : (j : Int) < (n : Int) := by have := HL.out; omega
        have hj2 : j < n := HL.out
        generalize hacc : (ts.take j).map fdual = acc at *
        go_wp2_with (first | (go_at_call 67; (with_reducible refine HC.out.mono ?_); rintro e w2 ⟨rfl, hb⟩; have HB2 := Aside0.mk (below_step HB.out hb); have HO2 := Aside0.mk (Kd.R_below HO.out hb); clear hb) | ((with_reducible refine gate_builtin (b := .append) (xs := #[.tmp 14, .tmp 22]) rfl ?_); at_builtin; refine Kd.R_append Kd.string (w0 := w) w.heap.size rfl (.tmp 14) (.tmp 22) 39 9 (.string ⟨#[]⟩) 16 rfl Try.underlying39 info9 rfl (by decide) (by omega) u3 acc y [.string y] (fun _ => True) (fun _ => False) rfl rfl ?aP (fun _ hk => hk.elim) ?aF ?aO ?aB ?aS ?aL ?_; (case aP => exact rfl); (case aB => exact HB2.out); (case aF => exact (fun _ _ => trivial)); (case aO => exact HO2.out); (case aS => exact below_size HB2.out); (case aL => have := HK2.out; omega); intro v4 w5 ho hb hg hat; have HO5 := Aside0.mk ho; have HB5 := Aside0.mk hb; clear ho hb hg hat))
        go_roundg (n - j)
        case measure => have := HJ2.out; omega
        case rel =>
          have hl := HL.out
          have hll := HLEN.out
          exact ⟨j + 1, by rw [M.w64_in _ (by omega) (by omega)]; rfl, ⟨by omega⟩, ⟨by omega⟩, ⟨by rw [HS2.out]; exact HO5.out⟩, HB5⟩
      · have hlti : decide (j < n) = false := by simpa using hlt
        have HE : Aside0 (j = n) := ⟨by have := HJ1.out; omega⟩
        clear hlt
        have hOO := HO.out
        rw [HE.out, HT.out] at hOO
        have hml : (ts.map fdual).length = n := by rw [List.length_map]; exact HNN.out
        have HML := Aside0.mk hml
        generalize hps : ts.map fdual = ps at *
        have HOO := Aside0.mk hOO
        obtain ⟨A2, cp, rfl⟩ := Kd.R_slice hOO
        have HSTR := Aside0.mk (strsAt_of hOO)
        have HCP := Aside0.mk (Kd.R_reads' hOO).2.1
        clear hOO hml HO HS HK HM HY HOK IH HR HNN hps h0 h1
        have hcv := str_of_byte wr c trivial
        have HB0 := Aside0.mk (below_alloc HB.out (.cells #[.int .u8 c] 5))
        have hx0' := ((below_alloc (Below.refl wr.heap.size wr) (.cells #[.int .u8 c] 5)).cell (World.block_lt_of_cell? wr _ hx0)).trans hx0
        by_cases c63 : c = 63
        · subst c63
          have h3l : ps.length = 3 := by rw [HML.out]; exact H3.out rfl
          obtain ⟨y0, y1, y2, rfl⟩ : ∃ y0 y1 y2, ps = [y0, y1, y2] := by
            match ps, h3l with
            | [a, b, d], _ => exact ⟨a, b, d, rfl⟩
          obtain ⟨g, cap2, he, hgb, _, cur, hcur⟩ := Kd.R_form HOO.out (by simp)
          injection he with he1 he2 he3
          subst he1
          have hst := HSTR.out.below (below_alloc (Below.refl wr.heap.size wr) (.cells #[.int .u8 63] 5))
          obtain ⟨g0, e0, k0⟩ := hst 0 y0 rfl
          obtain ⟨g1, e1, k1⟩ := hst 1 y1 rfl
          obtain ⟨g2, e2, k2⟩ := hst 2 y2 rfl
          cases e0
          cases e1
          cases e2
          have hbk : (wr.alloc (.cells #[.int .u8 63] 5)).heap[g]? = some (.cells cur 9 (0, 0)) := blk_alloc hcur _
          have HJ := Aside0.mk (fun (W : World) (h : StrsAt W (some ⟨g, 0, none⟩) [y0, y2, y1]) => strings_Join_texts.calls W (some ⟨g, 0, none⟩) cp [y0, y2, y1] h HCP.out (by simp) (by have := HSL.out; simp only [dswap, if_true, List.getD_cons_zero, List.getD_cons_succ] at this; omega))
          have hsw : dswap 63 [y0, y1, y2] = [y0, y2, y1] := rfl
          have HV := HQ.out
          rw [hsw] at HV
          have hsum : (dsign 63).size + (joinB [y0, y2, y1]).size ≤ 9223372036854775807 := by
            have h1 := dsign_size 63
            have h2 := HSL.out
            rw [hsw, ← joinB_size] at h2
            omega
          have hds : dsign 63 = strOfNums [63] := rfl
          rw [hds] at hsum HV
          have HV := Aside0.mk HV
          have HGB := Aside0.mk hgb
          have HX0 := Aside0.mk k0
          have HX1 := Aside0.mk k1
          have HX2 := Aside0.mk k2
          have BK7 := Aside0.mk hbk
          have hl3 : ([y0, y1, y2] : List ByteArray).length = 3 := rfl
          clear hsw HSL HQ hds HSTR HOO H3 HT HLEN HCP hst k0 k1 k2 hbk hcur h3l HML he2 he3 hgb
          generalize joinB [y0, y2, y1] = r at *
          generalize strOfNums [63] = s0 at *
          go_wp2_with fail
          clear hcv
          generalize wr.alloc (.cells #[.int .u8 63] 5) = W7 at *
          have k0 := HX0.out
          have k1 := HX1.out
          have k2 := HX2.out
          rw [Nat.zero_add] at k1 k2
          have HST : Aside0 (StrsAt ((W7.setCell ⟨g, 1, none⟩ (.string y2)).setCell ⟨g, 2, none⟩ (.string y1)) (some ⟨g, 0, none⟩) [y0, y2, y1]) := ⟨by
            intro j x hj
            match j, hj with
            | 0, hj =>
              obtain rfl := Option.some.inj hj
              exact ⟨g, rfl, (World.cell?_setCell_other _ _ _ _ (by simp)).trans ((World.cell?_setCell_other _ _ _ _ (by simp)).trans k0)⟩
            | 1, hj =>
              obtain rfl := Option.some.inj hj
              exact ⟨g, rfl, (World.cell?_setCell_other _ _ _ _ (by simp)).trans (World.cell?_setCell_same _ _ _ k1)⟩
            | 2, hj =>
              obtain rfl := Option.some.inj hj
              exact ⟨g, rfl, World.cell?_setCell_same _ _ _ ((World.cell?_setCell_other _ _ _ _ (by simp)).trans k2)⟩
            | j + 3, hj => exact absurd hj (by simp)⟩
          have HB9 := Aside0.mk ((HB0.out.setCell (p := ⟨g, 1, none⟩) HGB.out (.string y2)).setCell (p := ⟨g, 2, none⟩) HGB.out (.string y1))
          have HW2 := Aside0.mk k2
          have HX1 := Aside0.mk (((below_drew1 (Below.refl W7.heap.size W7)).cell (World.block_lt_of_cell? _ _ k1)).trans k1)
          have HX2 := Aside0.mk (((below_drew1 (Below.refl W7.heap.size W7)).cell (World.block_lt_of_cell? _ _ k2)).trans k2)
          clear k0 k1 k2 HX0
          refine start_ (n := 12) (S := fun w' => w'.cell? ⟨g, 1, none⟩ = some (.string y1) ∧ w'.cell? ⟨g, 2, none⟩ = some (.string y2)) (ds := [9, 11]) #[false, false, false, false, false, false, false, false, false, false, false, false] (by kernel_rfl) rfl rfl ⟨HX1.out, HX2.out⟩ (fun hHeld => ?_)
          refine pure_ (i := 0) (N := some 47) (v := ?_) (a' := ?_) #[true, false, false, false, false, false, false, false, false, false, false, false] rfl rfl (by kernel_rfl) (fun _ _ _ h => h) (Or.inl ⟨by rfl, ?_⟩) ?_ ?_
          rotate_left
          · intro w'
            go_simp
            with_reducible rfl
          rotate_left
          · simp only [Act.put, List.setIfInBounds_toArray, List.set_cons_zero, List.set_cons_succ, i64_w, i32_w]
            rfl
          refine pure_ (i := 1) (N := some 48) (v := ?_) (a' := ?_) #[true, true, false, false, false, false, false, false, false, false, false, false] rfl rfl (by kernel_rfl) (fun _ _ _ h => h) (Or.inl ⟨by rfl, ?_⟩) ?_ ?_
          rotate_left
          · intro w'
            go_simp
            with_reducible rfl
          rotate_left
          · simp only [Act.put, List.setIfInBounds_toArray, List.set_cons_zero, List.set_cons_succ, i64_w, i32_w]
            rfl
          refine pure_ (i := 2) (N := some 49) (v := ?_) (a' := ?_) #[true, true, true, false, false, false, false, false, false, false, false, false] rfl rfl (by kernel_rfl) (fun _ _ _ h => h) (Or.inl ⟨by rfl, ?_⟩) ?_ ?_
          rotate_left
          · intro w'
            go_simp
            with_reducible rfl
          rotate_left
          · simp only [Act.put, List.setIfInBounds_toArray, List.set_cons_zero, List.set_cons_succ, i64_w, i32_w]
            rfl
          refine pure_ (i := 3) (N := some 50) (v := ?_) (a' := ?_) #[true, true, true, true, false, false, false, false, false, false, false, false] rfl rfl (by kernel_rfl) (fun _ _ _ h => h) (Or.inl ⟨by rfl, ?_⟩) ?_ ?_
          rotate_left
          · intro w'
            go_simp
            with_reducible rfl
          rotate_left
          · simp only [Act.put, List.setIfInBounds_toArray, List.set_cons_zero, List.set_cons_succ, i64_w, i32_w]
            rfl
          refine pure_ (i := 5) (N := some 52) (v := ?_) (a' := ?_) #[true, true, true, true, false, true, false, false, false, false, false, false] rfl rfl (by kernel_rfl) (fun _ _ _ h => h) (Or.inl ⟨by rfl, ?_⟩) ?_ ?_
          rotate_left
          · intro w'
            go_simp
            with_reducible rfl
          rotate_left
          · simp only [Act.put, List.setIfInBounds_toArray, List.set_cons_zero, List.set_cons_succ, i64_w, i32_w]
            rfl
          refine pure_ (i := 6) (N := some 53) (v := ?_) (a' := ?_) #[true, true, true, true, false, true, true, false, false, false, false, false] rfl rfl (by kernel_rfl) (fun _ _ _ h => h) (Or.inl ⟨by rfl, ?_⟩) ?_ ?_
          rotate_left
          · intro w'
            go_simp
            with_reducible rfl
          rotate_left
          · simp only [Act.put, List.setIfInBounds_toArray, List.set_cons_zero, List.set_cons_succ, i64_w, i32_w]
            rfl
          refine take_ (i := 4) (N := some 51) (v := ?_) (a' := ?_) #[true, true, true, true, true, true, true, false, false, false, false, false] rfl rfl (by kernel_rfl) (fun _ _ _ h => h) (Or.inl ⟨by rfl, ?_⟩) hHeld ?_ ?_
          rotate_left
          · rintro w' ⟨s0, s1⟩
            go_simp
            with_reducible rfl
          rotate_left
          · simp only [Act.put, List.setIfInBounds_toArray, List.set_cons_zero, List.set_cons_succ, i64_w, i32_w]
            rfl
          refine take_ (i := 7) (N := some 54) (v := ?_) (a' := ?_) #[true, true, true, true, true, true, true, true, false, false, false, false] rfl rfl (by kernel_rfl) (fun _ _ _ h => h) (Or.inl ⟨by rfl, ?_⟩) hHeld ?_ ?_
          rotate_left
          · rintro w' ⟨s0, s1⟩
            go_simp
            with_reducible rfl
          rotate_left
          · simp only [Act.put, List.setIfInBounds_toArray, List.set_cons_zero, List.set_cons_succ, i64_w, i32_w]
            rfl
          refine pure_ (i := 8) (N := some 55) (v := ?_) (a' := ?_) #[true, true, true, true, true, true, true, true, true, false, false, false] rfl rfl (by kernel_rfl) (fun _ _ _ h => h) (Or.inl ⟨by rfl, ?_⟩) ?_ ?_
          rotate_left
          · intro w'
            go_simp
            with_reducible rfl
          rotate_left
          · simp only [Act.put, List.setIfInBounds_toArray, List.set_cons_zero, List.set_cons_succ, i64_w, i32_w]
            rfl
          refine last_ (i := 9) (N := none) #[true, true, true, true, true, true, true, true, true, true, false, false] rfl rfl (by kernel_rfl) (by decide) (fun K hK => ?_)
          have hs1 : W7.drew.cell? ⟨g, 1, none⟩ = some (.string y1) := hHeld.1
          have hf1 := blk_frozen (blk_drew BK7.out) 1
          refine skip_ (w1 := ?_) (by rfl) rfl ?_ ?_
          rotate_left
          · go_simp
            rfl
          refine hK.out _ _ ?_
          clear hK K
          refine pure_ (i := 10) (N := some 56) (v := ?_) (a' := ?_) #[true, true, true, true, true, true, true, true, true, true, true, false] rfl rfl (by kernel_rfl) (fun _ _ _ h => h) (Or.inl ⟨by rfl, ?_⟩) ?_ ?_
          rotate_left
          · intro w'
            go_simp
            with_reducible rfl
          rotate_left
          · simp only [Act.put, List.setIfInBounds_toArray, List.set_cons_zero, List.set_cons_succ, i64_w, i32_w]
            rfl
          refine last_ (i := 11) (N := none) #[true, true, true, true, true, true, true, true, true, true, true, true] rfl rfl (by kernel_rfl) (by decide) (fun K hK => ?_)
          have hs2 := HW2.out
          have hf2 := blk_frozen BK7.out 2
          refine skip_ (w1 := ?_) (by rfl) rfl ?_ ?_
          rotate_left
          · go_simp
            rfl
          refine hK.out _ _ ?_
          clear hK K
          refine done_ (by kernel_rfl) ?_
          go_wp2_with (go_at_call 97; refine (HJ.out _ (HST.out.below (below_drew1 (Below.refl _ _)))).mono ?_; rintro e w2 ⟨rfl, hb⟩; have HB2 := Aside0.mk (below_step (below_drew1 HB9.out) hb); clear hb)
          go_ret
          exact ⟨by rw [HV.out]; rfl, HB2.out⟩
        · have HJ := Aside0.mk (strings_Join_texts.calls (wr.alloc (.cells #[.int .u8 c] 5)) A2 cp ps (HSTR.out.below (below_alloc (Below.refl _ _) _)) HCP.out (by have := HML.out; have := HLEN.out; omega) (by have := HSL.out; unfold dswap at this; rw [if_neg c63] at this; omega))
          have hsw : dswap c ps = ps := by unfold dswap; rw [if_neg c63]
          have HV := HQ.out
          rw [hsw] at HV
          have hsum : (dsign c).size + (joinB ps).size ≤ 9223372036854775807 := by
            have h1 := dsign_size c
            have h2 := HSL.out
            rw [hsw, ← joinB_size] at h2
            omega
          have HV := Aside0.mk HV
          clear hsw HSL HQ
          generalize joinB ps = r at *
          clear H3 HT HLEN HOO HSTR HCP
          by_cases c38 : c = 38
          · subst c38
            have hsum2 : (⟨#[124]⟩ : ByteArray).size + r.size ≤ 9223372036854775807 := hsum
            clear hsum c63
            go_wp2_with (go_at_call 97; (with_reducible refine HJ.out.mono ?_); rintro e w2 ⟨rfl, hb⟩; have HB2 := Aside0.mk (below_step HB0.out hb); clear hb)
            go_ret
            exact ⟨by rw [HV.out]; rfl, HB2.out⟩
          · have b38 : (c == 38) = false := by simpa using c38
            by_cases c124 : c = 124
            · subst c124
              have hsum2 : (⟨#[38]⟩ : ByteArray).size + r.size ≤ 9223372036854775807 := hsum
              clear hsum c63
              go_wp2_with (go_at_call 97; (with_reducible refine HJ.out.mono ?_); rintro e w2 ⟨rfl, hb⟩; have HB2 := Aside0.mk (below_step HB0.out hb); clear hb)
              go_ret
              exact ⟨by rw [HV.out]; rfl, HB2.out⟩
            · have b124 : (c == 124) = false := by simpa using c124
              by_cases c48 : c = 48
              · subst c48
                have hsum2 : (⟨#[49]⟩ : ByteArray).size + r.size ≤ 9223372036854775807 := hsum
                clear hsum c63
                go_wp2_with (go_at_call 97; (with_reducible refine HJ.out.mono ?_); rintro e w2 ⟨rfl, hb⟩; have HB2 := Aside0.mk (below_step HB0.out hb); clear hb)
                go_ret
                exact ⟨by rw [HV.out]; rfl, HB2.out⟩
              · have b48 : (c == 48) = false := by simpa using c48
                by_cases c49 : c = 49
                · subst c49
                  have hsum2 : (⟨#[48]⟩ : ByteArray).size + r.size ≤ 9223372036854775807 := hsum
                  clear hsum c63
                  go_wp2_with (go_at_call 97; (with_reducible refine HJ.out.mono ?_); rintro e w2 ⟨rfl, hb⟩; have HB2 := Aside0.mk (below_step HB0.out hb); clear hb)
                  go_ret
                  exact ⟨by rw [HV.out]; rfl, HB2.out⟩
                · have b49 : (c == 49) = false := by simpa using c49
                  by_cases c94 : c = 94
                  · subst c94
                    have hsum2 : (⟨#[33, 94]⟩ : ByteArray).size + r.size ≤ 9223372036854775807 := hsum
                    clear hsum c63
                    go_wp2_with (go_at_call 97; (with_reducible refine HJ.out.mono ?_); rintro e w2 ⟨rfl, hb⟩; have HB2 := Aside0.mk (below_step HB0.out hb); clear hb)
                    go_ret
                    exact ⟨by rw [HV.out]; rfl, HB2.out⟩
                  · have b94 : (c == 94) = false := by simpa using c94
                    have b63 : (c == 63) = false := by simpa using c63
                    have hds : dsign c = strOfNums [c] := by unfold dsign; rw [if_neg c38, if_neg c124, if_neg c48, if_neg c49, if_neg c94]
                    rw [hds] at hsum
                    have HV2 : Aside0 (fdual t = strOfNums [c] ++ r) := ⟨by rw [HV.out, hds]⟩
                    clear hds c38 c124 c48 c49 c94 c63 HV
                    generalize strOfNums [c] = s0 at *
                    go_wp2_with (go_at_call 97; (with_reducible refine HJ.out.mono ?_); rintro e w2 ⟨rfl, hb⟩; have HB2 := Aside0.mk (below_step HB0.out hb); clear hb)
                    go_ret
                    exact ⟨by rw [HV2.out]; rfl, HB2.out⟩

/-! ### impl_DualFormula: function 25, by hand -/
def impl_DualFormula.f (k : Nat) (a0 : ByteArray) : Option (ByteArray × Int) := (impl_parse.f k a0).bind fun q => if q.2.2 = true then (if fok ⟨q.1, q.2.1⟩ = true ∧ flen ⟨q.1, q.2.1⟩ ≤ 1048576 then impl_limited.f (fdual ⟨q.1, q.2.1⟩) else none) else some (⟨#[]⟩, 6)
theorem impl_DualFormula.mono : ∀ a0 k, LeO (impl_DualFormula.f k a0) (impl_DualFormula.f (k + 1) a0) := by
  intro a0 k r h
  unfold impl_DualFormula.f at h ⊢
  obtain ⟨t, ht, h⟩ := Option.bind_eq_some_iff.1 h
  rw [impl_parse.mono _ _ _ ht]
  exact h
set_option maxHeartbeats 8000000 in
set_option maxRecDepth 100000 in
theorem impl_DualFormula.calls (k : Nat) (a0 : ByteArray) (r1 : ByteArray) (r2 : Int) (w : World) (h : impl_DualFormula.f k a0 = some (r1, r2)) :
    Calls Try.prog 25 #[.string a0] w fun e w' => e = .returned (.tuple #[.string r1, .int .i64 r2]) ∧ Below w.heap.size w w' := by
  unfold impl_DualFormula.f at h
  obtain ⟨⟨c, ps, ok⟩, hp, h⟩ := Option.bind_eq_some_iff.1 h
  have HP := Aside0.mk (impl_parse.calls k a0 c ps ok w hp)
  clear hp
  cases ok with
  | true =>
    rw [if_pos rfl] at h
    by_cases hc : fok ⟨c, ps⟩ = true ∧ flen ⟨c, ps⟩ ≤ 1048576
    · rw [if_pos hc] at h
      have HL := Aside0.mk h
      have HC := Aside0.mk hc
      clear h hc
      go_enter Try.func25, Try.ntmps25
      go_wp2_with (first | (go_at_call 65; (with_reducible refine HP.out.mono ?_); rintro e w1 ⟨v1, rfl, hR, hb⟩; obtain ⟨A1, c1, rfl⟩ := Kd.R_slice hR; have HF := Aside0.mk (frm_laid (c := c) hR); have HB1 := Aside0.mk (below_alloc hb (.cells #[.int .u8 c, .slice A1 ps.length c1] 70)); clear hR hb) | (go_at_call 67; (with_reducible refine (formula_dual.calls _ _ _ HF.out HC.out.1 HC.out.2).mono ?_); rintro e w2 ⟨rfl, hb⟩; have HB2 := Aside0.mk (below_step HB1.out hb); clear hb) | (go_at_call 66; (with_reducible refine (impl_limited.calls _ _ _ _ HL.out).mono ?_); rintro e w' ⟨rfl, ⟨nd, rfl⟩⟩))
      go_ret2
      exact ⟨rfl, pw_below_drewN HB2.out nd⟩
    · rw [if_neg hc] at h
      exact absurd h (by simp)
  | false =>
    rw [if_neg Bool.false_ne_true] at h
    simp only [Option.some.injEq, Prod.mk.injEq] at h
    obtain ⟨rfl, rfl⟩ := h
    go_enter Try.func25, Try.ntmps25
    go_wp2_with (go_at_call 65; (with_reducible refine HP.out.mono ?_); rintro e w1 ⟨v1, rfl, hR, hb⟩; obtain ⟨A1, c1, rfl⟩ := Kd.R_slice hR; have HB1 := Aside0.mk (below_alloc hb (.cells #[.int .u8 c, .slice A1 ps.length c1] 70)); clear hR hb)
    go_ret2
    exact ⟨rfl, HB1.out⟩

/-! ### laws_FnExactDualFormula: function 5 -/
def laws_FnExactDualFormula.f (k : Nat) (a0 : ByteArray) : Option (Bool) := if (a0.size : Int) > 1048576 then (some true) else ((spec_DualFormula.f k a0).bind fun bt300 => ((impl_DualFormula.f k a0).bind fun bt302 => (if bt302.1.toList = bt300.1.toList then (if bt302.2 = bt300.2 then (some true) else (some false)) else (some false))))
theorem laws_FnExactDualFormula.mono : ∀ a0 k, LeO (laws_FnExactDualFormula.f k a0) (laws_FnExactDualFormula.f (k + 1) a0) := by
  intro a0 k
  unfold laws_FnExactDualFormula.f
  repeat' first
      | (with_reducible exact impl_DualFormula.mono _ _)
      | (with_reducible exact spec_DualFormula.mono _ _)
      | (with_reducible exact LeO.refl _)
      | (with_reducible exact LeO.none _)
      | (with_reducible refine LeO.ite ?_ ?_)
      | (with_reducible refine LeO.bind ?_ (fun _ => ?_))
      | exact impl_DualFormula.mono _ _
      | exact spec_DualFormula.mono _ _
      | exact LeO.none _
      | refine LeO.ite ?_ ?_
      | refine LeO.bind ?_ (fun _ => ?_)
set_option maxHeartbeats 8000000 in
set_option maxRecDepth 100000 in
theorem laws_FnExactDualFormula.calls (k : Nat) (a0 : ByteArray) (r : Bool) (w : World) (h : laws_FnExactDualFormula.f k a0 = some r) :
    Calls Try.prog 5 #[.string a0] w fun e w' => e = .returned (.bool r) ∧ Below w.heap.size w w' := by
  have HB := Aside0.mk (Below.refl w.heap.size w)
  have H : (if (a0.size : Int) > 1048576 then (some true) else ((spec_DualFormula.f k a0).bind fun bt300 => ((impl_DualFormula.f k a0).bind fun bt302 => (if bt302.1.toList = bt300.1.toList then (if bt302.2 = bt300.2 then (some true) else (some false)) else (some false))))) = some r := h
  clear h
  by_cases c2 : (a0.size : Int) > 1048576
  · rw [if_pos c2] at H
    have c2b0 : decide (1048576 < (a0.size : Int)) = true := decide_eq_true c2
    have c2b1 : decide (1048576 < a0.size) = true := decide_eq_true (by omega)
    clear c2
    obtain rfl := Option.some.inj H
    go_enter Try.func5, Try.ntmps5
    go_wp2
    go_ret
    exact ⟨by first | rfl | (simp [errW_none, errW_some] <;> rfl) | (simp [*, errW_none, errW_some] <;> rfl), by repeat (first | (with_reducible first | exact HB.out | apply below_alloc | apply pw_below_drewN | apply below_drew1) | exact HB.out)⟩
  · rw [if_neg c2] at H
    have c2b0 : decide (1048576 < (a0.size : Int)) = false := decide_eq_false c2
    have c2b1 : decide (1048576 < a0.size) = false := decide_eq_false (by omega)
    clear c2
    replace H := Option.bind_eq_some_iff.mp H
    obtain ⟨⟨t300, t301⟩, A30, H⟩ := H
    replace H : ((impl_DualFormula.f k a0).bind fun bt302 => (if bt302.1.toList = t300.toList then (if bt302.2 = t301 then (some true) else (some false)) else (some false))) = some r := H
    have A3 := Aside0.mk A30
    clear A30
    replace H := Option.bind_eq_some_iff.mp H
    obtain ⟨⟨t302, t303⟩, A40, H⟩ := H
    replace H : (if t302.toList = t300.toList then (if t303 = t301 then (some true) else (some false)) else (some false)) = some r := H
    have A4 := Aside0.mk A40
    clear A40
    by_cases c5 : t302.toList = t300.toList
    · rw [if_pos c5] at H
      have c5b0 : (t302.toList == t300.toList) = true := beq_iff_eq.mpr c5
      have c5b1 : (t302.toList != t300.toList) = false := bne_eq_false_iff_eq.mpr c5
      clear c5
      by_cases c6 : t303 = t301
      · rw [if_pos c6] at H
        have c6b0 : (t303 == t301) = true := beq_iff_eq.mpr c6
        have c6b1 : (t303 != t301) = false := bne_eq_false_iff_eq.mpr c6
        clear c6
        obtain rfl := Option.some.inj H
        go_enter Try.func5, Try.ntmps5
        go_wp2_with (first | ((with_reducible refine gate_callee (f := 24) rfl ?_); refine goesL_ (some 12) rfl rfl Try.func24 (by kernel_rfl) rfl #[.string a0] rfl (by (try simp only [List.map_toArray, List.map_cons, List.map_nil]); first | done | rfl | (simp only [List.length_drop, List.length_take]; rfl)) ?_; (with_reducible refine (spec_DualFormula.calls k a0 t300 t301 _ A3.out).mono ?_); rintro e w7 ⟨rfl, hb⟩; refine ⟨_, rfl, ?_⟩; have n0_ := Aside0.mk (below_step (by repeat (first | (with_reducible first | exact HB.out | apply below_alloc | apply pw_below_drewN | apply below_drew1) | exact HB.out)) hb); clear HB; have HB := n0_; clear n0_; (try clear hb); (try clear hb2); (try clear hk); (try clear hi)) | ((with_reducible refine gate_callee (f := 25) rfl ?_); refine goesL_ (some 17) rfl rfl Try.func25 (by kernel_rfl) rfl #[.string a0] rfl (by (try simp only [List.map_toArray, List.map_cons, List.map_nil]); first | done | rfl | (simp only [List.length_drop, List.length_take]; rfl)) ?_; (with_reducible refine (impl_DualFormula.calls k a0 t302 t303 _ A4.out).mono ?_); rintro e w8 ⟨rfl, hb⟩; refine ⟨_, rfl, ?_⟩; have n0_ := Aside0.mk (below_step (by repeat (first | (with_reducible first | exact HB.out | apply below_alloc | apply pw_below_drewN | apply below_drew1) | exact HB.out)) hb); clear HB; have HB := n0_; clear n0_; (try clear hb); (try clear hb2); (try clear hk); (try clear hi)))
        go_ret
        exact ⟨by first | rfl | (simp [errW_none, errW_some] <;> rfl) | (simp [*, errW_none, errW_some] <;> rfl), by repeat (first | (with_reducible first | exact HB.out | apply below_alloc | apply pw_below_drewN | apply below_drew1) | exact HB.out)⟩
      · rw [if_neg c6] at H
        have c6b0 : (t303 == t301) = false := beq_eq_false_iff_ne.mpr c6
        have c6b1 : (t303 != t301) = true := bne_iff_ne.mpr c6
        obtain rfl := Option.some.inj H
        go_enter Try.func5, Try.ntmps5
        go_wp2_with (first | ((with_reducible refine gate_callee (f := 24) rfl ?_); refine goesL_ (some 12) rfl rfl Try.func24 (by kernel_rfl) rfl #[.string a0] rfl (by (try simp only [List.map_toArray, List.map_cons, List.map_nil]); first | done | rfl | (simp only [List.length_drop, List.length_take]; rfl)) ?_; (with_reducible refine (spec_DualFormula.calls k a0 t300 t301 _ A3.out).mono ?_); rintro e w9 ⟨rfl, hb⟩; refine ⟨_, rfl, ?_⟩; have n0_ := Aside0.mk (below_step (by repeat (first | (with_reducible first | exact HB.out | apply below_alloc | apply pw_below_drewN | apply below_drew1) | exact HB.out)) hb); clear HB; have HB := n0_; clear n0_; (try clear hb); (try clear hb2); (try clear hk); (try clear hi)) | ((with_reducible refine gate_callee (f := 25) rfl ?_); refine goesL_ (some 17) rfl rfl Try.func25 (by kernel_rfl) rfl #[.string a0] rfl (by (try simp only [List.map_toArray, List.map_cons, List.map_nil]); first | done | rfl | (simp only [List.length_drop, List.length_take]; rfl)) ?_; (with_reducible refine (impl_DualFormula.calls k a0 t302 t303 _ A4.out).mono ?_); rintro e w10 ⟨rfl, hb⟩; refine ⟨_, rfl, ?_⟩; have n0_ := Aside0.mk (below_step (by repeat (first | (with_reducible first | exact HB.out | apply below_alloc | apply pw_below_drewN | apply below_drew1) | exact HB.out)) hb); clear HB; have HB := n0_; clear n0_; (try clear hb); (try clear hb2); (try clear hk); (try clear hi)))
        go_ret
        exact ⟨by first | rfl | (simp [errW_none, errW_some] <;> rfl) | (simp [*, errW_none, errW_some] <;> rfl), by repeat (first | (with_reducible first | exact HB.out | apply below_alloc | apply pw_below_drewN | apply below_drew1) | exact HB.out)⟩
    · rw [if_neg c5] at H
      have c5b0 : (t302.toList == t300.toList) = false := beq_eq_false_iff_ne.mpr c5
      have c5b1 : (t302.toList != t300.toList) = true := bne_iff_ne.mpr c5
      obtain rfl := Option.some.inj H
      go_enter Try.func5, Try.ntmps5
      go_wp2_with (first | ((with_reducible refine gate_callee (f := 24) rfl ?_); refine goesL_ (some 12) rfl rfl Try.func24 (by kernel_rfl) rfl #[.string a0] rfl (by (try simp only [List.map_toArray, List.map_cons, List.map_nil]); first | done | rfl | (simp only [List.length_drop, List.length_take]; rfl)) ?_; (with_reducible refine (spec_DualFormula.calls k a0 t300 t301 _ A3.out).mono ?_); rintro e w11 ⟨rfl, hb⟩; refine ⟨_, rfl, ?_⟩; have n0_ := Aside0.mk (below_step (by repeat (first | (with_reducible first | exact HB.out | apply below_alloc | apply pw_below_drewN | apply below_drew1) | exact HB.out)) hb); clear HB; have HB := n0_; clear n0_; (try clear hb); (try clear hb2); (try clear hk); (try clear hi)) | ((with_reducible refine gate_callee (f := 25) rfl ?_); refine goesL_ (some 17) rfl rfl Try.func25 (by kernel_rfl) rfl #[.string a0] rfl (by (try simp only [List.map_toArray, List.map_cons, List.map_nil]); first | done | rfl | (simp only [List.length_drop, List.length_take]; rfl)) ?_; (with_reducible refine (impl_DualFormula.calls k a0 t302 t303 _ A4.out).mono ?_); rintro e w12 ⟨rfl, hb⟩; refine ⟨_, rfl, ?_⟩; have n0_ := Aside0.mk (below_step (by repeat (first | (with_reducible first | exact HB.out | apply below_alloc | apply pw_below_drewN | apply below_drew1) | exact HB.out)) hb); clear HB; have HB := n0_; clear n0_; (try clear hb); (try clear hb2); (try clear hk); (try clear hi)))
      go_ret
      exact ⟨by first | rfl | (simp [errW_none, errW_some] <;> rfl) | (simp [*, errW_none, errW_some] <;> rfl), by repeat (first | (with_reducible first | exact HB.out | apply below_alloc | apply pw_below_drewN | apply below_drew1) | exact HB.out)⟩

end Go.Proofs.Ytdlnjbaldfdnpaa.P
