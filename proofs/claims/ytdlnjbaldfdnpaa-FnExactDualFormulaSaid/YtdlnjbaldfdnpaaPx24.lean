/- Functions of the given program and their contracts, written by a program of this session (gen.py) over the kit's print. -/
import Derived.Test.YtdlnjbaldfdnpaaPx0
import Derived.Test.YtdlnjbaldfdnpaaPx4
import Derived.Test.YtdlnjbaldfdnpaaPx5
import Derived.Test.YtdlnjbaldfdnpaaPx16
import Derived.Test.YtdlnjbaldfdnpaaPx21
import Derived.Test.YtdlnjbaldfdnpaaPx23
namespace Go.Proofs.Ytdlnjbaldfdnpaa.P
open Go.RowKit Go.Proofs.YtdlnjbaldfdnpaaW.PrintWords Go.Proofs.YtdlnjbaldfdnpaaW.PrintLast Go.Proofs.YtdlnjbaldfdnpaaW.PrintMore
attribute [local go_sem] max2_int min2_int max_two min_two max_three min_three max_four min_four   -- for this text's walks alone
set_option linter.unusedVariables false
set_option linter.unusedSimpArgs false

/-! ### impl_PutFormulas: function 40, by hand -/
/-- Is the text a formula? -/
def isF (k : Nat) (x : ByteArray) : Bool := impl_IsFormula.f k x == some true
theorem isF_some (k : Nat) (x : ByteArray) (h : (impl_IsFormula.f k x).isSome = true) : impl_IsFormula.f k x = some (isF k x) := by
  obtain ⟨y, hy⟩ := Option.isSome_iff_exists.1 h
  unfold isF
  rw [hy]
  cases y <;> rfl
set_option maxHeartbeats 8000000 in
set_option maxRecDepth 100000 in
theorem putFormulas_lit (k : Nat) (l : List ByteArray) (hall : ∀ x ∈ l, (impl_IsFormula.f k x).isSome = true) (w : World) : GivesStr 76 #[] l (fun x => !(isF k x)) w := by
  intro W x hx _
  have HC := Aside0.mk (impl_IsFormula.calls k x _ W (isF_some k x (hall x hx)))
  show Calls Try.prog 76 #[.string x] W _
  clear hall hx
  generalize hb : isF k x = b at HC
  have HV := Aside0.mk hb
  clear hb
  go_enter Try.func76, Try.ntmps76
  go_wp2_with (go_at_call 27; (with_reducible refine HC.out.mono ?_); rintro e w1 ⟨rfl, hb⟩; have HB1 := Aside0.mk hb; clear hb)
  go_ret
  exact ⟨by rw [HV.out]; rfl, HB1.out⟩
/-- The variable of a letter, or -1. -/
def lett (c : Int) : Int := Lib.indexByte [97, 98, 99, 100] c.toNat.toUInt8
theorem lett_lt (c : Int) : -1 ≤ lett c ∧ lett c < 4 := by
  unfold lett
  simp only [Lib.indexByte]
  repeat' split
  all_goals first | omega | (simp at *; omega) | simp
def pstep (a0 : ByteArray) (l1 : List ByteArray) (acc : ByteArray) (i : Nat) : ByteArray := if lett (bt a0 (i : Int)) ≥ 0 then acc ++ rdOf ByteArray.empty l1 (lett (bt a0 (i : Int))) else acc ++ a0.extract i (i + 1)
/-- The text with formulas put in the places of its letters, up to a place. -/
def putN (a0 : ByteArray) (l1 : List ByteArray) : Nat → ByteArray
  | 0 => ⟨#[]⟩
  | i + 1 => pstep a0 l1 (putN a0 l1 i) i
theorem putN_size (a0 : ByteArray) (l1 : List ByteArray) (h : ∀ x ∈ l1, x.size ≤ 1048576) (h4 : l1.length = 4) : ∀ i, (putN a0 l1 i).size ≤ 1048576 * i
  | 0 => (show (0 : Nat) ≤ 1048576 * 0 from Nat.zero_le _)
  | i + 1 => by
    have ih := putN_size a0 l1 h h4 i
    have hl := lett_lt (bt a0 (i : Int))
    simp only [putN, pstep]
    split
    · obtain ⟨q, hq⟩ := Int.eq_ofNat_of_zero_le (show 0 ≤ lett (bt a0 (i : Int)) by omega)
      rw [hq, ByteArray.size_append]
      have := h _ (strs_mem l1 q (by omega))
      omega
    · rw [ByteArray.size_append, ByteArray.size_extract]
      omega
def impl_PutFormulas.f (k : Nat) (a0 : ByteArray) (l1 : List ByteArray) : Option (ByteArray × Int) :=
  (impl_IsFormula.f k a0).bind fun t => if t = true then
    (if l1.length ≤ 1048576 ∧ (∀ x ∈ l1, (impl_IsFormula.f k x).isSome = true) then
      (if (l1.any fun x => !(isF k x)) = true then some (⟨#[]⟩, 6) else
        (if l1.length = 4 then (if a0.size ≤ 1048576 ∧ (∀ x ∈ l1, x.size ≤ 1048576) then impl_limited.f (putN a0 l1 a0.size) else none) else some (⟨#[]⟩, 2)))
    else none) else some (⟨#[]⟩, 6)
theorem impl_PutFormulas.mono : ∀ a0 a1 k, LeO (impl_PutFormulas.f k a0 a1) (impl_PutFormulas.f (k + 1) a0 a1) := by
  intro a0 a1 k r h
  unfold impl_PutFormulas.f at h ⊢
  obtain ⟨t, ht, h⟩ := Option.bind_eq_some_iff.1 h
  rw [impl_IsFormula.mono _ _ _ ht, Option.bind_some]
  cases t with
  | false => rw [if_neg Bool.false_ne_true] at h ⊢; exact h
  | true =>
    rw [if_pos rfl] at h ⊢
    by_cases hc : a1.length ≤ 1048576 ∧ (∀ x ∈ a1, (impl_IsFormula.f k x).isSome = true)
    · rw [if_pos hc] at h
      have hup : ∀ x ∈ a1, impl_IsFormula.f (k + 1) x = impl_IsFormula.f k x := by
        intro x hx
        have e := isF_some k x (hc.2 x hx)
        rw [e, impl_IsFormula.mono _ _ _ e]
      have hc2 : a1.length ≤ 1048576 ∧ (∀ x ∈ a1, (impl_IsFormula.f (k + 1) x).isSome = true) := ⟨hc.1, fun x hx => by rw [hup x hx]; exact hc.2 x hx⟩
      rw [if_pos hc2]
      have hany : (a1.any fun x => !(isF (k + 1) x)) = (a1.any fun x => !(isF k x)) := by
        rw [Bool.eq_iff_iff, List.any_eq_true, List.any_eq_true]
        constructor
        · rintro ⟨x, hx, h⟩; exact ⟨x, hx, by unfold isF at h ⊢; rw [hup x hx] at h; exact h⟩
        · rintro ⟨x, hx, h⟩; exact ⟨x, hx, by unfold isF at h ⊢; rw [hup x hx]; exact h⟩
      rw [hany]
      exact h
    · rw [if_neg hc] at h
      exact absurd h (by simp)
set_option maxHeartbeats 8000000 in
set_option maxRecDepth 100000 in
theorem impl_PutFormulas.calls (k : Nat) (a0 : ByteArray) (A1 : Option Addr) (c1 : Nat) (l1 : List ByteArray) (r1 : ByteArray) (r2 : Int) (w : World) (hr1 : Kd.C Kd.string w A1 l1.length l1) (hc1 : l1.length ≤ c1) (h : impl_PutFormulas.f k a0 l1 = some (r1, r2)) :
    Calls Try.prog 40 #[.string a0, .slice A1 l1.length c1] w fun e w' => e = .returned (.tuple #[.string r1, .int .i64 r2]) ∧ Below w.heap.size w w' := by
  unfold impl_PutFormulas.f at h
  obtain ⟨t, ht, h⟩ := Option.bind_eq_some_iff.1 h
  have HT := Aside0.mk (impl_IsFormula.calls k a0 t w ht)
  have HR0 := Aside0.mk hr1
  clear ht hr1
  cases t with
  | false =>
    rw [if_neg Bool.false_ne_true] at h
    simp only [Option.some.injEq, Prod.mk.injEq] at h
    obtain ⟨rfl, rfl⟩ := h
    go_enter Try.func40, Try.ntmps40
    go_wp2_with (go_at_call 27; (with_reducible refine HT.out.mono ?_); rintro e w1 ⟨rfl, hb⟩; have HB1 := Aside0.mk hb; clear hb)
    go_ret2
    exact ⟨rfl, HB1.out⟩
  | true =>
    rw [if_pos rfl] at h
    by_cases hc : l1.length ≤ 1048576 ∧ (∀ x ∈ l1, (impl_IsFormula.f k x).isSome = true)
    · rw [if_pos hc] at h
      have HC := Aside0.mk (fun (W : World) (hr : Kd.C Kd.string W A1 l1.length l1) => slices_ContainsFunc_strs.calls 76 #[] (fun args w => enters_ Try.func76 (by kernel_rfl) rfl args w) (fun x => !(isF k x)) A1 c1 l1 (by omega) W hr (putFormulas_lit k l1 hc.2 W))
      cases hany : (l1.any fun x => !(isF k x)) with
      | true =>
        rw [if_pos hany] at h
        simp only [Option.some.injEq, Prod.mk.injEq] at h
        obtain ⟨rfl, rfl⟩ := h
        rw [hany] at HC
        clear hany hc
        go_enter Try.func40, Try.ntmps40
        go_wp2_with (first | (go_at_call 27; (with_reducible refine HT.out.mono ?_); rintro e w1 ⟨rfl, hb⟩; have HB1 := Aside0.mk hb; have HR1 := Aside0.mk (Kd.C_below HR0.out hb); clear hb) | (go_at_call 75; (with_reducible refine (HC.out _ HR1.out).mono ?_); rintro e w2 ⟨rfl, hb⟩; have HB2 := Aside0.mk (below_step HB1.out hb); clear hb))
        go_ret2
        exact ⟨rfl, HB2.out⟩
      | false =>
        rw [if_neg (by rw [hany]; decide)] at h
        rw [hany] at HC
        clear hany
        have ASK := HT
        by_cases h4 : l1.length = 4
        · rw [if_pos h4] at h
          by_cases hz : a0.size ≤ 1048576 ∧ (∀ x ∈ l1, x.size ≤ 1048576)
          · rw [if_pos hz] at h
            have HLI := Aside0.mk h
            have HZ : Aside0 (∀ i, i ≤ a0.size → (putN a0 l1 i).size ≤ 1099511627776) := ⟨fun i hi => by have := putN_size a0 l1 hz.2 h4 i; omega⟩
            have HA : Aside0 (a0.size ≤ 1048576) := ⟨hz.1⟩
            have HX : Aside0 (∀ q : Nat, q < 4 → (rdOf ByteArray.empty l1 (q : Int)).size ≤ 1048576) := ⟨fun q hq => hz.2 _ (strs_mem l1 q (by omega))⟩
            have HS : Aside0 (∀ i, putN a0 l1 (i + 1) = pstep a0 l1 (putN a0 l1 i) i) := ⟨fun i => rfl⟩
            have H40 := Aside0.mk h4
            have hb4 : ((l1.length : Int) != 4) = false := by rw [h4]; rfl
            clear h hz hc h4
            go_enter Try.func40, Try.ntmps40
            go_wp2_with (first | (go_at_call 27; (with_reducible refine HT.out.mono ?_); rintro e w1 ⟨rfl, hb⟩; have HB1 := Aside0.mk hb; have HR1 := Aside0.mk (Kd.C_below HR0.out hb); clear hb) | (go_at_call 75; (with_reducible refine (HC.out _ HR1.out).mono ?_); rintro e w2 ⟨rfl, hb⟩; have HB2 := Aside0.mk (below_step HB1.out hb); have HR2 := Aside0.mk (Kd.C_below HR1.out hb); clear hb))
            have HB := HB2
            clear HT HR0 HB1 HB2 HR1 HC ASK
            generalize hN : a0.size = N at *
            have HN := Aside0.mk hN
            clear hN
            go_loopg [6, 21] (N + 1) (fun gg v6 v21 wr => ∃ i : Nat, v21 = .int .i64 (i : Int) ∧ v6 = .string (putN a0 l1 i) ∧ Aside0 (i ≤ N) ∧ Aside0 (N - i < gg) ∧ Aside0 (Kd.C Kd.string wr A1 l1.length l1) ∧ Aside0 (Below w.heap.size w wr))
            case atStart => exact ⟨0, rfl, rfl, ⟨by omega⟩, ⟨by omega⟩, HR2, HB⟩
            case round =>
              clear HB HR2
              obtain ⟨i, rfl, rfl, HJ1, HJ2, HR, HB⟩ := hrel
              by_cases hlt : i < N
              · have hlti : decide (i < N) = true := by simpa using hlt
                have hNs : a0.size = N := HN.out
                have hk0 : 0 ≤ (i : Int) := by omega
                have hk1 : (i : Int) < (N : Int) := by omega
                have hk2 : i < N := hlt
                have hk3 : (i : Int) < (a0.size : Int) := by omega
                have hk4 : i < a0.size := by omega
                have hbt : ((a0[i]'hk4).toNat : Int) = bt a0 (i : Int) := by
                  have := bt_at a0 (i : Int) (by rw [Int.toNat_natCast]; exact hk4)
                  simpa only [Int.toNat_natCast] using this
                have HSI := Aside0.mk (HS.out i)
                have hz1 := HZ.out (i + 1) (by omega)
                rw [HS.out i] at hz1
                unfold pstep at hz1 HSI
                have HIX : Aside0 (strings_IndexByte.f (⟨#[97, 98, 99, 100]⟩ : ByteArray) (bt a0 (i : Int)) = some (lett (bt a0 (i : Int)))) := ⟨rfl⟩
                have hle := lett_lt (bt a0 (i : Int))
                generalize bt a0 (i : Int) = c at hbt HSI hz1 HIX hle
                generalize lett c = q at HSI hz1 HIX hle
                have hN2 := HA.out
                by_cases hq : q ≥ 0
                · rw [if_pos hq] at hz1 HSI
                  have hqb : decide (q ≥ 0) = true := decide_eq_true hq
                  obtain ⟨q, rfl⟩ := Int.eq_ofNat_of_zero_le hq
                  have h40 := H40.out
                  obtain ⟨ad, rfl, hx0⟩ := Kd.at_string HR.out (q : Int) (by omega) (by omega)
                  rw [Int.toNat_natCast] at hx0
                  have hq1 : (q : Int) < (l1.length : Int) := by omega
                  have hq2 : q < l1.length := by omega
                  generalize rdOf ByteArray.empty l1 (q : Int) = y at hz1 HSI hx0
                  generalize putN a0 l1 i = acc at hz1 HSI ⊢
                  rw [ByteArray.size_append] at hz1
                  have hsum : acc.size + y.size ≤ 9223372036854775807 := Nat.le_trans hz1 (by decide)
                  clear hz1 h40 hle hlt hNs
                  go_wp2_with (go_at_call 77; (with_reducible refine (strings_IndexByte.calls _ _ _ _ HIX.out).mono ?_); rintro e w' ⟨rfl, ⟨nd, rfl⟩⟩)
                  go_roundg (N - i)
                  case measure => have := HJ2.out; omega
                  case rel =>
                    exact ⟨i + 1, by first | rfl | (rw [M.w64_in _ (by omega) (by omega)]; rfl), by rw [HSI.out], ⟨by omega⟩, ⟨by omega⟩, ⟨Kd.C_below HR.out (pw_below_drewN (Below.refl _ _) nd)⟩, ⟨pw_below_drewN HB.out nd⟩⟩
                · rw [if_neg hq] at hz1 HSI
                  have hqb : decide (q ≥ 0) = false := decide_eq_false hq
                  generalize putN a0 l1 i = acc at hz1 HSI ⊢
                  rw [ByteArray.size_append] at hz1
                  have hsum : acc.size + (a0.extract i (i + 1)).size ≤ 9223372036854775807 := Nat.le_trans hz1 (by decide)
                  have hw1 : (i : Int) ≤ wrap64 ((i : Int) + 1) := by rw [M.w64_in _ (by omega) (by omega)]; omega
                  have hw2 : wrap64 ((i : Int) + 1) ≤ (a0.size : Int) := by rw [M.w64_in _ (by omega) (by omega)]; omega
                  have hsl : ∀ W : World, (Instr.slice 9 (.string a0) (some (.int .i64 (i : Int))) (some (.int .i64 ((i : Int) + 1))) none).run Try.prog W = .ok (.string (a0.extract i (i + 1))) W := by
                    intro W
                    have := run_slice_string (P := Try.prog) W 9 a0 .i64 .i64 (i : Int) ((i : Int) + 1) Try.underlying9 (by omega) (by omega) (by omega)
                    rw [Int.toNat_natCast, show ((i : Int) + 1).toNat = i + 1 from rfl] at this
                    exact this
                  clear hz1 hle hlt hNs hw1 hw2
                  go_wp2_with (go_at_call 77; (with_reducible refine (strings_IndexByte.calls _ _ _ _ HIX.out).mono ?_); rintro e w' ⟨rfl, ⟨nd, rfl⟩⟩)
                  go_roundg (N - i)
                  case measure => have := HJ2.out; omega
                  case rel =>
                    exact ⟨i + 1, by first | rfl | (rw [M.w64_in _ (by omega) (by omega)]; rfl), by rw [HSI.out], ⟨by omega⟩, ⟨by omega⟩, ⟨Kd.C_below HR.out (pw_below_drewN (Below.refl _ _) nd)⟩, ⟨pw_below_drewN HB.out nd⟩⟩
              · have hlti : decide (i < N) = false := by simpa using hlt
                have HE : Aside0 (i = N) := ⟨by have := HJ1.out; omega⟩
                clear hlt
                have HL2 : Aside0 (impl_limited.f (putN a0 l1 i) = some (r1, r2)) := ⟨by rw [HE.out]; exact HLI.out⟩
                generalize putN a0 l1 i = acc at HL2 ⊢
                go_wp2_with (go_at_call 66; (with_reducible refine (impl_limited.calls _ _ _ _ HL2.out).mono ?_); rintro e w' ⟨rfl, ⟨nd, rfl⟩⟩)
                go_ret2
                exact ⟨rfl, pw_below_drewN HB.out nd⟩
          · rw [if_neg hz] at h
            exact absurd h (by simp)
        · rw [if_neg h4] at h
          simp only [Option.some.injEq, Prod.mk.injEq] at h
          obtain ⟨rfl, rfl⟩ := h
          have hb4 : ((l1.length : Int) != 4) = true := by simp; omega
          clear hc h4
          go_enter Try.func40, Try.ntmps40
          go_wp2_with (first | (go_at_call 27; (with_reducible refine HT.out.mono ?_); rintro e w1 ⟨rfl, hb⟩; have HB1 := Aside0.mk hb; have HR1 := Aside0.mk (Kd.C_below HR0.out hb); clear hb) | (go_at_call 75; (with_reducible refine (HC.out _ HR1.out).mono ?_); rintro e w2 ⟨rfl, hb⟩; have HB2 := Aside0.mk (below_step HB1.out hb); clear hb))
          go_ret2
          exact ⟨rfl, HB2.out⟩
    · rw [if_neg hc] at h
      exact absurd h (by simp)

/-! ### laws_FnExactPutFormulas: function 10 -/
def laws_FnExactPutFormulas.j0 : Nat → List ByteArray → List ByteArray → Bool → Option (Bool)
  | 0, _, _, _ => none
  | k + 1, x1, x8, x41 => if x41 = true then (some false) else ((laws_toStringS.f k x1).bind fun t379 => ((laws_eqStringS.f k x8 t379).bind fun t382 => (if t382 = true then (some true) else (some false))))
def laws_FnExactPutFormulas.f (k : Nat) (a0 : ByteArray) (l1 : List ByteArray) : Option (Bool) := if (a0.size : Int) > 1048576 then (some true) else ((laws_szStringS.f k l1 1048576).bind fun t368 => (if t368 < 0 then (some true) else ((laws_toStringS.f k l1).bind fun t369 => ((spec_PutFormulas.f k a0 t369).bind fun bt372 => ((laws_toStringS.f k l1).bind fun t374 => ((impl_PutFormulas.f k a0 t374).bind fun bt377 => (if bt377.1.toList = bt372.1.toList then (laws_FnExactPutFormulas.j0 k l1 t374 (bt377.2 != bt372.2)) else (laws_FnExactPutFormulas.j0 k l1 t374 true))))))))
theorem laws_FnExactPutFormulas.mono_l : ∀ k, (∀ y0 y1 y2, LeO (laws_FnExactPutFormulas.j0 k y0 y1 y2) (laws_FnExactPutFormulas.j0 (k + 1) y0 y1 y2))
  | 0 => fun _ _ _ r h => by simp [laws_FnExactPutFormulas.j0] at h
  | k + 1 => by
    have ih0 := laws_FnExactPutFormulas.mono_l k
    · intro y0 y1 y2
      unfold laws_FnExactPutFormulas.j0
      repeat' first
      | (with_reducible exact ih0 _ _ _)
      | (with_reducible exact impl_PutFormulas.mono _ _ _)
      | (with_reducible exact laws_eqStringS.mono _ _ _)
      | (with_reducible exact laws_szStringS.mono _ _ _)
      | (with_reducible exact laws_toStringS.mono _ _)
      | (with_reducible exact spec_PutFormulas.mono _ _ _)
      | (with_reducible exact LeO.refl _)
      | (with_reducible exact LeO.none _)
      | (with_reducible refine LeO.ite ?_ ?_)
      | (with_reducible refine LeO.bind ?_ (fun _ => ?_))
      | exact ih0 _ _ _
      | exact impl_PutFormulas.mono _ _ _
      | exact laws_eqStringS.mono _ _ _
      | exact laws_szStringS.mono _ _ _
      | exact laws_toStringS.mono _ _
      | exact spec_PutFormulas.mono _ _ _
      | exact LeO.none _
      | refine LeO.ite ?_ ?_
      | refine LeO.bind ?_ (fun _ => ?_)
theorem laws_FnExactPutFormulas.mono : ∀ a0 a1 k, LeO (laws_FnExactPutFormulas.f k a0 a1) (laws_FnExactPutFormulas.f (k + 1) a0 a1) := by
  intro a0 a1 k
  have ih0 := laws_FnExactPutFormulas.mono_l k
  unfold laws_FnExactPutFormulas.f
  repeat' first
      | (with_reducible exact ih0 _ _ _)
      | (with_reducible exact impl_PutFormulas.mono _ _ _)
      | (with_reducible exact laws_eqStringS.mono _ _ _)
      | (with_reducible exact laws_szStringS.mono _ _ _)
      | (with_reducible exact laws_toStringS.mono _ _)
      | (with_reducible exact spec_PutFormulas.mono _ _ _)
      | (with_reducible exact LeO.refl _)
      | (with_reducible exact LeO.none _)
      | (with_reducible refine LeO.ite ?_ ?_)
      | (with_reducible refine LeO.bind ?_ (fun _ => ?_))
      | exact ih0 _ _ _
      | exact impl_PutFormulas.mono _ _ _
      | exact laws_eqStringS.mono _ _ _
      | exact laws_szStringS.mono _ _ _
      | exact laws_toStringS.mono _ _
      | exact spec_PutFormulas.mono _ _ _
      | exact LeO.none _
      | refine LeO.ite ?_ ?_
      | refine LeO.bind ?_ (fun _ => ?_)
set_option maxHeartbeats 8000000 in
set_option maxRecDepth 100000 in
theorem laws_FnExactPutFormulas.calls (k : Nat) (a0 : ByteArray) (A1 : Option Addr) (c1 : Nat) (l1 : List ByteArray) (r : Bool) (w : World) (hr1 : Kd.C Kd.string w A1 l1.length l1) (hc1 : l1.length ≤ c1) (h : laws_FnExactPutFormulas.f k a0 l1 = some r) :
    Calls Try.prog 10 #[.string a0, .slice A1 l1.length c1] w fun e w' => e = .returned (.bool r) ∧ Below w.heap.size w w' := by
  have HR1 := Aside0.mk hr1
  have HC1 := Aside0.mk hc1
  clear hr1 hc1
  have HB := Aside0.mk (Below.refl w.heap.size w)
  have H : (if (a0.size : Int) > 1048576 then (some true) else ((laws_szStringS.f k l1 1048576).bind fun t368 => (if t368 < 0 then (some true) else ((laws_toStringS.f k l1).bind fun t369 => ((spec_PutFormulas.f k a0 t369).bind fun bt372 => ((laws_toStringS.f k l1).bind fun t374 => ((impl_PutFormulas.f k a0 t374).bind fun bt377 => (if bt377.1.toList = bt372.1.toList then (laws_FnExactPutFormulas.j0 k l1 t374 (bt377.2 != bt372.2)) else (laws_FnExactPutFormulas.j0 k l1 t374 true))))))))) = some r := h
  clear h
  by_cases c3 : (a0.size : Int) > 1048576
  · rw [if_pos c3] at H
    have c3b0 : decide (1048576 < (a0.size : Int)) = true := decide_eq_true c3
    have c3b1 : decide (1048576 < a0.size) = true := decide_eq_true (by omega)
    clear c3
    obtain rfl := Option.some.inj H
    go_enter Try.func10, Try.ntmps10
    go_wp2
    go_ret
    exact ⟨by first | rfl | (simp [errW_none, errW_some] <;> rfl) | (simp [*, errW_none, errW_some] <;> rfl), by repeat (first | (with_reducible first | exact HB.out | apply below_alloc | apply pw_below_drewN | apply below_drew1) | exact HB.out)⟩
  · rw [if_neg c3] at H
    have c3b0 : decide (1048576 < (a0.size : Int)) = false := decide_eq_false c3
    have c3b1 : decide (1048576 < a0.size) = false := decide_eq_false (by omega)
    clear c3
    replace H := Option.bind_eq_some_iff.mp H
    obtain ⟨t368, A40, H⟩ := H
    replace H : (if t368 < 0 then (some true) else ((laws_toStringS.f k l1).bind fun t369 => ((spec_PutFormulas.f k a0 t369).bind fun bt372 => ((laws_toStringS.f k l1).bind fun t374 => ((impl_PutFormulas.f k a0 t374).bind fun bt377 => (if bt377.1.toList = bt372.1.toList then (laws_FnExactPutFormulas.j0 k l1 t374 (bt377.2 != bt372.2)) else (laws_FnExactPutFormulas.j0 k l1 t374 true))))))) = some r := H
    have A4 := Aside0.mk A40
    clear A40
    by_cases c5 : t368 < 0
    · rw [if_pos c5] at H
      have c5b0 : decide (t368 < 0) = true := decide_eq_true c5
      clear c5
      obtain rfl := Option.some.inj H
      go_enter Try.func10, Try.ntmps10
      go_wp2_with (first | ((with_reducible refine gate_callee (f := 37) rfl ?_); refine goesL_ (some 16) rfl rfl Try.func37 (by kernel_rfl) rfl #[.slice A1 l1.length c1, .int .i64 1048576] rfl (by (try simp only [List.map_toArray, List.map_cons, List.map_nil]); first | done | rfl | (simp only [List.length_drop, List.length_take]; rfl)) ?_; (with_reducible refine (laws_szStringS.calls k _ _ l1 1048576 t368 _ ?side1 ?side2 A4.out).mono ?_); (case side1 => repeat (first | exact HR1.out | (with_reducible refine Kd.C_alloc ?_ _) | (with_reducible refine Kd.C_drewN ?_ _) | (with_reducible refine Kd.C_drew ?_))); (case side2 => exact HC1.out); rintro e w' ⟨rfl, ⟨nd, rfl⟩⟩; refine ⟨_, rfl, ?_⟩))
      go_ret
      exact ⟨by first | rfl | (simp [errW_none, errW_some] <;> rfl) | (simp [*, errW_none, errW_some] <;> rfl), by repeat (first | (with_reducible first | exact HB.out | apply below_alloc | apply pw_below_drewN | apply below_drew1) | exact HB.out)⟩
    · rw [if_neg c5] at H
      have c5b0 : decide (t368 < 0) = false := decide_eq_false c5
      clear c5
      replace H := Option.bind_eq_some_iff.mp H
      obtain ⟨t369, A60, H⟩ := H
      replace H : ((spec_PutFormulas.f k a0 t369).bind fun bt372 => ((laws_toStringS.f k l1).bind fun t374 => ((impl_PutFormulas.f k a0 t374).bind fun bt377 => (if bt377.1.toList = bt372.1.toList then (laws_FnExactPutFormulas.j0 k l1 t374 (bt377.2 != bt372.2)) else (laws_FnExactPutFormulas.j0 k l1 t374 true))))) = some r := H
      have A6 := Aside0.mk A60
      clear A60
      replace H := Option.bind_eq_some_iff.mp H
      obtain ⟨⟨t372, t373⟩, A70, H⟩ := H
      replace H : ((laws_toStringS.f k l1).bind fun t374 => ((impl_PutFormulas.f k a0 t374).bind fun bt377 => (if bt377.1.toList = t372.toList then (laws_FnExactPutFormulas.j0 k l1 t374 (bt377.2 != t373)) else (laws_FnExactPutFormulas.j0 k l1 t374 true)))) = some r := H
      have A7 := Aside0.mk A70
      clear A70
      replace H := Option.bind_eq_some_iff.mp H
      obtain ⟨t374, A80, H⟩ := H
      replace H : ((impl_PutFormulas.f k a0 t374).bind fun bt377 => (if bt377.1.toList = t372.toList then (laws_FnExactPutFormulas.j0 k l1 t374 (bt377.2 != t373)) else (laws_FnExactPutFormulas.j0 k l1 t374 true))) = some r := H
      have A8 := Aside0.mk A80
      clear A80
      replace H := Option.bind_eq_some_iff.mp H
      obtain ⟨⟨t377, t378⟩, A90, H⟩ := H
      replace H : (if t377.toList = t372.toList then (laws_FnExactPutFormulas.j0 k l1 t374 (t378 != t373)) else (laws_FnExactPutFormulas.j0 k l1 t374 true)) = some r := H
      have A9 := Aside0.mk A90
      clear A90
      have HC10 := Aside0.mk H
      clear H
      go_enter Try.func10, Try.ntmps10
      go_upto_region 10 with (first | ((with_reducible refine gate_callee (f := 37) rfl ?_); refine goesL_ (some 16) rfl rfl Try.func37 (by kernel_rfl) rfl #[.slice A1 l1.length c1, .int .i64 1048576] rfl (by (try simp only [List.map_toArray, List.map_cons, List.map_nil]); first | done | rfl | (simp only [List.length_drop, List.length_take]; rfl)) ?_; (with_reducible refine (laws_szStringS.calls k _ _ l1 1048576 t368 _ ?side1 ?side2 A4.out).mono ?_); (case side1 => repeat (first | exact HR1.out | (with_reducible refine Kd.C_alloc ?_ _) | (with_reducible refine Kd.C_drewN ?_ _) | (with_reducible refine Kd.C_drew ?_))); (case side2 => exact HC1.out); rintro e w' ⟨rfl, ⟨nd, rfl⟩⟩; refine ⟨_, rfl, ?_⟩) | ((with_reducible refine gate_callee (f := 39) rfl ?_); refine goesL_ (some 22) rfl rfl Try.func39 (by kernel_rfl) rfl #[.slice A1 l1.length c1] rfl (by (try simp only [List.map_toArray, List.map_cons, List.map_nil]); first | done | rfl | (simp only [List.length_drop, List.length_take]; rfl)) ?_; (with_reducible refine (laws_toStringS.calls k _ _ l1 t369 _ ?side1 ?side2 A6.out).mono ?_); (case side1 => repeat (first | exact HR1.out | (with_reducible refine Kd.C_alloc ?_ _) | (with_reducible refine Kd.C_drewN ?_ _) | (with_reducible refine Kd.C_drew ?_))); (case side2 => exact HC1.out); rintro e w11 ⟨v370, rfl, ho0, hb⟩; refine ⟨_, rfl, ?_⟩; have n0_ := Aside0.mk (Kd.R_lower ho0 (below_size (by repeat (first | (with_reducible first | exact HB.out | apply below_alloc | apply pw_below_drewN | apply below_drew1) | exact HB.out)))); have n1_ := Aside0.mk (below_step (by repeat (first | (with_reducible first | exact HB.out | apply below_alloc | apply pw_below_drewN | apply below_drew1) | exact HB.out)) hb); clear HB; have HO371 := n0_; have HB := n1_; clear n0_ n1_; (try clear hb); (try clear hb2); (try clear hk); (try clear hi); (try clear ho0); obtain ⟨Ao12, co12, eo12⟩ := Kd.R_slice HO371.out; subst eo12) | ((with_reducible refine gate_callee (f := 38) rfl ?_); refine goesL_ (some 23) rfl rfl Try.func38 (by kernel_rfl) rfl #[.string a0, .slice Ao12 t369.length co12] rfl (by (try simp only [List.map_toArray, List.map_cons, List.map_nil]); first | done | rfl | (simp only [List.length_drop, List.length_take]; rfl)) ?_; (with_reducible refine (spec_PutFormulas.calls k a0 _ _ t369 t372 t373 _ ?side1 ?side2 A7.out).mono ?_); (case side1 => repeat (first | exact (Kd.R_reads' HO371.out).2.2 | (with_reducible refine Kd.C_alloc ?_ _) | (with_reducible refine Kd.C_drewN ?_ _) | (with_reducible refine Kd.C_drew ?_))); (case side2 => exact (Kd.R_reads' HO371.out).2.1); rintro e w' ⟨rfl, ⟨nd, rfl⟩⟩; refine ⟨_, rfl, ?_⟩) | ((with_reducible refine gate_callee (f := 39) rfl ?_); refine goesL_ (some 27) rfl rfl Try.func39 (by kernel_rfl) rfl #[.slice A1 l1.length c1] rfl (by (try simp only [List.map_toArray, List.map_cons, List.map_nil]); first | done | rfl | (simp only [List.length_drop, List.length_take]; rfl)) ?_; (with_reducible refine (laws_toStringS.calls k _ _ l1 t374 _ ?side1 ?side2 A8.out).mono ?_); (case side1 => repeat (first | exact (Kd.C_below HR1.out (by repeat (first | (with_reducible first | exact HB.out | apply below_alloc | apply pw_below_drewN | apply below_drew1) | exact HB.out))) | (with_reducible refine Kd.C_alloc ?_ _) | (with_reducible refine Kd.C_drewN ?_ _) | (with_reducible refine Kd.C_drew ?_))); (case side2 => exact HC1.out); rintro e w13 ⟨v375, rfl, ho0, hb⟩; refine ⟨_, rfl, ?_⟩; have n0_ := Aside0.mk (Kd.R_elder' (by (with_reducible repeat (first | apply Kd.R_alloc | apply Kd.R_drewN | apply Kd.R_drew)); exact HO371.out) (Kd.R_base ho0) hb); have n1_ := Aside0.mk (Kd.R_lower (Kd.R_new' ho0 (Kd.R_lt (by (with_reducible repeat (first | apply Kd.R_alloc | apply Kd.R_drewN | apply Kd.R_drew)); exact HO371.out))) (below_size (by repeat (first | (with_reducible first | exact HB.out | apply below_alloc | apply pw_below_drewN | apply below_drew1) | exact HB.out)))); have n2_ := Aside0.mk (below_step (by repeat (first | (with_reducible first | exact HB.out | apply below_alloc | apply pw_below_drewN | apply below_drew1) | exact HB.out)) hb); clear HO371; clear HB; have HO371 := n0_; have HO376 := n1_; have HB := n2_; clear n0_ n1_ n2_; (try clear hb); (try clear hb2); (try clear hk); (try clear hi); (try clear ho0); obtain ⟨Ao14, co14, eo14⟩ := Kd.R_slice HO376.out; subst eo14) | ((with_reducible refine gate_callee (f := 40) rfl ?_); refine goesL_ (some 31) rfl rfl Try.func40 (by kernel_rfl) rfl #[.string a0, .slice Ao14 t374.length co14] rfl (by (try simp only [List.map_toArray, List.map_cons, List.map_nil]); first | done | rfl | (simp only [List.length_drop, List.length_take]; rfl)) ?_; (with_reducible refine (impl_PutFormulas.calls k a0 _ _ t374 t377 t378 _ ?side1 ?side2 A9.out).mono ?_); (case side1 => repeat (first | exact (Kd.R_reads' HO376.out).2.2 | (with_reducible refine Kd.C_alloc ?_ _) | (with_reducible refine Kd.C_drewN ?_ _) | (with_reducible refine Kd.C_drew ?_))); (case side2 => exact (Kd.R_reads' HO376.out).2.1); rintro e w15 ⟨rfl, hb⟩; refine ⟨_, rfl, ?_⟩; have n0_ := Aside0.mk (Kd.R_below (by (with_reducible repeat (first | apply Kd.R_alloc | apply Kd.R_drewN | apply Kd.R_drew)); exact HO371.out) hb); have n1_ := Aside0.mk (Kd.R_below (by (with_reducible repeat (first | apply Kd.R_alloc | apply Kd.R_drewN | apply Kd.R_drew)); exact HO376.out) hb); have n2_ := Aside0.mk (below_step (by repeat (first | (with_reducible first | exact HB.out | apply below_alloc | apply pw_below_drewN | apply below_drew1) | exact HB.out)) hb); clear HO371; clear HO376; clear HB; have HO371 := n0_; have HO376 := n1_; have HB := n2_; clear n0_ n1_ n2_; (try clear hb); (try clear hb2); (try clear hk); (try clear hi)))
      (try simp only [Act.put, List.setIfInBounds_toArray, List.set_cons_zero, List.set_cons_succ])
      go_cut [41] (fun v41 wc => ∃ (kq : Nat) (x41_9 : Bool), v41 = .bool x41_9 ∧ Aside0 (laws_FnExactPutFormulas.j0 kq l1 t374 x41_9 = some r) ∧ Aside0 (kq ≤ k) ∧ Aside0 (Kd.R Kd.string 9 wc w.heap.size (fun _ => True) (.slice Ao14 t374.length co14) t374) ∧ Aside0 (Below w.heap.size w wc))
      case first =>
        have H := HC10.out
        clear HC10
        by_cases c16 : t377.toList = t372.toList
        · rw [if_pos c16] at H
          have c16b0 : (t377.toList == t372.toList) = true := beq_iff_eq.mpr c16
          have c16b1 : (t377.toList != t372.toList) = false := bne_eq_false_iff_eq.mpr c16
          clear c16
          (first | rw [c16b0] | (simp only [i64_w, i32_w]; rw [c16b0]) | skip)
          have H' := Aside0.mk H
          clear H
          go_wp2
          go_meet
          case rel => exact ⟨_, ((t378 != t373)), (by first | rfl | (simp; done) | (simp [*]; done)), H', ⟨by first | omega | exact Nat.le_refl _⟩, ⟨by (with_reducible repeat (first | apply Kd.R_alloc | apply Kd.R_drewN | apply Kd.R_drew)); exact Kd.R_mono HO376.out (fun _ hk => trivial)⟩, ⟨by repeat (first | (with_reducible first | exact HB.out | apply below_alloc | apply pw_below_drewN | apply below_drew1) | exact HB.out)⟩⟩
        · rw [if_neg c16] at H
          have c16b0 : (t377.toList == t372.toList) = false := beq_eq_false_iff_ne.mpr c16
          have c16b1 : (t377.toList != t372.toList) = true := bne_iff_ne.mpr c16
          (first | rw [c16b0] | (simp only [i64_w, i32_w]; rw [c16b0]) | skip)
          have H' := Aside0.mk H
          clear H
          go_wp2
          go_meet
          case rel => exact ⟨_, (true), (by first | rfl | (simp; done) | (simp [*]; done)), H', ⟨by first | omega | exact Nat.le_refl _⟩, ⟨by (with_reducible repeat (first | apply Kd.R_alloc | apply Kd.R_drewN | apply Kd.R_drew)); exact Kd.R_mono HO376.out (fun _ hk => trivial)⟩, ⟨by repeat (first | (with_reducible first | exact HB.out | apply below_alloc | apply pw_below_drewN | apply below_drew1) | exact HB.out)⟩⟩
      case rest =>
        clear HC10
        try clear c1
        try clear p2
        try clear c3
        try clear c3b0
        try clear c3b1
        try clear c4
        try clear c5
        try clear c5b0
        try clear c10
        try clear c16
        try clear c16b0
        try clear c16b1
        obtain ⟨kq, x41_9, rfl, HA, HJ9, HO_8, HB⟩ := hcut
        cases kq with
        | zero => exact absurd HA.out (by simp [laws_FnExactPutFormulas.j0])
        | succ kj9 =>
          have H := HA.out
          clear HA
          simp only [laws_FnExactPutFormulas.j0] at H
          by_cases c17 : x41_9 = true
          · subst c17
            have H1 : (some false) = some r := by rw [if_pos rfl] at H; exact H
            clear H
            have H := H1
            clear H1
            obtain rfl := Option.some.inj H
            go_wp2
            go_ret
            exact ⟨by first | rfl | (simp [errW_none, errW_some] <;> rfl) | (simp [*, errW_none, errW_some] <;> rfl), by repeat (first | (with_reducible first | exact HB.out | apply below_alloc | apply pw_below_drewN | apply below_drew1) | exact HB.out)⟩
          · replace c17 := Bool.eq_false_iff.mpr c17
            subst c17
            have H1 : ((laws_toStringS.f kj9 l1).bind fun t379 => ((laws_eqStringS.f kj9 t374 t379).bind fun t382 => (if t382 = true then (some true) else (some false)))) = some r := by rw [if_neg (show ¬ (false = true) by decide)] at H; exact H
            clear H
            have H := H1
            clear H1
            replace H := Option.bind_eq_some_iff.mp H
            obtain ⟨t379, A180, H⟩ := H
            replace H : ((laws_eqStringS.f kj9 t374 t379).bind fun t382 => (if t382 = true then (some true) else (some false))) = some r := H
            have A18 := Aside0.mk A180
            clear A180
            replace H := Option.bind_eq_some_iff.mp H
            obtain ⟨t382, A190, H⟩ := H
            replace H : (if t382 = true then (some true) else (some false)) = some r := H
            have A19 := Aside0.mk A190
            clear A190
            by_cases c20 : t382 = true
            · subst c20
              have H1 : (some true) = some r := by rw [if_pos rfl] at H; exact H
              clear H
              have H := H1
              clear H1
              obtain rfl := Option.some.inj H
              go_wp2_with (first | ((with_reducible refine gate_callee (f := 39) rfl ?_); refine goesL_ (some 44) rfl rfl Try.func39 (by kernel_rfl) rfl #[.slice A1 l1.length c1] rfl (by (try simp only [List.map_toArray, List.map_cons, List.map_nil]); first | done | rfl | (simp only [List.length_drop, List.length_take]; rfl)) ?_; (with_reducible refine (laws_toStringS.calls kj9 _ _ l1 t379 _ ?side1 ?side2 A18.out).mono ?_); (case side1 => repeat (first | exact (Kd.C_below HR1.out HB.out) | (with_reducible refine Kd.C_alloc ?_ _) | (with_reducible refine Kd.C_drewN ?_ _) | (with_reducible refine Kd.C_drew ?_))); (case side2 => exact HC1.out); rintro e w21 ⟨v380, rfl, ho0, hb⟩; refine ⟨_, rfl, ?_⟩; have n0_ := Aside0.mk (Kd.R_elder' (by (with_reducible repeat (first | apply Kd.R_alloc | apply Kd.R_drewN | apply Kd.R_drew)); exact HO_8.out) (Kd.R_base ho0) hb); have n1_ := Aside0.mk (Kd.R_lower (Kd.R_new' ho0 (Kd.R_lt (by (with_reducible repeat (first | apply Kd.R_alloc | apply Kd.R_drewN | apply Kd.R_drew)); exact HO_8.out))) (below_size (by repeat (first | (with_reducible first | exact HB.out | apply below_alloc | apply pw_below_drewN | apply below_drew1) | exact HB.out)))); have n2_ := Aside0.mk (below_step (by repeat (first | (with_reducible first | exact HB.out | apply below_alloc | apply pw_below_drewN | apply below_drew1) | exact HB.out)) hb); clear HO_8; clear HB; have HO_8 := n0_; have HO381 := n1_; have HB := n2_; clear n0_ n1_ n2_; (try clear hb); (try clear hb2); (try clear hk); (try clear hi); (try clear ho0); obtain ⟨Ao22, co22, eo22⟩ := Kd.R_slice HO381.out; subst eo22) | ((with_reducible refine gate_callee (f := 34) rfl ?_); refine goesL_ (some 45) rfl rfl Try.func34 (by kernel_rfl) rfl #[.slice Ao14 t374.length co14, .slice Ao22 t379.length co22] rfl (by (try simp only [List.map_toArray, List.map_cons, List.map_nil]); first | done | rfl | (simp only [List.length_drop, List.length_take]; rfl)) ?_; (with_reducible refine (laws_eqStringS.calls kj9 _ _ t374 _ _ t379 true _ ?side1 ?side2 ?side3 ?side4 A19.out).mono ?_); (case side1 => repeat (first | exact (Kd.R_reads' HO_8.out).2.2 | (with_reducible refine Kd.C_alloc ?_ _) | (with_reducible refine Kd.C_drewN ?_ _) | (with_reducible refine Kd.C_drew ?_))); (case side2 => exact (Kd.R_reads' HO_8.out).2.1); (case side3 => repeat (first | exact (Kd.R_reads' HO381.out).2.2 | (with_reducible refine Kd.C_alloc ?_ _) | (with_reducible refine Kd.C_drewN ?_ _) | (with_reducible refine Kd.C_drew ?_))); (case side4 => exact (Kd.R_reads' HO381.out).2.1); rintro e w' ⟨rfl, ⟨nd, rfl⟩⟩; refine ⟨_, rfl, ?_⟩))
              go_ret
              exact ⟨by first | rfl | (simp [errW_none, errW_some] <;> rfl) | (simp [*, errW_none, errW_some] <;> rfl), by repeat (first | (with_reducible first | exact HB.out | apply below_alloc | apply pw_below_drewN | apply below_drew1) | exact HB.out)⟩
            · replace c20 := Bool.eq_false_iff.mpr c20
              subst c20
              have H1 : (some false) = some r := by rw [if_neg (show ¬ (false = true) by decide)] at H; exact H
              clear H
              have H := H1
              clear H1
              obtain rfl := Option.some.inj H
              go_wp2_with (first | ((with_reducible refine gate_callee (f := 39) rfl ?_); refine goesL_ (some 44) rfl rfl Try.func39 (by kernel_rfl) rfl #[.slice A1 l1.length c1] rfl (by (try simp only [List.map_toArray, List.map_cons, List.map_nil]); first | done | rfl | (simp only [List.length_drop, List.length_take]; rfl)) ?_; (with_reducible refine (laws_toStringS.calls kj9 _ _ l1 t379 _ ?side1 ?side2 A18.out).mono ?_); (case side1 => repeat (first | exact (Kd.C_below HR1.out HB.out) | (with_reducible refine Kd.C_alloc ?_ _) | (with_reducible refine Kd.C_drewN ?_ _) | (with_reducible refine Kd.C_drew ?_))); (case side2 => exact HC1.out); rintro e w23 ⟨v380, rfl, ho0, hb⟩; refine ⟨_, rfl, ?_⟩; have n0_ := Aside0.mk (Kd.R_elder' (by (with_reducible repeat (first | apply Kd.R_alloc | apply Kd.R_drewN | apply Kd.R_drew)); exact HO_8.out) (Kd.R_base ho0) hb); have n1_ := Aside0.mk (Kd.R_lower (Kd.R_new' ho0 (Kd.R_lt (by (with_reducible repeat (first | apply Kd.R_alloc | apply Kd.R_drewN | apply Kd.R_drew)); exact HO_8.out))) (below_size (by repeat (first | (with_reducible first | exact HB.out | apply below_alloc | apply pw_below_drewN | apply below_drew1) | exact HB.out)))); have n2_ := Aside0.mk (below_step (by repeat (first | (with_reducible first | exact HB.out | apply below_alloc | apply pw_below_drewN | apply below_drew1) | exact HB.out)) hb); clear HO_8; clear HB; have HO_8 := n0_; have HO381 := n1_; have HB := n2_; clear n0_ n1_ n2_; (try clear hb); (try clear hb2); (try clear hk); (try clear hi); (try clear ho0); obtain ⟨Ao24, co24, eo24⟩ := Kd.R_slice HO381.out; subst eo24) | ((with_reducible refine gate_callee (f := 34) rfl ?_); refine goesL_ (some 45) rfl rfl Try.func34 (by kernel_rfl) rfl #[.slice Ao14 t374.length co14, .slice Ao24 t379.length co24] rfl (by (try simp only [List.map_toArray, List.map_cons, List.map_nil]); first | done | rfl | (simp only [List.length_drop, List.length_take]; rfl)) ?_; (with_reducible refine (laws_eqStringS.calls kj9 _ _ t374 _ _ t379 false _ ?side1 ?side2 ?side3 ?side4 A19.out).mono ?_); (case side1 => repeat (first | exact (Kd.R_reads' HO_8.out).2.2 | (with_reducible refine Kd.C_alloc ?_ _) | (with_reducible refine Kd.C_drewN ?_ _) | (with_reducible refine Kd.C_drew ?_))); (case side2 => exact (Kd.R_reads' HO_8.out).2.1); (case side3 => repeat (first | exact (Kd.R_reads' HO381.out).2.2 | (with_reducible refine Kd.C_alloc ?_ _) | (with_reducible refine Kd.C_drewN ?_ _) | (with_reducible refine Kd.C_drew ?_))); (case side4 => exact (Kd.R_reads' HO381.out).2.1); rintro e w' ⟨rfl, ⟨nd, rfl⟩⟩; refine ⟨_, rfl, ?_⟩))
              go_ret
              exact ⟨by first | rfl | (simp [errW_none, errW_some] <;> rfl) | (simp [*, errW_none, errW_some] <;> rfl), by repeat (first | (with_reducible first | exact HB.out | apply below_alloc | apply pw_below_drewN | apply below_drew1) | exact HB.out)⟩

end Go.Proofs.Ytdlnjbaldfdnpaa.P
