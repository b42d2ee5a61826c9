/- Functions of the given program and their contracts, written by a program of this session (gen.py) over the kit's print. -/
import Derived.Test.YtdhfbgbclibagaaROx0
import Derived.Test.YtdhfbgbclibagaaROx2
import Derived.Test.YtdhfbgbclibagaaROx3
namespace Go.Proofs.Ytdhfbgbclibagaa.P
open Go.RowKit Go.Proofs.YtdhfbgbclibagaaW.PrintWords Go.Proofs.YtdhfbgbclibagaaW.PrintLast Go.Proofs.YtdhfbgbclibagaaW.PrintMore
attribute [local go_sem] max2_int min2_int max_two min_two max_three min_three max_four min_four   -- for this text's walks alone
set_option linter.unusedVariables false
set_option linter.unusedSimpArgs false
/-- What is asked of a predicate on the functions of a list. -/
def GivesFn (g : Nat) (lb : Array Value) (l : List (Int × Int)) (p : Int × Int → Bool) (w : World) : Prop :=
  ∀ (W : World) (x : Int × Int), x ∈ l → Below w.heap.size w W →
    Calls Try.prog g (#[.agg #[.int .i64 x.1, .int .i64 x.2]] ++ lb) W fun e W' => e = .returned (.bool (p x)) ∧ Below W.heap.size W W'
/-- The functions that lie in memory behind an address. -/
def FnsIn (w : World) (A : Option Addr) (l : List (Int × Int)) : Prop :=
  ∀ i : Nat, i < l.length → ∃ ad, A = some ad ∧ w.cell? (ad.add (i * 2)) = some (.int .i64 (l.getD i (0, 0)).1) ∧ w.cell? ⟨(ad.add (i * 2)).block, (ad.add (i * 2)).off + 1, none⟩ = some (.int .i64 (l.getD i (0, 0)).2)
/-- A number that is at least 0 if, and only if, b. -/
def SomeIdxFn (b : Bool) (w : World) (e : Ending) (w' : World) : Prop := ∃ q : Int, e = .returned (.int .i64 q) ∧ decide (0 ≤ q) = b ∧ Below w.heap.size w w'
theorem getD_mem {α : Type} (l : List α) (d : α) (k : Nat) (hk : k < l.length) : l.getD k d ∈ l := by
  rw [List.getD_eq_getElem?_getD, List.getElem?_eq_getElem hk]
  exact List.getElem_mem hk
theorem anyF_hit {α : Type} (p : α → Bool) (l : List α) (d : α) (k : Nat) (hk : k < l.length) (h : p (l.getD k d) = true) : l.any p = true := by
  rw [List.any_eq_true]
  refine ⟨l.getD k d, ?_, h⟩
  rw [List.getD_eq_getElem?_getD, List.getElem?_eq_getElem hk]
  exact List.getElem_mem hk
theorem anyF_miss {α : Type} (p : α → Bool) (l : List α) (d : α) (h : ∀ j, j < l.length → p (l.getD j d) = false) : l.any p = false := by
  rw [List.any_eq_false]
  intro x hx
  obtain ⟨j, hj, rfl⟩ := List.getElem_of_mem hx
  have := h j hj
  rw [List.getD_eq_getElem?_getD, List.getElem?_eq_getElem hj] at this
  simpa using this
set_option maxHeartbeats 8000000 in
set_option maxRecDepth 100000 in
theorem slices_IndexFunc_fns.calls (g : Nat) (lb : Array Value) (eg : ∀ args w, (callFunc g args).run Try.prog w = .ok (.enter g args) w) (p : Int × Int → Bool) (A0 : Option Addr) (c0 : Nat) (l : List (Int × Int)) (hl : l.length ≤ 4611686018427387904) (w : World) (hr : FnsIn w A0 l) (hp : GivesFn g lb l p w) :
    Calls Try.prog 137 #[.slice A0 l.length c0, .func (.func g) #[] lb] w (SomeIdxFn (l.any p) w) := by
  have HR := Aside0.mk hr
  have HP := Aside0.mk hp
  have HLL := Aside0.mk hl
  generalize hln : l.length = n
  have HN := Aside0.mk hln
  clear hr hp hl hln
  go_enter Try.func137, Try.ntmps137
  go_wp2
  go_loopg [8] (n + 1) (fun gg v8 wr => ∃ k : Nat, v8 = .int .i64 (k : Int) ∧ Aside0 (k ≤ n) ∧ Aside0 (n - k < gg) ∧ Aside0 (∀ j, j < k → p (l.getD j (0, 0)) = false) ∧ Aside0 (Below w.heap.size w wr))
  case atStart => exact ⟨0, rfl, ⟨by omega⟩, ⟨by omega⟩, ⟨fun j hj => by omega⟩, ⟨Below.refl _ _⟩⟩
  case round =>
    obtain ⟨k, rfl, HK1, HK2, HF, HB⟩ := hrel
    by_cases hlt : k < n
    · have hlti : decide (k < n) = true := by simpa using hlt
      have HL := Aside0.mk hlt
      clear hlt
      obtain ⟨ad, rfl, hx0, hx1⟩ := HR.out k (by rw [HN.out]; exact HL.out)
      have hx := (HB.out.cell (World.block_lt_of_cell? w _ hx0)).trans hx0
      have hxx := (HB.out.cell (World.block_lt_of_cell? w _ hx1)).trans hx1
      clear hx0 hx1
      have hk0 : 0 ≤ (k : Int) := by omega
      have hk1 : (k : Int) < (n : Int) := by have := HL.out; omega
      have hk2 : k < n := HL.out
      have HM := aa (getD_mem l (0, 0) k (by rw [HN.out]; exact HL.out))
      generalize hy : l.getD k (0, 0) = y at hx hxx HM
      have HY := Aside0.mk hy
      clear hy
      cases hq : p y with
      | true =>
        have HQ := Aside0.mk hq
        have HC := aa (HP.out wr y HM.out HB.out)
        rw [hq] at HC
        clear hq
        go_wp2_with (((with_reducible refine HC.out.mono ?_); rintro e w1 ⟨rfl, hb⟩))
        go_ret
        refine ⟨_, rfl, ?_, below_step HB.out hb⟩
        rw [anyF_hit p l (0, 0) k (by rw [HN.out]; exact HL.out) (by rw [HY.out]; exact HQ.out)]
        simp
      | false =>
        have HQ := Aside0.mk hq
        have HC := aa (HP.out wr y HM.out HB.out)
        rw [hq] at HC
        clear hq
        go_wp2_with (((with_reducible refine HC.out.mono ?_); rintro e w1 ⟨rfl, hb⟩))
        go_roundg (n - k)
        case measure => have := HK2.out; omega
        case rel =>
          have hl := HL.out
          have hll := HLL.out
          have hnn := HN.out
          refine ⟨k + 1, by rw [M.w64_in _ (by omega) (by omega)]; rfl, ⟨by omega⟩, ⟨by omega⟩, ⟨fun j hj => ?_⟩, ⟨below_step HB.out hb⟩⟩
          by_cases e : j = k
          · subst e
            rw [HY.out]; exact HQ.out
          · exact HF.out j (by omega)
    · have hlti : decide (k < n) = false := by simpa using hlt
      have HE : Aside0 (k = n) := ⟨by have := HK1.out; omega⟩
      clear hlt
      go_wp2
      go_ret
      refine ⟨_, rfl, ?_, HB.out⟩
      rw [anyF_miss p l (0, 0) (fun j hj => HF.out j (by rw [HE.out, ← HN.out]; exact hj))]
      rfl
set_option maxHeartbeats 8000000 in
set_option maxRecDepth 100000 in
theorem slices_ContainsFunc_fns.calls (g : Nat) (lb : Array Value) (eg : ∀ args w, (callFunc g args).run Try.prog w = .ok (.enter g args) w) (p : Int × Int → Bool) (A0 : Option Addr) (c0 : Nat) (l : List (Int × Int)) (hl : l.length ≤ 4611686018427387904) (w : World) (hr : FnsIn w A0 l) (hp : GivesFn g lb l p w) :
    Calls Try.prog 134 #[.slice A0 l.length c0, .func (.func g) #[] lb] w fun e w' => e = .returned (.bool (l.any p)) ∧ Below w.heap.size w w' := by
  have HC := aa (slices_IndexFunc_fns.calls g lb eg p A0 c0 l hl w hr hp)
  clear hr hp hl
  go_enter Try.func134, Try.ntmps134
  go_wp2_with (go_at_call 137; (with_reducible refine HC.out.mono ?_); rintro e w1 ⟨q, rfl, hq, hb⟩; have HQ := Aside0.mk hq; have HB := Aside0.mk hb; clear hq hb)
  go_ret
  exact ⟨by rw [← HQ.out]; rfl, HB.out⟩
-- NOT PRINTED: function 135 (impl_areFuncs_1)
set_option maxHeartbeats 8000000 in
set_option maxRecDepth 100000 in
theorem areFuncs_lit (l : List (Int × Int)) (w : World) : GivesFn 135 #[] l (fun x => !(M.valid x.1 x.2)) w := by
  intro W x _ _
  have HC := aa (isFunc_some x.1 x.2)
  show Calls Try.prog 135 #[.agg #[.int .i64 x.1, .int .i64 x.2]] W _
  obtain ⟨n, c⟩ := x
  simp only at HC ⊢
  generalize hb : M.valid n c = b at HC ⊢
  have HV := Aside0.mk hb
  clear hb
  have HB0 := aa (below_alloc (Below.refl W.heap.size W) (.cells #[.int .i64 n, .int .i64 c] 27))
  go_enter Try.func135, Try.ntmps135
  go_wp2_with (go_at_call 57; (with_reducible refine (impl_IsFunc.calls _ _ _ _ HC.out).mono ?_); rintro e w1 ⟨rfl, hb⟩; have HB1 := aa (below_step HB0.out hb); clear hb)
  go_ret
  exact ⟨by rw [← HV.out]; rfl, HB1.out⟩
set_option maxHeartbeats 8000000 in
set_option maxRecDepth 100000 in
theorem areFuncs_fns.calls (A0 : Option Addr) (c0 : Nat) (l : List (Int × Int)) (hl : l.length ≤ 4611686018427387904) (w : World) (hr : FnsIn w A0 l) :
    Calls Try.prog 124 #[.slice A0 l.length c0] w fun e w' => e = .returned (.bool (l.all fun x => M.valid x.1 x.2)) ∧ Below w.heap.size w w' := by
  have HC := aa (slices_ContainsFunc_fns.calls 135 #[] (fun args w => enters_ Try.func135 (by kernel_rfl) rfl args w) (fun x => !(M.valid x.1 x.2)) A0 c0 l hl w hr (areFuncs_lit l w))
  have HV : Aside0 ((!(l.any fun x => !(M.valid x.1 x.2))) = l.all fun x => M.valid x.1 x.2) := ⟨by simp [List.all_eq_not_any_not]⟩
  generalize (l.any fun x => !(M.valid x.1 x.2)) = b at HC HV
  generalize (l.all fun x => M.valid x.1 x.2) = r at HV ⊢
  clear hl hr
  go_enter Try.func124, Try.ntmps124
  go_wp2_with (go_at_call 134; (with_reducible refine HC.out.mono ?_); rintro e w1 ⟨rfl, hb⟩)
  go_ret
  exact ⟨by rw [← HV.out]; rfl, hb⟩
end Go.Proofs.Ytdhfbgbclibagaa.P
