/- The pure statement of the law FnExactClassRow: the functions that the program's text comes to answer true at every input. -/
import Derived.Test.YtmfkmkjgeibpnaaPx2
import Derived.Test.YtmfkmkjgeibpnaaPx4
import Derived.Test.YtmfkmkjgeibpnaaPx6
import Derived.Test.YtmfkmkjgeibpnaaPx18
import Derived.Test.YtmfkmkjgeibpnaaPx19
import Derived.Test.YtmfkmkjgeibpnaaPx20
import Derived.Test.YtmfkmkjgeibpnaaPx22
import Derived.Test.YtmfkmkjgeibpnaaLBase
import Derived.Test.YtmfkmkjgeibpnaaLClass
import Derived.Test.YtmfkmkjgeibpnaaLLists
namespace Go.Proofs.Ytmfkmkjgeibpnaa.Pure
open Go.RowKit Go.Proofs.Ytmfkmkjgeibpnaa.P Go.Proofs.YtmfkmkjgeibpnaaW.PrintWords Go.Proofs.YtmfkmkjgeibpnaaW.PrintLast Go.Proofs.YtmfkmkjgeibpnaaW.PrintMore
set_option linter.unusedVariables false
set_option linter.unusedSimpArgs false
def one (x : Bool) : Int := if x = true then 1 else 0
def rowL (n b i : Nat) : List Int := (List.range i).map fun c => one (M.cls n b c)
theorem rowL_succ (n b i : Nat) : rowL n b (i + 1) = rowL n b i ++ [one (M.cls n b i)] := by simp [rowL, List.range_succ]
theorem rowL_len (n b i : Nat) : (rowL n b i).length = i := by simp [rowL]
theorem row_loops (n b : Nat) (hn : n ≤ 4) (hb : b < 2 ^ 2 ^ n) (d : Nat) : ∀ (k i : Nat), i + d = 5 → d + 210 ≤ k →
    spec_ClassRow.l0 k (rowL n b i) (i : Int) (n : Int) (b : Int) = some (rowL n b 5, 0) ∧ impl_ClassRow.l0 k (rowL n b i) (i : Int) (n : Int) (b : Int) = some (rowL n b 5, 0) := by
  have hb6 : b < 2 ^ 62 := Nat.lt_trans (M.bits_lt hn hb) (by decide)
  induction d with
  | zero =>
    intro k i hi hk
    obtain ⟨k, rfl⟩ : ∃ m, k = m + 1 := ⟨k - 1, by omega⟩
    obtain rfl : i = 5 := by omega
    simp only [spec_ClassRow.l0, impl_ClassRow.l0]
    rw [if_neg (by omega), if_neg (by omega)]
    exact ⟨rfl, rfl⟩
  | succ d ih =>
    intro k i hi hk
    obtain ⟨k, rfl⟩ : ∃ m, k = m + 1 := ⟨k - 1, by omega⟩
    have hl := rowL_len n b i
    have step := ih k (i + 1) (by omega) (by omega)
    rw [rowL_succ] at step
    have e1 := M.w64_in ((i : Int) + 1) (by omega) (by omega)
    constructor
    · simp only [spec_ClassRow.l0]
      rw [if_pos (by omega), sin_eq n b i hn hb6 (by omega) k (by omega), e1]
      clear e1
      simp only [Option.bind_some]
      by_cases h : M.cls n b i = true
      · rw [h] at step
        rw [if_pos h, if_pos (by omega)]
        exact step.1
      · simp only [Bool.not_eq_true] at h
        rw [h] at step ⊢
        rw [if_neg (by simp), if_pos (by omega)]
        exact step.1
    · simp only [impl_ClassRow.l0]
      rw [if_pos (by omega), iin_eq n b i hn hb (by omega) k (by omega), e1]
      clear e1
      simp only [Option.bind_some, impl_one.f]
      by_cases h : M.cls n b i = true
      · rw [h] at step
        rw [if_pos h]
        simp only [Option.bind_some]
        rw [if_pos (by omega)]
        exact step.2
      · simp only [Bool.not_eq_true] at h
        rw [h] at step ⊢
        rw [if_neg (by simp)]
        simp only [Option.bind_some]
        rw [if_pos (by omega)]
        exact step.2
theorem row_both (n b : Int) : ∃ l c, spec_ClassRow.f 300 n b = some (l, c) ∧ impl_ClassRow.f 300 n b = some (l, c) ∧ impl_ClassRow.f 299 n b = some (l, c) ∧ l.length ≤ 16 := by
  unfold spec_ClassRow.f impl_ClassRow.f
  rw [is_eq, isFunc_eq]
  simp only [Option.bind_some]
  by_cases hv : M.valid n b = true
  · rw [if_pos hv, if_pos hv, if_pos hv]
    obtain ⟨m, c, hm, hc, rfl, rfl⟩ := (M.valid_iff _ _).1 hv
    obtain ⟨e1, e2⟩ := row_loops m c hm hc 5 300 0 (by omega) (by omega)
    obtain ⟨_, e3⟩ := row_loops m c hm hc 5 299 0 (by omega) (by omega)
    have z : rowL m c 0 = [] := by simp [rowL]
    rw [z, Int.natCast_zero] at e1 e2 e3
    rw [e1, e2, e3]
    exact ⟨_, _, rfl, rfl, rfl, by rw [rowL_len]; omega⟩
  · rw [if_neg hv, if_neg hv, if_neg hv]
    exact ⟨_, _, rfl, rfl, rfl, by simp⟩
theorem FnExactClassRow : ∀ (a0_0 : Int) (a0_1 : Int), (Lit.int .i64 a0_0).wf = true → (Lit.int .i64 a0_1).wf = true → ∃ k, laws_FnExactClassRow.f k a0_0 a0_1 = some true := by
  intro n b _ _
  obtain ⟨l, c, h1, h2, h3, hl⟩ := row_both n b
  refine ⟨300, ?_⟩
  unfold laws_FnExactClassRow.f laws_toFunc.f
  simp only [Option.bind_some]
  rw [h1, h2]
  simp only [Option.bind_some]
  rw [eqL_self l (by omega) 300 (by omega)]
  simp only [Option.bind_some, if_true, bne_self_eq_false]
  simp only [laws_FnExactClassRow.j0, laws_toFunc.f, Option.bind_some]
  rw [if_neg (by simp), mark_eq l (by omega) 299 (by omega)]
  simp only [Option.bind_some]
  rw [held_eq _ (by omega) 299 (by omega)]
  rw [Option.bind_some, if_neg (by omega), if_pos rfl, h3]
  simp only [Option.bind_some]
  rw [eqL_self l (by omega) 299 (by omega)]
  simp only [Option.bind_some, if_true, bne_self_eq_false]
  simp only [laws_FnExactClassRow.j1]
  rw [if_neg (by simp), held_eq _ (by omega) 298 (by omega)]
  rw [Option.bind_some, if_neg (by omega), if_pos rfl]

end Go.Proofs.Ytmfkmkjgeibpnaa.Pure
