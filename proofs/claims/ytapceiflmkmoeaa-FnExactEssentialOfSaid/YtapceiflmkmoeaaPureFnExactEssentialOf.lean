/- The pure statement of the law FnExactEssentialOf: the functions that the program's text comes to answer true at every input. -/
import Derived.Test.YtapceiflmkmoeaaPx2
import Derived.Test.YtapceiflmkmoeaaPx3
import Derived.Test.YtapceiflmkmoeaaPx4
import Derived.Test.YtapceiflmkmoeaaPx6
import Derived.Test.YtapceiflmkmoeaaPx19
import Derived.Test.YtapceiflmkmoeaaPx20
import Derived.Test.YtapceiflmkmoeaaPx21
import Derived.Test.YtapceiflmkmoeaaLBase
import Derived.Test.YtapceiflmkmoeaaLFix
import Derived.Test.YtapceiflmkmoeaaLLists
namespace Go.Proofs.Ytapceiflmkmoeaa.Pure
open Go.RowKit Go.Proofs.Ytapceiflmkmoeaa.P Go.Proofs.YtapceiflmkmoeaaW.PrintWords Go.Proofs.YtapceiflmkmoeaaW.PrintLast Go.Proofs.YtapceiflmkmoeaaW.PrintMore
set_option linter.unusedVariables false
set_option linter.unusedSimpArgs false
/-- The essential variables below i. -/
def essL (n b i : Nat) : List Int := ((List.range i).filter (fun q => M.ess n b q)).map fun (q : Nat) => (q : Int)
theorem essL_succ (n b i : Nat) : essL n b (i + 1) = if M.ess n b i = true then essL n b i ++ [(i : Int)] else essL n b i := by
  unfold essL
  rw [List.range_succ, List.filter_append, List.map_append]
  by_cases h : M.ess n b i = true <;> simp [h]
theorem essL_len (n b i : Nat) : (essL n b i).length ≤ i := by
  unfold essL
  rw [List.length_map]
  exact Nat.le_trans (List.length_filter_le _ _) (by simp)
theorem sess_loop (n b : Nat) (hn : n ≤ 4) (hb : b < 2 ^ 62) (d : Nat) : ∀ (k i : Nat), i + d = n → d + 60 ≤ k →
    spec_l01Essential.l0 k (essL n b i) (i : Int) (n : Int) (b : Int) = some (essL n b n) ∧ impl_Func_essential.l0 k (essL n b i) (n : Int) (i : Int) (n : Int) (b : Int) = some (essL n b n) := by
  induction d with
  | zero =>
    intro k i hi hk
    obtain ⟨k, rfl⟩ : ∃ m, k = m + 1 := ⟨k - 1, by omega⟩
    obtain rfl : i = n := by omega
    simp only [spec_l01Essential.l0, impl_Func_essential.l0]
    rw [if_neg (by omega), if_neg (by omega)]
    exact ⟨rfl, rfl⟩
  | succ d ih =>
    intro k i hi hk
    obtain ⟨k, rfl⟩ : ∃ m, k = m + 1 := ⟨k - 1, by omega⟩
    have hl := essL_len n b i
    have f0 := fix_eq n b i 0 hn (by omega) (by omega) hb k (by omega)
    have f1 := fix_eq n b i 1 hn (by omega) (by omega) hb k (by omega)
    rw [Int.natCast_zero] at f0
    rw [Int.natCast_one] at f1
    have hw : wrap64 ((i : Int) + 1) = ((i + 1 : Nat) : Int) := by rw [M.w64_in _ (by omega) (by omega)]; rfl
    have step := ih k (i + 1) (by omega) (by omega)
    rw [essL_succ] at step
    have hcond : (!((((n - 1 : Nat) : Int)) == (((n - 1 : Nat) : Int))) || !(((M.fixN n b i 0 : Nat) : Int) == ((M.fixN n b i 1 : Nat) : Int))) = M.ess n b i := by
      unfold M.ess
      by_cases h : M.fixN n b i 0 = M.fixN n b i 1
      · simp [h]
      · have h2 : ¬ ((M.fixN n b i 0 : Nat) : Int) = ((M.fixN n b i 1 : Nat) : Int) := by omega
        simp [h, h2]
    constructor
    · simp only [spec_l01Essential.l0]
      rw [if_pos (by omega), f0, f1]
      simp only [Option.bind_some]
      rw [hcond, hw]
      by_cases h : M.ess n b i = true
      · rw [if_pos h] at step
        rw [if_pos h, if_pos (by omega)]
        exact step.1
      · rw [if_neg h] at step
        rw [if_neg h]
        exact step.1
    · simp only [impl_Func_essential.l0]
      rw [if_pos (by omega), iess_eq n b i hn (by omega) hb k (by omega)]
      simp only [Option.bind_some]
      rw [hw]
      by_cases h : M.ess n b i = true
      · rw [if_pos h] at step
        rw [if_pos h, if_pos (by omega)]
        exact step.2
      · rw [if_neg h] at step
        rw [if_neg h]
        exact step.2
theorem ess_both (n b : Int) : ∃ l c, spec_EssentialOf.f 100 n b = some (l, c) ∧ impl_EssentialOf.f 100 n b = some (l, c) ∧ impl_EssentialOf.f 99 n b = some (l, c) ∧ l.length ≤ 4 := by
  unfold spec_EssentialOf.f impl_EssentialOf.f
  rw [is_eq, isFunc_eq]
  simp only [Option.bind_some]
  by_cases hv : M.valid n b = true
  · rw [if_pos hv, if_pos hv, if_pos hv]
    obtain ⟨m, c, hm, hc, rfl, rfl⟩ := (M.valid_iff _ _).1 hv
    have hc6 : c < 2 ^ 62 := Nat.lt_trans (M.bits_lt hm hc) (by decide)
    unfold spec_l01Essential.f impl_Func_essential.f
    obtain ⟨e1, e2⟩ := sess_loop m c hm hc6 m 100 0 (by omega) (by omega)
    obtain ⟨_, e3⟩ := sess_loop m c hm hc6 m 99 0 (by omega) (by omega)
    have z : essL m c 0 = [] := by simp [essL]
    rw [z, Int.natCast_zero] at e1 e2 e3
    rw [e1, e2, e3]
    exact ⟨_, _, rfl, rfl, rfl, Nat.le_trans (essL_len m c m) hm⟩
  · rw [if_neg hv, if_neg hv, if_neg hv]
    exact ⟨_, _, rfl, rfl, rfl, by simp⟩
theorem FnExactEssentialOf : ∀ (a0_0 : Int) (a0_1 : Int), (Lit.int .i64 a0_0).wf = true → (Lit.int .i64 a0_1).wf = true → ∃ k, laws_FnExactEssentialOf.f k a0_0 a0_1 = some true := by
  intro n b _ _
  obtain ⟨l, c, h1, h2, h3, hl⟩ := ess_both n b
  refine ⟨100, ?_⟩
  unfold laws_FnExactEssentialOf.f laws_toFunc.f
  simp only [Option.bind_some]
  rw [h1, h2]
  simp only [Option.bind_some]
  rw [eqL_self l (by omega) 100 (by omega)]
  simp only [Option.bind_some, if_true, bne_self_eq_false]
  simp only [laws_FnExactEssentialOf.j0, laws_toFunc.f, Option.bind_some]
  rw [if_neg (by simp), mark_eq l (by omega) 99 (by omega)]
  simp only [Option.bind_some]
  rw [held_eq _ (by omega) 99 (by omega)]
  rw [Option.bind_some, if_neg (by omega), if_pos rfl, h3]
  simp only [Option.bind_some]
  rw [eqL_self l (by omega) 99 (by omega)]
  simp only [Option.bind_some, if_true, bne_self_eq_false]
  simp only [laws_FnExactEssentialOf.j1]
  rw [if_neg (by simp), held_eq _ (by omega) 98 (by omega)]
  rw [Option.bind_some, if_neg (by omega), if_pos rfl]

end Go.Proofs.Ytapceiflmkmoeaa.Pure
