/- The pure statement of the law FnExactNameOf: the functions that the program's text comes to answer true at every input. -/
import Derived.Test.YtapceiflmkmoeaaPx2
import Derived.Test.YtapceiflmkmoeaaPx14
import Derived.Test.YtapceiflmkmoeaaPx17
import Derived.Test.YtapceiflmkmoeaaLBase
import Derived.Test.YtapceiflmkmoeaaLText
namespace Go.Proofs.Ytapceiflmkmoeaa.Pure
open Go.RowKit Go.Proofs.Ytapceiflmkmoeaa.P Go.Proofs.YtapceiflmkmoeaaW.PrintWords Go.Proofs.YtapceiflmkmoeaaW.PrintLast Go.Proofs.YtapceiflmkmoeaaW.PrintMore
set_option linter.unusedVariables false
set_option linter.unusedSimpArgs false
theorem name_loops (n b : Nat) (hn : n ≤ 4) (hb : b < 2 ^ 62) (x4 x5 : List ByteArray) (x9 : List S61) (hl4 : x4.length = x9.length) (hl5 : x5.length = x9.length) (hlen : x9.length ≤ 20)
    (h4 : ∀ j, j < x9.length → rdOf ByteArray.empty x4 (j : Int) = (rd_T61 x9 (j : Int)).f0) (h5 : ∀ j, j < x9.length → rdOf ByteArray.empty x5 (j : Int) = (rd_T61 x9 (j : Int)).f1) (d : Nat) : ∀ (k r : Nat), r + d = x9.length → d + 31 ≤ k →
    ∃ q, spec_NameOf.l0 k x4 x5 (r : Int) (n : Int) (b : Int) = some q ∧ impl_NameOf.l0 k x9 (x9.length : Int) (r : Int) (n : Int) (b : Int) = some q := by
  induction d with
  | zero =>
    intro k r hr hk
    obtain ⟨k, rfl⟩ : ∃ m, k = m + 1 := ⟨k - 1, by omega⟩
    simp only [spec_NameOf.l0, impl_NameOf.l0]
    rw [if_neg (by omega), if_neg (by omega)]
    exact ⟨_, rfl, rfl⟩
  | succ d ih =>
    intro k r hr hk
    obtain ⟨k, rfl⟩ : ∃ m, k = m + 1 := ⟨k - 1, by omega⟩
    simp only [spec_NameOf.l0, impl_NameOf.l0]
    rw [if_pos (by omega), if_pos (by omega), if_pos (by omega), if_pos (by omega), if_pos (by omega), if_pos (by omega), text_eq n b hn hb k (by omega), itext_eq n b hn hb k (by omega)]
    simp only [Option.bind_some]
    rw [h4 r (by omega), h5 r (by omega)]
    by_cases e : (rd_T61 x9 (r : Int)).f1.toList = (strOfNums (tl n b (2 ^ n))).toList
    · rw [if_pos e, if_pos e]
      exact ⟨_, rfl, rfl⟩
    · rw [if_neg e, if_neg e, M.w64_in ((r : Int) + 1) (by omega) (by omega)]
      exact ih k (r + 1) (by omega) (by omega)
theorem FnExactNameOf : ∀ (a0_0 : Int) (a0_1 : Int), (Lit.int .i64 a0_0).wf = true → (Lit.int .i64 a0_1).wf = true → ∃ k, laws_FnExactNameOf.f k a0_0 a0_1 = some true := by
  intro n b _ _
  have e : ∃ r, spec_NameOf.f 100 n b = some r ∧ impl_NameOf.f 100 n b = some r := by
    unfold spec_NameOf.f impl_NameOf.f
    rw [is_eq, isFunc_eq]
    simp only [Option.bind_some]
    by_cases hv : M.valid n b = true
    · rw [if_pos hv, if_pos hv]
      obtain ⟨m, c, hm, hc, rfl, rfl⟩ := (M.valid_iff _ _).1 hv
      have hc6 : c < 2 ^ 62 := Nat.lt_trans (M.bits_lt hm hc) (by decide)
      unfold spec_l01Names.f spec_l01Known.f impl_names.f
      simp only [Option.bind_some]
      refine name_loops m c hm hc6 _ _ _ rfl rfl (by decide) ?_ ?_ 14 100 0 rfl (by omega)
      · intro j hj
        have hj : j < 14 := hj
        have : j = 0 ∨ j = 1 ∨ j = 2 ∨ j = 3 ∨ j = 4 ∨ j = 5 ∨ j = 6 ∨ j = 7 ∨ j = 8 ∨ j = 9 ∨ j = 10 ∨ j = 11 ∨ j = 12 ∨ j = 13 := by omega
        rcases this with rfl | rfl | rfl | rfl | rfl | rfl | rfl | rfl | rfl | rfl | rfl | rfl | rfl | rfl <;> rfl
      · intro j hj
        have hj : j < 14 := hj
        have : j = 0 ∨ j = 1 ∨ j = 2 ∨ j = 3 ∨ j = 4 ∨ j = 5 ∨ j = 6 ∨ j = 7 ∨ j = 8 ∨ j = 9 ∨ j = 10 ∨ j = 11 ∨ j = 12 ∨ j = 13 := by omega
        rcases this with rfl | rfl | rfl | rfl | rfl | rfl | rfl | rfl | rfl | rfl | rfl | rfl | rfl | rfl <;> rfl
    · rw [if_neg hv, if_neg hv]
      exact ⟨_, rfl, rfl⟩
  obtain ⟨⟨r1, r2⟩, h1, h2⟩ := e
  refine ⟨100, ?_⟩
  unfold laws_FnExactNameOf.f laws_toFunc.f
  simp only [Option.bind_some]
  rw [h1, h2]
  simp

end Go.Proofs.Ytapceiflmkmoeaa.Pure
