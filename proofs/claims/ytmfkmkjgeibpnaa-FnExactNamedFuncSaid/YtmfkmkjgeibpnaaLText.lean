/- The text of a function, as both programs make it: the same bytes. -/
import Derived.Test.YtmfkmkjgeibpnaaPx0
import Derived.Test.YtmfkmkjgeibpnaaPx1
import Derived.Test.YtmfkmkjgeibpnaaPx2
import Derived.Test.YtmfkmkjgeibpnaaPx17
import Derived.Test.YtmfkmkjgeibpnaaLBase
namespace Go.Proofs.Ytmfkmkjgeibpnaa.Pure
open Go.RowKit Go.Proofs.Ytmfkmkjgeibpnaa.P Go.Proofs.YtmfkmkjgeibpnaaW.PrintWords Go.Proofs.YtmfkmkjgeibpnaaW.PrintLast Go.Proofs.YtmfkmkjgeibpnaaW.PrintMore
set_option linter.unusedVariables false
set_option linter.unusedSimpArgs false
theorem str_app (xs ys : List Int) : strOfNums xs ++ strOfNums ys = strOfNums (xs ++ ys) := by
  apply ByteArray.ext
  rw [ByteArray.data_append]
  simp [strOfNums]
/-- The text's bytes up to a row. -/
def tl (n b r : Nat) : List Int := [48 + (n : Int), 58] ++ (List.range r).map fun q => 48 + ((M.atN b q : Nat) : Int)
theorem tl_succ (n b r : Nat) : tl n b (r + 1) = tl n b r ++ [48 + ((M.atN b r : Nat) : Int)] := by simp [tl, List.range_succ]
theorem tl_length (n b r : Nat) : (tl n b r).length = 2 + r := by simp [tl]; omega
theorem itext_loop (n b : Nat) (hn : n ≤ 4) (hb : b < 2 ^ 62) (d : Nat) : ∀ (k r : Nat), r + d = 2 ^ n → d < k →
    impl_Func_text.l0 k (tl n b r) ((2 ^ n : Nat) : Int) (r : Int) (n : Int) (b : Int) = some (strOfNums (tl n b (2 ^ n))) := by
  have h16 := M.pow_le16 hn
  induction d with
  | zero =>
    intro k r hr hk
    obtain ⟨k, rfl⟩ : ∃ m, k = m + 1 := ⟨k - 1, by omega⟩
    obtain rfl : r = 2 ^ n := by omega
    simp only [impl_Func_text.l0]
    rw [if_neg (by omega)]
  | succ d ih =>
    intro k r hr hk
    obtain ⟨k, rfl⟩ : ∃ m, k = m + 1 := ⟨k - 1, by omega⟩
    have h2 := M.atN_le b r
    simp only [impl_Func_text.l0]
    rw [if_pos (by omega), Func_at_eq (n : Int) b r hb (by omega)]
    simp only [Option.bind_some]
    rw [if_pos (by rw [tl_length]; omega), M.w64_in ((r : Int) + 1) (by omega) (by omega), show (48 + ((M.atN b r : Nat) : Int)) % 256 = 48 + ((M.atN b r : Nat) : Int) from by omega, ← tl_succ]
    exact ih k (r + 1) (by omega) (by omega)
theorem itext_eq (n b : Nat) (hn : n ≤ 4) (hb : b < 2 ^ 62) (k : Nat) (hk : 30 ≤ k) : impl_Func_text.f k (n : Int) (b : Int) = some (strOfNums (tl n b (2 ^ n))) := by
  have h16 := M.pow_le16 hn
  unfold impl_Func_text.f
  rw [Func_rows_eq n _ hn]
  simp only [Option.bind_some]
  rw [show (48 + (n : Int)) % 256 = 48 + (n : Int) from by omega]
  exact itext_loop n b hn hb (2 ^ n) k 0 (by omega) (by omega)
end Go.Proofs.Ytmfkmkjgeibpnaa.Pure
