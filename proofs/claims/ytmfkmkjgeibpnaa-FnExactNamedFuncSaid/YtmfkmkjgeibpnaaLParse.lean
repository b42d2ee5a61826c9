/- Texts read as functions, by the reference and by the program: both take just the texts of functions. -/
import Derived.Test.YtmfkmkjgeibpnaaPx0
import Derived.Test.YtmfkmkjgeibpnaaPx1
import Derived.Test.YtmfkmkjgeibpnaaPx2
import Derived.Test.YtmfkmkjgeibpnaaPx3
import Derived.Test.YtmfkmkjgeibpnaaPx5
import Derived.Test.YtmfkmkjgeibpnaaPx17
import Derived.Test.YtmfkmkjgeibpnaaPx18
import Derived.Test.YtmfkmkjgeibpnaaLBase
import Derived.Test.YtmfkmkjgeibpnaaLOf
import Derived.Test.YtmfkmkjgeibpnaaLDigits
import Derived.Test.YtmfkmkjgeibpnaaLText
namespace Go.Proofs.Ytmfkmkjgeibpnaa.Pure
open Go.RowKit Go.Proofs.Ytmfkmkjgeibpnaa.P Go.Proofs.YtmfkmkjgeibpnaaW.PrintWords Go.Proofs.YtmfkmkjgeibpnaaW.PrintLast Go.Proofs.YtmfkmkjgeibpnaaW.PrintMore
set_option linter.unusedVariables false
set_option linter.unusedSimpArgs false
/-- The text of a function. -/
def IsText (s : ByteArray) : Prop := ∃ n b : Nat, n ≤ 4 ∧ b < 2 ^ 2 ^ n ∧ s = strOfNums (tl n b (2 ^ n))
theorem bt_get (s : ByteArray) (i : Nat) (h : i < s.size) : bt s (i : Int) = ((s.data.toList.getD i 0).toNat : Int) := by
  have h2 : i < s.data.size := h
  rw [← bt_at s (i : Int) (by rw [Int.toNat_natCast]; exact h)]
  simp only [Int.toNat_natCast, List.getD_eq_getElem?_getD, Array.getElem?_toList]
  rw [Array.getElem?_eq_getElem h2]
  rfl
theorem bt_str (xs : List Int) (i : Nat) (h : i < xs.length) (h0 : 0 ≤ xs[i]) (h1 : xs[i] < 256) : bt (strOfNums xs) (i : Int) = xs[i] := by
  rw [bt_get _ _ (by rw [strOfNums_size]; exact h), strOfNums_data, List.getD_eq_getElem?_getD, List.getElem?_map, List.getElem?_eq_getElem h]
  simp only [Option.map_some, Option.getD_some]
  rw [UInt8.toNat_ofNat']
  omega
theorem str_of_bt (s : ByteArray) : s = strOfNums ((List.range s.size).map fun i : Nat => bt s (i : Int)) := by
  apply ByteArray.ext
  apply Array.ext'
  rw [strOfNums_data, List.map_map]
  apply List.ext_getElem
  · simp
  · intro i h1 h2
    have h : i < s.size := by simpa using h2
    simp only [List.getElem_map, List.getElem_range, Function.comp]
    rw [bt_get s i h, Int.toNat_natCast, List.getD_eq_getElem?_getD, List.getElem?_eq_getElem h1]
    simp
theorem indexByte_lt (l : List UInt8) (c : UInt8) : Lib.indexByte l c < l.length ∧ -1 ≤ Lib.indexByte l c := by
  induction l with
  | nil => simp [Lib.indexByte]
  | cons b l ih =>
    unfold Lib.indexByte
    simp only [List.length_cons]
    split
    · omega
    · split
      · omega
      · omega
theorem fin_no (x0 : ByteArray) (hno : ¬ IsText x0) (k : Nat) (hk : 30 ≤ k) (n c : Int) :
    ((impl_IsFunc.f n c).bind fun t395 => (if t395 = true then ((impl_Func_text.f k n c).bind fun t396 => (if t396.toList = x0.toList then (some (n, c, true)) else (some (0, 0, false)))) else (some (0, 0, false)))) = some (0, 0, false) := by
  rw [isFunc_eq, Option.bind_some]
  by_cases hv : M.valid n c = true
  · rw [if_pos hv]
    obtain ⟨m, b, hm, hb, rfl, rfl⟩ := (M.valid_iff _ _).1 hv
    have hb6 : b < 2 ^ 62 := Nat.lt_trans (M.bits_lt hm hb) (by decide)
    rw [itext_eq m b hm hb6 k hk, Option.bind_some, if_neg]
    intro h
    refine hno ⟨m, b, hm, hb, ?_⟩
    apply ByteArray.ext
    apply Array.ext'
    rw [← Lib.toList_data, ← Lib.toList_data]
    exact h.symm
  · rw [if_neg hv]
theorem iread_no_loop (x0 x5 : ByteArray) (hno : ¬ IsText x0) (hlen : x5.size ≤ 16) (n : Int) (d : Nat) : ∀ (k r : Nat) (c : Int), r + d = x5.size → d + 31 ≤ k →
    impl_readFunc.l0 k x0 x5 (x5.size : Int) (r : Int) n c = some (0, 0, false) := by
  induction d with
  | zero =>
    intro k r c hr hk
    obtain ⟨k, rfl⟩ : ∃ m, k = m + 1 := ⟨k - 1, by omega⟩
    simp only [impl_readFunc.l0]
    rw [if_neg (by omega)]
    exact fin_no x0 hno k (by omega) n c
  | succ d ih =>
    intro k r c hr hk
    obtain ⟨k, rfl⟩ : ∃ m, k = m + 1 := ⟨k - 1, by omega⟩
    simp only [impl_readFunc.l0]
    rw [if_pos (by omega), if_pos (by omega), if_pos (by omega), M.w64_in ((r : Int) + 1) (by omega) (by omega)]
    by_cases h : bt x5 (r : Int) = 49
    · rw [if_pos h]
      exact ih k (r + 1) _ (by omega) (by omega)
    · rw [if_neg h]
      exact ih k (r + 1) _ (by omega) (by omega)
theorem cut_eq (s : ByteArray) (hs : s.size ≤ 1048576) : ∃ a b c, strings_Cut.f s (⟨#[58]⟩ : ByteArray) = some (a, b, c) := by
  unfold strings_Cut.f stringslite_Cut.f stringslite_Index.f
  rw [if_pos (by rfl), Option.bind_some]
  obtain ⟨h1, h2⟩ := indexByte_lt s.data.toList ((⟨#[58]⟩ : ByteArray).data.toList.getD 0 0)
  generalize Lib.indexByte s.data.toList ((⟨#[58]⟩ : ByteArray).data.toList.getD 0 0) = i at *
  have h3 : ((⟨#[58]⟩ : ByteArray).size : Int) = 1 := rfl
  have h4 : s.data.toList.length = s.size := by rw [Lib.size_eq]
  rw [h3]
  by_cases h : i ≥ 0
  · rw [if_pos h, if_pos (by omega), if_pos (by omega), M.w64_in (i + 1) (by omega) (by omega), if_pos (by omega), if_pos (by omega)]
    exact ⟨_, _, _, rfl⟩
  · rw [if_neg h]
    exact ⟨_, _, _, rfl⟩
theorem iread_no (s : ByteArray) (hs : s.size ≤ 1048576) (hno : ¬ IsText s) (k : Nat) (hk : 60 ≤ k) : impl_readFunc.f k s = some (0, 0, false) := by
  obtain ⟨a, b, c, hc⟩ := cut_eq s hs
  obtain ⟨k, rfl⟩ : ∃ m, k = m + 1 := ⟨k - 1, by omega⟩
  unfold impl_readFunc.f
  rw [hc, Option.bind_some, show (4 : Int) = ((4 : Nat) : Int) from rfl, rowsOf_eq 4 (by omega), Option.bind_some]
  simp only [impl_readFunc.j0]
  by_cases h1 : (a.size : Int) = 1
  · rw [if_pos h1]
    by_cases h2 : (b.size : Int) > ((2 ^ 4 : Nat) : Int)
    · rw [decide_eq_true h2, if_pos (by rfl)]
    · rw [decide_eq_false h2, if_neg (by decide), if_pos (by omega)]
      have h3 : b.size ≤ 16 := by omega
      exact iread_no_loop s b hno h3 _ b.size k 0 _ (by omega) (by omega)
  · rw [if_neg h1, if_pos trivial]
theorem iread_loop (x0 x5 : ByteArray) (n b : Nat) (hn : n ≤ 4) (hb : b < 2 ^ 2 ^ n) (hx0 : x0 = strOfNums (tl n b (2 ^ n))) (hlen : x5.size = 2 ^ n) (hx : ∀ r : Nat, r < 2 ^ n → bt x5 (r : Int) = 48 + ((M.atN b r : Nat) : Int)) (d : Nat) : ∀ (k r : Nat), r + d = 2 ^ n → d + 31 ≤ k →
    impl_readFunc.l0 k x0 x5 ((2 ^ n : Nat) : Int) (r : Int) (n : Int) ((M.tab r (M.atN b) : Nat) : Int) = some ((n : Int), (b : Int), true) := by
  have h16 := M.pow_le16 hn
  induction d with
  | zero =>
    intro k r hr hk
    obtain ⟨k, rfl⟩ : ∃ m, k = m + 1 := ⟨k - 1, by omega⟩
    obtain rfl : r = 2 ^ n := by omega
    have hb6 : b < 2 ^ 62 := Nat.lt_trans (M.bits_lt hn hb) (by decide)
    simp only [impl_readFunc.l0]
    rw [if_neg (by omega), M.tab_self _ b hb, isFunc_eq, Option.bind_some, if_pos ((M.valid_iff _ _).2 ⟨n, b, hn, hb, rfl, rfl⟩), itext_eq n b hn hb6 k (by omega), Option.bind_some, if_pos (by rw [hx0])]
  | succ d ih =>
    intro k r hr hk
    obtain ⟨k, rfl⟩ : ∃ m, k = m + 1 := ⟨k - 1, by omega⟩
    have hlt : r < 2 ^ n := by omega
    have step := ih k (r + 1) (by omega) (by omega)
    have hor := step_val (M.atN b) r (2 ^ n) h16 hlt (fun r _ => M.atN_le b r)
    have h1 := M.atN_le b r
    simp only [impl_readFunc.l0]
    rw [if_pos (by omega), if_pos (by omega), if_pos (by rw [hlen]; omega), M.w64_in ((r : Int) + 1) (by omega) (by omega), hx r hlt]
    rcases (by omega : M.atN b r = 0 ∨ M.atN b r = 1) with e | e
    · rw [e, if_neg (by decide)]
      rw [M.tab_succ, e, Nat.zero_mul, Nat.add_zero] at step
      exact step
    · rw [e] at hor ⊢
      rw [if_pos (by decide)]
      rw [← hor] at step
      exact step
theorem tl_get0 (n b r : Nat) (h : 0 < (tl n b r).length) : (tl n b r)[0] = 48 + (n : Int) := rfl
theorem tl_get1 (n b r : Nat) (h : 1 < (tl n b r).length) : (tl n b r)[1] = 58 := rfl
theorem tl_get2 (n b r q : Nat) (hq : q < r) (h : 2 + q < (tl n b r).length) : (tl n b r)[2 + q] = 48 + ((M.atN b q : Nat) : Int) := by
  have e : (tl n b r)[2 + q]? = some (48 + ((M.atN b q : Nat) : Int)) := by
    unfold tl
    rw [List.getElem?_append_right (by simp)]
    simp [hq]
  rw [List.getElem?_eq_getElem h] at e
  exact Option.some.inj e
theorem tbt0 (n b : Nat) (hn : n ≤ 4) : bt (strOfNums (tl n b (2 ^ n))) 0 = 48 + (n : Int) := by
  have h : 0 < (tl n b (2 ^ n)).length := by rw [tl_length]; have := M.pow_pos n; omega
  have := bt_str (tl n b (2 ^ n)) 0 h (by rw [tl_get0]; omega) (by rw [tl_get0]; omega)
  rw [tl_get0] at this
  exact this
theorem tbt1 (n b : Nat) : bt (strOfNums (tl n b (2 ^ n))) 1 = 58 := by
  have h : 1 < (tl n b (2 ^ n)).length := by rw [tl_length]; have := M.pow_pos n; omega
  have := bt_str (tl n b (2 ^ n)) 1 h (by rw [tl_get1]; omega) (by rw [tl_get1]; omega)
  rw [tl_get1] at this
  exact this
theorem tbt2 (n b q : Nat) (hq : q < 2 ^ n) : bt (strOfNums (tl n b (2 ^ n))) ((2 + q : Nat) : Int) = 48 + ((M.atN b q : Nat) : Int) := by
  have h : 2 + q < (tl n b (2 ^ n)).length := by rw [tl_length]; omega
  have h1 := M.atN_le b q
  have := bt_str (tl n b (2 ^ n)) (2 + q) h (by rw [tl_get2 n b _ q hq]; omega) (by rw [tl_get2 n b _ q hq]; omega)
  rw [tl_get2 n b _ q hq] at this
  exact this
theorem bt_extract (s : ByteArray) (a b i : Nat) (hb : b ≤ s.size) (hi : a + i < b) : bt (s.extract a b) (i : Int) = bt s ((a + i : Nat) : Int) := by
  have hsz : (s.extract a b).size = b - a := by rw [ByteArray.size_extract]; omega
  rw [bt_get _ _ (by rw [hsz]; omega), bt_get _ _ (by omega), Lib.extract_data]
  congr 2
  simp only [List.getD_eq_getElem?_getD]
  rw [List.getElem?_take_of_lt (by omega), List.getElem?_drop]
theorem tl_index (n b : Nat) (hn : n ≤ 4) : Lib.indexByte (strOfNums (tl n b (2 ^ n))).data.toList 58 = 1 := by
  rw [strOfNums_data]
  unfold tl
  generalize (List.range (2 ^ n)).map (fun q => 48 + ((M.atN b q : Nat) : Int)) = t
  match n, hn with
  | 0, _ => simp [Lib.indexByte]
  | 1, _ => simp [Lib.indexByte]
  | 2, _ => simp [Lib.indexByte]
  | 3, _ => simp [Lib.indexByte]
  | 4, _ => simp [Lib.indexByte]
theorem iread_yes (n b : Nat) (hn : n ≤ 4) (hb : b < 2 ^ 2 ^ n) (k : Nat) (hk : 60 ≤ k) : impl_readFunc.f k (strOfNums (tl n b (2 ^ n))) = some ((n : Int), (b : Int), true) := by
  have h16 := M.pow_le16 hn
  have hp := M.pow_pos n
  generalize hs : strOfNums (tl n b (2 ^ n)) = s
  have hsz : s.size = 2 + 2 ^ n := by rw [← hs, strOfNums_size, tl_length]
  have hcut : strings_Cut.f s (⟨#[58]⟩ : ByteArray) = some (s.extract 0 1, s.extract 2 s.size, true) := by
    have hi : Lib.indexByte s.data.toList ((⟨#[58]⟩ : ByteArray).data.toList.getD 0 0) = 1 := by rw [← hs]; exact tl_index n b hn
    have h3 : ((⟨#[58]⟩ : ByteArray).size : Int) = 1 := rfl
    unfold strings_Cut.f stringslite_Cut.f stringslite_Index.f
    rw [if_pos (by rfl), Option.bind_some, hi, h3, if_pos (by decide), if_pos (by decide), if_pos (by omega), M.w64_in (1 + 1) (by omega) (by omega), if_pos (by decide), if_pos (by omega)]
    rfl
  have ha : (s.extract 0 1).size = 1 := by rw [ByteArray.size_extract]; omega
  have hv : (s.extract 2 s.size).size = 2 ^ n := by rw [ByteArray.size_extract]; omega
  have hx : ∀ r : Nat, r < 2 ^ n → bt (s.extract 2 s.size) (r : Int) = 48 + ((M.atN b r : Nat) : Int) := by
    intro r hr
    rw [bt_extract s 2 s.size r (Nat.le_refl _) (by omega), ← hs]
    exact tbt2 n b r hr
  have h0 : bt (s.extract 0 1) 0 = 48 + (n : Int) := by
    have := bt_extract s 0 1 0 (by omega) (by omega)
    rw [Int.natCast_zero] at this
    rw [this, ← hs]
    exact tbt0 n b hn
  obtain ⟨k, rfl⟩ : ∃ m, k = m + 1 := ⟨k - 1, by omega⟩
  unfold impl_readFunc.f
  rw [hcut, Option.bind_some]
  simp only
  rw [ha, if_pos (by decide), show (4 : Int) = ((4 : Nat) : Int) from rfl, rowsOf_eq 4 (by omega), Option.bind_some]
  simp only [impl_readFunc.j0]
  rw [hv, decide_eq_false (by omega), if_neg (by decide), ha, if_pos (by decide), h0, M.w64_in (48 + (n : Int)) (by omega) (by omega), M.w64_in _ (by omega) (by omega), show (48 + (n : Int)) - 48 = (n : Int) from by omega]
  have := iread_loop s (s.extract 2 s.size) n b hn hb hs.symm hv hx (2 ^ n) k 0 (by omega) (by omega)
  exact this
/-- The values that a text tells. -/
def vals (s : ByteArray) (m : Nat) : List Int := (List.range m).map fun q : Nat => bt s ((2 + q : Nat) : Int) - 48
theorem vals_succ (s : ByteArray) (m : Nat) : vals s (m + 1) = vals s m ++ [bt s ((2 + m : Nat) : Int) - 48] := by simp [vals, List.range_succ]
theorem vals_length (s : ByteArray) (m : Nat) : (vals s m).length = m := by simp [vals]
theorem sread_loop (s : ByteArray) (n m : Nat) (hm : m ≤ 16) (hs : s.size = 2 + m) (d : Nat) : ∀ (k r : Nat), r + d = m → 
    spec_l01Read.l0 (k + d + 1) s (n : Int) (vals s r) ((2 + r : Nat) : Int) = ((spec_l01Bits.f k (vals s m)).bind fun t368 => (if t368 = true then ((spec_l01Of.f k (n : Int) (vals s m)).bind fun bt369 => (some (bt369.1, bt369.2, true))) else (some (0, 0, false)))) := by
  induction d with
  | zero =>
    intro k r hr
    obtain rfl : r = m := by omega
    rw [Nat.add_zero]
    simp only [spec_l01Read.l0]
    rw [if_neg (by omega)]
  | succ d ih =>
    intro k r hr
    have step := ih k (r + 1) (by omega)
    clear ih
    obtain ⟨q, hq⟩ : ∃ q, k + d + 1 = q := ⟨_, rfl⟩
    rw [show k + (d + 1) + 1 = q + 1 from by omega]
    rw [hq] at step
    have hbt := bt_range s ((2 + r : Nat) : Int)
    simp only [spec_l01Read.l0]
    rw [if_pos (by omega), if_pos (by omega), if_pos (by rw [vals_length]; omega), M.w64_in (bt s ((2 + r : Nat) : Int)) (by omega) (by omega), M.w64_in _ (by omega) (by omega), M.w64_in _ (by omega) (by omega), ← vals_succ, show ((2 + r : Nat) : Int) + 1 = ((2 + (r + 1) : Nat) : Int) from by omega]
    exact step
theorem text_of (s : ByteArray) (n : Nat) (hn : n ≤ 4) (hs : s.size = 2 + 2 ^ n) (h0 : bt s 0 = 48 + (n : Int)) (h1 : bt s 1 = 58) (hd : ∀ q : Nat, q < 2 ^ n → 0 ≤ bt s ((2 + q : Nat) : Int) - 48 ∧ bt s ((2 + q : Nat) : Int) - 48 ≤ 1) :
    ∃ b, b < 2 ^ 2 ^ n ∧ s = strOfNums (tl n b (2 ^ n)) := by
  have hh : ∀ q : Nat, q < 2 ^ n → (bt s ((2 + q : Nat) : Int) - 48).toNat ≤ 1 := fun q hq => by have := hd q hq; omega
  refine ⟨M.tab (2 ^ n) (fun q : Nat => (bt s ((2 + q : Nat) : Int) - 48).toNat), M.tab_lt _ _ hh, ?_⟩
  refine (str_of_bt s).trans ?_
  congr 1
  rw [hs, List.range_add, List.map_append]
  unfold tl
  congr 1
  · simp [List.range_succ, h0, h1]
  · rw [List.map_map]
    refine List.map_congr_left fun q hq => ?_
    have hq2 := List.mem_range.1 hq
    rw [M.tab_at _ _ hh q hq2]
    have := hd q hq2
    simp only [Function.comp]
    omega
theorem sread_go (s : ByteArray) (n : Nat) (hn : n ≤ 4) (hs : s.size = 2 + 2 ^ n) (k : Nat) (hk : 60 ≤ k) :
    spec_l01Read.l0 k s (n : Int) [] 2 = (if (vals s (2 ^ n)).all (fun x => decide (0 ≤ x) && decide (x ≤ 1)) = true then ((spec_l01Of.f (k - 2 ^ n - 1) (n : Int) (vals s (2 ^ n))).bind fun bt369 => (some (bt369.1, bt369.2, true))) else (some (0, 0, false))) := by
  have h16 := M.pow_le16 hn
  have := sread_loop s n (2 ^ n) h16 hs (2 ^ n) (k - 2 ^ n - 1) 0 (by omega)
  rw [show k - 2 ^ n - 1 + 2 ^ n + 1 = k from by omega] at this
  refine this.trans ?_
  rw [sbits_eq _ (by rw [vals_length]; omega) _ (by rw [vals_length]; omega), Option.bind_some]
theorem sread_no (s : ByteArray) (hs : s.size ≤ 1048576) (hno : ¬ IsText s) (k : Nat) (hk : 100 ≤ k) : spec_l01Read.f k s = some (0, 0, false) := by
  obtain ⟨k, rfl⟩ : ∃ m, k = m + 1 + 1 := ⟨k - 2, by omega⟩
  unfold spec_l01Read.f
  by_cases h3 : (s.size : Int) < 3
  · rw [if_pos h3]
    simp only [spec_l01Read.j0]
    rw [if_pos trivial]
  · rw [if_neg h3, if_pos (by omega)]
    simp only [spec_l01Read.j0]
    have hb0 := bt_range s 0
    by_cases h1 : bt s 1 = 58
    · rw [h1, if_neg (by decide), if_pos (by omega), Option.bind_some, M.w64_in (bt s 0) (by omega) (by omega), M.w64_in _ (by omega) (by omega), in_eq, Option.bind_some]
      by_cases hin : 0 ≤ bt s 0 - 48 ∧ bt s 0 - 48 ≤ 4
      · rw [if_pos (by simp; omega)]
        obtain ⟨n, hn, he⟩ := M.small_n hin.1 hin.2
        have h16 := M.pow_le16 hn
        have hp := M.pow_pos n
        rw [he, rows_eq n hn, Option.bind_some, M.w64_in _ (by omega) (by omega)]
        by_cases hsz : (s.size : Int) = 2 + ((2 ^ n : Nat) : Int)
        · simp only [spec_l01Read.j1]
          rw [if_neg (by simpa using hsz), sread_go s n hn (by omega) k (by omega), if_neg]
          intro hall
          have hd : ∀ q : Nat, q < 2 ^ n → 0 ≤ bt s ((2 + q : Nat) : Int) - 48 ∧ bt s ((2 + q : Nat) : Int) - 48 ≤ 1 := by
            intro q hq
            have := List.all_eq_true.1 hall (bt s ((2 + q : Nat) : Int) - 48) (List.mem_map.2 ⟨q, List.mem_range.2 hq, rfl⟩)
            simpa using this
          obtain ⟨b, hb, e⟩ := text_of s n hn (by omega) (by omega) h1 hd
          exact hno ⟨n, b, hn, hb, e⟩
        · simp only [spec_l01Read.j1]
          rw [if_pos (by simpa using hsz)]
      · rw [if_neg (by simp; omega)]
        simp only [spec_l01Read.j1]
        rw [if_pos trivial]
    · rw [if_pos (by simpa using h1)]
theorem sread_yes (n b : Nat) (hn : n ≤ 4) (hb : b < 2 ^ 2 ^ n) (k : Nat) (hk : 100 ≤ k) : spec_l01Read.f k (strOfNums (tl n b (2 ^ n))) = some ((n : Int), (b : Int), true) := by
  have h16 := M.pow_le16 hn
  have hp := M.pow_pos n
  generalize hs : strOfNums (tl n b (2 ^ n)) = s
  have hsz : s.size = 2 + 2 ^ n := by rw [← hs, strOfNums_size, tl_length]
  have h0 : bt s 0 = 48 + (n : Int) := by rw [← hs]; exact tbt0 n b hn
  have h1 : bt s 1 = 58 := by rw [← hs]; exact tbt1 n b
  have hv : vals s (2 ^ n) = M.lis (2 ^ n) (M.atN b) := by
    unfold vals M.lis
    refine List.map_congr_left fun q hq => ?_
    rw [← hs, tbt2 n b q (List.mem_range.1 hq)]
    omega
  obtain ⟨k, rfl⟩ : ∃ m, k = m + 1 + 1 := ⟨k - 2, by omega⟩
  unfold spec_l01Read.f
  rw [if_neg (by omega), if_pos (by omega), h1]
  simp only [spec_l01Read.j0]
  rw [if_neg (by decide), if_pos (by omega), Option.bind_some, h0, M.w64_in (48 + (n : Int)) (by omega) (by omega), M.w64_in _ (by omega) (by omega), show (48 + (n : Int)) - 48 = (n : Int) from by omega, in_eq, Option.bind_some, if_pos (by simp; omega), rows_eq n hn, Option.bind_some, M.w64_in _ (by omega) (by omega)]
  simp only [spec_l01Read.j1]
  rw [if_neg (by rw [hsz]; simp), sread_go s n hn hsz k (by omega), hv, if_pos, Of_eq n hn _ (fun r _ => M.atN_le b r) _ (by omega), M.tab_self _ b hb]
  · rfl
  · rw [List.all_eq_true]
    intro x hx
    obtain ⟨q, _, rfl⟩ := List.mem_map.1 hx
    have := M.atN_le b q
    simp
    omega
end Go.Proofs.Ytmfkmkjgeibpnaa.Pure
