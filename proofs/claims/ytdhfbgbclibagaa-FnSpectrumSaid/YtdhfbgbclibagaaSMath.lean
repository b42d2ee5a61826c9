/- Plain facts about digits of numbers, and about the words in which the printed functions spell shifts, masks and wraps. No program in sight. -/
import Derived.RowKit
import Derived.Laws.BitsLemmas
import Derived.Test.YtdhfbgbclibagaaSWMore
namespace Go.Proofs.Ytdhfbgbclibagaa.M
open Go.RowKit Go.Proofs.YtdhfbgbclibagaaW.PrintWords Go.Proofs.YtdhfbgbclibagaaW.PrintLast Go.Proofs.YtdhfbgbclibagaaW.PrintMore
/-- The digit of a number at a place. -/
def atN (b r : Nat) : Nat := b / 2 ^ r % 2
/-- The number with some digits, the least one first. -/
def num : List Nat → Nat
  | [] => 0
  | d :: ds => d + 2 * num ds
def Dig (ds : List Nat) : Prop := ∀ d ∈ ds, d ≤ 1
theorem atN_le (b r : Nat) : atN b r ≤ 1 := by unfold atN; omega
theorem atN_lt (b r : Nat) : atN b r < 2 := by unfold atN; omega
theorem num_snoc (ds : List Nat) (d : Nat) : num (ds ++ [d]) = num ds + d * 2 ^ ds.length := by
  induction ds with
  | nil => simp [num]
  | cons a t ih =>
    have e : d * (2 ^ t.length * 2) = 2 * (d * 2 ^ t.length) := by rw [← Nat.mul_assoc, Nat.mul_comm]
    simp only [List.cons_append, num, ih, List.length_cons, Nat.pow_succ, e]; omega
theorem num_lt : ∀ (ds : List Nat), Dig ds → num ds < 2 ^ ds.length
  | [], _ => by simp [num]
  | d :: t, h => by
    have h1 := num_lt t (fun x hx => h x (List.mem_cons_of_mem _ hx))
    have h2 := h d (List.mem_cons_self)
    simp only [num, List.length_cons, Nat.pow_succ]; omega
theorem num_at : ∀ (ds : List Nat) (r : Nat), Dig ds → atN (num ds) r = ds.getD r 0
  | [], r, _ => by simp [num, atN]
  | d :: t, 0, h => by
    have h2 := h d (List.mem_cons_self)
    simp only [num, atN, Nat.pow_zero, Nat.div_one, List.getD_cons_zero]; omega
  | d :: t, r + 1, h => by
    have h1 := num_at t r (fun x hx => h x (List.mem_cons_of_mem _ hx))
    have h2 := h d (List.mem_cons_self)
    rw [List.getD_cons_succ, ← h1]
    simp only [num, atN]
    rw [Nat.pow_succ, Nat.mul_comm (2 ^ r) 2, ← Nat.div_div_eq_div_mul, show (d + 2 * num t) / 2 = num t from by omega]
/-- The number with the digits that a function tells. -/
def tab (m : Nat) (h : Nat → Nat) : Nat := num ((List.range m).map h)
theorem tab_dig (m : Nat) (h : Nat → Nat) (hh : ∀ r, r < m → h r ≤ 1) : Dig ((List.range m).map h) := by
  intro d hd
  obtain ⟨r, hr, rfl⟩ := List.mem_map.1 hd
  exact hh r (List.mem_range.1 hr)
theorem tab_lt (m : Nat) (h : Nat → Nat) (hh : ∀ r, r < m → h r ≤ 1) : tab m h < 2 ^ m := by
  have := num_lt _ (tab_dig m h hh)
  simpa [tab] using this
theorem tab_at (m : Nat) (h : Nat → Nat) (hh : ∀ r, r < m → h r ≤ 1) (r : Nat) (hr : r < m) : atN (tab m h) r = h r := by
  unfold tab
  rw [num_at _ _ (tab_dig m h hh)]
  simp [List.getD_eq_getElem?_getD, hr]
theorem tab_succ (m : Nat) (h : Nat → Nat) : tab (m + 1) h = tab m h + h m * 2 ^ m := by
  unfold tab; rw [List.range_succ, List.map_append, List.map_cons, List.map_nil, num_snoc]; simp
theorem tab_congr (m : Nat) (h g : Nat → Nat) (e : ∀ r, r < m → h r = g r) : tab m h = tab m g := by
  unfold tab; congr 1; exact List.map_congr_left fun r hr => e r (List.mem_range.1 hr)
theorem small_n {n : Int} (h0 : 0 ≤ n) (h4 : n ≤ 4) : ∃ m : Nat, m ≤ 4 ∧ n = m := ⟨n.toNat, by omega, by omega⟩
theorem pow_le16 {n : Nat} (h : n ≤ 4) : 2 ^ n ≤ 16 := Nat.pow_le_pow_right (by decide) h
theorem pow_pos (n : Nat) : 1 ≤ 2 ^ n := Nat.one_le_two_pow
theorem pow2_le {a b : Nat} (h : a ≤ b) : 2 ^ a ≤ 2 ^ b := Nat.pow_le_pow_right (by decide) h
theorem bits_lt {n b : Nat} (hn : n ≤ 4) (hb : b < 2 ^ 2 ^ n) : b < 65536 := Nat.lt_of_lt_of_le hb (pow2_le (pow_le16 hn))
theorem u64_in (x : Int) (h0 : 0 ≤ x) (h1 : x < 18446744073709551616) : IntKind.u64.wrap x = x := by
  simp [IntKind.wrap, IntKind.bits, IntKind.signed]; omega
theorem i64_in (x : Int) (h0 : -9223372036854775808 ≤ x) (h1 : x < 9223372036854775808) : IntKind.i64.wrap x = x := by
  rw [IntKind.wrap_i64]; omega
theorem w64_in (x : Int) (h0 : -9223372036854775808 ≤ x) (h1 : x < 9223372036854775808) : wrap64 x = x := by
  unfold wrap64; omega
theorem wraps_i64 (n : Int) (h₀ : 0 ≤ n) (h₁ : n < 2 ^ 62) : IntKind.i64.wrap n = n := i64_in n (by omega) (by omega)
theorem shl_nat (x y : Nat) (hy : y ≤ 64) (hx : x * 2 ^ y < 2 ^ 62) : shl .i64 (x : Int) (y : Int) = ((x * 2 ^ y : Nat) : Int) := by
  unfold shl
  have e : min ((y : Int)).toNat IntKind.i64.bits = y := by simp [IntKind.bits]; omega
  rw [e]
  have : ((x : Int) * 2 ^ y) = ((x * 2 ^ y : Nat) : Int) := by push_cast; rfl
  rw [this]; exact wraps_i64 _ (Int.natCast_nonneg _) (by exact_mod_cast hx)
theorem shr_nat (x y : Nat) (hy : y ≤ 64) : shr .i64 (x : Int) (y : Int) = ((x / 2 ^ y : Nat) : Int) := by
  unfold shr
  have e : min ((y : Int)).toNat IntKind.i64.bits = y := by simp [IntKind.bits]; omega
  rw [e]; push_cast; rfl
theorem and_nat (x y : Nat) (hx : x < 2 ^ 62) (hy : y < 2 ^ 62) : Go.bits .and .i64 (x : Int) (y : Int) = ((x &&& y : Nat) : Int) :=
  (bits_nat .i64 62 (by decide) wraps_i64 x y hx hy).1
theorem xor_nat (x y : Nat) (hx : x < 2 ^ 62) (hy : y < 2 ^ 62) : Go.bits .xor .i64 (x : Int) (y : Int) = ((x ^^^ y : Nat) : Int) := by
  have hp : (2 : Nat) ^ 62 ≤ 2 ^ IntKind.i64.bits := by decide
  have ha' : x % 2 ^ IntKind.i64.bits = x := Nat.mod_eq_of_lt (Nat.lt_of_lt_of_le hx hp)
  have hb' : y % 2 ^ IntKind.i64.bits = y := Nat.mod_eq_of_lt (Nat.lt_of_lt_of_le hy hp)
  simp only [Go.bits, BitVec.ofInt_natCast, BitVec.toNat_xor, BitVec.toNat_ofNat, ha', hb']
  exact wraps_i64 _ (Int.natCast_nonneg _) (by exact_mod_cast Nat.xor_lt_two_pow hx hy)
theorem and_one (x : Nat) (hx : x < 2 ^ 62) : Go.bits .and .i64 (x : Int) 1 = ((x % 2 : Nat) : Int) := by
  have := and_nat x 1 hx (by decide)
  rw [Nat.and_one_is_mod] at this
  exact this
/-- The digit, as both programs ask for it. -/
theorem bit_nat (b r : Nat) (hb : b < 2 ^ 62) (hr : r ≤ 64) : Go.bits .and .i64 (shr .i64 (b : Int) (r : Int)) 1 = ((atN b r : Nat) : Int) := by
  rw [shr_nat b r hr, and_one _ (Nat.lt_of_le_of_lt (Nat.div_le_self _ _) hb)]; rfl
theorem xor_digit (a b : Nat) (ha : a ≤ 1) (hb : b ≤ 1) : a ^^^ b = (a + b) % 2 := by
  have : a = 0 ∨ a = 1 := by omega
  have : b = 0 ∨ b = 1 := by omega
  rcases ‹a = 0 ∨ a = 1› with rfl | rfl <;> rcases ‹b = 0 ∨ b = 1› with rfl | rfl <;> rfl
/-- The row of one variable more: a digit put in at a place. -/
def ins (r i v : Nat) : Nat := (r / 2 ^ i) * 2 ^ (i + 1) + v * 2 ^ i + r % 2 ^ i
/-- How many rows below r have the digit v at place i. -/
def cnt (r i v : Nat) : Nat := (r / 2 ^ (i + 1)) * 2 ^ i + if v = 1 then r % 2 ^ (i + 1) - 2 ^ i else min (r % 2 ^ (i + 1)) (2 ^ i)
theorem cnt_asked : ∀ r, r < 16 → ∀ i, i < 4 → ∀ v, v < 2 → (atN r i = v → ins (cnt r i v) i v = r ∧ cnt (r + 1) i v = cnt r i v + 1) ∧ (atN r i ≠ v → cnt (r + 1) i v = cnt r i v) := by decide +kernel
theorem cnt_end : ∀ n, n < 5 → ∀ i, i < n → ∀ v, v < 2 → cnt (2 ^ n) i v = 2 ^ (n - 1) := by decide +kernel
theorem cnt_lt : ∀ n, n < 5 → ∀ i, i < n → ∀ r, r < 2 ^ n → cnt r i (atN r i) < 2 ^ (n - 1) := by decide +kernel
theorem cnt_le : ∀ r, r < 17 → ∀ i, i < 4 → ∀ v, v < 2 → cnt r i v ≤ 16 := by decide +kernel
theorem ins_xor : ∀ q, q < 8 → ∀ i, i < 4 → ins q i 0 ^^^ 2 ^ i = ins q i 1 ∧ ins q i 1 ^^^ 2 ^ i = ins q i 0 := by decide +kernel
theorem ins_lt : ∀ n, n < 5 → ∀ i, i < n → ∀ q, q < 2 ^ (n - 1) → ∀ v, v < 2 → ins q i v < 2 ^ n := by decide +kernel
theorem xor_lt16 : ∀ n, n < 5 → ∀ i, i < n → ∀ r, r < 2 ^ n → r ^^^ 2 ^ i < 2 ^ n := by decide +kernel
/-- The function with a variable fixed, by its digits. -/
def fixN (n b i v : Nat) : Nat := tab (2 ^ (n - 1)) (fun r => atN b (ins r i v))
theorem fix_same (n b i : Nat) (hn : n ≤ 4) (hi : i < n) : fixN n b i 0 = fixN n b i 1 ↔ ∀ r, r < 2 ^ n → atN b r = atN b (r ^^^ 2 ^ i) := by
  have h8 : 2 ^ (n - 1) ≤ 8 := pow2_le (a := n - 1) (b := 3) (by omega)
  constructor
  · intro h r hr
    have hc := cnt_lt n (by omega) i hi r hr
    have h16 := pow_le16 hn
    have hv := atN_lt r i
    have ha := ((cnt_asked r (by omega) i (by omega) (atN r i) hv).1 rfl).1
    have he : atN b (ins (cnt r i (atN r i)) i 0) = atN b (ins (cnt r i (atN r i)) i 1) := by
      have h1 := tab_at (2 ^ (n - 1)) (fun r => atN b (ins r i 0)) (fun _ _ => atN_le _ _) _ hc
      have h2 := tab_at (2 ^ (n - 1)) (fun r => atN b (ins r i 1)) (fun _ _ => atN_le _ _) _ hc
      unfold fixN at h
      rw [h, h2] at h1
      exact h1.symm
    obtain ⟨x0, x1⟩ := ins_xor (cnt r i (atN r i)) (by omega) i (by omega)
    generalize cnt r i (atN r i) = q at *
    have hv2 : atN r i = 0 ∨ atN r i = 1 := by omega
    rcases hv2 with e | e
    · rw [e] at ha; rw [← ha, x0]; exact he
    · rw [e] at ha; rw [← ha, x1]; exact he.symm
  · intro h
    unfold fixN
    refine tab_congr _ _ _ fun q hq => ?_
    have := h (ins q i 0) (ins_lt n (by omega) i hi q hq 0 (by omega))
    rw [(ins_xor q (by omega) i (by omega)).1] at this
    exact this
/-- Is a variable essential? -/
def ess (n b i : Nat) : Bool := !decide (fixN n b i 0 = fixN n b i 1)
/-- The list of the numbers that a function tells. -/
def lis (m : Nat) (h : Nat → Nat) : List Int := (List.range m).map fun r => ((h r : Nat) : Int)
theorem lis_length (m : Nat) (h : Nat → Nat) : (lis m h).length = m := by simp [lis]
theorem lis_rd (m : Nat) (h : Nat → Nat) (r : Nat) (hr : r < m) : rd (lis m h) (r : Int) = ((h r : Nat) : Int) := by
  unfold rd lis; simp [List.getD_eq_getElem?_getD, hr]
theorem lis_succ (m : Nat) (h : Nat → Nat) : lis (m + 1) h = lis m h ++ [((h m : Nat) : Int)] := by simp [lis, List.range_succ]
/-- The digits' sum. -/
def pop (m b : Nat) : Nat := ((List.range m).map (atN b)).sum
theorem pop_le16 (b : Nat) : pop 16 b ≤ 16 := by
  have : ∀ m, pop m b ≤ m := by
    intro m
    induction m with
    | zero => exact Nat.le_refl _
    | succ m ih =>
      have e : pop (m + 1) b = pop m b + atN b m := by simp [pop, List.range_succ]
      rw [e]; have := atN_le b m; omega
  exact this 16
/-- 1 for an even number, -1 for an odd one. -/
def sgn (x : Nat) : Int := 1 - 2 * ((x % 2 : Nat) : Int)
theorem sgn_le (x : Nat) : -1 ≤ sgn x ∧ sgn x ≤ 1 := by unfold sgn; omega
/-- The summands of the spectrum, and of the correlations. -/
def spc (b a r : Nat) : Int := sgn (atN b r + pop 16 (r &&& a))
def cor (b a r : Nat) : Int := sgn (atN b r + atN b (r ^^^ a))
theorem xor_le1 (x y : Nat) (hx : x ≤ 1) (hy : y ≤ 1) : x ^^^ y ≤ 1 := by
  rw [xor_digit x y hx hy]; omega
/-- The sum of the numbers at the rows below r. -/
def part (h : Nat → Nat → Int) (a : Nat) : Nat → Int
  | 0 => 0
  | r + 1 => part h a r + h a r
theorem part_succ (h : Nat → Nat → Int) (a r : Nat) : part h a (r + 1) = part h a r + h a r := rfl
theorem part_le (h : Nat → Nat → Int) (hh : ∀ a r, -1 ≤ h a r ∧ h a r ≤ 1) (a : Nat) : ∀ r : Nat, -(r : Int) ≤ part h a r ∧ part h a r ≤ (r : Int)
  | 0 => by simp [part]
  | r + 1 => by have := part_le h hh a r; have := hh a r; simp only [part]; omega
/-- For each row below a the sum over all m rows. -/
def sumL (m : Nat) (h : Nat → Nat → Int) (a : Nat) : List Int := (List.range a).map fun q => part h q m
theorem sumL_succ (m : Nat) (h : Nat → Nat → Int) (a : Nat) : sumL m h (a + 1) = sumL m h a ++ [part h a m] := by simp [sumL, List.range_succ]
theorem sumL_length (m : Nat) (h : Nat → Nat → Int) (a : Nat) : (sumL m h a).length = a := by simp [sumL]
/-- Is it a function of at most four variables? -/
def valid (n b : Int) : Bool := decide (0 ≤ n) && decide (n ≤ 4) && decide (0 ≤ b) && decide (b < ((2 ^ 2 ^ n.toNat : Nat) : Int))
theorem valid_iff (n b : Int) : valid n b = true ↔ ∃ m c : Nat, m ≤ 4 ∧ c < 2 ^ 2 ^ m ∧ n = m ∧ b = c := by
  unfold valid
  simp only [Bool.and_eq_true, decide_eq_true_eq]
  constructor
  · rintro ⟨⟨⟨h0, h1⟩, h2⟩, h3⟩
    obtain ⟨m, rfl⟩ := Int.eq_ofNat_of_zero_le h0
    obtain ⟨c, rfl⟩ := Int.eq_ofNat_of_zero_le h2
    rw [Int.toNat_natCast] at h3
    exact ⟨m, c, by omega, Int.ofNat_lt.1 h3, rfl, rfl⟩
  · rintro ⟨m, c, h1, h2, rfl, rfl⟩
    rw [Int.toNat_natCast]
    exact ⟨⟨⟨by omega, by omega⟩, by omega⟩, Int.ofNat_lt.2 h2⟩
end Go.Proofs.Ytdhfbgbclibagaa.M
