/- Plain facts about digits of numbers, and about the words in which the printed functions spell shifts, masks and wraps. No program in sight. -/
import Derived.RowKit
import Derived.Laws.BitsLemmas
import Derived.Test.YtdhfbgbclibagaaRWMore
namespace Go.Proofs.Ytdhfbgbclibagaa.M
open Go.RowKit Go.Proofs.YtdhfbgbclibagaaW.PrintWords Go.Proofs.YtdhfbgbclibagaaW.PrintLast Go.Proofs.YtdhfbgbclibagaaW.PrintMore
/-- The digit of a number at a place. -/
def atN (b r : Nat) : Nat := b / 2 ^ r % 2
/-- The number with some digits, the least one first. -/
def num : List Nat → Nat
  | [] => 0
  | d :: ds => d + 2 * num ds
/-- The digits of a number. -/
def digs (m b : Nat) : List Nat := (List.range m).map (atN b)
def Dig (ds : List Nat) : Prop := ∀ d ∈ ds, d ≤ 1
theorem atN_le (b r : Nat) : atN b r ≤ 1 := by unfold atN; omega
theorem num_snoc (ds : List Nat) (d : Nat) : num (ds ++ [d]) = num ds + d * 2 ^ ds.length := by
  induction ds with
  | nil => simp [num]
  | cons a t ih =>
    have e : d * (2 ^ t.length * 2) = 2 * (d * 2 ^ t.length) := by rw [← Nat.mul_assoc, Nat.mul_comm]
    simp only [List.cons_append, num, ih, List.length_cons, Nat.pow_succ, e]; omega
theorem num_lt : ∀ (ds : List Nat), Dig ds → num ds < 2 ^ ds.length
  | [], _ => by simp [num]
  | d :: t, h => by
    have h1 := num_lt t (fun x hx => h x (List.mem_cons_of_mem _ hx))
    have h2 := h d (List.mem_cons_self)
    simp only [num, List.length_cons, Nat.pow_succ]; omega
theorem num_at : ∀ (ds : List Nat) (r : Nat), Dig ds → atN (num ds) r = ds.getD r 0
  | [], r, _ => by simp [num, atN]
  | d :: t, 0, h => by
    have h2 := h d (List.mem_cons_self)
    simp only [num, atN, Nat.pow_zero, Nat.div_one, List.getD_cons_zero]; omega
  | d :: t, r + 1, h => by
    have h1 := num_at t r (fun x hx => h x (List.mem_cons_of_mem _ hx))
    have h2 := h d (List.mem_cons_self)
    rw [List.getD_cons_succ, ← h1]
    simp only [num, atN]
    rw [Nat.pow_succ, Nat.mul_comm (2 ^ r) 2, ← Nat.div_div_eq_div_mul, show (d + 2 * num t) / 2 = num t from by omega]
theorem digs_length (m b : Nat) : (digs m b).length = m := by simp [digs]
theorem digs_succ (m b : Nat) : digs (m + 1) b = digs m b ++ [atN b m] := by simp [digs, List.range_succ]
theorem num_digs_mod (m b : Nat) : num (digs m b) = b % 2 ^ m := by
  induction m with
  | zero => simp [digs, num, Nat.mod_one]
  | succ m ih =>
    rw [digs_succ, num_snoc, ih, digs_length, Nat.pow_succ, Nat.mod_mul]
    unfold atN; rw [Nat.mul_comm]
theorem num_digs (m b : Nat) (h : b < 2 ^ m) : num (digs m b) = b := by rw [num_digs_mod, Nat.mod_eq_of_lt h]
theorem at_ext (m a b : Nat) (ha : a < 2 ^ m) (hb : b < 2 ^ m) (h : ∀ r, r < m → atN a r = atN b r) : a = b := by
  rw [← num_digs m a ha, ← num_digs m b hb]
  congr 1
  exact List.map_congr_left fun r hr => h r (List.mem_range.1 hr)
/-- The number with the digits that a function tells. -/
def tab (m : Nat) (h : Nat → Nat) : Nat := num ((List.range m).map h)
theorem tab_dig (m : Nat) (h : Nat → Nat) (hh : ∀ r, r < m → h r ≤ 1) : Dig ((List.range m).map h) := by
  intro d hd
  obtain ⟨r, hr, rfl⟩ := List.mem_map.1 hd
  exact hh r (List.mem_range.1 hr)
theorem tab_lt (m : Nat) (h : Nat → Nat) (hh : ∀ r, r < m → h r ≤ 1) : tab m h < 2 ^ m := by
  have := num_lt _ (tab_dig m h hh)
  simpa [tab] using this
theorem tab_at (m : Nat) (h : Nat → Nat) (hh : ∀ r, r < m → h r ≤ 1) (r : Nat) (hr : r < m) : atN (tab m h) r = h r := by
  unfold tab
  rw [num_at _ _ (tab_dig m h hh)]
  simp [List.getD_eq_getElem?_getD, hr]
theorem tab_succ (m : Nat) (h : Nat → Nat) : tab (m + 1) h = tab m h + h m * 2 ^ m := by
  unfold tab; rw [List.range_succ, List.map_append, List.map_cons, List.map_nil, num_snoc]; simp
theorem tab_congr (m : Nat) (h g : Nat → Nat) (e : ∀ r, r < m → h r = g r) : tab m h = tab m g := by
  unfold tab; congr 1; exact List.map_congr_left fun r hr => e r (List.mem_range.1 hr)
theorem or_high (a d m : Nat) (ha : a < 2 ^ m) : a ||| d * 2 ^ m = a + d * 2 ^ m := by
  have h := Nat.two_pow_add_eq_or_of_lt ha d
  rw [Nat.or_comm, Nat.mul_comm d, ← h, Nat.add_comm]
theorem small_n {n : Int} (h0 : 0 ≤ n) (h4 : n ≤ 4) : ∃ m : Nat, m ≤ 4 ∧ n = m := ⟨n.toNat, by omega, by omega⟩
theorem pow_le16 {n : Nat} (h : n ≤ 4) : 2 ^ n ≤ 16 := Nat.pow_le_pow_right (by decide) h
theorem pow_pos (n : Nat) : 1 ≤ 2 ^ n := Nat.one_le_two_pow
theorem pow2_le {a b : Nat} (h : a ≤ b) : 2 ^ a ≤ 2 ^ b := Nat.pow_le_pow_right (by decide) h
theorem bits_lt {n b : Nat} (hn : n ≤ 4) (hb : b < 2 ^ 2 ^ n) : b < 65536 := Nat.lt_of_lt_of_le hb (pow2_le (pow_le16 hn))
theorem u64_in (x : Int) (h0 : 0 ≤ x) (h1 : x < 18446744073709551616) : IntKind.u64.wrap x = x := by
  simp [IntKind.wrap, IntKind.bits, IntKind.signed]; omega
theorem i64_in (x : Int) (h0 : -9223372036854775808 ≤ x) (h1 : x < 9223372036854775808) : IntKind.i64.wrap x = x := by
  rw [IntKind.wrap_i64]; omega
theorem w64_in (x : Int) (h0 : -9223372036854775808 ≤ x) (h1 : x < 9223372036854775808) : wrap64 x = x := by
  unfold wrap64; omega
theorem wraps_i64 (n : Int) (h₀ : 0 ≤ n) (h₁ : n < 2 ^ 62) : IntKind.i64.wrap n = n := i64_in n (by omega) (by omega)
theorem shl_nat (x y : Nat) (hy : y ≤ 64) (hx : x * 2 ^ y < 2 ^ 62) : shl .i64 (x : Int) (y : Int) = ((x * 2 ^ y : Nat) : Int) := by
  unfold shl
  have e : min ((y : Int)).toNat IntKind.i64.bits = y := by simp [IntKind.bits]; omega
  rw [e]
  have : ((x : Int) * 2 ^ y) = ((x * 2 ^ y : Nat) : Int) := by push_cast; rfl
  rw [this]; exact wraps_i64 _ (Int.natCast_nonneg _) (by exact_mod_cast hx)
theorem shr_nat (x y : Nat) (hy : y ≤ 64) : shr .i64 (x : Int) (y : Int) = ((x / 2 ^ y : Nat) : Int) := by
  unfold shr
  have e : min ((y : Int)).toNat IntKind.i64.bits = y := by simp [IntKind.bits]; omega
  rw [e]; push_cast; rfl
theorem and_nat (x y : Nat) (hx : x < 2 ^ 62) (hy : y < 2 ^ 62) : Go.bits .and .i64 (x : Int) (y : Int) = ((x &&& y : Nat) : Int) :=
  (bits_nat .i64 62 (by decide) wraps_i64 x y hx hy).1
theorem or_nat (x y : Nat) (hx : x < 2 ^ 62) (hy : y < 2 ^ 62) : Go.bits .or .i64 (x : Int) (y : Int) = ((x ||| y : Nat) : Int) :=
  (bits_nat .i64 62 (by decide) wraps_i64 x y hx hy).2
theorem xor_nat (x y : Nat) (hx : x < 2 ^ 62) (hy : y < 2 ^ 62) : Go.bits .xor .i64 (x : Int) (y : Int) = ((x ^^^ y : Nat) : Int) := by
  have hp : (2 : Nat) ^ 62 ≤ 2 ^ IntKind.i64.bits := by decide
  have ha' : x % 2 ^ IntKind.i64.bits = x := Nat.mod_eq_of_lt (Nat.lt_of_lt_of_le hx hp)
  have hb' : y % 2 ^ IntKind.i64.bits = y := Nat.mod_eq_of_lt (Nat.lt_of_lt_of_le hy hp)
  simp only [Go.bits, BitVec.ofInt_natCast, BitVec.toNat_xor, BitVec.toNat_ofNat, ha', hb']
  exact wraps_i64 _ (Int.natCast_nonneg _) (by exact_mod_cast Nat.xor_lt_two_pow hx hy)
theorem and_one (x : Nat) (hx : x < 2 ^ 62) : Go.bits .and .i64 (x : Int) 1 = ((x % 2 : Nat) : Int) := by
  have := and_nat x 1 hx (by decide)
  rw [Nat.and_one_is_mod] at this
  exact this
/-- The digit, as both programs ask for it. -/
theorem bit_nat (b r : Nat) (hb : b < 2 ^ 62) (hr : r ≤ 64) : Go.bits .and .i64 (shr .i64 (b : Int) (r : Int)) 1 = ((atN b r : Nat) : Int) := by
  rw [shr_nat b r hr, and_one _ (Nat.lt_of_le_of_lt (Nat.div_le_self _ _) hb)]; rfl
theorem xor_digit (a b : Nat) (ha : a ≤ 1) (hb : b ≤ 1) : a ^^^ b = (a + b) % 2 := by
  have : a = 0 ∨ a = 1 := by omega
  have : b = 0 ∨ b = 1 := by omega
  rcases ‹a = 0 ∨ a = 1› with rfl | rfl <;> rcases ‹b = 0 ∨ b = 1› with rfl | rfl <;> rfl
/-- The row of one variable more: a digit put in at a place. -/
def ins (r i v : Nat) : Nat := (r / 2 ^ i) * 2 ^ (i + 1) + v * 2 ^ i + r % 2 ^ i
/-- How many rows below r have the digit v at place i. -/
def cnt (r i v : Nat) : Nat := (r / 2 ^ (i + 1)) * 2 ^ i + if v = 1 then r % 2 ^ (i + 1) - 2 ^ i else min (r % 2 ^ (i + 1)) (2 ^ i)
theorem cnt_asked : ∀ r, r < 16 → ∀ i, i < 4 → ∀ v, v < 2 → (atN r i = v → ins (cnt r i v) i v = r ∧ cnt (r + 1) i v = cnt r i v + 1) ∧ (atN r i ≠ v → cnt (r + 1) i v = cnt r i v) := by decide +kernel
theorem cnt_end : ∀ n, n < 5 → ∀ i, i < n → ∀ v, v < 2 → cnt (2 ^ n) i v = 2 ^ (n - 1) := by decide +kernel
theorem cnt_le : ∀ r, r < 17 → ∀ i, i < 4 → ∀ v, v < 2 → cnt r i v ≤ 16 := by decide +kernel
/-- The function with a variable fixed, by its digits. -/
def fixN (n b i v : Nat) : Nat := tab (2 ^ (n - 1)) (fun r => atN b (ins r i v))
/-- The list of the numbers that a function tells. -/
def lis (m : Nat) (h : Nat → Nat) : List Int := (List.range m).map fun r => ((h r : Nat) : Int)
theorem lis_length (m : Nat) (h : Nat → Nat) : (lis m h).length = m := by simp [lis]
theorem lis_rd (m : Nat) (h : Nat → Nat) (r : Nat) (hr : r < m) : rd (lis m h) (r : Int) = ((h r : Nat) : Int) := by
  unfold rd lis; simp [List.getD_eq_getElem?_getD, hr]
theorem lis_succ (m : Nat) (h : Nat → Nat) : lis (m + 1) h = lis m h ++ [((h m : Nat) : Int)] := by simp [lis, List.range_succ]
theorem lis_zero (h : Nat → Nat) : lis 0 h = [] := rfl
theorem lis_congr (m : Nat) (h g : Nat → Nat) (e : ∀ r, r < m → h r = g r) : lis m h = lis m g := by
  unfold lis; exact List.map_congr_left fun r hr => by rw [e r (List.mem_range.1 hr)]
/-- A list of digits is one that a function tells. -/
theorem lis_of (l : List Int) (hl : ∀ x ∈ l, 0 ≤ x ∧ x ≤ 1) : ∃ h : Nat → Nat, l = lis l.length h ∧ ∀ r, h r ≤ 1 := by
  refine ⟨fun r => (l.getD r 0).toNat, ?_, fun r => ?_⟩
  · apply List.ext_getElem
    · simp [lis]
    · intro i h1 h2
      simp only [lis, List.getElem_map, List.getElem_range, List.getD_eq_getElem?_getD, List.getElem?_eq_getElem h1, Option.getD_some]
      have := hl _ (List.getElem_mem h1)
      omega
  · show (l.getD r 0).toNat ≤ 1
    rw [List.getD_eq_getElem?_getD]
    by_cases h : r < l.length
    · rw [List.getElem?_eq_getElem h, Option.getD_some]
      have := hl _ (List.getElem_mem h)
      omega
    · rw [List.getElem?_eq_none (by omega)]; simp
/-- The digits' sum. -/
def pop (m b : Nat) : Nat := ((List.range m).map (atN b)).sum
/-- The rest by 2 of the sum of the digits at the rows below r that have no variable but those of w. -/
def psum (b w : Nat) : Nat → Nat
  | 0 => 0
  | r + 1 => if r &&& w = r then psum b w r ^^^ atN b r else psum b w r
theorem xor_le1 (x y : Nat) (hx : x ≤ 1) (hy : y ≤ 1) : x ^^^ y ≤ 1 := by
  rw [xor_digit x y hx hy]; omega
theorem psum_le (b w : Nat) : ∀ r, psum b w r ≤ 1
  | 0 => Nat.zero_le _
  | r + 1 => by
    have := psum_le b w r
    simp only [psum]
    split
    · exact xor_le1 _ _ this (atN_le _ _)
    · exact this
/-- The polynomial as a number. -/
def polN (n b : Nat) : Nat := tab (2 ^ n) (fun w => psum b w (2 ^ n))
theorem polN_lt (n b : Nat) : polN n b < 2 ^ 2 ^ n := tab_lt _ _ (fun _ _ => psum_le _ _ _)
/-- The coefficients of at most one variable. -/
def lowC (p w : Nat) : Nat := if pop 16 w > 1 then 0 else atN p w
theorem lowC_le (p w : Nat) : lowC p w ≤ 1 := by
  unfold lowC
  split
  · exact Nat.zero_le _
  · exact atN_le _ _
/-- The affine part. -/
def affN (n b : Nat) : Nat := polN n (tab (2 ^ n) (lowC (polN n b)))
theorem andnot_asked : ∀ r, r < 16 → ∀ w, w < 16 → (Go.bits .andNot .i64 (r : Nat) (w : Nat) == 0) = decide (r &&& w = r) := by decide +kernel
/-- The derivative in a direction. -/
def derN (n b a : Nat) : Nat := tab (2 ^ n) (fun r => atN b r ^^^ atN b (r ^^^ a))
theorem der_le (b a r : Nat) : atN b r ^^^ atN b (r ^^^ a) ≤ 1 := xor_le1 _ _ (atN_le _ _) (atN_le _ _)
/-- The sum of the numbers at the rows below r. -/
def part (h : Nat → Nat → Int) (a : Nat) : Nat → Int
  | 0 => 0
  | r + 1 => part h a r + h a r
/-- Is it a function of at most four variables? -/
def valid (n b : Int) : Bool := decide (0 ≤ n) && decide (n ≤ 4) && decide (0 ≤ b) && decide (b < ((2 ^ 2 ^ n.toNat : Nat) : Int))
theorem valid_iff (n b : Int) : valid n b = true ↔ ∃ m c : Nat, m ≤ 4 ∧ c < 2 ^ 2 ^ m ∧ n = m ∧ b = c := by
  unfold valid
  simp only [Bool.and_eq_true, decide_eq_true_eq]
  constructor
  · rintro ⟨⟨⟨h0, h1⟩, h2⟩, h3⟩
    obtain ⟨m, rfl⟩ := Int.eq_ofNat_of_zero_le h0
    obtain ⟨c, rfl⟩ := Int.eq_ofNat_of_zero_le h2
    rw [Int.toNat_natCast] at h3
    exact ⟨m, c, by omega, Int.ofNat_lt.1 h3, rfl, rfl⟩
  · rintro ⟨m, c, h1, h2, rfl, rfl⟩
    rw [Int.toNat_natCast]
    exact ⟨⟨⟨by omega, by omega⟩, by omega⟩, Int.ofNat_lt.2 h2⟩
end Go.Proofs.Ytdhfbgbclibagaa.M
