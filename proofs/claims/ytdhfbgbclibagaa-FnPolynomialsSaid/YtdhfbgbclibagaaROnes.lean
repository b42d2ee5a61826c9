/- How many digits of a number below 65536 are 1: by masks and shifts, and by counting: the two agree at each such number (asked of the kernel, number by number). -/
import Derived.Test.YtdhfbgbclibagaaRMath
namespace Go.Proofs.Ytdhfbgbclibagaa.M
def allB : Nat → (Nat → Bool) → Bool
  | 0, _ => true
  | n + 1, p => p n && allB n p
theorem allB_at : ∀ (n : Nat) (p : Nat → Bool), allB n p = true → ∀ i, i < n → p i = true
  | 0, _, _, i, hi => by omega
  | n + 1, p, h, i, hi => by
    simp only [allB, Bool.and_eq_true] at h
    by_cases e : i = n
    · rw [e]; exact h.1
    · exact allB_at n p h.2 i (by omega)
def oc1 (x : Nat) : Nat := (x / 2 &&& 6148914691236517205) + (x &&& 6148914691236517205)
def oc2 (x : Nat) : Nat := (x / 4 &&& 3689348814741910323) + (x &&& 3689348814741910323)
def oc3 (x : Nat) : Nat := (x / 16 + x) &&& 1085102592571150095
def oc4 (x : Nat) : Nat := x + x / 256
def oc5 (x : Nat) : Nat := x + x / 65536
def oc6 (x : Nat) : Nat := x + x / 4294967296
def oc (x : Nat) : Nat := (oc6 (oc5 (oc4 (oc3 (oc2 (oc1 x)))))) &&& 127
def popf : Nat → Nat → Nat
  | 0, _ => 0
  | k + 1, x => x % 2 + popf k (x / 2)
theorem oc_asked : allB 256 (fun h => allB 256 (fun l => Nat.beq (oc (256 * h + l)) (popf 16 (256 * h + l)))) = true := by decide +kernel
theorem oc_popf (x : Nat) (hx : x < 65536) : oc x = popf 16 x := by
  have h1 := allB_at _ _ (allB_at _ _ oc_asked (x / 256) (by omega)) (x % 256) (by omega)
  have e : 256 * (x / 256) + x % 256 = x := by omega
  simp only [e] at h1
  exact Nat.eq_of_beq_eq_true h1
theorem oc1_lt (x : Nat) (hx : x < 65536) : oc1 x < 2 ^ 17 := by
  have h1 : (x / 2 &&& 6148914691236517205) ≤ x / 2 := Nat.and_le_left
  have h2 : (x &&& 6148914691236517205) ≤ x := Nat.and_le_left
  unfold oc1; omega
theorem oc2_lt (x : Nat) (hx : x < 2 ^ 17) : oc2 x < 2 ^ 18 := by
  have h1 : (x / 4 &&& 3689348814741910323) ≤ x / 4 := Nat.and_le_left
  have h2 : (x &&& 3689348814741910323) ≤ x := Nat.and_le_left
  unfold oc2; omega
theorem oc3_lt (x : Nat) (hx : x < 2 ^ 18) : oc3 x < 2 ^ 19 := by
  have h1 : ((x / 16 + x) &&& 1085102592571150095) ≤ x / 16 + x := Nat.and_le_left
  unfold oc3; omega
theorem atN_succ (x r : Nat) : atN x (r + 1) = atN (x / 2) r := by
  unfold atN; rw [Nat.pow_succ, Nat.mul_comm, Nat.div_div_eq_div_mul]
theorem popf_pop : ∀ (k x : Nat), popf k x = pop k x
  | 0, _ => rfl
  | k + 1, x => by
    have h : pop (k + 1) x = atN x 0 + pop k (x / 2) := by
      unfold pop
      rw [List.range_succ_eq_map, List.map_cons, List.sum_cons, List.map_map]
      congr 2
      exact List.map_congr_left fun r _ => atN_succ x r
    rw [h, ← popf_pop k (x / 2)]
    simp [popf, atN]
end Go.Proofs.Ytdhfbgbclibagaa.M
