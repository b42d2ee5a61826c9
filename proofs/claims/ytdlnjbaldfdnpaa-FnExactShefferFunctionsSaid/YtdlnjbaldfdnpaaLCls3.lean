/- The classes in which all functions of a list are, as the reference and the program find them. -/
import Derived.Test.YtdlnjbaldfdnpaaPx0
import Derived.Test.YtdlnjbaldfdnpaaPx1
import Derived.Test.YtdlnjbaldfdnpaaPx7
import Derived.Test.YtdlnjbaldfdnpaaPx8
import Derived.Test.YtdlnjbaldfdnpaaPx10
import Derived.Test.YtdlnjbaldfdnpaaPx11
import Derived.Test.YtdlnjbaldfdnpaaCls
import Derived.Test.YtdlnjbaldfdnpaaLBase
import Derived.Test.YtdlnjbaldfdnpaaLClass
import Derived.Test.YtdlnjbaldfdnpaaLCls2
namespace Go.Proofs.Ytdlnjbaldfdnpaa.Pure
open Go.RowKit Go.Proofs.Ytdlnjbaldfdnpaa.P Go.Proofs.YtdlnjbaldfdnpaaW.PrintWords Go.Proofs.YtdlnjbaldfdnpaaW.PrintLast Go.Proofs.YtdlnjbaldfdnpaaW.PrintMore
set_option linter.unusedVariables false
set_option linter.unusedSimpArgs false
def inC (c : Nat) (x : S49) : Bool := M.cls x.f0.toNat x.f1.toNat c
def Good (l : List S49) : Prop := ∀ x ∈ l, ∃ n b : Nat, n ≤ 4 ∧ b < 2 ^ 2 ^ n ∧ x = ⟨(n : Int), (b : Int)⟩
theorem rdT_get (l : List S49) (i : Nat) (hi : i < l.length) : rd_T49 l (i : Int) = l[i] := by
  unfold rd_T49
  rw [Int.toNat_natCast, List.getD_eq_getElem?_getD, List.getElem?_eq_getElem hi]
  rfl
theorem part_asked : ∀ m, m < 9 → ∀ i, i < m → M.atN (2 ^ m - 1) i = 1 := by decide +kernel
theorem sclasses_inner (l : List S49) (hg : Good l) (h8 : l.length ≤ 8) (out : Int) (c : Nat) (hc : c ≤ 4) (e : Nat) : ∀ (k i : Nat) (a : Bool), i + e = l.length → 200 ≤ k →
    spec_l02Classes.l1 (k + e + 1) l ((2 ^ l.length - 1 : Nat) : Int) out (c : Int) a (i : Int) =
      (if (a && (l.drop i).all (inC c)) = true then spec_l02Classes.l0 k l ((2 ^ l.length - 1 : Nat) : Int) (Go.bits .or .i64 out (shl .i64 1 (c : Int))) ((c + 1 : Nat) : Int) else spec_l02Classes.l0 k l ((2 ^ l.length - 1 : Nat) : Int) out ((c + 1 : Nat) : Int)) := by
  have hp : 2 ^ l.length ≤ 2 ^ 8 := M.pow2_le h8
  have hw : wrap64 ((c : Int) + 1) = ((c + 1 : Nat) : Int) := by rw [M.w64_in _ (by omega) (by omega)]; rfl
  induction e with
  | zero =>
    intro k i a hi hk
    rw [Nat.add_zero]
    simp only [spec_l02Classes.l1]
    rw [if_neg (by omega), M.u64_in _ (by omega) (by omega), hw, List.drop_of_length_le (by omega)]
    cases a with
    | true => rw [if_pos rfl, if_pos (by omega), if_pos (by rfl)]
    | false => rw [if_neg (by decide), if_neg (by simp)]
  | succ e ih =>
    intro k i a hi hk
    have hlt : i < l.length := by omega
    have hw2 : wrap64 ((i : Int) + 1) = ((i + 1 : Nat) : Int) := by rw [M.w64_in _ (by omega) (by omega)]; rfl
    have IH := fun a => ih k (i + 1) a (by omega) hk
    clear ih
    obtain ⟨q, hq⟩ : ∃ q, k + e + 1 = q := ⟨_, rfl⟩
    rw [show k + (e + 1) + 1 = q + 1 from by omega]
    rw [hq] at IH
    simp only [spec_l02Classes.l1]
    rw [if_pos (by omega), List.drop_eq_getElem_cons hlt, List.all_cons]
    obtain ⟨n, b, hn, hb, hx⟩ := hg l[i] (List.getElem_mem hlt)
    have hb6 : b < 2 ^ 62 := Nat.lt_trans (M.bits_lt hn hb) (by decide)
    have hin : inC c l[i] = M.cls n b c := by unfold inC; rw [hx]; simp
    rw [rdT_get l i hlt]
    cases a with
    | true =>
      rw [if_pos rfl, M.u64_in _ (by omega) (by omega), if_pos (by omega), M.bit_nat _ _ (by omega) (by omega), part_asked l.length (by omega) i hlt, if_neg (by decide), if_pos (by omega), hx, sin_eq n b c hn hb6 hc _ (by omega), Option.bind_some, hw2, IH, ← hx, hin]
      simp
    | false =>
      rw [if_neg (by decide), hw2, IH]
      simp
/-- The functions of the list are all in none of the classes below c. -/
def noC (l : List S49) (c : Nat) : Prop := ∀ j, j < c → l.all (inC j) = false
theorem noC_step (l : List S49) (c : Nat) : noC l (c + 1) ↔ noC l c ∧ l.all (inC c) = false := by
  constructor
  · intro h
    exact ⟨fun j hj => h j (by omega), h c (by omega)⟩
  · intro h j hj
    by_cases e : j = c
    · rw [e]; exact h.2
    · exact h.1 j (by omega)
theorem sclasses_outer (l : List S49) (hg : Good l) (h8 : l.length ≤ 8) (d : Nat) : ∀ (k c x : Nat), c + d = 5 → d * (l.length + 2) + 201 ≤ k → x < 2 ^ c → (x = 0 ↔ noC l c) →
    ∃ y : Nat, spec_l02Classes.l0 k l ((2 ^ l.length - 1 : Nat) : Int) (x : Int) (c : Int) = some (y : Int) ∧ (y = 0 ↔ noC l 5) := by
  induction d with
  | zero =>
    intro k c x hc hk hx hn
    obtain ⟨k, rfl⟩ : ∃ m, k = m + 1 := ⟨k - 1, by omega⟩
    obtain rfl : c = 5 := by omega
    simp only [spec_l02Classes.l0]
    rw [if_neg (by omega)]
    exact ⟨x, rfl, hn⟩
  | succ d ih =>
    intro k c x hc hk hx hn
    rw [Nat.add_mul, Nat.one_mul] at hk
    obtain ⟨k, rfl⟩ : ∃ m, k = m + l.length + 1 + 1 := ⟨k - l.length - 2, by omega⟩
    have h16 : 2 ^ c ≤ 2 ^ 4 := M.pow2_le (by omega)
    simp only [spec_l02Classes.l0]
    rw [if_pos (by omega)]
    have := sclasses_inner l hg h8 (x : Int) c (by omega) l.length k 0 true (by omega) (by omega)
    rw [Int.natCast_zero] at this
    rw [this, List.drop_zero, Bool.true_and]
    cases hq : l.all (inC c) with
    | true =>
      rw [if_pos rfl, show (1 : Int) = ((1 : Nat) : Int) from rfl, M.shl_nat 1 c (by omega) (by omega), M.or_nat _ _ (by omega) (by omega), M.or_high _ _ _ hx, Nat.one_mul]
      refine ih k (c + 1) (x + 2 ^ c) (by omega) (by omega) (by rw [Nat.pow_succ]; omega) ?_
      rw [noC_step, hq]
      have := M.pow_pos c
      constructor
      · intro h; omega
      · intro h; exact absurd h.2 (by decide)
    | false =>
      rw [if_neg (by decide)]
      refine ih k (c + 1) x (by omega) (by omega) (by rw [Nat.pow_succ]; omega) ?_
      rw [noC_step, hq, hn]
      simp
theorem sclasses_eq (l : List S49) (hg : Good l) (h8 : l.length ≤ 8) (k : Nat) (hk : 260 ≤ k) :
    ∃ y : Nat, spec_l02Classes.f k l ((2 ^ l.length - 1 : Nat) : Int) = some (y : Int) ∧ (y = 0 ↔ noC l 5) := by
  unfold spec_l02Classes.f
  exact sclasses_outer l hg h8 5 k 0 0 (by omega) (by omega) (by omega) ⟨fun _ j hj => by omega, fun _ => rfl⟩
theorem allIn_eq (l : List S49) (hg : Good l) (h8 : l.length ≤ 1048576) (c : Nat) (hc : c ≤ 4) : impl_allIn.f l (c : Int) = some (l.all (inC c)) := by
  have h : ∀ x ∈ l, impl_Func_isIn.f 300 x.f0 x.f1 (c : Int) = some (inC c x) := by
    intro x hx
    obtain ⟨n, b, hn, hb, rfl⟩ := hg x hx
    exact iin_eq n b c hn hb hc 300 (by omega)
  unfold impl_allIn.f
  rw [if_pos]
  · congr 1
    unfold pairsOf
    rw [List.all_map, Bool.eq_iff_iff, List.all_eq_true, List.all_eq_true]
    constructor
    · intro hh x hx
      have h1 := hh x hx
      have h2 := h x hx
      simp only [Function.comp, inClass] at h1
      rw [h2] at h1
      simpa using h1
    · intro hh x hx
      have h1 := hh x hx
      have h2 := h x hx
      simp only [Function.comp, inClass]
      rw [h2, h1]
      rfl
  · refine ⟨by omega, ?_⟩
    intro x hx
    obtain ⟨y, hy, rfl⟩ := List.mem_map.1 hx
    have h2 := h y hy
    simp only
    rw [h2]
    rfl
theorem iclasses_loop (l : List S49) (hg : Good l) (h8 : l.length ≤ 1048576) (d : Nat) : ∀ (k c : Nat) (acc : List Int), c + d = 5 → d < k → acc.length ≤ c → (acc.length = 0 ↔ noC l c) →
    ∃ r, impl_classesOf.l0 k l acc (c : Int) = some r ∧ (r.length = 0 ↔ noC l 5) := by
  induction d with
  | zero =>
    intro k c acc hc hk hx hn
    obtain ⟨k, rfl⟩ : ∃ m, k = m + 1 := ⟨k - 1, by omega⟩
    obtain rfl : c = 5 := by omega
    simp only [impl_classesOf.l0]
    rw [if_neg (by omega)]
    exact ⟨acc, rfl, hn⟩
  | succ d ih =>
    intro k c acc hc hk hx hn
    obtain ⟨k, rfl⟩ : ∃ m, k = m + 1 := ⟨k - 1, by omega⟩
    have hw : wrap64 ((c : Int) + 1) = ((c + 1 : Nat) : Int) := by rw [M.w64_in _ (by omega) (by omega)]; rfl
    simp only [impl_classesOf.l0]
    rw [if_pos (by omega), allIn_eq l hg h8 c (by omega), Option.bind_some, hw]
    cases hq : l.all (inC c) with
    | true =>
      rw [if_pos rfl, if_pos (by omega)]
      refine ih k (c + 1) _ (by omega) (by omega) (by simp; omega) ?_
      rw [noC_step, hq]
      simp
    | false =>
      rw [if_neg (by decide)]
      refine ih k (c + 1) _ (by omega) (by omega) (by omega) ?_
      rw [noC_step, hq, hn]
      simp
theorem icomplete_eq (l : List S49) (hg : Good l) (h8 : l.length ≤ 1048576) (k : Nat) (hk : 6 ≤ k) :
    ∃ x : Bool, impl_isComplete.f k l = some x ∧ (x = true ↔ noC l 5) := by
  unfold impl_isComplete.f impl_classesOf.f
  obtain ⟨r, h1, h2⟩ := iclasses_loop l hg h8 5 k 0 [] (by omega) (by omega) (by simp) ⟨fun _ j hj => by omega, fun _ => rfl⟩
  rw [Int.natCast_zero] at h1
  rw [h1]
  refine ⟨_, rfl, ?_⟩
  rw [← h2]
  simp
theorem good_one (n b : Nat) (hn : n ≤ 4) (hb : b < 2 ^ 2 ^ n) : Good [(⟨(n : Int), (b : Int)⟩ : S49)] := by
  intro x hx
  rw [List.mem_singleton] at hx
  exact ⟨n, b, hn, hb, hx⟩
/-- Is the function in none of the classes? -/
def shef (n b : Nat) : Bool := (List.range 5).all fun j => !(M.cls n b j)
theorem noC_one (n b : Nat) : noC [(⟨(n : Int), (b : Int)⟩ : S49)] 5 ↔ shef n b = true := by
  unfold noC shef
  rw [List.all_eq_true]
  refine ⟨fun h j hj => ?_, fun h j hj => ?_⟩
  · have := h j (List.mem_range.1 hj)
    simpa [inC] using this
  · have := h j (List.mem_range.2 hj)
    simpa [inC] using this
theorem ssheffer_eq (n b : Nat) (hn : n ≤ 4) (hb : b < 2 ^ 2 ^ n) (k : Nat) (hk : 260 ≤ k) : spec_l02Sheffer.f k (n : Int) (b : Int) = some (shef n b) := by
  unfold spec_l02Sheffer.f
  obtain ⟨y, h1, h2⟩ := sclasses_eq [(⟨(n : Int), (b : Int)⟩ : S49)] (good_one n b hn hb) (by simp) k hk
  rw [show ((2 ^ [(⟨(n : Int), (b : Int)⟩ : S49)].length - 1 : Nat) : Int) = 1 from rfl] at h1
  rw [h1, Option.bind_some]
  congr 1
  rw [Bool.eq_iff_iff, ← noC_one, ← h2]
  simp
theorem isheffer_eq (n b : Nat) (hn : n ≤ 4) (hb : b < 2 ^ 2 ^ n) (k : Nat) (hk : 6 ≤ k) : impl_Func_isSheffer.f k (n : Int) (b : Int) = some (shef n b) := by
  unfold impl_Func_isSheffer.f
  obtain ⟨x, h1, h2⟩ := icomplete_eq [(⟨(n : Int), (b : Int)⟩ : S49)] (good_one n b hn hb) (by simp) k hk
  rw [h1, Option.bind_some]
  congr 1
  rw [Bool.eq_iff_iff, ← noC_one]
  exact h2
theorem ssf_loop (n : Nat) (hn : n ≤ 4) (d : Nat) : ∀ (k b : Nat), b + d = 2 ^ 2 ^ n → d + 270 ≤ k →
    spec_ShefferFunctions.l0 k (n : Int) (fnsThat (n : Int) (shef n) b) (b : Int) = some (fnsThat (n : Int) (shef n) (2 ^ 2 ^ n), 0) := by
  have h16 := pow2_16 hn
  have hp := M.pow_pos (2 ^ n)
  induction d with
  | zero =>
    intro k b hb hk
    obtain ⟨k, rfl⟩ : ∃ m, k = m + 1 := ⟨k - 1, by omega⟩
    simp only [spec_ShefferFunctions.l0]
    rw [all_eq n hn, Option.bind_some, if_neg (by omega), show b = 2 ^ 2 ^ n from by omega]
  | succ d ih =>
    intro k b hb hk
    obtain ⟨k, rfl⟩ : ∃ m, k = m + 1 := ⟨k - 1, by omega⟩
    simp only [spec_ShefferFunctions.l0]
    rw [all_eq n hn, Option.bind_some, if_pos (by omega), ssheffer_eq n b hn (by omega) k (by omega), Option.bind_some, M.w64_in ((b : Int) + 1) (by omega) (by omega)]
    have hle := fnsThat_le (n : Int) (shef n) b
    have step := ih k (b + 1) (by omega) (by omega)
    cases hq : shef n b with
    | true =>
      rw [fnsThat_true (n : Int) (shef n) b hq] at step
      rw [if_pos rfl, if_pos (by omega)]
      exact step
    | false =>
      rw [fnsThat_false (n : Int) (shef n) b hq] at step
      rw [if_neg (by decide)]
      exact step
theorem fnsThat_congr (n : Int) (p q : Nat → Bool) (m : Nat) (h : ∀ b, b < m → p b = q b) : fnsThat n p m = fnsThat n q m := by
  unfold fnsThat
  rw [List.filter_congr (fun b hb => h b (List.mem_range.1 hb))]
end Go.Proofs.Ytdlnjbaldfdnpaa.Pure
