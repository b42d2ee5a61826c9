/- The classes of Post: what the reference and the program answer. -/
import Derived.Test.YtdlnjbaldfdnpaaPx0
import Derived.Test.YtdlnjbaldfdnpaaPx1
import Derived.Test.YtdlnjbaldfdnpaaPx2
import Derived.Test.YtdlnjbaldfdnpaaPx7
import Derived.Test.YtdlnjbaldfdnpaaPx8
import Derived.Test.YtdlnjbaldfdnpaaPx9
import Derived.Test.YtdlnjbaldfdnpaaPx10
import Derived.Test.YtdlnjbaldfdnpaaCls
import Derived.Test.YtdlnjbaldfdnpaaLBase
import Derived.Test.YtdlnjbaldfdnpaaLDual
namespace Go.Proofs.Ytdlnjbaldfdnpaa.Pure
open Go.RowKit Go.Proofs.Ytdlnjbaldfdnpaa.P Go.Proofs.YtdlnjbaldfdnpaaW.PrintWords Go.Proofs.YtdlnjbaldfdnpaaW.PrintLast Go.Proofs.YtdlnjbaldfdnpaaW.PrintMore
set_option linter.unusedVariables false
set_option linter.unusedSimpArgs false
theorem c_dual (n b : Nat) (hn : n ≤ 4) (hb : b < 2 ^ 62) (d : Nat) : ∀ (k r : Nat), r + d = 2 ^ n → d < k →
    spec_l02In.l0 k ((2 ^ n : Nat) : Int) (r : Int) (n : Int) (b : Int) = some (decide (∀ q, q < 2 ^ n → r ≤ q → M.atN b q ≠ M.atN b (2 ^ n - 1 - q))) := by
  have h16 := M.pow_le16 hn
  induction d with
  | zero =>
    intro k r hr hk
    obtain ⟨k, rfl⟩ : ∃ m, k = m + 1 := ⟨k - 1, by omega⟩
    simp only [spec_l02In.l0]
    rw [if_neg (by omega), decide_eq_true (fun q h1 h2 => by omega)]
  | succ d ih =>
    intro k r hr hk
    obtain ⟨k, rfl⟩ : ∃ m, k = m + 1 := ⟨k - 1, by omega⟩
    have e1 : wrap64 (wrap64 (((2 ^ n : Nat) : Int) - 1) - (r : Int)) = ((2 ^ n - 1 - r : Nat) : Int) := by
      generalize 2 ^ n = m at *
      rw [M.w64_in ((m : Int) - 1) (by omega) (by omega), M.w64_in _ (by omega) (by omega)]; omega
    simp only [spec_l02In.l0]
    rw [if_pos (by omega), at_eq (n : Int) b r hb (by omega), e1, at_eq (n : Int) b _ hb (by omega)]
    simp only [Option.bind_some]
    by_cases e : M.atN b r = M.atN b (2 ^ n - 1 - r)
    · rw [if_pos (by rw [e]), decide_eq_false (fun h => h r (by omega) (Nat.le_refl _) e)]
    · rw [if_neg (by omega), M.w64_in ((r : Int) + 1) (by omega) (by omega)]
      refine (ih k (r + 1) (by omega) (by omega)).trans ?_
      congr 1
      apply decide_eq_decide.2
      constructor
      · intro h q h1 h2
        by_cases eq : q = r
        · rw [eq]; exact e
        · exact h q h1 (by omega)
      · intro h q h1 h2
        exact h q h1 (by omega)
theorem gt1 (x y : Nat) (h : x ≤ 1) (h2 : ¬ y = 0) : ¬ x > y := by omega
theorem gt2 (x y : Nat) (h : x ≤ 1) (h2 : ¬ x = 1) : ¬ x > y := by omega
def monoAt (n b r : Nat) : Prop := ∀ i, i < n → ¬ M.atN b r > M.atN b (r ||| 2 ^ i)
set_option maxHeartbeats 4000000 in
theorem c_mono (n b : Nat) (hn : n ≤ 4) (hb : b < 2 ^ 62) (d : Nat) : ∀ (k r : Nat), r + d = 2 ^ n → d * (n + 3) + 1 ≤ k →
    ∃ x : Bool, spec_l02In.l1 k ((2 ^ n : Nat) : Int) (r : Int) (n : Int) (b : Int) = some x ∧ Aside0 (x = true ↔ ∀ q, q < 2 ^ n → r ≤ q → monoAt n b q) := by
  have h16 := M.pow_le16 hn
  induction d with
  | zero =>
    intro k r hr hk
    obtain ⟨k, rfl⟩ : ∃ m, k = m + 1 := ⟨k - 1, by omega⟩
    simp only [spec_l02In.l1]
    rw [if_neg (by omega)]
    exact ⟨true, rfl, ⟨⟨fun _ q h1 h2 => by omega, fun _ => rfl⟩⟩⟩
  | succ d ih =>
    intro k r hr hk
    obtain ⟨k, rfl⟩ : ∃ m, k = m + 1 := ⟨k - 1, by omega⟩
    have hlt : r < 2 ^ n := by omega
    have hk2 : (d + 1) * (n + 3) = d * (n + 3) + (n + 3) := by rw [Nat.add_mul, Nat.one_mul]
    simp only [spec_l02In.l1]
    rw [if_pos (by omega)]
    have inner : ∀ (e k i : Nat), i + e = n → d * (n + 3) + 1 + e + 1 ≤ k → (∀ j, j < i → ¬ M.atN b r > M.atN b (r ||| 2 ^ j)) →
        ∃ x : Bool, spec_l02In.l2 k ((2 ^ n : Nat) : Int) (r : Int) (i : Int) (n : Int) (b : Int) = some x ∧ Aside0 (x = true ↔ ∀ q, q < 2 ^ n → r ≤ q → monoAt n b q) := by
      intro e
      induction e with
      | zero =>
        intro k i hi hk hlow
        obtain ⟨k, rfl⟩ : ∃ m, k = m + 1 := ⟨k - 1, by omega⟩
        simp only [spec_l02In.l2]
        rw [if_neg (by omega), M.w64_in ((r : Int) + 1) (by omega) (by omega)]
        obtain ⟨x, hx, hxi⟩ := ih k (r + 1) (by omega) (by omega)
        refine ⟨x, hx, ⟨hxi.out.trans ?_⟩⟩
        constructor
        · intro h q h1 h2
          by_cases eq : q = r
          · rw [eq]; exact fun j hj => hlow j (by omega)
          · exact h q h1 (by omega)
        · intro h q h1 h2
          exact h q h1 (by omega)
      | succ e ihe =>
        intro k i hi hk hlow
        obtain ⟨k, rfl⟩ : ∃ m, k = m + 1 := ⟨k - 1, by omega⟩
        have h8 : 2 ^ i ≤ 8 := M.pow2_le (a := i) (b := 3) (by omega)
        have hor := M.or_lt n (by omega) i (by omega) r hlt
        have hos := Aside0.mk (M.or_asked r (by omega) i (by omega)).2
        have hw : Aside0 (wrap64 ((i : Int) + 1) = ((i + 1 : Nat) : Int)) := ⟨by rw [M.w64_in _ (by omega) (by omega)]; rfl⟩
        have next : Aside0 ((¬ M.atN b r > M.atN b (r ||| 2 ^ i)) → ∃ x : Bool, spec_l02In.l2 k ((2 ^ n : Nat) : Int) (r : Int) ((i + 1 : Nat) : Int) (n : Int) (b : Int) = some x ∧ Aside0 (x = true ↔ ∀ q, q < 2 ^ n → r ≤ q → monoAt n b q)) := by
          refine ⟨fun hgo => ?_⟩
          refine ihe k (i + 1) (by omega) (by omega) fun j hj => ?_
          by_cases eq : j = i
          · rw [eq]; exact hgo
          · exact hlow j (Nat.lt_of_le_of_ne (Nat.le_of_lt_succ hj) eq)
        simp only [spec_l02In.l2]
        rw [if_pos (by omega), M.u64_in _ (by omega) (by omega), if_pos (by omega), show (1 : Int) = ((1 : Nat) : Int) from rfl, M.shl_nat 1 i (by omega) (by omega), Nat.one_mul, M.and_nat _ _ (by omega) (by omega), M.or_nat _ _ (by omega) (by omega), at_eq (n : Int) b r hb (by omega), at_eq (n : Int) b _ hb (by omega)]
        simp only [Option.bind_some]
        rw [show ((i : Int) + ((1 : Nat) : Int)) = (i : Int) + 1 from rfl, hw.out]
        have b1 := M.atN_le b r
        have b2 := M.atN_le b (r ||| 2 ^ i)
        by_cases c1 : r &&& 2 ^ i = 0
        · rw [if_pos (by omega)]
          by_cases c2 : M.atN b r = 1
          · rw [if_pos (by omega)]
            by_cases c3 : M.atN b (r ||| 2 ^ i) = 0
            · rw [if_pos (by omega)]
              refine ⟨false, rfl, ⟨?_⟩⟩
              simp only [Bool.false_eq_true, false_iff]
              intro h
              exact h r hlt (Nat.le_refl _) i (by omega) (by omega)
            · rw [if_neg (by omega)]
              exact next.out (gt1 _ _ b1 c3)
          · rw [if_neg (by omega)]
            exact next.out (gt2 _ _ b1 c2)
        · rw [if_neg (by omega)]
          exact next.out (by rw [hos.out c1]; exact Nat.lt_irrefl _)
    exact inner n k 0 (by omega) (by omega) (fun j hj => by omega)
def affAt (n b i : Nat) : Prop := ∀ r, r < 2 ^ n → (M.atN b r ≠ M.atN b (r ^^^ 2 ^ i) ↔ M.atN b 0 ≠ M.atN b (2 ^ i))
theorem bne_two (x y u v : Nat) : (((x : Int) != (y : Int)) != ((u : Int) != (v : Int))) = !decide (x ≠ y ↔ u ≠ v) := by
  by_cases h1 : x = y
  · subst h1
    by_cases h2 : u = v
    · subst h2; simp
    · have h3 : ¬ (u : Int) = (v : Int) := by omega
      simp [h2, h3]
  · have h4 : ¬ (x : Int) = (y : Int) := by omega
    have a : ((x : Int) != (y : Int)) = true := bne_iff_ne.2 h4
    by_cases h2 : u = v
    · subst h2; rw [a]; simp [h1]
    · have h3 : ¬ (u : Int) = (v : Int) := by omega
      have b : ((u : Int) != (v : Int)) = true := bne_iff_ne.2 h3
      rw [a, b]; simp [h1, h2]
set_option maxHeartbeats 4000000 in
theorem c_aff (n b : Nat) (hn : n ≤ 4) (hb : b < 2 ^ 62) (d : Nat) : ∀ (k i : Nat), i + d = n → d * (2 ^ n + 3) + 1 ≤ k →
    ∃ x : Bool, spec_l02In.l3 k ((2 ^ n : Nat) : Int) (i : Int) (n : Int) (b : Int) = some x ∧ Aside0 (x = true ↔ ∀ j, j < n → i ≤ j → affAt n b j) := by
  have h16 := M.pow_le16 hn
  induction d with
  | zero =>
    intro k i hi hk
    obtain ⟨k, rfl⟩ : ∃ m, k = m + 1 := ⟨k - 1, by omega⟩
    simp only [spec_l02In.l3]
    rw [if_neg (by omega)]
    exact ⟨true, rfl, ⟨⟨fun _ q h1 h2 => by omega, fun _ => rfl⟩⟩⟩
  | succ d ih =>
    intro k i hi hk
    obtain ⟨k, rfl⟩ : ∃ m, k = m + 1 := ⟨k - 1, by omega⟩
    have h8 : 2 ^ i ≤ 8 := M.pow2_le (a := i) (b := 3) (by omega)
    have hk2 : (d + 1) * (2 ^ n + 3) = d * (2 ^ n + 3) + (2 ^ n + 3) := by rw [Nat.add_mul, Nat.one_mul]
    simp only [spec_l02In.l3]
    rw [if_pos (by omega), M.u64_in _ (by omega) (by omega), if_pos (by omega), show (1 : Int) = ((1 : Nat) : Int) from rfl, M.shl_nat 1 i (by omega) (by omega), Nat.one_mul]
    have z := at_eq (n : Int) b 0 hb (by omega)
    rw [Int.natCast_zero] at z
    rw [z, at_eq (n : Int) b _ hb (by omega)]
    simp only [Option.bind_some]
    have inner : ∀ (e k r : Nat), r + e = 2 ^ n → d * (2 ^ n + 3) + 1 + e + 1 ≤ k → (∀ q, q < r → (M.atN b q ≠ M.atN b (q ^^^ 2 ^ i) ↔ M.atN b 0 ≠ M.atN b (2 ^ i))) →
        ∃ x : Bool, spec_l02In.l4 k ((2 ^ n : Nat) : Int) (i : Int) ((2 ^ i : Nat) : Int) (((M.atN b 0 : Nat) : Int) != ((M.atN b (2 ^ i) : Nat) : Int)) (r : Int) (n : Int) (b : Int) = some x ∧ Aside0 (x = true ↔ ∀ j, j < n → i ≤ j → affAt n b j) := by
      intro e
      induction e with
      | zero =>
        intro k r hr hk hlow
        obtain ⟨k, rfl⟩ : ∃ m, k = m + 1 := ⟨k - 1, by omega⟩
        simp only [spec_l02In.l4]
        rw [if_neg (by omega), M.w64_in ((i : Int) + 1) (by omega) (by omega)]
        obtain ⟨x, hx, hxi⟩ := ih k (i + 1) (by omega) (by omega)
        refine ⟨x, hx, ⟨hxi.out.trans ?_⟩⟩
        constructor
        · intro h q h1 h2
          by_cases eq : q = i
          · rw [eq]; exact fun j hj => hlow j (by omega)
          · exact h q h1 (by omega)
        · intro h q h1 h2
          exact h q h1 (by omega)
      | succ e ihe =>
        intro k r hr hk hlow
        obtain ⟨k, rfl⟩ : ∃ m, k = m + 1 := ⟨k - 1, by omega⟩
        have hlt : r < 2 ^ n := by omega
        have hx := M.xor_lt16 n (by omega) i (by omega) r hlt
        simp only [spec_l02In.l4]
        rw [if_pos (by omega), M.xor_nat _ _ (by omega) (by omega), at_eq (n : Int) b r hb (by omega), at_eq (n : Int) b _ hb (by omega)]
        simp only [Option.bind_some]
        rw [bne_two]
        by_cases c1 : (M.atN b r ≠ M.atN b (r ^^^ 2 ^ i) ↔ M.atN b 0 ≠ M.atN b (2 ^ i))
        · rw [if_neg (by simp only [decide_eq_true c1]; simp), M.w64_in ((r : Int) + 1) (by omega) (by omega)]
          refine ihe k (r + 1) (by omega) (by omega) fun q hq => ?_
          by_cases eq : q = r
          · rw [eq]; exact c1
          · exact hlow q (Nat.lt_of_le_of_ne (Nat.le_of_lt_succ hq) eq)
        · rw [if_pos (by simp only [decide_eq_false c1]; simp)]
          refine ⟨false, rfl, ⟨?_⟩⟩
          simp only [Bool.false_eq_true, false_iff]
          intro h
          exact c1 (h i (by omega) (Nat.le_refl _) r hlt)
    exact inner (2 ^ n) k 0 (by omega) (by omega) (fun j hj => by omega)
theorem sin_eq (n b c : Nat) (hn : n ≤ 4) (hb : b < 2 ^ 62) (hc : c ≤ 4) (k : Nat) (hk : 200 ≤ k) : spec_l02In.f k (n : Int) (b : Int) (c : Int) = some (M.cls n b c) := by
  have h16 := M.pow_le16 hn
  have hp := M.pow_pos n
  have z := at_eq (n : Int) b 0 hb (by omega)
  rw [Int.natCast_zero] at z
  unfold spec_l02In.f M.cls
  rw [rows_eq n hn]
  simp only [Option.bind_some]
  by_cases c0 : c = 0
  · rw [if_pos (by omega), if_pos c0, z]
    simp only [Option.bind_some]
    congr 1
    by_cases h : M.atN b 0 = 0
    · simp [h]
    · have h2 : ¬ ((M.atN b 0 : Nat) : Int) = 0 := by omega
      simp [h, h2]
  · rw [if_neg (by omega), if_neg c0]
    by_cases c1 : c = 1
    · rw [if_pos (by omega), if_pos c1, show ((2 ^ n : Nat) : Int) - 1 = ((2 ^ n - 1 : Nat) : Int) from by rw [Int.natCast_sub hp]; rfl, M.w64_in _ (by omega) (by omega), at_eq (n : Int) b _ hb (by omega)]
      simp only [Option.bind_some]
      congr 1
      by_cases h : M.atN b (2 ^ n - 1) = 1
      · simp [h]
      · have h2 : ¬ ((M.atN b (2 ^ n - 1) : Nat) : Int) = 1 := by omega
        simp [h, h2]
    · rw [if_neg (by omega), if_neg c1]
      by_cases c2 : c = 2
      · rw [if_pos (by omega), if_pos c2]
        refine (c_dual n b hn hb (2 ^ n) k 0 (by omega) (by omega)).trans ?_
        congr 1
        exact decide_eq_decide.2 ⟨fun h r hr => h r hr (Nat.zero_le _), fun h r hr _ => h r hr⟩
      · rw [if_neg (by omega), if_neg c2]
        have hm1 : 2 ^ n * (n + 3) ≤ 16 * 7 := Nat.mul_le_mul h16 (by omega)
        have hm2 : n * (2 ^ n + 3) ≤ 4 * 19 := Nat.mul_le_mul hn (by omega)
        by_cases c3 : c = 3
        · rw [if_pos (by omega), if_pos c3]
          obtain ⟨x, hx, hxi⟩ := c_mono n b hn hb (2 ^ n) k 0 (by omega) (by omega)
          refine hx.trans ?_
          congr 1
          rw [Bool.eq_iff_iff, decide_eq_true_eq]
          exact hxi.out.trans ⟨fun h r hr => h r hr (Nat.zero_le _), fun h r hr _ => h r hr⟩
        · rw [if_neg (by omega), if_neg c3]
          obtain ⟨x, hx, hxi⟩ := c_aff n b hn hb n k 0 (by omega) (by omega)
          refine hx.trans ?_
          congr 1
          rw [Bool.eq_iff_iff, decide_eq_true_eq]
          exact hxi.out.trans ⟨fun h r hr => h r hr (Nat.zero_le _), fun h r hr _ => h r hr⟩
set_option maxHeartbeats 4000000 in
theorem i_mono (n b : Nat) (hn : n ≤ 4) (hb : b < 2 ^ 62) (d : Nat) : ∀ (k r : Nat), r + d = 2 ^ n → d * (n + 3) + 1 ≤ k →
    ∃ x : Bool, impl_Func_isMonotone.l0 k ((2 ^ n : Nat) : Int) (r : Int) (n : Int) (b : Int) = some x ∧ Aside0 (x = true ↔ ∀ q, q < 2 ^ n → r ≤ q → monoAt n b q) := by
  have h16 := M.pow_le16 hn
  induction d with
  | zero =>
    intro k r hr hk
    obtain ⟨k, rfl⟩ : ∃ m, k = m + 1 := ⟨k - 1, by omega⟩
    simp only [impl_Func_isMonotone.l0]
    rw [if_neg (by omega)]
    exact ⟨true, rfl, ⟨⟨fun _ q h1 h2 => by omega, fun _ => rfl⟩⟩⟩
  | succ d ih =>
    intro k r hr hk
    obtain ⟨k, rfl⟩ : ∃ m, k = m + 1 := ⟨k - 1, by omega⟩
    have hlt : r < 2 ^ n := by omega
    have hk2 : (d + 1) * (n + 3) = d * (n + 3) + (n + 3) := by rw [Nat.add_mul, Nat.one_mul]
    simp only [impl_Func_isMonotone.l0]
    rw [if_pos (by omega)]
    have inner : ∀ (e k i : Nat), i + e = n → d * (n + 3) + 1 + e + 1 ≤ k → (∀ j, j < i → ¬ M.atN b r > M.atN b (r ||| 2 ^ j)) →
        ∃ x : Bool, impl_Func_isMonotone.l1 k (r : Int) ((2 ^ n : Nat) : Int) (r : Int) (n : Int) (i : Int) (n : Int) (b : Int) = some x ∧ Aside0 (x = true ↔ ∀ q, q < 2 ^ n → r ≤ q → monoAt n b q) := by
      intro e
      induction e with
      | zero =>
        intro k i hi hk hlow
        obtain ⟨k, rfl⟩ : ∃ m, k = m + 1 := ⟨k - 1, by omega⟩
        simp only [impl_Func_isMonotone.l1]
        rw [if_neg (by omega), M.w64_in ((r : Int) + 1) (by omega) (by omega)]
        obtain ⟨x, hx, hxi⟩ := ih k (r + 1) (by omega) (by omega)
        refine ⟨x, hx, ⟨hxi.out.trans ?_⟩⟩
        constructor
        · intro h q h1 h2
          by_cases eq : q = r
          · rw [eq]; exact fun j hj => hlow j (by omega)
          · exact h q h1 (by omega)
        · intro h q h1 h2
          exact h q h1 (by omega)
      | succ e ihe =>
        intro k i hi hk hlow
        obtain ⟨k, rfl⟩ : ∃ m, k = m + 1 := ⟨k - 1, by omega⟩
        have h8 : 2 ^ i ≤ 8 := M.pow2_le (a := i) (b := 3) (by omega)
        have hor := M.or_lt n (by omega) i (by omega) r hlt
        simp only [impl_Func_isMonotone.l1]
        rw [if_pos (by omega), Func_at_eq (n : Int) b r hb (by omega)]
        simp only [Option.bind_some]
        rw [if_pos (by omega), show (1 : Int) = ((1 : Nat) : Int) from rfl, M.shl_nat 1 i (by omega) (by omega), Nat.one_mul, M.or_nat _ _ (by omega) (by omega), Func_at_eq (n : Int) b _ hb (by omega)]
        simp only [Option.bind_some]
        by_cases c1 : M.atN b r > M.atN b (r ||| 2 ^ i)
        · rw [if_pos (by omega)]
          refine ⟨false, rfl, ⟨?_⟩⟩
          simp only [Bool.false_eq_true, false_iff]
          intro h
          exact h r hlt (Nat.le_refl _) i (by omega) c1
        · rw [if_neg (by omega), show ((i : Int) + ((1 : Nat) : Int)) = (i : Int) + 1 from rfl, M.w64_in ((i : Int) + 1) (by omega) (by omega)]
          refine ihe k (i + 1) (by omega) (by omega) fun j hj => ?_
          by_cases eq : j = i
          · rw [eq]; exact c1
          · exact hlow j (Nat.lt_of_le_of_ne (Nat.le_of_lt_succ hj) eq)
    exact inner n k 0 (by omega) (by omega) (fun j hj => by omega)
set_option maxHeartbeats 4000000 in
theorem i_aff (n b : Nat) (hn : n ≤ 4) (hb : b < 2 ^ 62) (d : Nat) : ∀ (k r : Nat), r + d = 2 ^ n → d * (n + 3) + 1 ≤ k →
    ∃ x : Bool, impl_Func_isIn.l0 k ((2 ^ n : Nat) : Int) (r : Int) (n : Int) (b : Int) = some x ∧ Aside0 (x = true ↔ ∀ q, q < 2 ^ n → r ≤ q → M.aff b q n = M.atN b q) := by
  have h16 := M.pow_le16 hn
  have z := Func_at_eq (n : Int) b 0 hb (by omega)
  rw [Int.natCast_zero] at z
  induction d with
  | zero =>
    intro k r hr hk
    obtain ⟨k, rfl⟩ : ∃ m, k = m + 1 := ⟨k - 1, by omega⟩
    simp only [impl_Func_isIn.l0]
    rw [if_neg (by omega)]
    exact ⟨true, rfl, ⟨⟨fun _ q h1 h2 => by omega, fun _ => rfl⟩⟩⟩
  | succ d ih =>
    intro k r hr hk
    obtain ⟨k, rfl⟩ : ∃ m, k = m + 1 := ⟨k - 1, by omega⟩
    have hlt : r < 2 ^ n := by omega
    have hk2 : (d + 1) * (n + 3) = d * (n + 3) + (n + 3) := by rw [Nat.add_mul, Nat.one_mul]
    simp only [impl_Func_isIn.l0]
    rw [if_pos (by omega), z]
    simp only [Option.bind_some]
    have inner : ∀ (e k i : Nat), i + e = n → d * (n + 3) + 1 + e + 1 ≤ k →
        ∃ x : Bool, impl_Func_isIn.l1 k (r : Int) ((M.aff b r i : Nat) : Int) ((2 ^ n : Nat) : Int) (r : Int) (n : Int) (i : Int) (n : Int) (b : Int) = some x ∧ Aside0 (x = true ↔ ∀ q, q < 2 ^ n → r ≤ q → M.aff b q n = M.atN b q) := by
      intro e
      induction e with
      | zero =>
        intro k i hi hk
        obtain ⟨k, rfl⟩ : ∃ m, k = m + 1 := ⟨k - 1, by omega⟩
        obtain rfl : i = n := by omega
        simp only [impl_Func_isIn.l1]
        rw [if_neg (by omega), Func_at_eq (i : Int) b r hb (by omega)]
        simp only [Option.bind_some]
        by_cases c1 : M.aff b r i = M.atN b r
        · rw [if_pos (by rw [c1]), M.w64_in ((r : Int) + 1) (by omega) (by omega)]
          obtain ⟨x, hx, hxi⟩ := ih k (r + 1) (by omega) (by omega)
          refine ⟨x, hx, ⟨hxi.out.trans ?_⟩⟩
          constructor
          · intro h q h1 h2
            by_cases eq : q = r
            · rw [eq]; exact c1
            · exact h q h1 (by omega)
          · intro h q h1 h2
            exact h q h1 (by omega)
        · rw [if_neg (by omega)]
          refine ⟨false, rfl, ⟨?_⟩⟩
          simp only [Bool.false_eq_true, false_iff]
          intro h
          exact c1 (h r hlt (Nat.le_refl _))
      | succ e ihe =>
        intro k i hi hk
        obtain ⟨k, rfl⟩ : ∃ m, k = m + 1 := ⟨k - 1, by omega⟩
        have h8 : 2 ^ i ≤ 8 := M.pow2_le (a := i) (b := 3) (by omega)
        simp only [impl_Func_isIn.l1]
        rw [if_pos (by omega), bit_eq r i (by omega) (by omega), z]
        simp only [Option.bind_some]
        rw [if_pos (by omega), show (1 : Int) = ((1 : Nat) : Int) from rfl, M.shl_nat 1 i (by omega) (by omega), Nat.one_mul, Func_at_eq (n : Int) b _ hb (by omega)]
        simp only [Option.bind_some]
        have l1 := M.aff_le b r i
        have l2 := M.atN_le b 0
        have l3 := M.atN_le b (2 ^ i)
        have l4 := M.xor_le _ _ l2 l3
        have l5 := M.atN_le r i
        have l6 : M.atN r i &&& (M.atN b 0 ^^^ M.atN b (2 ^ i)) ≤ M.atN r i := Nat.and_le_left
        rw [M.xor_nat (M.atN b 0) _ (by omega) (by omega), M.and_nat _ _ (by omega) (by omega), M.xor_nat _ _ (by omega) (by omega), show ((i : Int) + ((1 : Nat) : Int)) = (i : Int) + 1 from rfl, M.w64_in ((i : Int) + 1) (by omega) (by omega)]
        exact ihe k (i + 1) (by omega) (by omega)
    exact inner n k 0 (by omega) (by omega)
theorem iin_eq (n b c : Nat) (hn : n ≤ 4) (hb2 : b < 2 ^ 2 ^ n) (hc : c ≤ 4) (k : Nat) (hk : 200 ≤ k) : impl_Func_isIn.f k (n : Int) (b : Int) (c : Int) = some (M.cls n b c) := by
  have hb : b < 2 ^ 62 := Nat.lt_trans (M.bits_lt hn hb2) (by decide)
  have h16 := M.pow_le16 hn
  have hp := M.pow_pos n
  have z := Func_at_eq (n : Int) b 0 hb (by omega)
  rw [Int.natCast_zero] at z
  unfold impl_Func_isIn.f M.cls
  rw [Func_rows_eq n _ hn]
  simp only [Option.bind_some]
  by_cases c0 : c = 0
  · rw [if_pos (by omega), if_pos c0, z]
    simp only [Option.bind_some]
    congr 1
    by_cases h : M.atN b 0 = 0
    · simp [h]
    · have h2 : ¬ ((M.atN b 0 : Nat) : Int) = 0 := by omega
      simp [h, h2]
  · rw [if_neg (by omega), if_neg c0]
    by_cases c1 : c = 1
    · rw [if_pos (by omega), if_pos c1, show ((2 ^ n : Nat) : Int) - 1 = ((2 ^ n - 1 : Nat) : Int) from by rw [Int.natCast_sub hp]; rfl, M.w64_in _ (by omega) (by omega), Func_at_eq (n : Int) b _ hb (by omega)]
      simp only [Option.bind_some]
      congr 1
      by_cases h : M.atN b (2 ^ n - 1) = 1
      · simp [h]
      · have h2 : ¬ ((M.atN b (2 ^ n - 1) : Nat) : Int) = 1 := by omega
        simp [h, h2]
    · rw [if_neg (by omega), if_neg c1]
      by_cases c2 : c = 2
      · rw [if_pos (by omega), if_pos c2]
        by_cases n0 : n = 0
        · subst n0
          rw [if_neg (by omega), decide_eq_false]
          intro h
          exact h 0 (by decide) rfl
        · rw [if_pos (by omega), Func_dual_eq n b hn hb2]
          simp only [Option.bind_some]
          congr 1
          rw [decide_eq_decide.2 (M.dual_iff n b hb2)]
          by_cases h : b = M.tab (2 ^ n) (fun r => 1 - M.atN b (2 ^ n - 1 - r))
          · rw [decide_eq_true h, ← h]; simp
          · have h2 : ¬ (b : Int) = ((M.tab (2 ^ n) (fun r => 1 - M.atN b (2 ^ n - 1 - r)) : Nat) : Int) := by omega
            rw [decide_eq_false h]; simp [h2]
      · rw [if_neg (by omega), if_neg c2]
        have hm1 : 2 ^ n * (n + 3) ≤ 16 * 7 := Nat.mul_le_mul h16 (by omega)
        by_cases c3 : c = 3
        · rw [if_pos (by omega), if_pos c3]
          unfold impl_Func_isMonotone.f
          rw [Func_rows_eq n _ hn]
          simp only [Option.bind_some]
          obtain ⟨x, hx, hxi⟩ := i_mono n b hn hb (2 ^ n) k 0 (by omega) (by omega)
          rw [Int.natCast_zero] at hx
          rw [hx]
          simp only [Option.bind_some]
          congr 1
          rw [Bool.eq_iff_iff, decide_eq_true_eq]
          exact hxi.out.trans ⟨fun h r hr => h r hr (Nat.zero_le _), fun h r hr _ => h r hr⟩
        · rw [if_neg (by omega), if_neg c3]
          obtain ⟨x, hx, hxi⟩ := i_aff n b hn hb (2 ^ n) k 0 (by omega) (by omega)
          refine hx.trans ?_
          congr 1
          rw [Bool.eq_iff_iff, decide_eq_true_eq]
          exact hxi.out.trans (Iff.trans ⟨fun h r hr => h r hr (Nat.zero_le _), fun h r hr _ => h r hr⟩ (M.affine_iff n b hn).symm)
end Go.Proofs.Ytdlnjbaldfdnpaa.Pure
