/- Formulas as trees: what the reference and the program read out of a text. -/
import Derived.Test.YtdlnjbaldfdnpaaPx0
import Derived.Test.YtdlnjbaldfdnpaaPx1
import Derived.Test.YtdlnjbaldfdnpaaPx4
import Derived.Test.YtdlnjbaldfdnpaaPx5
import Derived.Test.YtdlnjbaldfdnpaaLBase
import Derived.Test.YtdlnjbaldfdnpaaLBytes
namespace Go.Proofs.Ytdlnjbaldfdnpaa.Pure
open Go.RowKit Go.Proofs.Ytdlnjbaldfdnpaa.P Go.Proofs.YtdlnjbaldfdnpaaW.PrintWords Go.Proofs.YtdlnjbaldfdnpaaW.PrintLast Go.Proofs.YtdlnjbaldfdnpaaW.PrintMore
set_option linter.unusedVariables false
set_option linter.unusedSimpArgs false
/-- How many places a gate has. -/
def plc (c : Int) : Int := if c = 97 ∨ c = 98 ∨ c = 99 ∨ c = 100 ∨ c = 48 ∨ c = 49 then 0 else if c = 33 then 1 else if c = 38 ∨ c = 124 ∨ c = 94 then 2 else if c = 63 ∨ c = 77 then 3 else -1
theorem plc_le (c : Int) : -1 ≤ plc c ∧ plc c ≤ 3 := by
  unfold plc
  split
  · omega
  · split
    · omega
    · split
      · omega
      · split <;> omega
theorem splaces_asked : ∀ c : Nat, c < 256 → spec_l05Places.f 3 (c : Int) = some (plc (c : Int)) := by decide +kernel
theorem iplaces_asked : ∀ c : Nat, c < 256 → impl_placesOf.f 3 (c : Int) = some (plc (c : Int)) := by decide +kernel
theorem splaces_eq (c : Int) (h0 : 0 ≤ c) (h1 : c < 256) (k : Nat) (hk : 3 ≤ k) : spec_l05Places.f k c = some (plc c) := by
  obtain ⟨n, rfl⟩ := Int.eq_ofNat_of_zero_le h0
  obtain ⟨d, rfl⟩ : ∃ d, k = 3 + d := ⟨k - 3, by omega⟩
  clear hk
  induction d with
  | zero => exact splaces_asked n (by omega)
  | succ d ih => exact spec_l05Places.mono _ _ _ ih
theorem iplaces_eq (c : Int) (h0 : 0 ≤ c) (h1 : c < 256) (k : Nat) (hk : 3 ≤ k) : impl_placesOf.f k c = some (plc c) := by
  obtain ⟨n, rfl⟩ := Int.eq_ofNat_of_zero_le h0
  obtain ⟨d, rfl⟩ : ∃ d, k = 3 + d := ⟨k - 3, by omega⟩
  clear hk
  induction d with
  | zero => exact iplaces_asked n (by omega)
  | succ d ih => exact impl_placesOf.mono _ _ _ ih
abbrev Tree := S70
mutual
/-- The text of a formula. -/
def txt : Tree → List Int
  | ⟨c, ps⟩ => c :: txtL ps
def txtL : List Tree → List Int
  | [] => []
  | t :: ts => txt t ++ txtL ts
end
mutual
/-- Each gate has as many parts as it has places. -/
def WF : Tree → Prop
  | ⟨c, ps⟩ => (ps.length : Int) = plc c ∧ 0 ≤ c ∧ c < 256 ∧ WFL ps
def WFL : List Tree → Prop
  | [] => True
  | t :: ts => WF t ∧ WFL ts
end
theorem tree_eta (t : Tree) : (⟨t.f0, t.f1⟩ : Tree) = t := by cases t; rfl
theorem txt_eq (t : Tree) : txt t = t.f0 :: txtL t.f1 := by cases t; simp [txt]
theorem txt_pos (t : Tree) : 0 < (txt t).length := by rw [txt_eq]; simp
theorem txtL_snoc : ∀ (ts : List Tree) (t : Tree), txtL (ts ++ [t]) = txtL ts ++ txt t
  | [], t => by simp [txtL]
  | a :: ts, t => by simp [txtL, txtL_snoc ts t]
theorem WFL_snoc : ∀ (ts : List Tree) (t : Tree), WFL ts → WF t → WFL (ts ++ [t])
  | [], t, _, h => by simp [WFL, h]
  | a :: ts, t, hs, h => by
    simp only [WFL] at hs
    simp only [List.cons_append, WFL]
    exact ⟨hs.1, WFL_snoc ts t hs.2 h⟩
theorem WF_eq (t : Tree) : WF t ↔ ((t.f1.length : Int) = plc t.f0 ∧ 0 ≤ t.f0 ∧ t.f0 < 256 ∧ WFL t.f1) := by cases t; simp [WF]
def Fails (s : ByteArray) (at_ k1 k2 : Nat) : Prop := spec_l05End.f k1 s (at_ : Int) = some (-1) ∧ impl_readFormula.f k2 (s.extract at_ s.size) = some (0, [], ⟨#[]⟩, false)
def Goes (s : ByteArray) (at_ k1 k2 : Nat) : Prop := ∃ (t : Tree) (e : Nat), at_ < e ∧ e ≤ s.size ∧ WF t ∧ (bs s).drop at_ = txt t ++ (bs s).drop e ∧ spec_l05End.f k1 s (at_ : Int) = some (e : Int) ∧ impl_readFormula.f k2 (s.extract at_ s.size) = some (t.f0, t.f1, s.extract e s.size, true)
theorem read_parts (s : ByteArray) (hs : s.size ≤ 60) (a m : Nat) (p : Nat) (c : Int) (hp : p ≤ 3)
    (ih : ∀ at_, a < at_ → at_ ≤ s.size → ∀ k1 k2, 8 * m + 10 ≤ k1 → 8 * m + 10 ≤ k2 → Fails s at_ k1 k2 ∨ Goes s at_ k1 k2) (q : Nat) :
    ∀ (i at_ : Nat) (acc : List Tree) (k1 k2 : Nat), i + q = p → acc.length = i → a < at_ → at_ ≤ s.size → WFL acc → (bs s).drop (a + 1) = txtL acc ++ (bs s).drop at_ → 8 * m + 12 + q ≤ k1 → 8 * m + 12 + q ≤ k2 →
    (spec_l05End.l0 k1 s (at_ : Int) (q : Int) = some (-1) ∧ impl_readFormula.l0 k2 (s.extract at_ s.size) (p : Int) (i : Int) c acc = some (0, [], ⟨#[]⟩, false)) ∨
    ∃ (ts : List Tree) (e : Nat), a < e ∧ e ≤ s.size ∧ ts.length = p ∧ WFL ts ∧ (bs s).drop (a + 1) = txtL ts ++ (bs s).drop e ∧ spec_l05End.l0 k1 s (at_ : Int) (q : Int) = some (e : Int) ∧ impl_readFormula.l0 k2 (s.extract at_ s.size) (p : Int) (i : Int) c acc = some (c, ts, s.extract e s.size, true) := by
  induction q with
  | zero =>
    intro i at_ acc k1 k2 hi hacc ha hle hw ht hk1 hk2
    obtain ⟨k1, rfl⟩ : ∃ m, k1 = m + 1 := ⟨k1 - 1, by omega⟩
    obtain ⟨k2, rfl⟩ : ∃ m, k2 = m + 1 := ⟨k2 - 1, by omega⟩
    right
    refine ⟨acc, at_, ha, hle, by omega, hw, ht, ?_, ?_⟩
    · simp only [spec_l05End.l0]
      rw [if_neg (by omega)]
    · simp only [impl_readFormula.l0]
      rw [if_neg (by omega)]
  | succ q ihq =>
    intro i at_ acc k1 k2 hi hacc ha hle hw ht hk1 hk2
    obtain ⟨k1, rfl⟩ : ∃ m, k1 = m + 1 := ⟨k1 - 1, by omega⟩
    obtain ⟨k2, rfl⟩ : ∃ m, k2 = m + 1 := ⟨k2 - 1, by omega⟩
    simp only [spec_l05End.l0, impl_readFormula.l0]
    rw [if_pos (show ((q + 1 : Nat) : Int) > 0 by omega), if_pos (show (i : Int) < (p : Int) by omega)]
    rcases ih at_ ha hle k1 k2 (by omega) (by omega) with h | h
    · left
      rw [h.1, h.2]
      simp
    · obtain ⟨t, e, h1, h2, h3, h4, h5, h6⟩ := h
      rw [h5, h6]
      simp only [Option.bind_some]
      rw [if_neg (show ¬ (e : Int) < 0 by omega), if_pos (show acc.length < 4398046511104 by omega), M.w64_in (((q + 1 : Nat) : Int) - 1) (by omega) (by omega), M.w64_in ((i : Int) + 1) (by omega) (by omega), show (((q + 1 : Nat) : Int) - 1) = (q : Int) from by omega, show (i : Int) + 1 = ((i + 1 : Nat) : Int) from by omega, if_pos trivial, tree_eta]
      refine ihq (i + 1) e (acc ++ [t]) k1 k2 (by omega) (by simp; omega) (by omega) h2 (WFL_snoc _ _ hw h3) ?_ (by omega) (by omega)
      rw [txtL_snoc, ht, h4, List.append_assoc]
theorem read_both (s : ByteArray) (hs : s.size ≤ 60) (m : Nat) : ∀ at_, at_ ≤ s.size → s.size - at_ ≤ m → ∀ k1 k2, 8 * m + 10 ≤ k1 → 8 * m + 10 ≤ k2 → Fails s at_ k1 k2 ∨ Goes s at_ k1 k2 := by
  induction m with
  | zero =>
    intro at_ hle hm k1 k2 hk1 hk2
    obtain ⟨k1, rfl⟩ : ∃ m, k1 = m + 1 := ⟨k1 - 1, by omega⟩
    obtain ⟨k2, rfl⟩ : ∃ m, k2 = m + 1 + 1 := ⟨k2 - 2, by omega⟩
    left
    unfold Fails
    simp only [spec_l05End.f, impl_readFormula.f, impl_readFormula.j0]
    rw [if_pos (show (at_ : Int) ≥ (s.size : Int) by omega), if_pos ((nil_iff _).2 (by rw [tail_size s at_ hle]; omega)), if_pos trivial]
    exact ⟨rfl, rfl⟩
  | succ m ih =>
    intro at_ hle hm k1 k2 hk1 hk2
    obtain ⟨k1, rfl⟩ : ∃ m, k1 = m + 1 := ⟨k1 - 1, by omega⟩
    obtain ⟨k2, rfl⟩ : ∃ m, k2 = m + 1 + 1 := ⟨k2 - 2, by omega⟩
    by_cases hlt : at_ < s.size
    · have hsz := tail_size s at_ hle
      have hb0 : bt (s.extract at_ s.size) 0 = bt s (at_ : Int) := by
        have := bt_extract s at_ s.size 0 (Nat.le_refl _) (by omega)
        rw [Int.natCast_zero, Nat.add_zero] at this
        exact this
      have hr := bt_range s (at_ : Int)
      unfold Fails Goes
      simp only [spec_l05End.f, impl_readFormula.f, impl_readFormula.j0]
      rw [if_neg (show ¬ (at_ : Int) ≥ (s.size : Int) by omega), if_pos (show 0 ≤ (at_ : Int) by omega), if_pos (show (at_ : Int) < (s.size : Int) by omega), if_neg (fun h => by have := (nil_iff _).1 h; omega), if_pos (show 0 < ((s.extract at_ s.size).size : Int) by omega), hb0, if_pos (show 0 < ((s.extract at_ s.size).size : Int) by omega), if_pos (show 1 ≤ ((s.extract at_ s.size).size : Int) by omega), tail_tail s at_ hlt]
      have hbd := bs_drop s at_ hlt
      generalize bt s (at_ : Int) = c at *
      rw [splaces_eq c hr.1 (by omega) k1 (by omega), iplaces_eq c hr.1 (by omega) (k2 + 1) (by omega), iplaces_eq c hr.1 (by omega) k2 (by omega)]
      simp only [Option.bind_some]
      have hpl := plc_le c
      by_cases hp : plc c < 0
      · left
        rw [if_pos hp, decide_eq_true hp, if_pos rfl]
        exact ⟨rfl, rfl⟩
      · rw [if_neg hp, decide_eq_false hp, if_neg (by decide), M.w64_in ((at_ : Int) + 1) (by omega) (by omega)]
        obtain ⟨p, hpp⟩ := Int.eq_ofNat_of_zero_le (show 0 ≤ plc c by omega)
        have := read_parts s hs at_ m p c (by omega) (fun a2 h1 h2 k1 k2 hk1 hk2 => ih a2 h2 (by omega) k1 k2 hk1 hk2) p 0 (at_ + 1) [] k1 k2 (by omega) rfl (by omega) (by omega) trivial (by simp [txtL]) (by omega) (by omega)
        rw [hpp]
        rcases this with h | h
        · left
          exact ⟨h.1, h.2⟩
        · right
          obtain ⟨ts, e, h1, h2, h3, h4, h5, h6, h7⟩ := h
          refine ⟨⟨c, ts⟩, e, h1, h2, (WF_eq _).2 ⟨show (ts.length : Int) = plc c by omega, hr.1, show c < 256 by omega, h4⟩, ?_, h6, h7⟩
          rw [hbd, h5, txt_eq]
          rfl
    · left
      have hsz := tail_size s at_ hle
      unfold Fails
      simp only [spec_l05End.f, impl_readFormula.f, impl_readFormula.j0]
      rw [if_pos (show (at_ : Int) ≥ (s.size : Int) by omega), if_pos ((nil_iff _).2 (by omega)), if_pos trivial]
      exact ⟨rfl, rfl⟩
/-- A text is the text of a formula, or both say so. -/
theorem parse_both (s : ByteArray) (k1 k2 : Nat) (hk1 : 600 ≤ k1) (hk2 : 600 ≤ k2) :
    (spec_l05Is.f k1 s = some false ∧ ∃ c ps, impl_parse.f k2 s = some (c, ps, false)) ∨ ∃ t : Tree, WF t ∧ bs s = txt t ∧ s.size ≤ 60 ∧ spec_l05Is.f k1 s = some true ∧ impl_parse.f k2 s = some (t.f0, t.f1, true) := by
  unfold spec_l05Is.f impl_parse.f
  have hext : s.extract 0 s.size = s := by
    apply bs_inj
    rw [bs_tail]
    rfl
  by_cases h60 : s.size ≤ 60
  · rw [if_neg (show ¬ (s.size : Int) > 60 by omega)]
    have hrd := read_both s h60 s.size 0 (by omega) (by omega) k1 k2 (by omega) (by omega)
    unfold Fails Goes at hrd
    rw [hext, Int.natCast_zero] at hrd
    rcases hrd with h | h
    · left
      rw [h.2]
      refine ⟨?_, 0, [], by simp⟩
      have hb : ((-1 : Int) == (s.size : Int)) = false := by rw [beq_eq_false_iff_ne]; omega
      by_cases h1 : (s.size : Int) ≥ 1
      · rw [if_pos h1, if_pos (by omega), h.1, Option.bind_some, hb]
      · rw [if_neg h1]
    · obtain ⟨t, e, h1, h2, h3, h4, h5, h6⟩ := h
      rw [h5, h6, if_pos (show (s.size : Int) ≥ 1 by omega), if_pos (show (s.size : Int) ≤ 60 by omega)]
      simp only [Option.bind_some, if_true]
      by_cases he : e = s.size
      · right
        subst he
        refine ⟨t, h3, ?_, h60, ?_, ?_⟩
        · rw [List.drop_zero] at h4
          rw [h4, List.drop_of_length_le (by rw [bs_length]; exact Nat.le_refl _), List.append_nil]
        · simp
        · rw [(nil_iff _).2 (by rw [tail_size s _ (Nat.le_refl _)]; omega)]
          rfl
      · left
        have hb : ((e : Int) == (s.size : Int)) = false := by rw [beq_eq_false_iff_ne]; omega
        have hn : ((s.extract e s.size).toList == ([] : List UInt8)) = false := by
          rw [beq_eq_false_iff_ne]
          intro h
          have := (nil_iff _).1 h
          rw [tail_size s e h2] at this
          omega
        rw [hb, hn]
        exact ⟨rfl, t.f0, t.f1, rfl⟩
  · left
    rw [if_pos (show (s.size : Int) > 60 by omega), if_pos (show (s.size : Int) ≥ 1 by omega), if_neg (show ¬ (s.size : Int) ≤ 60 by omega)]
    exact ⟨rfl, _, _, rfl⟩
end Go.Proofs.Ytdlnjbaldfdnpaa.Pure
