/- Formulas as trees: where they end, their parts, their size and depth. -/
import Derived.Test.YtdlnjbaldfdnpaaPx0
import Derived.Test.YtdlnjbaldfdnpaaPx1
import Derived.Test.YtdlnjbaldfdnpaaPx4
import Derived.Test.YtdlnjbaldfdnpaaPx5
import Derived.Test.YtdlnjbaldfdnpaaPx15
import Derived.Test.YtdlnjbaldfdnpaaPx16
import Derived.Test.YtdlnjbaldfdnpaaPx19
import Derived.Test.YtdlnjbaldfdnpaaPx20
import Derived.Test.YtdlnjbaldfdnpaaLBase
import Derived.Test.YtdlnjbaldfdnpaaLBytes
import Derived.Test.YtdlnjbaldfdnpaaLForm
namespace Go.Proofs.Ytdlnjbaldfdnpaa.Pure
open Go.RowKit Go.Proofs.Ytdlnjbaldfdnpaa.P Go.Proofs.YtdlnjbaldfdnpaaW.PrintWords Go.Proofs.YtdlnjbaldfdnpaaW.PrintLast Go.Proofs.YtdlnjbaldfdnpaaW.PrintMore
set_option linter.unusedVariables false
set_option linter.unusedSimpArgs false
mutual
theorem txt_range : ∀ (t : Tree), WF t → ∀ x ∈ txt t, 0 ≤ x ∧ x < 256
  | ⟨c, ps⟩, h, x, hx => by
    simp only [WF] at h
    simp only [txt, List.mem_cons] at hx
    rcases hx with rfl | hx
    · exact ⟨h.2.1, h.2.2.1⟩
    · exact txtL_range ps h.2.2.2 x hx
theorem txtL_range : ∀ (ts : List Tree), WFL ts → ∀ x ∈ txtL ts, 0 ≤ x ∧ x < 256
  | [], _, x, hx => by simp [txtL] at hx
  | t :: ts, h, x, hx => by
    simp only [WFL] at h
    simp only [txtL, List.mem_append] at hx
    rcases hx with hx | hx
    · exact txt_range t h.1 x hx
    · exact txtL_range ts h.2 x hx
end
theorem WFL_mem : ∀ (ts : List Tree), WFL ts → ∀ t ∈ ts, WF t
  | [], _, t, ht => by simp at ht
  | a :: ts, h, t, ht => by
    simp only [WFL] at h
    rcases List.mem_cons.1 ht with rfl | ht
    · exact h.1
    · exact WFL_mem ts h.2 t ht
theorem txtL_mem : ∀ (ts : List Tree), ∀ t ∈ ts, (txt t).length ≤ (txtL ts).length
  | [], t, ht => by simp at ht
  | a :: ts, t, ht => by
    simp only [txtL, List.length_append]
    rcases List.mem_cons.1 ht with rfl | ht
    · omega
    · have := txtL_mem ts t ht
      omega
theorem txtL_len : ∀ (ts : List Tree), ts.length ≤ (txtL ts).length
  | [] => by simp [txtL]
  | a :: ts => by
    have := txtL_len ts
    have := txt_pos a
    simp only [txtL, List.length_append, List.length_cons]
    omega
theorem txt_length (t : Tree) : (txt t).length = (txtL t.f1).length + 1 := by rw [txt_eq]; simp
/-- The text of a formula, as a string. -/
def str (t : Tree) : ByteArray := strOfNums (txt t)
theorem bs_of (t : Tree) (h : WF t) : bs (str t) = txt t := bs_str _ (txt_range t h)
theorem str_size (t : Tree) : (str t).size = (txt t).length := strOfNums_size _
theorem str_eq (s : ByteArray) (t : Tree) (h : WF t) (hs : bs s = txt t) : s = str t := bs_inj _ _ (hs.trans (bs_of t h).symm)
/-- A formula ends behind its text. -/
theorem end_eq (t : Tree) : WF t → ∀ (s : ByteArray) (at_ : Nat) (Y : List Int) (k : Nat), s.size ≤ 1048576 → (bs s).drop at_ = txt t ++ Y → 5 * (txt t).length + 5 ≤ k → spec_l05End.f k s (at_ : Int) = some ((at_ + (txt t).length : Nat) : Int) := by
  induction t using frm_ind with
  | h t ih =>
    intro hw s at_ Y k hs hd hk
    obtain ⟨k, rfl⟩ : ∃ m, k = m + 1 := ⟨k - 1, by omega⟩
    rw [WF_eq] at hw
    have hlen := txt_length t
    have hle : at_ + (txt t).length ≤ s.size := by
      have := congrArg List.length hd
      rw [List.length_drop, bs_length, List.length_append] at this
      omega
    have hbd := bs_drop s at_ (by omega)
    rw [hd, txt_eq, List.cons_append] at hbd
    obtain ⟨hc, hrest⟩ := List.cons.inj hbd
    simp only [spec_l05End.f]
    rw [if_neg (show ¬ (at_ : Int) ≥ (s.size : Int) by omega), if_pos (show 0 ≤ (at_ : Int) by omega), if_pos (show (at_ : Int) < (s.size : Int) by omega), ← hc, splaces_eq _ hw.2.1 hw.2.2.1 k (by omega), Option.bind_some, ← hw.1, if_neg (by omega), M.w64_in ((at_ : Int) + 1) (by omega) (by omega), hlen]
    have inner : ∀ (ts : List Tree), (∀ x ∈ ts, x ∈ t.f1) → WFL ts → ∀ (k a : Nat), (bs s).drop a = txtL ts ++ Y → 5 * (txtL ts).length + ts.length + 6 ≤ k → (txtL ts).length ≤ (txtL t.f1).length → spec_l05End.l0 k s (a : Int) (ts.length : Int) = some ((a + (txtL ts).length : Nat) : Int) := by
      intro ts
      induction ts with
      | nil =>
        intro _ _ k a _ hk _
        obtain ⟨k, rfl⟩ : ∃ m, k = m + 1 := ⟨k - 1, by omega⟩
        simp only [spec_l05End.l0, List.length_nil]
        rw [if_neg (by omega)]
        simp [txtL]
      | cons x ts ihl =>
        intro hin hwl k a hdr hk hle2
        obtain ⟨k, rfl⟩ : ∃ m, k = m + 1 := ⟨k - 1, by omega⟩
        simp only [WFL] at hwl
        simp only [txtL, List.length_append, List.length_cons] at hk hle2 hdr ⊢
        have hxp := txt_pos x
        have hal : a + (txt x).length ≤ s.size := by
          have := congrArg List.length hdr
          rw [List.length_drop, bs_length, List.length_append, List.length_append] at this
          omega
        have htl := txtL_len ts
        have h1 := ih x (hin x List.mem_cons_self) hwl.1 s a (txtL ts ++ Y) k hs (by rw [hdr, List.append_assoc]) (by omega)
        have hdr2 : (bs s).drop (a + (txt x).length) = txtL ts ++ Y := by
          rw [← List.drop_drop, hdr, List.append_assoc, List.drop_left]
        have h2 := ihl (fun y hy => hin y (List.mem_cons_of_mem _ hy)) hwl.2 k (a + (txt x).length) hdr2 (by omega) (by omega)
        simp only [spec_l05End.l0]
        rw [if_pos (by omega), h1, Option.bind_some, if_neg (by omega), M.w64_in _ (by omega) (by omega), show ((ts.length + 1 : Nat) : Int) - 1 = (ts.length : Int) from by omega, h2]
        congr 2
        omega
    have htl := txtL_len t.f1
    have hpl := plc_le t.f0
    have := inner t.f1 (fun x hx => hx) hw.2.2.2 k (at_ + 1) hrest.symm (by omega) (Nat.le_refl _)
    rw [show ((at_ + 1 : Nat) : Int) = (at_ : Int) + 1 from rfl] at this
    rw [this]
    congr 2
    omega
theorem parts_loop (t : Tree) (hw : WF t) (hs : (txt t).length ≤ 1048576) (K : Nat) (hK : 5 * (txt t).length + 5 ≤ K) : ∀ (ts : List Tree), WFL ts → ∀ (k a : Nat) (acc : List ByteArray), (txt t).drop a = txtL ts → ts.length + K + 1 ≤ k → acc.length ≤ a → 
    spec_l05Parts.l0 k (str t) acc (a : Int) = some (acc ++ ts.map str) := by
  intro ts
  have hsz := str_size t
  induction ts with
  | nil =>
    intro _ k a acc hd hk _
    obtain ⟨k, rfl⟩ : ∃ m, k = m + 1 := ⟨k - 1, by omega⟩
    have hle : (txt t).length ≤ a := by
      simp only [txtL] at hd
      exact List.drop_eq_nil_iff.1 hd
    simp only [spec_l05Parts.l0]
    rw [if_neg (by omega)]
    simp
  | cons x ts ihl =>
    intro hwl k a acc hd hk hacc
    obtain ⟨k, rfl⟩ : ∃ m, k = m + 1 := ⟨k - 1, by omega⟩
    simp only [WFL] at hwl
    simp only [txtL] at hd
    have hxp := txt_pos x
    have hal : a + (txt x).length ≤ (txt t).length := by
      have := congrArg List.length hd
      rw [List.length_drop, List.length_append] at this
      omega
    have h1 := end_eq x hwl.1 (str t) a (txtL ts) k (by omega) (by rw [bs_of t hw]; exact hd) (by simp only [List.length_cons] at hk; omega)
    have hdr2 : (txt t).drop (a + (txt x).length) = txtL ts := by
      rw [← List.drop_drop, hd, List.drop_left]
    have hx : (str t).extract a (a + (txt x).length) = str x := by
      refine str_eq _ x hwl.1 ?_
      rw [bs_extract, bs_of t hw, hd, show a + (txt x).length - a = (txt x).length from by omega, List.take_left]
    simp only [List.length_cons] at hk
    simp only [spec_l05Parts.l0]
    rw [if_pos (by omega), h1, Option.bind_some, if_pos (by omega), if_pos (by omega), if_pos (by omega), if_pos (by omega), Int.toNat_natCast, Int.toNat_natCast, hx]
    rw [ihl hwl.2 k (a + (txt x).length) (acc ++ [str x]) hdr2 (by omega) (by simp; omega)]
    simp
theorem parts_eq (t : Tree) (hw : WF t) (hs : (txt t).length ≤ 1048576) (k : Nat) (hk : 6 * (txt t).length + 10 ≤ k) : spec_l05Parts.f k (str t) = some (t.f1.map str) := by
  unfold spec_l05Parts.f
  have h1 := txtL_len t.f1
  have h2 := txt_length t
  have := parts_loop t hw hs (5 * (txt t).length + 5) (Nat.le_refl _) t.f1 ((WF_eq t).1 hw).2.2.2 k 1 [] (by rw [txt_eq]; rfl) (by omega) (by simp)
  rw [Int.natCast_one] at this
  rw [this]
  simp
/-- How many gates with places a text has. -/
def gts (X : List Int) : Nat := X.countP fun c => decide (plc c > 0)
theorem fsize_gts (t : Tree) : WF t → (txt t).length ≤ 1048576 → fsize t = (gts (txt t) : Int) := by
  induction t using frm_ind with
  | h t ih =>
    intro hw hlen
    rw [WF_eq] at hw
    have hl := txt_length t
    have inner : ∀ (ts : List Tree), (∀ x ∈ ts, x ∈ t.f1) → WFL ts → ∀ (a : Nat), a + (txtL ts).length ≤ 1048576 → fsizeL ts (a : Int) = ((a + gts (txtL ts) : Nat) : Int) := by
      intro ts
      induction ts with
      | nil => intro _ _ a _; simp [fsizeL, txtL, gts]
      | cons x ts ihl =>
        intro hin hwl a ha
        simp only [WFL] at hwl
        simp only [txtL, List.length_append] at ha
        have hg1 : gts (txt x) ≤ (txt x).length := List.countP_le_length
        simp only [fsizeL]
        rw [ih x (hin x List.mem_cons_self) hwl.1 (by omega), ← Int.natCast_add, M.w64_in _ (by omega) (by omega), ihl (fun y hy => hin y (List.mem_cons_of_mem _ hy)) hwl.2 (a + gts (txt x)) (by omega)]
        simp only [txtL, gts, List.countP_append]
        congr 1
        omega
    have := inner t.f1 (fun x hx => hx) hw.2.2.2 0 (by omega)
    have hg : gts (txtL t.f1) ≤ (txtL t.f1).length := List.countP_le_length
    rw [fsize_eq, show (0 : Int) = ((0 : Nat) : Int) from rfl, this, txt_eq]
    unfold gts at *
    rw [List.countP_cons]
    by_cases hp : 0 < t.f1.length
    · rw [if_pos hp, if_pos (by simp; omega), M.w64_in _ (by omega) (by omega)]
      omega
    · rw [if_neg hp, if_neg (by simp; omega), M.w64_in _ (by omega) (by omega)]
      omega
theorem ssize_loop (s : ByteArray) (hs : s.size ≤ 1048576) (d : Nat) : ∀ (k i : Nat), i + d = s.size → d + 5 ≤ k → spec_l05Size.l0 k s ((gts ((bs s).take i) : Nat) : Int) (i : Int) = some ((gts (bs s) : Nat) : Int) := by
  induction d with
  | zero =>
    intro k i hi hk
    obtain ⟨k, rfl⟩ : ∃ m, k = m + 1 := ⟨k - 1, by omega⟩
    simp only [spec_l05Size.l0]
    rw [if_neg (by omega), List.take_of_length_le (by rw [bs_length]; omega)]
  | succ d ih =>
    intro k i hi hk
    obtain ⟨k, rfl⟩ : ∃ m, k = m + 1 := ⟨k - 1, by omega⟩
    have hlt : i < (bs s).length := by rw [bs_length]; omega
    have step := ih k (i + 1) (by omega) (by omega)
    rw [List.take_succ_eq_append_getElem hlt, bs_get] at step
    have hr := bt_range s (i : Int)
    have hg : gts ((bs s).take i) ≤ i := Nat.le_trans List.countP_le_length (by simp; omega)
    simp only [spec_l05Size.l0]
    rw [if_pos (by omega), if_pos (by omega), splaces_eq _ hr.1 (by omega) k (by omega), Option.bind_some, M.w64_in ((i : Int) + 1) (by omega) (by omega)]
    unfold gts at *
    rw [List.countP_append, List.countP_singleton] at step
    by_cases hp : plc (bt s (i : Int)) > 0
    · rw [if_pos hp, M.w64_in _ (by omega) (by omega)]
      rw [if_pos (by simpa using hp)] at step
      exact step
    · rw [if_neg hp]
      rw [if_neg (by simpa using hp), Nat.add_zero] at step
      exact step
theorem ssize_eq (s : ByteArray) (hs : s.size ≤ 1048576) (k : Nat) (hk : s.size + 5 ≤ k) : spec_l05Size.f k s = some ((gts (bs s) : Nat) : Int) := by
  unfold spec_l05Size.f
  have := ssize_loop s hs s.size k 0 (by omega) hk
  exact this
theorem depth_both (t : Tree) : WF t → (txt t).length ≤ 1048576 → (∀ k, 10 * (txt t).length + 30 ≤ k → spec_l05Depth.f k (str t) = some (fdepth t)) ∧ 0 ≤ fdepth t ∧ fdepth t ≤ (txt t).length := by
  induction t using frm_ind with
  | h t ih =>
    intro hw hlen
    have hw2 := (WF_eq t).1 hw
    have hl := txt_length t
    -- the greatest depth of parts, and what the reference reckons of it
    have inner : ∀ (ts : List Tree), (∀ x ∈ ts, x ∈ t.f1) → WFL ts → ∀ (a : Int), 0 ≤ a → a ≤ (txtL t.f1).length → (txtL ts).length ≤ (txtL t.f1).length → 0 ≤ fdepthL ts a ∧ fdepthL ts a ≤ (txtL t.f1).length ∧ a ≤ fdepthL ts a := by
      intro ts
      induction ts with
      | nil => intro _ _ a h0 h1 _; simp only [fdepthL]; omega
      | cons x ts ihl =>
        intro hin hwl a h0 h1 h2
        simp only [WFL] at hwl
        simp only [txtL, List.length_append] at h2
        have hx := (ih x (hin x List.mem_cons_self) hwl.1 (by omega)).2
        have := ihl (fun y hy => hin y (List.mem_cons_of_mem _ hy)) hwl.2 (max a (fdepth x)) (by omega) (by omega) (by omega)
        simp only [fdepthL]
        omega
    have htl := txtL_len t.f1
    have hpl := plc_le t.f0
    have hin0 := inner t.f1 (fun x hx => hx) hw2.2.2.2 0 (by omega) (by omega) (Nat.le_refl _)
    have hf : fdepth t = fdepthL t.f1 0 + (if 0 < t.f1.length then 1 else 0) := by
      rw [fdepth_eq]
      split
      · rw [M.w64_in _ (by omega) (by omega)]
      · rw [M.w64_in _ (by omega) (by omega)]
    refine ⟨?_, ?_, ?_⟩
    · intro k hk
      obtain ⟨k, rfl⟩ : ∃ m, k = m + 1 := ⟨k - 1, by omega⟩
      simp only [spec_l05Depth.f]
      rw [parts_eq t hw hlen k (by omega), Option.bind_some, hf]
      -- the loop: so many parts are done, the greatest depth so far is m: the reference's number is m + 1 if any is done
      have loop : ∀ (d : Nat) (k j : Nat), j + d = t.f1.length → 10 * (txtL t.f1).length + 36 + d ≤ k → spec_l05Depth.l0 k (t.f1.map str) (fdepthL (t.f1.take j) 0 + (if 0 < j then 1 else 0)) (j : Int) = some (fdepthL t.f1 0 + (if 0 < t.f1.length then 1 else 0)) := by
        intro d
        induction d with
        | zero =>
          intro k j hj hk
          obtain ⟨k, rfl⟩ : ∃ m, k = m + 1 := ⟨k - 1, by omega⟩
          obtain rfl : j = t.f1.length := by omega
          simp only [spec_l05Depth.l0]
          rw [if_neg (by simp), List.take_length]
        | succ d ihd =>
          intro k j hj hk
          obtain ⟨k, rfl⟩ : ∃ m, k = m + 1 := ⟨k - 1, by omega⟩
          have hlt : j < t.f1.length := by omega
          have hmem : t.f1.getD j z70 ∈ t.f1 := frm_mem _ _ hlt
          have hwx := WFL_mem _ hw2.2.2.2 _ hmem
          have hxl := txtL_mem _ _ hmem
          have step := ihd k (j + 1) (by omega) (by omega)
          rw [frm_take _ j hlt, fdepthL_snoc, if_pos (by omega)] at step
          have hx := ih _ hmem hwx (by omega)
          have hrd : rdOf ByteArray.empty (t.f1.map str) (j : Int) = str (t.f1.getD j z70) := by
            unfold rdOf
            rw [Int.toNat_natCast, List.getD_eq_getElem?_getD, List.getElem?_map, List.getElem?_eq_getElem hlt, List.getD_eq_getElem?_getD, List.getElem?_eq_getElem hlt]
            rfl
          have hsub : (txtL (t.f1.take j)).length ≤ (txtL t.f1).length := by
            have : ∀ (ts : List Tree) (j : Nat), (txtL (ts.take j)).length ≤ (txtL ts).length := by
              intro ts
              induction ts with
              | nil => intro j; simp [txtL]
              | cons x ts ih => intro j; cases j with
                | zero => simp [txtL]
                | succ j => have := ih j; simp only [List.take_succ_cons, txtL, List.length_append]; omega
            exact this _ _
          have hwt : WFL (t.f1.take j) := by
            have : ∀ (ts : List Tree) (j : Nat), WFL ts → WFL (ts.take j) := by
              intro ts
              induction ts with
              | nil => intro j h; simp [WFL]
              | cons x ts ih => intro j h; cases j with
                | zero => simp [WFL]
                | succ j => simp only [WFL] at h; simp only [List.take_succ_cons, WFL]; exact ⟨h.1, ih j h.2⟩
            exact this _ _ hw2.2.2.2
          have hacc := inner (t.f1.take j) (fun x hx => List.mem_of_mem_take hx) hwt 0 (by omega) (by omega) hsub
          generalize t.f1.getD j z70 = x at *
          simp only [spec_l05Depth.l0]
          rw [if_pos (by simp; omega), if_pos (by omega), hrd, hx.1 k (by omega), Option.bind_some, M.w64_in (fdepth x + 1) (by omega) (by omega), M.w64_in ((j : Int) + 1) (by omega) (by omega)]
          have e : mx (fdepthL (t.f1.take j) 0 + (if 0 < j then 1 else 0)) (fdepth x + 1) = max (fdepthL (t.f1.take j) 0) (fdepth x) + 1 := by
            unfold mx
            by_cases hj0 : 0 < j
            · rw [if_pos hj0]
              omega
            · rw [if_neg hj0]
              obtain rfl : j = 0 := by omega
              simp only [List.take_zero, fdepthL]
              omega
          rw [e]
          exact step
      have := loop t.f1.length k 0 (by omega) (by omega)
      simpa [fdepthL] using this
    · rw [hf]; split <;> omega
    · rw [hf]; split <;> omega
end Go.Proofs.Ytdlnjbaldfdnpaa.Pure
