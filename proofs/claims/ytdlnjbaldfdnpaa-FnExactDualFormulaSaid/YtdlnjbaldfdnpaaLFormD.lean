/- The dual of a formula, as the reference and the program put it together. -/
import Derived.Test.YtdlnjbaldfdnpaaPx0
import Derived.Test.YtdlnjbaldfdnpaaPx1
import Derived.Test.YtdlnjbaldfdnpaaPx4
import Derived.Test.YtdlnjbaldfdnpaaPx5
import Derived.Test.YtdlnjbaldfdnpaaPx15
import Derived.Test.YtdlnjbaldfdnpaaPx17
import Derived.Test.YtdlnjbaldfdnpaaPx21
import Derived.Test.YtdlnjbaldfdnpaaLBase
import Derived.Test.YtdlnjbaldfdnpaaLBytes
import Derived.Test.YtdlnjbaldfdnpaaLForm
import Derived.Test.YtdlnjbaldfdnpaaLFormB
import Derived.Test.YtdlnjbaldfdnpaaLFormC
namespace Go.Proofs.Ytdlnjbaldfdnpaa.Pure
open Go.RowKit Go.Proofs.Ytdlnjbaldfdnpaa.P Go.Proofs.YtdlnjbaldfdnpaaW.PrintWords Go.Proofs.YtdlnjbaldfdnpaaW.PrintLast Go.Proofs.YtdlnjbaldfdnpaaW.PrintMore
set_option linter.unusedVariables false
set_option linter.unusedSimpArgs false
mutual
theorem wf_fok : ∀ t : Tree, WF t → fok t = true
  | ⟨c, ps⟩, h => by
    simp only [WF] at h
    simp only [fok, Bool.and_eq_true, Bool.or_eq_true, bne_iff_ne, beq_iff_eq]
    refine ⟨?_, wf_fokL ps h.2.2.2⟩
    by_cases hc : c = 63
    · right
      subst hc
      have : plc 63 = 3 := by decide
      omega
    · exact Or.inl hc
theorem wf_fokL : ∀ ts : List Tree, WFL ts → fokL ts = true
  | [], _ => by simp [fokL]
  | t :: ts, h => by
    simp only [WFL] at h
    simp only [fokL, Bool.and_eq_true]
    exact ⟨wf_fok t h.1, wf_fokL ts h.2⟩
end
theorem bs_join (l : List ByteArray) : bs (joinB l) = (l.map bs).flatten := by
  unfold joinB bs
  rw [join_nosep]
  induction l with
  | nil => rfl
  | cons x r ih =>
    simp only [List.map_cons, List.flatten_cons] at ih ⊢
    rw [← ih]
    simp
theorem dual_l1 (xs : List ByteArray) (hx : ∀ x ∈ xs, x.size ≤ 4194304) (hl : xs.length ≤ 8) (d : Nat) : ∀ (k j : Nat) (acc : ByteArray), j + d = xs.length → d < k → acc.size ≤ 4194304 * (j + 1) →
    ∃ r, spec_l05Dual.l1 k xs acc (j : Int) = some r ∧ bs r = bs acc ++ ((xs.drop j).map bs).flatten := by
  induction d with
  | zero =>
    intro k j acc hj hk hs
    obtain ⟨k, rfl⟩ : ∃ m, k = m + 1 := ⟨k - 1, by omega⟩
    simp only [spec_l05Dual.l1]
    rw [if_neg (show ¬ (j : Int) < (xs.length : Int) by omega)]
    refine ⟨acc, rfl, ?_⟩
    rw [List.drop_of_length_le (by omega)]
    simp
  | succ d ih =>
    intro k j acc hj hk hs
    obtain ⟨k, rfl⟩ : ∃ m, k = m + 1 := ⟨k - 1, by omega⟩
    have hlt : j < xs.length := by omega
    have hrd : rdOf ByteArray.empty xs (j : Int) = xs[j] := by
      unfold rdOf
      rw [Int.toNat_natCast, List.getD_eq_getElem?_getD, List.getElem?_eq_getElem hlt]
      rfl
    have hz := hx xs[j] (List.getElem_mem hlt)
    obtain ⟨r, h1, h2⟩ := ih k (j + 1) (acc ++ xs[j]) (by omega) (by omega) (by rw [ByteArray.size_append]; omega)
    simp only [spec_l05Dual.l1]
    rw [if_pos (show (j : Int) < (xs.length : Int) by omega), if_pos (show 0 ≤ (j : Int) by omega), hrd, if_pos (show acc.size + xs[j].size ≤ 9223372036854775807 by omega), M.w64_in ((j : Int) + 1) (by omega) (by omega)]
    refine ⟨r, h1, ?_⟩
    rw [h2, bs_app, List.drop_eq_getElem_cons hlt, List.map_cons, List.flatten_cons, List.append_assoc]
theorem dual_both (t : Tree) : WF t → (txt t).length ≤ 1048576 → ∀ k, 12 * (txt t).length + 40 ≤ k → spec_l05Dual.f k (str t) = some (fdual t) := by
  induction t using frm_ind with
  | h t ih =>
    intro hw hlen k hk
    have hw2 := (WF_eq t).1 hw
    have hl := txt_length t
    have hpl := plc_le t.f0
    have htl := txtL_len t.f1
    obtain ⟨k, rfl⟩ : ∃ m, k = m + 1 := ⟨k - 1, by omega⟩
    simp only [spec_l05Dual.f]
    rw [parts_eq t hw hlen k (by omega), Option.bind_some]
    have hsz : ∀ x ∈ t.f1, (fdual x).size ≤ 2097152 := by
      intro x hx
      have h1 := fdual_size x (wf_fok x (WFL_mem _ hw2.2.2.2 x hx))
      rw [flen_txt] at h1
      have h2 := txtL_mem _ _ hx
      omega
    have h0 : bt (str t) 0 = t.f0 := by
      have hlt : 0 < (bs (str t)).length := by rw [bs_length, str_size]; omega
      have h1 := bs_get (str t) 0 hlt
      rw [Int.natCast_zero] at h1
      rw [← h1]
      simp only [bs_of t hw, txt_eq]
      rfl
    have hfd : bs (fdual t) = bs (dsign t.f0) ++ ((dswap t.f0 (t.f1.map fdual)).map bs).flatten := by rw [fdual_eq, bs_app, bs_join]
    have hsize := str_size t
    -- the parts' duals, one by one
    have loop : ∀ (d : Nat) (k j : Nat), j + d = t.f1.length → 12 * (txtL t.f1).length + 48 + d ≤ k →
        spec_l05Dual.l0 k (str t) ((t.f1.take j).map fdual ++ (t.f1.drop j).map str) (j : Int) = some (fdual t) := by
      intro d
      induction d with
      | zero =>
        intro k j hj hk
        obtain ⟨k, rfl⟩ : ∃ m, k = m + 1 := ⟨k - 1, by omega⟩
        rw [List.take_of_length_le (by omega), List.drop_of_length_le (by omega), List.map_nil, List.append_nil]
        have hml : (t.f1.map fdual).length = t.f1.length := List.length_map _
        have hms : ∀ x ∈ t.f1.map fdual, x.size ≤ 2097152 := by
          intro x hx
          obtain ⟨y, hy, rfl⟩ := List.mem_map.1 hx
          exact hsz y hy
        simp only [spec_l05Dual.l0]
        rw [if_neg (by rw [hml]; omega), if_pos (show 0 < ((str t).size : Int) by omega), h0]
        have hm := hw2.1
        have fin : ∀ r, bs r = bs (fdual t) → some r = some (fdual t) := fun r h => by rw [bs_inj r (fdual t) h]
        generalize t.f1.map fdual = ps at *
        have hex : bs ((str t).extract 0 1) = bs (strOfNums [t.f0]) := by
          rw [bs_extract, bs_of t hw, txt_eq, bs_str [t.f0] (by intro x hx; rw [List.mem_singleton] at hx; rw [hx]; exact ⟨hw2.2.1, hw2.2.2.1⟩)]
          rfl
        generalize t.f0 = c at *
        by_cases c48 : c = 48
        · subst c48
          rw [if_pos rfl]
          apply fin
          rw [hfd]
          have hl0 : ps = [] := List.eq_nil_of_length_eq_zero (by have : plc 48 = 0 := (by decide); omega)
          subst hl0
          rfl
        · rw [if_neg c48]
          by_cases c49 : c = 49
          · subst c49
            rw [if_pos rfl]
            apply fin
            rw [hfd]
            have hl0 : ps = [] := List.eq_nil_of_length_eq_zero (by have : plc 49 = 0 := (by decide); omega)
            subst hl0
            rfl
          · rw [if_neg c49]
            by_cases c38 : c = 38
            · subst c38
              have hl2 : ps.length = 2 := by have : plc 38 = 2 := (by decide); omega
              match ps, hl2 with
              | [x, y], _ =>
                have hx := hms x (by simp)
                have hy := hms y (by simp)
                rw [if_pos rfl]
                have r0 : rdOf ByteArray.empty [x, y] 0 = x := rfl
                have r1 : rdOf ByteArray.empty [x, y] 1 = y := rfl
                have s0 : (⟨#[124]⟩ : ByteArray).size = 1 := rfl
                rw [r0, r1, if_pos (by simp), if_pos (by omega), if_pos (by simp), if_pos (by rw [ByteArray.size_append, s0]; omega)]
                apply fin
                rw [hfd, bs_app, bs_app]
                simp [dsign, dswap]
            · rw [if_neg c38]
              by_cases c124 : c = 124
              · subst c124
                have hl2 : ps.length = 2 := by have : plc 124 = 2 := (by decide); omega
                match ps, hl2 with
                | [x, y], _ =>
                  have hx := hms x (by simp)
                  have hy := hms y (by simp)
                  rw [if_pos rfl]
                  have r0 : rdOf ByteArray.empty [x, y] 0 = x := rfl
                  have r1 : rdOf ByteArray.empty [x, y] 1 = y := rfl
                  have s0 : (⟨#[38]⟩ : ByteArray).size = 1 := rfl
                  rw [r0, r1, if_pos (by simp), if_pos (by omega), if_pos (by simp), if_pos (by rw [ByteArray.size_append, s0]; omega)]
                  apply fin
                  rw [hfd, bs_app, bs_app]
                  simp [dsign, dswap]
              · rw [if_neg c124]
                by_cases c94 : c = 94
                · subst c94
                  have hl2 : ps.length = 2 := by have : plc 94 = 2 := (by decide); omega
                  match ps, hl2 with
                  | [x, y], _ =>
                    have hx := hms x (by simp)
                    have hy := hms y (by simp)
                    rw [if_pos rfl]
                    have r0 : rdOf ByteArray.empty [x, y] 0 = x := rfl
                    have r1 : rdOf ByteArray.empty [x, y] 1 = y := rfl
                    have s0 : (⟨#[33, 94]⟩ : ByteArray).size = 2 := rfl
                    rw [r0, r1, if_pos (by simp), if_pos (by omega), if_pos (by simp), if_pos (by rw [ByteArray.size_append, s0]; omega)]
                    apply fin
                    rw [hfd, bs_app, bs_app]
                    simp [dsign, dswap]
                · rw [if_neg c94]
                  by_cases c63 : c = 63
                  · subst c63
                    have hl2 : ps.length = 3 := by have : plc 63 = 3 := (by decide); omega
                    match ps, hl2 with
                    | [x, y, z], _ =>
                      have hx := hms x (by simp)
                      have hy := hms y (by simp)
                      have hz := hms z (by simp)
                      rw [if_pos rfl]
                      have r0 : rdOf ByteArray.empty [x, y, z] 0 = x := rfl
                      have r1 : rdOf ByteArray.empty [x, y, z] 1 = y := rfl
                      have r2 : rdOf ByteArray.empty [x, y, z] 2 = z := rfl
                      have s0 : (⟨#[63]⟩ : ByteArray).size = 1 := rfl
                      rw [r0, r1, r2, if_pos (by simp), if_pos (by omega), if_pos (by simp), if_pos (by rw [ByteArray.size_append, s0]; omega), if_pos (by simp), if_pos (by rw [ByteArray.size_append, ByteArray.size_append, s0]; omega)]
                      apply fin
                      rw [hfd, bs_app, bs_app, bs_app]
                      have hd : dsign 63 = ⟨#[63]⟩ := rfl
                      rw [hd]
                      simp [dswap]
                  · rw [if_neg c63, if_pos (by decide), if_pos (by omega)]
                    obtain ⟨r, h1, h2⟩ := dual_l1 ps (fun x hx => by have := hms x hx; omega) (by omega) ps.length k 0 ((str t).extract 0 1) (by omega) (by omega) (by rw [ByteArray.size_extract]; omega)
                    rw [Int.natCast_zero] at h1
                    rw [h1]
                    apply fin
                    rw [h2, hfd, hex, List.drop_zero]
                    unfold dswap dsign
                    rw [if_neg c63, if_neg c38, if_neg c124, if_neg c48, if_neg c49, if_neg c94]
      | succ d ihd =>
        intro k j hj hk
        obtain ⟨k, rfl⟩ : ∃ m, k = m + 1 := ⟨k - 1, by omega⟩
        have hlt : j < t.f1.length := by omega
        have hmem : t.f1[j] ∈ t.f1 := List.getElem_mem hlt
        have hx := txtL_mem _ _ hmem
        have step := ihd k (j + 1) (by omega) (by omega)
        have hLL : ((t.f1.take j).map fdual ++ (t.f1.drop j).map str).length = t.f1.length := by simp; omega
        have hrd : rdOf ByteArray.empty ((t.f1.take j).map fdual ++ (t.f1.drop j).map str) (j : Int) = str t.f1[j] := by
          unfold rdOf
          rw [Int.toNat_natCast, List.getD_eq_getElem?_getD, List.getElem?_append_right (by simp; omega), List.length_map, List.length_take, Nat.min_eq_left (by omega), Nat.sub_self, List.drop_eq_getElem_cons hlt]
          rfl
        have hset : ((t.f1.take j).map fdual ++ (t.f1.drop j).map str).set ((j : Int)).toNat (fdual t.f1[j]) = (t.f1.take (j + 1)).map fdual ++ (t.f1.drop (j + 1)).map str := by
          rw [Int.toNat_natCast, List.set_append_right _ _ (by simp; omega), List.length_map, List.length_take, Nat.min_eq_left (by omega), Nat.sub_self, List.drop_eq_getElem_cons hlt, List.map_cons, List.set_cons_zero, List.take_succ_eq_append_getElem hlt, List.map_append, List.append_assoc]
          rfl
        simp only [spec_l05Dual.l0]
        rw [if_pos (by rw [hLL]; omega), if_pos (by omega), hrd, ih _ hmem (WFL_mem _ hw2.2.2.2 _ hmem) (by omega) k (by omega), Option.bind_some, hset, M.w64_in ((j : Int) + 1) (by omega) (by omega)]
        exact step
    have := loop t.f1.length k 0 (by omega) (by omega)
    rw [List.take_zero, List.drop_zero, List.map_nil, List.nil_append, Int.natCast_zero] at this
    exact this
end Go.Proofs.Ytdlnjbaldfdnpaa.Pure
