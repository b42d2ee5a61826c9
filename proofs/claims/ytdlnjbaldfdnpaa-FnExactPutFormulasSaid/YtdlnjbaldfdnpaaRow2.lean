/- A slice of structs of two whole numbers, read as a list: for the rows of laws over such slices. -/
import Derived.Test.YtdlnjbaldfdnpaaWMore
import Derived.Deep.SlicePairs
import Derived.SizedLaws
import Derived.SliceStrings
namespace Go.Proofs.Ytdlnjbaldfdnpaa.Row2
open Go.ChangeShapes Go.WideShapes Go.RowKit Go.Deep Go.Proofs.YtdlnjbaldfdnpaaW.PrintWords
section
variable {H : Type} {enc : TypeId × Value → H} {P : Program} {W : World} {base : Nat} {spare : Nat → Bool} {held : Bool} {t e : TypeId} {f0 f1 : Field} {a : Option Addr} {len cap : Nat} {d : DataW H} {ps : List MemPlace}
theorem pairs_row {α : Type} (K : Kd α) (mk : Int → Int → α) (hmk : ∀ w x y, K.K w (mk x y) [.int .i64 x, .int .i64 y]) (hs : K.sz = 2)
    (hu : P.underlying t = some (.slice e)) (he : P.underlying e = some (.struct #[f0, f1])) (ce : P.cellsOf e = 2) (o0 : f0.offset = 0) (o1 : f1.offset = 1) (c0 : P.cellsOf f0.type = 1) (c1 : P.cellsOf f1.type = 1)
    (u0 : P.underlying f0.type = some (.int .i64)) (u1 : P.underlying f1.type = some (.int .i64)) (h : DataW.Trod enc P W base spare held t (.slice a len cap) d ps) :
    ∃ l : List α, l.length = len ∧ Kd.C K W a len l ∧ len ≤ cap ∧ len ≤ maxLen := by
  obtain ⟨fuel, hf⟩ := h
  rcases open_slice_pairs hu he ce o0 o1 c0 c1 hf with ⟨hcs, _⟩ | ⟨x, l, c, m, n, V0, V1, D0, D1, P0, P1, hcs, _, hl, hm, hmm, hx, hc⟩
  · simp [Value.cells] at hcs
    obtain ⟨rfl, rfl, rfl⟩ := hcs
    exact ⟨[], rfl, ⟨rfl, by omega, fun h => by omega⟩, Nat.le_refl _, Nat.zero_le _⟩
  · simp [Value.cells] at hcs
    obtain ⟨rfl, rfl, rfl⟩ := hcs
    have hlm : len ≤ m := by rw [hmm]; split <;> omega
    have g : ∀ i, i < len → ∃ q : Int × Int, W.cell? (x.add (i * 2)) = some (.int .i64 q.1) ∧ W.cell? (x.add (i * 2 + 1)) = some (.int .i64 q.2) := by
      intro i hi
      obtain ⟨h0, h1, t0, t1⟩ := hc i (by omega)
      obtain ⟨z0, e0, _⟩ := DataW.trod_int u0 t0
      obtain ⟨z1, e1, _⟩ := DataW.trod_int u1 t1
      simp at e0 e1
      exact ⟨(z0, z1), by rw [h0, e0], by rw [h1, e1]⟩
    obtain ⟨q, hq⟩ := choose_lt g
    refine ⟨(List.range len).map fun i => mk (q i).1 (q i).2, by simp, ⟨by simp, Nat.le_trans (Nat.le_trans hl hm) (by decide), fun h0 => ⟨x, rfl, ?_⟩⟩, hl, Nat.le_trans hl hm⟩
    intro j p hj
    have hjl : j < len := by
      have := (List.getElem?_eq_some_iff.1 hj).1
      simpa using this
    have hp : p = mk (q j).1 (q j).2 := by
      rw [List.getElem?_map, List.getElem?_range hjl] at hj
      exact (Option.some.inj hj).symm
    subst hp
    refine ⟨[.int .i64 (q j).1, .int .i64 (q j).2], hs.symm, hmk _ _ _, fun i u hi => ?_⟩
    rw [hs]
    match i, hi with
    | 0, hi => obtain rfl := Option.some.inj hi; exact (hq j hjl).1
    | 1, hi => obtain rfl := Option.some.inj hi; exact (hq j hjl).2
    | i + 2, hi => exact absurd hi (by simp)
theorem pairs_size {ts : List TypeId} {ds : List (DataW H)} {j : Nat} (hsz : (DataW.weightsEach P ts ds).all (· ≤ reachBytes) = true) (ht : ts[j]? = some t) (hd : ds[j]? = some d)
    (hu : P.underlying t = some (.slice e)) (he : P.underlying e = some (.struct #[f0, f1])) (ce : P.cellsOf e = 2) (o0 : f0.offset = 0) (o1 : f1.offset = 1) (c0 : P.cellsOf f0.type = 1) (c1 : P.cellsOf f1.type = 1)
    {B : Nat} (hB : P.bytesOf e = B) (h : DataW.Trod enc P W base spare held t (.slice a len cap) d ps) : len * B ≤ 140737488351232 := by
  obtain ⟨fuel, hf⟩ := h
  rcases open_slice_pairs hu he ce o0 o1 c0 c1 hf with ⟨hcs, _⟩ | ⟨x, l, c, m, n, V0, V1, D0, D1, P0, P1, hcs, _, hl, hm, hmm, hx, hc⟩
  · simp [Value.cells] at hcs
    obtain ⟨rfl, rfl, rfl⟩ := hcs
    simp
  · simp [Value.cells] at hcs
    obtain ⟨rfl, rfl, rfl⟩ := hcs
    obtain ⟨hx, _⟩ := Prod.mk.inj hx
    subst hx
    have z := sized_slice hsz ht hd hu
    rw [hB] at z
    refine Nat.le_trans (Nat.mul_le_mul_right _ ?_) z
    simp
theorem weightsAll_mem {e : TypeId} : ∀ {l : List (DataW H)} {d : DataW H}, d ∈ l → ∀ n ∈ d.weights P e, n ∈ DataW.weightsAll P e l
  | [], _, hd, _, _ => by simp at hd
  | x :: r, d, hd, n, hn => by
    simp only [DataW.weightsAll, List.mem_append]
    rcases List.mem_cons.1 hd with rfl | hd
    · exact Or.inl hn
    · exact Or.inr (weightsAll_mem hd n hn)
/-- A slice of strings, read as a list. -/
theorem strs_row {ts : List TypeId} {ds : List (DataW H)} {j : Nat} (hsz : (DataW.weightsEach P ts ds).all (· ≤ reachBytes) = true) (ht : ts[j]? = some t) (hd : ds[j]? = some d)
    (hu : P.underlying t = some (.slice e)) (he : P.underlying e = some .string) (ce : P.cellsOf e = 1) {B : Nat} (hB : P.bytesOf e = B) (h : DataW.Trod enc P W base spare held t (.slice a len cap) d ps) :
    ∃ l : List ByteArray, l.length = len ∧ Kd.C Kd.string W a len l ∧ len ≤ cap ∧ len ≤ maxLen ∧ len * B ≤ 140737488351232 ∧ ∀ x ∈ l, x.size ≤ 140737488351232 := by
  obtain ⟨fuel, hf⟩ := h
  rcases open_strings hu he ce hf with ⟨hcs, _⟩ | ⟨x, l, c, ss, hcs, _, hl, hm, hlen, hx, hcell, _⟩
  · simp [Value.cells] at hcs
    obtain ⟨rfl, rfl, rfl⟩ := hcs
    exact ⟨[], rfl, ⟨rfl, by omega, fun h => by omega⟩, Nat.le_refl _, Nat.zero_le _, by omega, fun x hx => absurd hx (by simp)⟩
  · simp [Value.cells] at hcs
    obtain ⟨rfl, rfl, rfl⟩ := hcs
    obtain ⟨hx, _⟩ := Prod.mk.inj hx
    subst hx
    have hls : len ≤ ss.length := by rw [hlen]; split <;> omega
    have z := sized_slice hsz ht hd hu
    rw [hB] at z
    refine ⟨ss.take len, by simp; omega, ⟨by simp; omega, Nat.le_trans (Nat.le_trans hl hm) (by decide), fun h0 => ⟨x, rfl, ?_⟩⟩, hl, Nat.le_trans hl hm, ?_, ?_⟩
    · intro j p hj
      have hjl : j < len := by
        have := (List.getElem?_eq_some_iff.1 hj).1
        simp at this
        omega
      rw [List.getElem?_take_of_lt hjl] at hj
      refine ⟨[.string p], rfl, rfl, fun i u hi => ?_⟩
      match i, hi with
      | 0, hi =>
        obtain rfl := Option.some.inj hi
        have := hcell j (by omega)
        rw [List.getD_eq_getElem?_getD, hj] at this
        have e : Kd.string.sz = 1 := rfl
        rw [e, Nat.mul_one, Nat.add_zero]
        exact this
      | i + 1, hi => exact absurd hi (by simp)
    · refine Nat.le_trans (Nat.mul_le_mul_right _ ?_) z
      simp [strs]
      omega
    · intro s hs
      have hmem : (DataW.lit (.string s.data.toList) : DataW H) ∈ strs (H := H) (ss.take len) := List.mem_map.2 ⟨s, hs, rfl⟩
      have hw := weightsAll_mem (P := P) (e := e) hmem s.data.toList.length (by simp [DataW.weights])
      have hw2 := DataW.weights_mem_each (P := P) ht hd s.data.toList.length (by simp only [DataW.weights, hu]; exact List.mem_cons_of_mem _ (List.mem_append_left _ hw))
      have := List.all_eq_true.1 hsz _ hw2
      have h2 : s.data.toList.length ≤ reachBytes := by simpa using this
      have h3 : s.size = s.data.toList.length := by rw [Array.length_toList]; rfl
      rw [h3]
      exact h2
end
end Go.Proofs.Ytdlnjbaldfdnpaa.Row2
