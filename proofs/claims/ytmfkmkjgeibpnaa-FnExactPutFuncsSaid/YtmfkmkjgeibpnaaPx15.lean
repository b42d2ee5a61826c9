/- Functions of the given program and their contracts, written by a program of this session (gen.py) over the kit's print. -/
import Derived.Test.YtmfkmkjgeibpnaaPx0
import Derived.Test.YtmfkmkjgeibpnaaPx2
import Derived.Test.YtmfkmkjgeibpnaaPx3
import Derived.Test.YtmfkmkjgeibpnaaPx7
namespace Go.Proofs.Ytmfkmkjgeibpnaa.P
open Go.RowKit Go.Proofs.YtmfkmkjgeibpnaaW.PrintWords Go.Proofs.YtmfkmkjgeibpnaaW.PrintLast Go.Proofs.YtmfkmkjgeibpnaaW.PrintMore
attribute [local go_sem] max2_int min2_int max_two min_two max_three min_three max_four min_four   -- for this text's walks alone
set_option linter.unusedVariables false
set_option linter.unusedSimpArgs false

/-! ### laws_toFuncS: function 29 -/
def laws_toFuncS.l0 : Nat → List (S23) → List (S27) → Int → Option ((List (S27)))
  | 0, _, _, _ => none
  | k + 1, x0, x3, x4 => if x4 < (x0.length : Int) then (if 0 ≤ x4 then ((laws_toFunc.f ((rd_T23 x0 x4).f0) ((rd_T23 x0 x4).f1)).bind fun bt328 => (if x4 < (x3.length : Int) then (laws_toFuncS.l0 k x0 (x3.set (x4 : Int).toNat (⟨bt328.1, bt328.2⟩ : S27)) (wrap64 (x4 + 1))) else (none))) else (none)) else (some x3)
def laws_toFuncS.f (k : Nat) (l0 : List (S23)) : Option ((List (S27))) := if 0 ≤ (l0.length : Int) then (if ((l0.length : Int) : Int).toNat ≤ 17592186044416 then (laws_toFuncS.l0 k l0 (List.replicate ((l0.length : Int) : Int).toNat z27) 0) else (none)) else (none)
theorem laws_toFuncS.mono_l : ∀ k, (∀ y0 y1 y2, LeO (laws_toFuncS.l0 k y0 y1 y2) (laws_toFuncS.l0 (k + 1) y0 y1 y2))
  | 0 => fun _ _ _ r h => by simp [laws_toFuncS.l0] at h
  | k + 1 => by
    have ih0 := laws_toFuncS.mono_l k
    · intro y0 y1 y2
      unfold laws_toFuncS.l0
      repeat' first
      | (with_reducible exact ih0 _ _ _)
      | (with_reducible exact LeO.refl _)
      | (with_reducible exact LeO.none _)
      | (with_reducible refine LeO.ite ?_ ?_)
      | (with_reducible refine LeO.bind ?_ (fun _ => ?_))
      | exact ih0 _ _ _
      | exact LeO.none _
      | refine LeO.ite ?_ ?_
      | refine LeO.bind ?_ (fun _ => ?_)
theorem laws_toFuncS.mono : ∀ a0 k, LeO (laws_toFuncS.f k a0) (laws_toFuncS.f (k + 1) a0) := by
  intro a0 k
  have ih0 := laws_toFuncS.mono_l k
  unfold laws_toFuncS.f
  repeat' first
      | (with_reducible exact ih0 _ _ _)
      | (with_reducible exact LeO.refl _)
      | (with_reducible exact LeO.none _)
      | (with_reducible refine LeO.ite ?_ ?_)
      | (with_reducible refine LeO.bind ?_ (fun _ => ?_))
      | exact ih0 _ _ _
      | exact LeO.none _
      | refine LeO.ite ?_ ?_
      | refine LeO.bind ?_ (fun _ => ?_)
set_option maxHeartbeats 8000000 in
set_option maxRecDepth 100000 in
theorem laws_toFuncS.calls (k : Nat) (A0 : Option Addr) (c0 : Nat) (l0 : List (S23)) (r : List (S27)) (w : World) (hr0 : Kd.C k23 w A0 l0.length l0) (hc0 : l0.length ≤ c0) (h : laws_toFuncS.f k l0 = some r) :
    Calls Try.prog 29 #[.slice A0 l0.length c0] w fun e w' => ∃ v0_ : Value, e = .returned (v0_) ∧ Kd.R k27 27 w' w.heap.size (fun _ => True) v0_ r ∧ Below w.heap.size w w' := by
  have hu23 := Try.underlying23
  have hu27 := Try.underlying27
  have HR0 := Aside0.mk hr0
  have HC0 := Aside0.mk hc0
  clear hr0 hc0
  have HB := Aside0.mk (Below.refl w.heap.size w)
  have H : (if 0 ≤ (l0.length : Int) then (if ((l0.length : Int) : Int).toNat ≤ 17592186044416 then (laws_toFuncS.l0 k l0 (List.replicate ((l0.length : Int) : Int).toNat z27) 0) else (none)) else (none)) = some r := h
  clear h
  by_cases c2 : 0 ≤ (l0.length : Int)
  · rw [if_pos c2] at H
    have c2b0 := eq_true c2
    have c2b1 : decide (0 ≤ (l0.length : Int)) = true := decide_eq_true c2
    clear c2
    by_cases c3 : ((l0.length : Int) : Int).toNat ≤ 17592186044416
    · rw [if_pos c3] at H
      have c3b0 := eq_true c3
      have c3b1 : decide (((l0.length : Int) : Int).toNat ≤ 17592186044416) = true := decide_eq_true c3
      clear c3
      obtain ⟨y324, hy324⟩ : ∃ y_ : List (S27), y_ = (List.replicate ((l0.length : Int) : Int).toNat z27) := ⟨_, rfl⟩
      replace H : (laws_toFuncS.l0 k l0 y324 0) = some r := by first | (rw [hy324]; with_reducible exact H) | (have H2_ := (Option.bind_some _ _).symm.trans H; rw [hy324]; with_reducible exact H2_) | (have H2_ := (Option.bind_some _ _).symm.trans H; with_reducible exact H2_) | with_reducible exact H | (rw [hy324]; exact H) | exact H
      have Ny324 := Aside0.mk hy324
      clear hy324
      have H' := Aside0.mk H
      clear H
      go_enter Try.func29, Try.ntmps29
      go_wp2_with (first | ((with_reducible refine gate_dst (N := 7) rfl ?_); refine Kd.R_make k27 _ 27 rfl (N := 7) rfl 42 _ _ rfl (l0.length : Int) rfl rfl Try.underlying42 (.agg #[(.int .i64 0), (.int .i64 0)]) 16 info27 rfl (by decide) (by omega) z27 (ok := fun _ => True) (okp := fun _ => True) (k27_mkM _ _ _ z27 ) (fun _ hk => hk) trivial (of_decide_eq_true (by first | (with_reducible assumption) | assumption)) (Nat.le_trans (Nat.mul_le_mul_right _ (of_decide_eq_true (by first | (with_reducible assumption) | assumption) : (l0.length : Int).toNat ≤ 17592186044416)) (by omega)) (Below.refl _ _) (Nat.le_refl _) ?_; intro v325 w4 ho5 hb hg_ hnew_; clear hg_ hnew_; (first | rw [← Ny324.out] at ho5 | (simp only [Int.reduceToNat] at ho5; rw [← Ny324.out] at ho5)); have n0_ := Aside0.mk (Kd.R_lower ho5 (below_size (by repeat (first | (with_reducible first | exact HB.out | apply below_alloc | apply pw_below_drewN | apply below_drew1) | exact HB.out)))); have n1_ := Aside0.mk (below_step (by repeat (first | (with_reducible first | exact HB.out | apply below_alloc | apply pw_below_drewN | apply below_drew1) | exact HB.out)) hb); clear HB; have HO326 := n0_; have HB := n1_; clear n0_ n1_; clear hb ho5))
      go_loopg [4] k (fun kq v4 w' => ∃ (x3_1 : List (S27)) (x4_1 : Int), v4 = .int .i64 x4_1 ∧ Aside0 (laws_toFuncS.l0 kq l0 x3_1 x4_1 = some r) ∧ Aside0 (kq ≤ k) ∧ Aside0 (Kd.R k27 27 w' w.heap.size (fun _ => True) v325 x3_1) ∧ Aside0 (Below w.heap.size w w'))
      case atStart => exact ⟨(y324), (0), (by first | rfl | (simp; done) | (simp [*]; done)), H', ⟨Nat.le_refl _⟩, ⟨by (with_reducible repeat (first | apply Kd.R_alloc | apply Kd.R_drewN | apply Kd.R_drew)); exact HO326.out⟩, ⟨by repeat (first | (with_reducible first | exact HB.out | apply below_alloc | apply pw_below_drewN | apply below_drew1) | exact HB.out)⟩⟩
      case round =>
        clear H'
        try clear c2
        try clear c2b0
        try clear c2b1
        try clear p2
        try clear c3
        try clear c3b0
        try clear c3b1
        obtain ⟨x3_1, x4_1, rfl, HA, HK1, HO_3, HB⟩ := hrel
        cases gk with
        | zero => exact absurd HA.out (by simp [laws_toFuncS.l0])
        | succ k1 =>
          have H := HA.out
          clear HA
          simp only [laws_toFuncS.l0] at H
          by_cases c6 : x4_1 < (l0.length : Int)
          · rw [if_pos c6] at H
            have c6b0 : decide (x4_1 < (l0.length : Int)) = true := decide_eq_true c6
            clear c6
            by_cases c7 : 0 ≤ x4_1
            · rw [if_pos c7] at H
              have c7b0 : decide (0 ≤ x4_1) = true := decide_eq_true c7
              clear c7
              replace H := Option.bind_eq_some_iff.mp H
              obtain ⟨⟨t328, t329⟩, A80, H⟩ := H
              replace H : (if x4_1 < (x3_1.length : Int) then (laws_toFuncS.l0 k1 l0 (x3_1.set (x4_1 : Int).toNat (⟨t328, t329⟩ : S27)) (wrap64 (x4_1 + 1))) else (none)) = some r := H
              have A8 := Aside0.mk A80
              clear A80
              by_cases c9 : x4_1 < (x3_1.length : Int)
              · rw [if_pos c9] at H
                have c9b0 : decide (x4_1 < (x3_1.length : Int)) = true := decide_eq_true c9
                clear c9
                obtain ⟨y330, hy330⟩ : ∃ y_ : List (S27), y_ = (x3_1.set (x4_1 : Int).toNat (⟨t328, t329⟩ : S27)) := ⟨_, rfl⟩
                replace H : (laws_toFuncS.l0 k1 l0 y330 (wrap64 (x4_1 + 1))) = some r := by first | (rw [hy330]; with_reducible exact H) | (have H2_ := (Option.bind_some _ _).symm.trans H; rw [hy330]; with_reducible exact H2_) | (have H2_ := (Option.bind_some _ _).symm.trans H; with_reducible exact H2_) | with_reducible exact H | (rw [hy330]; exact H) | exact H
                have Ny330 := Aside0.mk hy330
                clear hy330
                have H' := Aside0.mk H
                clear H
                have p327 : 0 ≤ (x4_1 : Int) := of_decide_eq_true (by first | (with_reducible assumption) | assumption)
                have q327 : x4_1 < (l0.length : Int) := of_decide_eq_true (by first | (with_reducible assumption) | assumption)
                obtain ⟨ad327, e327, hx327_0, hx327_1⟩ := at_T23 HR0.out x4_1 p327 q327
                cases e327
                replace hx327_0 := (HB.out.cell (World.block_lt_of_cell? w _ hx327_0)).trans hx327_0
                replace hx327_1 := (HB.out.cell (World.block_lt_of_cell? w _ hx327_1)).trans hx327_1
                replace p327 := eq_true p327
                replace q327 := eq_true q327
                go_wp2_with (first | ((with_reducible refine gate_callee (f := 16) rfl ?_); refine goesL_ (some 20) rfl rfl Try.func16 (by kernel_rfl) rfl #[.agg #[.int .i64 ((rd_T23 l0 x4_1).f0), .int .i64 ((rd_T23 l0 x4_1).f1)]] rfl (by (try simp only [List.map_toArray, List.map_cons, List.map_nil]); first | done | rfl | (simp only [List.length_drop, List.length_take]; rfl)) ?_; (with_reducible refine (laws_toFunc.calls ((rd_T23 l0 x4_1).f0) ((rd_T23 l0 x4_1).f1) t328 t329 _ A8.out).mono ?_); rintro e w11 ⟨rfl, hb⟩; refine ⟨_, rfl, ?_⟩; have n0_ := Aside0.mk (Kd.R_below (by (with_reducible repeat (first | apply Kd.R_alloc | apply Kd.R_drewN | apply Kd.R_drew)); exact HO_3.out) hb); have n1_ := Aside0.mk (below_step (by repeat (first | (with_reducible first | exact HB.out | apply below_alloc | apply pw_below_drewN | apply below_drew1) | exact HB.out)) hb); clear HO_3; clear HB; have HO_3 := n0_; have HB := n1_; clear n0_ n1_; (try clear hb); (try clear hb2); (try clear hk); (try clear hi); have p10 : 0 ≤ (x4_1 : Int) := of_decide_eq_true (by first | (with_reducible assumption) | assumption); have q10 : (x4_1 : Int) < ((x3_1.length : Int) : Int) := of_decide_eq_true (by first | (with_reducible assumption) | assumption); obtain ⟨go10, co10, eo10, gb10, gl10, cl10, HG10⟩ := Kd.R_form HO_3.out (by omega); (first | cases eo10 | (injection eo10 with ea_ en_ ec_; (first | subst ea_ | (injection ea_ with ea_; subst ea_)); subst ec_; clear en_)); have GB10 := Aside0.mk gb10; have GG10 := Aside0.mk HG10; clear gb10 gl10 HG10; obtain ⟨ce10, hcl10, hM10, hcc10, hfr10⟩ := Kd.R_elem HO_3.out z27 (x4_1 : Int) p10 q10; obtain rfl := k27_openM hM10; have hx10_0 : w11.cell? ⟨go10, (x4_1 : Int).toNat * 2, none⟩ = some (.int .i64 ((rd_T27 x3_1 x4_1).f0)) := hcc10 0 _ rfl; have hx10_1 : w11.cell? ⟨go10, (x4_1 : Int).toNat * 2 + 1, none⟩ = some (.int .i64 ((rd_T27 x3_1 x4_1).f1)) := hcc10 1 _ rfl; have hf10_0 : w11.frozen? ⟨go10, (x4_1 : Int).toNat * 2, none⟩ = false := hfr10 0; have hf10_1 : w11.frozen? ⟨go10, (x4_1 : Int).toNat * 2 + 1, none⟩ = false := hfr10 1; clear hcl10 hcc10 hfr10 hM10; replace p10 := eq_true p10; replace q10 := eq_true q10; have HX12 := Aside0.mk (show Kd.R k27 27 w11 w.heap.size (fun _ => True) (.slice (some ⟨go10, 0, none⟩) x3_1.length co10) x3_1 from (by (with_reducible repeat (first | apply Kd.R_alloc | apply Kd.R_drewN | apply Kd.R_drew)); exact HO_3.out)); obtain ⟨ce12, hcl12, hM12, hcc12, hfr12⟩ := Kd.R_elem HX12.out z27 (x4_1 : Int) (of_decide_eq_true (by first | (with_reducible assumption) | assumption)) (by have h_ : (x4_1 : Int) < ((x3_1.length : Int) : Int) := of_decide_eq_true (by first | (with_reducible assumption) | assumption); first | exact h_ | (have e_ := (Kd.R_reads' HO_3.out).1; omega) | simpa using h_); obtain rfl := k27_openM hM12; have HP12 := Kd.R_seg HX12.out (x4_1 : Int) (of_decide_eq_true (by first | (with_reducible assumption) | assumption)) (by have h_ : (x4_1 : Int) < ((x3_1.length : Int) : Int) := of_decide_eq_true (by first | (with_reducible assumption) | assumption); first | exact h_ | (have e_ := (Kd.R_reads' HO_3.out).1; omega) | simpa using h_) (seg := [.int .i64 t328, .int .i64 t329]) (j := 0) hcl12 hcc12 (show 2 ≤ 2 from by decide) (x' := (⟨t328, t329⟩ : S27)) (k27_mkM _ _ _ (⟨t328, t329⟩ : S27) ) (fun _ hk => hk); have hx12_0 := hcc12 0 _ rfl; (try simp only [show (k27).sz = 2 from rfl, Nat.mul_one, Nat.add_zero] at hx12_0); have hf12_0 := hfr12 0; (try simp only [show (k27).sz = 2 from rfl, Nat.mul_one, Nat.add_zero] at hf12_0); have hx12_1 := hcc12 1 _ rfl; (try simp only [show (k27).sz = 2 from rfl, Nat.mul_one, Nat.add_zero] at hx12_1); have hf12_1 := hfr12 1; (try simp only [show (k27).sz = 2 from rfl, Nat.mul_one, Nat.add_zero] at hf12_1); clear hcl12 hcc12 hfr12 hM12) | ((with_reducible refine gate_store (t := 27) (p := 21) rfl ?_); refine store_event (t := 27) (p := 21) (v := ?vo_w13) (w1 := ((w11.setCell ⟨go10, (x4_1 : Int).toNat * 2, none⟩ (.int .i64 t328)).setCell ⟨go10, (x4_1 : Int).toNat * 2 + 1, none⟩ (.int .i64 t329))) ?hg ?ho ?hn ?hr ?_; (case ho => rfl); (case hg => rfl); (case hn => rfl); (case hr => first | (go_simp; done) | (go_simp; rfl)); intro w13 hw; have hg : w11.grownBy w13 (some go10) := (by rw [hw]; exact HP12.2); have hp_ : Kd.R k27 27 w13 w.heap.size (fun _ => True) (.slice (some ⟨go10, 0, none⟩) x3_1.length co10) y330 := (by rw [hw, Ny330.out]; exact HP12.1); clear HP12; have n0_ := Aside0.mk (hp_); have n1_ := Aside0.mk ((by rw [hw]; exact below_set (below_set (HB.out) GB10.out) GB10.out : Below w.heap.size w w13)); clear HO_3; clear HB; have HO_3 := n0_; have HB := n1_; clear n0_ n1_; clear hg hw hp_))
                go_roundg k1
                case measure => have := HK1.out; omega
                case rel => exact ⟨(y330), (wrap64 (x4_1 + 1)), (by first | rfl | (simp; done) | (simp [*]; done)), H', ⟨by have := HK1.out; omega⟩, ⟨by (with_reducible repeat (first | apply Kd.R_alloc | apply Kd.R_drewN | apply Kd.R_drew)); exact HO_3.out⟩, ⟨by repeat (first | (with_reducible first | exact HB.out | apply below_alloc | apply pw_below_drewN | apply below_drew1) | exact HB.out)⟩⟩
              · rw [if_neg c9] at H
                exact absurd H (by simp)
            · rw [if_neg c7] at H
              exact absurd H (by simp)
          · rw [if_neg c6] at H
            have c6b0 : decide (x4_1 < (l0.length : Int)) = false := decide_eq_false c6
            clear c6
            obtain rfl := Option.some.inj H
            go_wp2
            go_ret
            exact ⟨_, by first | rfl | (simp [errW_none, errW_some] <;> rfl) | (simp [*, errW_none, errW_some] <;> rfl), by (with_reducible repeat (first | apply Kd.R_alloc | apply Kd.R_drewN | apply Kd.R_drew)); exact HO_3.out, by repeat (first | (with_reducible first | exact HB.out | apply below_alloc | apply pw_below_drewN | apply below_drew1) | exact HB.out)⟩
    · rw [if_neg c3] at H
      exact absurd H (by simp)
  · rw [if_neg c2] at H
    exact absurd H (by simp)

-- NOT PRINTED: function 72 (impl_PutFuncs_1)

-- NOT PRINTED: function 99 (impl_Func_put_1)

/-! ### impl_Func_put: function 73, by hand -/
/-- The row that the values of functions at a row make. -/
def grow (l : List S27) (r : Nat) : Nat := M.num (l.map fun x => M.atN x.f1.toNat r)
theorem grow_dig (l : List S27) (r : Nat) : M.Dig (l.map fun x => M.atN x.f1.toNat r) := by
  intro d hd
  obtain ⟨x, _, rfl⟩ := List.mem_map.1 hd
  exact M.atN_le _ _
theorem grow_lt (l : List S27) (r : Nat) : grow l r < 2 ^ l.length := by
  have := M.num_lt _ (grow_dig l r)
  rwa [List.length_map] at this
theorem rdS_get (l : List S27) (i : Nat) (hi : i < l.length) : rd_T27 l (i : Int) = l[i] := by
  unfold rd_T27
  rw [Int.toNat_natCast, List.getD_eq_getElem?_getD, List.getElem?_eq_getElem hi]
  rfl
theorem grow_step (l : List S27) (r j : Nat) (hj : j < l.length) (h4 : l.length ≤ 4) :
    Go.bits .or .i64 ((grow (l.take j) r : Nat) : Int) (shl .i64 ((M.atN (rd_T27 l (j : Int)).f1.toNat r : Nat) : Int) (j : Int)) = ((grow (l.take (j + 1)) r : Nat) : Int) := by
  have h1 := grow_lt (l.take j) r
  rw [List.length_take, Nat.min_eq_left (by omega)] at h1
  have h2 : 2 ^ j ≤ 2 ^ 3 := M.pow2_le (by omega)
  have h3 := M.atN_le (rd_T27 l (j : Int)).f1.toNat r
  have h5 : M.atN (rd_T27 l (j : Int)).f1.toNat r * 2 ^ j ≤ 2 ^ 3 := Nat.le_trans (Nat.mul_le_mul_right _ h3) (by omega)
  rw [M.shl_nat _ j (by omega) (by omega), M.or_nat _ _ (by omega) (by omega), M.or_high _ _ _ h1]
  congr 1
  unfold grow
  rw [List.take_succ_eq_append_getElem hj, List.map_append, List.map_singleton, M.num_snoc, List.length_map, List.length_take, Nat.min_eq_left (by omega), rdS_get l j hj]
set_option maxHeartbeats 8000000 in
set_option maxRecDepth 100000 in
theorem put_lit (Bp Bf n b m : Nat) (l : List S27) (A0 : Option Addr) (c0 : Nat) (hn : n ≤ 4) (hb : b < 2 ^ 62) (hm : m ≤ 4) (hl : l.length ≤ 4) (hx : ∀ x ∈ l, 0 ≤ x.f1 ∧ x.f1 < 65536) (w : World) (hBp : Bp < w.heap.size) (hBf : Bf < w.heap.size)
    (hcp : w.heap[Bp]? = some (.cells #[.slice A0 l.length c0] 42 (0, 0))) (hcf : w.heap[Bf]? = some (.cells #[.int .i64 (n : Int), .int .i64 (b : Int)] 27 (0, 0))) (hr : Kd.C k27 w A0 l.length l) :
    GivesRow 99 #[.pointer (some ⟨Bp, 0, none⟩), .pointer (some ⟨Bf, 0, none⟩)] (2 ^ m) (fun r => M.atN b (grow l r)) w := by
  intro W r hrn hbW
  have h16 := M.pow_le16 hm
  have BP := Aside0.mk ((hbW.block Bp hBp).trans hcp)
  have BF := Aside0.mk ((hbW.block Bf hBf).trans hcf)
  have HR := Aside0.mk (Kd.C_below hr hbW)
  have hp := grow_lt l r
  have hp2 : 2 ^ l.length ≤ 2 ^ 4 := M.pow2_le hl
  have HAT := Aside0.mk (Func_at_some (n : Int) b (grow l r) hb (by omega))
  have HS := Aside0.mk (fun j hj => grow_step l r j hj hl)
  have HBIT : Aside0 (∀ j : Nat, j < l.length → impl_Func_at.f (rd_T27 l (j : Int)).f0 (rd_T27 l (j : Int)).f1 (r : Int) = some ((M.atN (rd_T27 l (j : Int)).f1.toNat r : Nat) : Int)) := ⟨by
    intro j hj
    have h1 := hx l[j] (List.getElem_mem hj)
    rw [← rdS_get l j hj] at h1
    obtain ⟨q, hq⟩ := Int.eq_ofNat_of_zero_le h1.1
    have h2 := h1.2
    rw [hq] at h2
    rw [hq, Int.toNat_natCast]
    exact Func_at_some _ q r (Nat.lt_trans (show q < 65536 by omega) (by decide)) (by omega)⟩
  have HL4 := Aside0.mk hl
  show Calls Try.prog 99 #[.int .i64 (r : Int), .pointer (some ⟨Bp, 0, none⟩), .pointer (some ⟨Bf, 0, none⟩)] W _
  have hcl : W.cell? ⟨Bp, 0, none⟩ = some (.slice A0 l.length c0) := (blk_cell BP.out 0).trans rfl
  have hcn : W.cell? ⟨Bf, 0, none⟩ = some (.int .i64 (n : Int)) := (blk_cell BF.out 0).trans rfl
  have hcb : W.cell? ⟨Bf, 1, none⟩ = some (.int .i64 (b : Int)) := (blk_cell BF.out 1).trans rfl
  clear hrn hbW h16 hcp hcf hr hBp hBf hp hp2 hx hl
  have H0 : Aside0 ((grow (l.take 0) r : Nat) = 0) := ⟨rfl⟩
  have HT : Aside0 (l.take l.length = l) := ⟨List.take_length⟩
  generalize hln : l.length = q at *
  have HLN := Aside0.mk hln
  clear hln
  go_enter Try.func99, Try.ntmps99
  go_wp2
  go_loopg [5, 10] (q + 1) (fun gg v5 v10 wr => ∃ j : Nat, v10 = .int .i64 (j : Int) ∧ v5 = .int .i64 ((grow (l.take j) r : Nat) : Int) ∧ Aside0 (j ≤ q) ∧ Aside0 (q - j < gg) ∧ Aside0 (Below W.heap.size W wr))
  case atStart => exact ⟨0, rfl, by rw [H0.out]; rfl, ⟨by omega⟩, ⟨by omega⟩, ⟨Below.refl _ _⟩⟩
  case round =>
    obtain ⟨j, rfl, rfl, HJ1, HJ2, HB⟩ := hrel
    have hcn := (HB.out.cell (World.block_lt_of_cell? W _ hcn)).trans hcn
    have hcb := (HB.out.cell (World.block_lt_of_cell? W _ hcb)).trans hcb
    by_cases hlt : j < q
    · have hlti : decide (j < q) = true := by simpa using hlt
      have HL := Aside0.mk hlt
      obtain ⟨ad, rfl, hx0, hx1⟩ := at_T27 HR.out (j : Int) (by omega) (by omega)
      have hxa := (HB.out.cell (World.block_lt_of_cell? W _ hx0)).trans hx0
      have hxb := (HB.out.cell (World.block_lt_of_cell? W _ hx1)).trans hx1
      rw [Int.toNat_natCast] at hxa hxb
      have hj0 : 0 ≤ (j : Int) := by omega
      have hj1 : (j : Int) < (q : Int) := by omega
      have hj2 : j < q := hlt
      have HB1 := Aside0.mk (HBIT.out j hlt)
      have CV := Aside0.mk (HS.out j hlt)
      clear hx0 hx1 hlt
      generalize (M.atN (rd_T27 l (j : Int)).f1.toNat r : Int) = y at HB1 CV
      generalize (rd_T27 l (j : Int)).f0 = x0 at HB1 hxa
      generalize (rd_T27 l (j : Int)).f1 = x1 at HB1 hxb
      have HBA := Aside0.mk (below_alloc HB.out (.cells #[.int .i64 x0, .int .i64 x1] 27))
      go_wp2_with (go_at_call 54; (with_reducible refine (impl_Func_at.calls _ _ _ _ _ HB1.out).mono ?_); rintro e w1 ⟨rfl, hb⟩; have HB2 := Aside0.mk (below_step HBA.out hb); clear hb)
      go_roundg (q - j)
      case measure => have := HJ2.out; omega
      case rel =>
        have hl := HL.out
        have h4 := HL4.out
        refine ⟨j + 1, by rw [M.w64_in _ (by omega) (by omega)]; rfl, ?_, ⟨by omega⟩, ⟨by omega⟩, HB2⟩
        have cv := CV.out
        unfold shl at cv
        simp only [Int.toNat_natCast, i64_w] at cv
        exact congrArg (Value.int .i64) cv
    · have hlti : decide (j < q) = false := by simpa using hlt
      have HE : Aside0 (j = q) := ⟨by have := HJ1.out; omega⟩
      clear hlt
      have HAT2 : Aside0 (impl_Func_at.f (n : Int) (b : Int) ((grow (l.take j) r : Nat) : Int) = some ((M.atN b (grow l r) : Nat) : Int)) := ⟨by rw [HE.out, HT.out]; exact HAT.out⟩
      go_wp2_with (go_at_call 54; (with_reducible refine (impl_Func_at.calls _ _ _ _ _ HAT2.out).mono ?_); rintro e w1 ⟨rfl, hb⟩; have HB2 := Aside0.mk (below_step HB.out hb); clear hb)
      go_ret
      exact ⟨rfl, HB2.out⟩
def impl_Func_put.f (a0_0 a0_1 a1 : Int) (l2 : List S27) : Option (Int × Int) :=
  if M.valid a0_0 a0_1 = true ∧ 0 ≤ a1 ∧ a1 ≤ 4 ∧ l2.length ≤ 4 ∧ (∀ x ∈ l2, 0 ≤ x.f1 ∧ x.f1 < 65536) then some (a1, ((M.tab (2 ^ a1.toNat) (fun r => M.atN a0_1.toNat (grow l2 r)) : Nat) : Int)) else none
set_option maxHeartbeats 8000000 in
set_option maxRecDepth 100000 in
theorem impl_Func_put.calls (a0_0 a0_1 a1 : Int) (A2 : Option Addr) (c2 : Nat) (l2 : List S27) (r1 r2 : Int) (w : World) (hr2 : Kd.C k27 w A2 l2.length l2) (hc2 : l2.length ≤ c2) (h : impl_Func_put.f a0_0 a0_1 a1 l2 = some (r1, r2)) :
    Calls Try.prog 73 #[.agg #[.int .i64 a0_0, .int .i64 a0_1], .int .i64 a1, .slice A2 l2.length c2] w fun e w' => e = .returned (.agg #[.int .i64 r1, .int .i64 r2]) ∧ Below w.heap.size w w' := by
  unfold impl_Func_put.f at h
  by_cases hv : M.valid a0_0 a0_1 = true ∧ 0 ≤ a1 ∧ a1 ≤ 4 ∧ l2.length ≤ 4 ∧ (∀ x ∈ l2, 0 ≤ x.f1 ∧ x.f1 < 65536)
  · rw [if_pos hv] at h
    simp only [Option.some.injEq, Prod.mk.injEq] at h
    obtain ⟨rfl, rfl⟩ := h
    obtain ⟨hval, h0, h4, hl, hx⟩ := hv
    obtain ⟨n, b, hn, hb, rfl, rfl⟩ := (M.valid_iff _ _).1 hval
    obtain ⟨m, rfl⟩ := Int.eq_ofNat_of_zero_le h0
    have hm : m ≤ 4 := by omega
    have hb6 : b < 2 ^ 62 := Nat.lt_trans (M.bits_lt hn hb) (by decide)
    simp only [Int.toNat_natCast]
    have HB0 := Aside0.mk (below_alloc (below_alloc (below_alloc (Below.refl w.heap.size w) (.cells #[.int .i64 (n : Int), .int .i64 (b : Int)] 27)) (.cells #[.slice A2 l2.length c2] 42)) (.cells #[.int .i64 0, .int .i64 0] 27))
    have F0 := Aside0.mk (blk_alloc (blk_alloc (blk_new w (.cells #[.int .i64 (n : Int), .int .i64 (b : Int)] 27)) (.cells #[.slice A2 l2.length c2] 42)) (.cells #[.int .i64 0, .int .i64 0] 27))
    have d0 := blk_alloc (blk_new (w.alloc (.cells #[.int .i64 (n : Int), .int .i64 (b : Int)] 27)) (.cells #[.slice A2 l2.length c2] 42)) (.cells #[.int .i64 0, .int .i64 0] 27)
    have r0 := blk_new ((w.alloc (.cells #[.int .i64 (n : Int), .int .i64 (b : Int)] 27)).alloc (.cells #[.slice A2 l2.length c2] 42)) (.cells #[.int .i64 0, .int .i64 0] 27)
    rw [World.size_alloc_] at d0
    rw [World.size_alloc_, World.size_alloc_] at r0
    have D0 := Aside0.mk d0
    have R0 := Aside0.mk r0
    have HR0 := Aside0.mk (Kd.C_below hr2 HB0.out)
    clear d0 r0 hr2
    have hu := Try.underlying27
    have HC := Aside0.mk (fun W hB hD hc hd hr => impl_funcBy.calls 99 #[.pointer (some ⟨w.heap.size + 1, 0, none⟩), .pointer (some ⟨w.heap.size, 0, none⟩)] (fun args w => enters_ Try.func99 (by kernel_rfl) rfl args w) m hm (fun r => M.atN b (grow l2 r)) (fun r _ => M.atN_le b (grow l2 r)) W (put_lit (w.heap.size + 1) w.heap.size n b m l2 A2 c2 hn hb6 hm hl hx W hB hD hc hd hr))
    generalize M.tab (2 ^ m) (fun r => M.atN b (grow l2 r)) = q at HC ⊢
    clear hval h0 h4 hl hx hn hb hb6 hm hc2
    generalize (n : Int) = ni at *
    generalize (b : Int) = bi at *
    generalize (m : Int) = mi at *
    go_enter Try.func73, Try.ntmps73
    go_wp2_with fail
    refine (HC.out _ (blk_lt D0.out) (blk_lt F0.out) D0.out F0.out HR0.out).mono ?_
    rintro e w4 ⟨rfl, hb⟩
    have HB4 := Aside0.mk (below_step HB0.out hb)
    have R4 := Aside0.mk (blk_below R0.out hb)
    have hz0 := blk_cell R4.out 0
    have hz1 := blk_cell R4.out 1
    simp at hz0 hz1
    have hy0 := blk_frozen R4.out 0
    have hy1 := blk_frozen R4.out 1
    clear hb HB0 R0 F0 D0 HR0
    go_wp2
    refine bodyPost_ret (results_cell_row rfl _ _ (w.heap.size + 1 + 1) 27 #[.int .i64 mi, .int .i64 (q : Int)] (0, 0) _ rfl (blk_put (cs := #[.int .i64 mi, .int .i64 0]) (blk_put R4.out 0 _ rfl) 1 _ rfl) Try.underlying27 rfl (by kernel_rfl)) rfl ⟨rfl, ?_⟩
    exact (HB4.out.setCell (by simp <;> omega) _).setCell (by simp <;> omega) _
  · rw [if_neg hv] at h
    exact absurd h (by simp)

/-! ### impl_PutFuncs: function 30, by hand -/
set_option maxHeartbeats 8000000 in
set_option maxRecDepth 100000 in
theorem putFuncs_lit (Bp : Nat) (l : List S27) (A0 : Option Addr) (c0 : Nat) (w : World) (hBp : Bp < w.heap.size)
    (hcp : w.heap[Bp]? = some (.cells #[.slice A0 l.length c0] 42 (0, 0))) (hr : Kd.C k27 w A0 l.length l) :
    GivesFn 72 #[.pointer (some ⟨Bp, 0, none⟩)] (pairsOf l) (fun x => x.1 != (rd_T27 l 0).f0) w := by
  intro W x hxl hbW
  have hpos : 0 < l.length := by
    have := List.length_pos_of_mem hxl
    rwa [pairsOf_length] at this
  have BP := Aside0.mk (blk_alloc ((hbW.block Bp hBp).trans hcp) (.cells #[.int .i64 x.1, .int .i64 x.2] 27))
  have hHR := Kd.C_below (Kd.C_below hr hbW) (below_alloc (Below.refl W.heap.size W) (.cells #[.int .i64 x.1, .int .i64 x.2] 27))
  have HB0 := Aside0.mk (below_alloc (Below.refl W.heap.size W) (.cells #[.int .i64 x.1, .int .i64 x.2] 27))
  have hq : (0 : Int) < (l.length : Int) := by omega
  obtain ⟨ad, hA, hx0, hx1⟩ := at_T27 hHR 0 (by omega) hq
  cases hA
  rw [show ((0 : Int)).toNat = 0 from rfl, show 0 * 2 = 0 from rfl, Addr.add_zero'] at hx0 hx1
  show Calls Try.prog 72 #[.agg #[.int .i64 x.1, .int .i64 x.2], .pointer (some ⟨Bp, 0, none⟩)] W _
  have hcl := (blk_cell BP.out 0).trans rfl
  have hqi : (0 < l.length) = True := eq_true hpos
  clear hcp hr hbW hBp hxl hHR hpos
  generalize (rd_T27 l 0).f0 = y0 at hx0 ⊢
  generalize (rd_T27 l 0).f1 = y1 at hx1
  obtain ⟨n, b⟩ := x
  simp only at *
  go_enter Try.func72, Try.ntmps72
  go_wp2
  repeat (go_quiet (fail); try go_wp2)
  go_ret
  exact ⟨rfl, pw_below_drewN HB0.out _⟩
/-- The function that is put is of the arity of the first one of the list. -/
def sameAr (l : List S27) : Bool := !((pairsOf l).any fun x => x.1 != (rd_T27 l 0).f0)
def impl_PutFuncs.f (a0_0 a0_1 : Int) (l1 : List S27) : Option (Int × Int × Int) :=
  if l1.length ≤ 4611686018427387904 then
    (if M.valid a0_0 a0_1 = true then
      (if (l1.all fun x => M.valid x.f0 x.f1) = true then
        (if a0_0 = 0 then some (0, 0, 2) else if (l1.length : Int) = a0_0 then
          (if sameAr l1 = true then (impl_Func_put.f a0_0 a0_1 (rd_T27 l1 0).f0 l1).bind fun q => some (q.1, q.2, 0) else some (0, 0, 2))
        else some (0, 0, 2))
      else some (0, 0, 1))
    else some (0, 0, 1))
  else none
set_option maxHeartbeats 8000000 in
set_option maxRecDepth 100000 in
theorem impl_PutFuncs.calls (a0_0 a0_1 : Int) (A1 : Option Addr) (c1 : Nat) (l1 : List S27) (r1 r2 r3 : Int) (w : World) (hr1 : Kd.C k27 w A1 l1.length l1) (hc1 : l1.length ≤ c1) (h : impl_PutFuncs.f a0_0 a0_1 l1 = some (r1, r2, r3)) :
    Calls Try.prog 30 #[.agg #[.int .i64 a0_0, .int .i64 a0_1], .slice A1 l1.length c1] w fun e w' => e = .returned (.tuple #[.agg #[.int .i64 r1, .int .i64 r2], .int .i64 r3]) ∧ Below w.heap.size w w' := by
  unfold impl_PutFuncs.f at h
  have HI := Aside0.mk (isFunc_some a0_0 a0_1)
  have HB0 := Aside0.mk (below_alloc (below_alloc (below_alloc (Below.refl w.heap.size w) (.cells #[.int .i64 a0_0, .int .i64 a0_1] 27)) (.cells #[.slice A1 l1.length c1] 42)) (.cells #[.int .i64 0, .int .i64 0] 27))
  have F0 := Aside0.mk (blk_alloc (blk_alloc (blk_new w (.cells #[.int .i64 a0_0, .int .i64 a0_1] 27)) (.cells #[.slice A1 l1.length c1] 42)) (.cells #[.int .i64 0, .int .i64 0] 27))
  have d0 := blk_alloc (blk_new (w.alloc (.cells #[.int .i64 a0_0, .int .i64 a0_1] 27)) (.cells #[.slice A1 l1.length c1] 42)) (.cells #[.int .i64 0, .int .i64 0] 27)
  have r0 := blk_new ((w.alloc (.cells #[.int .i64 a0_0, .int .i64 a0_1] 27)).alloc (.cells #[.slice A1 l1.length c1] 42)) (.cells #[.int .i64 0, .int .i64 0] 27)
  rw [World.size_alloc_] at d0
  rw [World.size_alloc_, World.size_alloc_] at r0
  have D0 := Aside0.mk d0
  have R0 := Aside0.mk r0
  have HR0 := Aside0.mk (Kd.C_below hr1 HB0.out)
  have HC1 := Aside0.mk hc1
  clear d0 r0 hr1 hc1
  have hu := Try.underlying27
  by_cases hl : l1.length ≤ 4611686018427387904
  · rw [if_pos hl] at h
    have HC := fun (W : World) (hB : w.heap.size + 1 < W.heap.size) (hc : W.heap[w.heap.size + 1]? = some (.cells #[.slice A1 l1.length c1] 42 (0, 0))) (hr : Kd.C k27 W A1 l1.length l1) => slices_ContainsFunc_fns.calls 72 #[.pointer (some ⟨w.heap.size + 1, 0, none⟩)] (fun args w => enters_ Try.func72 (by kernel_rfl) rfl args w) (fun x => x.1 != (rd_T27 l1 0).f0) A1 c1 (pairsOf l1) (by rw [pairsOf_length]; exact hl) W (fnsIn_of hr) (putFuncs_lit (w.heap.size + 1) l1 A1 c1 W hB hc hr)
    rw [pairsOf_length] at HC
    have HSA : Aside0 ((!((pairsOf l1).any fun x => x.1 != (rd_T27 l1 0).f0)) = sameAr l1) := ⟨rfl⟩
    replace HC := Aside0.mk HC
    generalize ((pairsOf l1).any fun x => x.1 != (rd_T27 l1 0).f0) = dif at HC HSA
    have HV1 : Aside0 (impl_areFuncs.f l1 = some (l1.all fun x => M.valid x.f0 x.f1)) := ⟨by unfold impl_areFuncs.f; rw [if_pos hl]⟩
    by_cases hv : M.valid a0_0 a0_1 = true
    · rw [if_pos hv] at h
      rw [hv] at HI
      by_cases ha : (l1.all fun x => M.valid x.f0 x.f1) = true
      · rw [if_pos ha] at h
        rw [ha] at HV1
        by_cases h0 : a0_0 = 0
        · rw [if_pos h0] at h
          simp only [Option.some.injEq, Prod.mk.injEq] at h
          obtain ⟨rfl, rfl, rfl⟩ := h
          subst h0
          clear hl hv ha
          go_enter Try.func30, Try.ntmps30
          go_wp2_with (first | (go_at_call 52; (with_reducible refine (impl_IsFunc.calls _ _ _ _ HI.out).mono ?_); rintro e w1 ⟨rfl, hb⟩; have HB1 := Aside0.mk (below_step HB0.out hb); have F1 := Aside0.mk (blk_below F0.out hb); have D1 := Aside0.mk (blk_below D0.out hb); have R1 := Aside0.mk (blk_below R0.out hb); have HR1 := Aside0.mk (Kd.C_below HR0.out hb); have hc2 := blk_cell D1.out 0; simp at hc2; have hz0 := blk_cell R1.out 0; have hz1 := blk_cell R1.out 1; simp at hz0 hz1; have hy0 := blk_frozen R1.out 0; have hy1 := blk_frozen R1.out 1; clear hb HB0 F0 D0 R0 HR0) | (go_at_call 70; (with_reducible refine (impl_areFuncs.calls _ _ _ _ _ HR1.out HC1.out HV1.out).mono ?_); rintro e w2 ⟨rfl, hb⟩; have HB2 := Aside0.mk (below_step HB1.out hb); have F2 := Aside0.mk (blk_below F1.out hb); have D2 := Aside0.mk (blk_below D1.out hb); have R2 := Aside0.mk (blk_below R1.out hb); have HR2 := Aside0.mk (Kd.C_below HR1.out hb); clear hc2 hz0 hz1 hy0 hy1; have hc0 := blk_cell F2.out 0; have hc1 := blk_cell F2.out 1; have hc2 := blk_cell D2.out 0; simp at hc0 hc1 hc2; have hz0 := blk_cell R2.out 0; have hz1 := blk_cell R2.out 1; simp at hz0 hz1; have hy0 := blk_frozen R2.out 0; have hy1 := blk_frozen R2.out 1; clear hb HB1 F1 D1 R1 HR1) | (go_at_call 71; (with_reducible refine (HC.out _ (blk_lt D2.out) D2.out HR2.out).mono ?_); rintro e w3 ⟨rfl, hb⟩; have HB3 := Aside0.mk (below_step HB2.out hb); have F3 := Aside0.mk (blk_below F2.out hb); have D3 := Aside0.mk (blk_below D2.out hb); have R3 := Aside0.mk (blk_below R2.out hb); have HR3 := Aside0.mk (Kd.C_below HR2.out hb); clear hc0 hc1 hc2 hz0 hz1 hy0 hy1; have hz0 := blk_cell R3.out 0; have hz1 := blk_cell R3.out 1; simp at hz0 hz1; have hy0 := blk_frozen R3.out 0; have hy1 := blk_frozen R3.out 1; clear hb HB2 F2 D2 R2 HR2))
          refine bodyPost_ret (results_ct rfl _ _ (w.heap.size + 1 + 1) 27 #[.int .i64 0, .int .i64 0] (0, 0) _ rfl (blk_put (cs := #[.int .i64 0, .int .i64 0]) (blk_put R2.out 0 _ rfl) 1 _ rfl) Try.underlying27 rfl (by kernel_rfl)) rfl ⟨rfl, ?_⟩
          exact (HB2.out.setCell (by simp <;> omega) _).setCell (by simp <;> omega) _
        · rw [if_neg h0] at h
          have hb0 : (a0_0 == 0) = false := by simpa using h0
          by_cases hn : (l1.length : Int) = a0_0
          · rw [if_pos hn] at h
            have hbn : ((l1.length : Int) != a0_0) = false := by simpa using hn
            cases hs : sameAr l1 with
            | true =>
              rw [if_pos hs] at h
              obtain ⟨q, hq, h⟩ := Option.bind_eq_some_iff.1 h
              simp only [Option.some.injEq, Prod.mk.injEq] at h
              obtain ⟨rfl, rfl, rfl⟩ := h
              have HP := Aside0.mk hq
              rw [hs] at HSA
              obtain rfl : dif = false := by have := HSA.out; simpa using this
              obtain ⟨q1, q2⟩ := q
              simp only at HP ⊢
              have HN0 := Aside0.mk h0
              have HNL := Aside0.mk hn
              clear hl hv ha h0 hn hs hq HSA
              go_enter Try.func30, Try.ntmps30
              go_wp2_with (first | (go_at_call 52; (with_reducible refine (impl_IsFunc.calls _ _ _ _ HI.out).mono ?_); rintro e w1 ⟨rfl, hb⟩; have HB1 := Aside0.mk (below_step HB0.out hb); have F1 := Aside0.mk (blk_below F0.out hb); have D1 := Aside0.mk (blk_below D0.out hb); have R1 := Aside0.mk (blk_below R0.out hb); have HR1 := Aside0.mk (Kd.C_below HR0.out hb); have hc2 := blk_cell D1.out 0; simp at hc2; have hz0 := blk_cell R1.out 0; have hz1 := blk_cell R1.out 1; simp at hz0 hz1; have hy0 := blk_frozen R1.out 0; have hy1 := blk_frozen R1.out 1; clear hb HB0 F0 D0 R0 HR0) | (go_at_call 70; (with_reducible refine (impl_areFuncs.calls _ _ _ _ _ HR1.out HC1.out HV1.out).mono ?_); rintro e w2 ⟨rfl, hb⟩; have HB2 := Aside0.mk (below_step HB1.out hb); have F2 := Aside0.mk (blk_below F1.out hb); have D2 := Aside0.mk (blk_below D1.out hb); have R2 := Aside0.mk (blk_below R1.out hb); have HR2 := Aside0.mk (Kd.C_below HR1.out hb); clear hc2 hz0 hz1 hy0 hy1; have hc0 := blk_cell F2.out 0; have hc1 := blk_cell F2.out 1; have hc2 := blk_cell D2.out 0; simp at hc0 hc1 hc2; have hz0 := blk_cell R2.out 0; have hz1 := blk_cell R2.out 1; simp at hz0 hz1; have hy0 := blk_frozen R2.out 0; have hy1 := blk_frozen R2.out 1; clear hb HB1 F1 D1 R1 HR1) | (go_at_call 71; (with_reducible refine (HC.out _ (blk_lt D2.out) D2.out HR2.out).mono ?_); rintro e w3 ⟨rfl, hb⟩; have HB3 := Aside0.mk (below_step HB2.out hb); have F3 := Aside0.mk (blk_below F2.out hb); have D3 := Aside0.mk (blk_below D2.out hb); have R3 := Aside0.mk (blk_below R2.out hb); have HR3 := Aside0.mk (Kd.C_below HR2.out hb); clear hc0 hc1 hc2 hz0 hz1 hy0 hy1; have hz0 := blk_cell R3.out 0; have hz1 := blk_cell R3.out 1; simp at hz0 hz1; have hy0 := blk_frozen R3.out 0; have hy1 := blk_frozen R3.out 1; clear hb HB2 F2 D2 R2 HR2))
              have hq0 : 0 < l1.length := by have := HN0.out; have := HNL.out; omega
              have hqi : (0 < l1.length) = True := eq_true hq0
              obtain ⟨ad, hA, hx0, hx1⟩ := at_T27 HR3.out 0 (by omega) (by omega)
              cases hA
              rw [show ((0 : Int)).toNat = 0 from rfl, show 0 * 2 = 0 from rfl, Addr.add_zero'] at hx0
              have hxd := ((below_drew1 (Below.refl w3.heap.size w3)).cell (World.block_lt_of_cell? _ _ hx0)).trans hx0
              generalize (rd_T27 l1 0).f0 = y0 at HP hx0 hxd
              clear hx1 hq0 hz0 hz1 hy0 hy1
              refine start_ (n := 9) (S := fun w' => w'.cell? ⟨w.heap.size, 0, none⟩ = some (.int .i64 a0_0) ∧ w'.cell? ⟨w.heap.size, 1, none⟩ = some (.int .i64 a0_1) ∧ w'.cell? ⟨w.heap.size + 1, 0, none⟩ = some (.slice (some ad) l1.length c1) ∧ w'.cell? ad = some (.int .i64 y0)) (ds := [7]) #[false, false, false, false, false, false, false, false, false] (by kernel_rfl) rfl rfl ⟨(blk_cell (blk_drew F3.out) 0).trans rfl, (blk_cell (blk_drew F3.out) 1).trans rfl, (blk_cell (blk_drew D3.out) 0).trans rfl, hxd⟩ (fun hHeld => ?_)
              refine take_ (i := 0) (N := some 31) (v := ?_) (a' := ?_) #[true, false, false, false, false, false, false, false, false] rfl rfl (by kernel_rfl) (fun _ _ _ h => h) (Or.inl ⟨by rfl, ?_⟩) hHeld ?_ ?_
              rotate_left
              · rintro w' ⟨s0, s1, s2, s3⟩
                go_simp
                with_reducible rfl
              rotate_left
              · simp only [Act.put, List.setIfInBounds_toArray, List.set_cons_zero, List.set_cons_succ, i64_w, i32_w]
                rfl
              refine take_ (i := 1) (N := some 32) (v := ?_) (a' := ?_) #[true, true, false, false, false, false, false, false, false] rfl rfl (by kernel_rfl) (fun _ _ _ h => h) (Or.inl ⟨by rfl, ?_⟩) hHeld ?_ ?_
              rotate_left
              · rintro w' ⟨s0, s1, s2, s3⟩
                go_simp
                with_reducible rfl
              rotate_left
              · simp only [Act.put, List.setIfInBounds_toArray, List.set_cons_zero, List.set_cons_succ, i64_w, i32_w]
                rfl
              refine pure_ (i := 2) (N := some 33) (v := ?_) (a' := ?_) #[true, true, true, false, false, false, false, false, false] rfl rfl (by kernel_rfl) (fun _ _ _ h => h) (Or.inl ⟨by rfl, ?_⟩) ?_ ?_
              rotate_left
              · intro w'
                go_simp
                with_reducible rfl
              rotate_left
              · simp only [Act.put, List.setIfInBounds_toArray, List.set_cons_zero, List.set_cons_succ, i64_w, i32_w]
                rfl
              refine pure_ (i := 3) (N := some 34) (v := ?_) (a' := ?_) #[true, true, true, true, false, false, false, false, false] rfl rfl (by kernel_rfl) (fun _ _ _ h => h) (Or.inl ⟨by rfl, ?_⟩) ?_ ?_
              rotate_left
              · intro w'
                go_simp
                with_reducible rfl
              rotate_left
              · simp only [Act.put, List.setIfInBounds_toArray, List.set_cons_zero, List.set_cons_succ, i64_w, i32_w]
                rfl
              refine take_ (i := 4) (N := some 35) (v := ?_) (a' := ?_) #[true, true, true, true, true, false, false, false, false] rfl rfl (by kernel_rfl) (fun _ _ _ h => h) (Or.inl ⟨by rfl, ?_⟩) hHeld ?_ ?_
              rotate_left
              · rintro w' ⟨s0, s1, s2, s3⟩
                go_simp
                with_reducible rfl
              rotate_left
              · simp only [Act.put, List.setIfInBounds_toArray, List.set_cons_zero, List.set_cons_succ, i64_w, i32_w]
                rfl
              refine take_ (i := 5) (N := some 36) (v := ?_) (a' := ?_) #[true, true, true, true, true, true, false, false, false] rfl rfl (by kernel_rfl) (fun _ _ _ h => h) (Or.inl ⟨by rfl, ?_⟩) hHeld ?_ ?_
              rotate_left
              · rintro w' ⟨s0, s1, s2, s3⟩
                go_simp
                with_reducible rfl
              rotate_left
              · simp only [Act.put, List.setIfInBounds_toArray, List.set_cons_zero, List.set_cons_succ, i64_w, i32_w]
                rfl
              refine one_ (i := 6) (N := some 37) #[true, true, true, true, true, true, true, false, false] rfl rfl (by kernel_rfl) (by decide) (fun K hK => ?_)
              refine goes_ Try.func73 (by kernel_rfl) rfl #[(.agg #[.int .i64 a0_0, .int .i64 a0_1]), .int .i64 y0, .slice (some ad) l1.length c1] (by rfl) rfl rfl (by simp only [List.map_toArray, List.map_cons, List.map_nil]; rfl) ?_
              with_reducible refine (impl_Func_put.calls _ _ _ _ _ _ _ _ _ (Kd.C_below HR3.out (below_drew1 (Below.refl _ _))) HC1.out HP.out).mono ?_
              rintro e w4 ⟨rfl, hb⟩
              refine ⟨_, rfl, ?_⟩
              have F4 := Aside0.mk (blk_below (blk_drew F3.out) hb)
              have D4 := Aside0.mk (blk_below (blk_drew D3.out) hb)
              have R4 := Aside0.mk (blk_below (blk_drew R3.out) hb)
              have HB4 := Aside0.mk (below_step (below_drew1 HB3.out) hb)
              have hx4 := (hb.cell (World.block_lt_of_cell? _ _ hxd)).trans hxd
              refine hK.out _ _ ⟨(blk_cell F4.out 0).trans rfl, (blk_cell F4.out 1).trans rfl, (blk_cell D4.out 0).trans rfl, hx4⟩ (fun hHeld => ?_)
              clear hK K
              refine norm_ (a' := ?_) ?_ ?_
              rotate_left
              · show Act.put _ (some 37) _ = _
                simp only [Act.put, List.setIfInBounds_toArray, List.set_cons_zero, List.set_cons_succ, i64_w, i32_w]
                rfl
              refine last_ (i := 7) (N := none) #[true, true, true, true, true, true, true, true, false] rfl rfl (by kernel_rfl) (by decide) (fun K hK => ?_)
              have hz0 : w4.cell? ⟨w.heap.size + 1 + 1, 0, none⟩ = some (.int .i64 0) := (blk_cell R4.out 0).trans rfl
              have hz1 : w4.cell? ⟨w.heap.size + 1 + 1, 1, none⟩ = some (.int .i64 0) := (blk_cell R4.out 1).trans rfl
              have hy0 := blk_frozen R4.out 0
              have hy1 := blk_frozen R4.out 1
              refine skip_ (w1 := ?_) (by rfl) rfl ?_ ?_
              rotate_left
              · go_simp
                rfl
              refine hK.out _ _ ?_
              clear hK K
              refine pure_ (i := 8) (N := some 5) (v := ?_) (a' := ?_) #[true, true, true, true, true, true, true, true, true] rfl rfl (by kernel_rfl) (fun _ _ _ h => h) (Or.inl ⟨by rfl, ?_⟩) ?_ ?_
              rotate_left
              · intro w'
                go_simp
                with_reducible rfl
              rotate_left
              · simp only [Act.put, List.setIfInBounds_toArray, List.set_cons_zero, List.set_cons_succ, i64_w, i32_w]
                rfl
              refine done_ (by kernel_rfl) ?_
              go_wp2
              refine bodyPost_ret (results_ct rfl _ _ (w.heap.size + 1 + 1) 27 #[.int .i64 q1, .int .i64 q2] (0, 0) _ rfl (blk_put (cs := #[.int .i64 q1, .int .i64 0]) (blk_put R4.out 0 _ rfl) 1 _ rfl) Try.underlying27 rfl (by kernel_rfl)) rfl ⟨rfl, ?_⟩
              exact (HB4.out.setCell (by simp <;> omega) _).setCell (by simp <;> omega) _
            | false =>
              rw [if_neg (by rw [hs]; decide)] at h
              simp only [Option.some.injEq, Prod.mk.injEq] at h
              obtain ⟨rfl, rfl, rfl⟩ := h
              rw [hs] at HSA
              obtain rfl : dif = true := by have := HSA.out; simpa using this
              clear hl hv ha h0 hn hs HSA
              go_enter Try.func30, Try.ntmps30
              go_wp2_with (first | (go_at_call 52; (with_reducible refine (impl_IsFunc.calls _ _ _ _ HI.out).mono ?_); rintro e w1 ⟨rfl, hb⟩; have HB1 := Aside0.mk (below_step HB0.out hb); have F1 := Aside0.mk (blk_below F0.out hb); have D1 := Aside0.mk (blk_below D0.out hb); have R1 := Aside0.mk (blk_below R0.out hb); have HR1 := Aside0.mk (Kd.C_below HR0.out hb); have hc2 := blk_cell D1.out 0; simp at hc2; have hz0 := blk_cell R1.out 0; have hz1 := blk_cell R1.out 1; simp at hz0 hz1; have hy0 := blk_frozen R1.out 0; have hy1 := blk_frozen R1.out 1; clear hb HB0 F0 D0 R0 HR0) | (go_at_call 70; (with_reducible refine (impl_areFuncs.calls _ _ _ _ _ HR1.out HC1.out HV1.out).mono ?_); rintro e w2 ⟨rfl, hb⟩; have HB2 := Aside0.mk (below_step HB1.out hb); have F2 := Aside0.mk (blk_below F1.out hb); have D2 := Aside0.mk (blk_below D1.out hb); have R2 := Aside0.mk (blk_below R1.out hb); have HR2 := Aside0.mk (Kd.C_below HR1.out hb); clear hc2 hz0 hz1 hy0 hy1; have hc0 := blk_cell F2.out 0; have hc1 := blk_cell F2.out 1; have hc2 := blk_cell D2.out 0; simp at hc0 hc1 hc2; have hz0 := blk_cell R2.out 0; have hz1 := blk_cell R2.out 1; simp at hz0 hz1; have hy0 := blk_frozen R2.out 0; have hy1 := blk_frozen R2.out 1; clear hb HB1 F1 D1 R1 HR1) | (go_at_call 71; (with_reducible refine (HC.out _ (blk_lt D2.out) D2.out HR2.out).mono ?_); rintro e w3 ⟨rfl, hb⟩; have HB3 := Aside0.mk (below_step HB2.out hb); have F3 := Aside0.mk (blk_below F2.out hb); have D3 := Aside0.mk (blk_below D2.out hb); have R3 := Aside0.mk (blk_below R2.out hb); have HR3 := Aside0.mk (Kd.C_below HR2.out hb); clear hc0 hc1 hc2 hz0 hz1 hy0 hy1; have hz0 := blk_cell R3.out 0; have hz1 := blk_cell R3.out 1; simp at hz0 hz1; have hy0 := blk_frozen R3.out 0; have hy1 := blk_frozen R3.out 1; clear hb HB2 F2 D2 R2 HR2))
              refine bodyPost_ret (results_ct rfl _ _ (w.heap.size + 1 + 1) 27 #[.int .i64 0, .int .i64 0] (0, 0) _ rfl (blk_put (cs := #[.int .i64 0, .int .i64 0]) (blk_put R3.out 0 _ rfl) 1 _ rfl) Try.underlying27 rfl (by kernel_rfl)) rfl ⟨rfl, ?_⟩
              exact (HB3.out.setCell (by simp <;> omega) _).setCell (by simp <;> omega) _
          · rw [if_neg hn] at h
            have hbn : ((l1.length : Int) != a0_0) = true := by simpa using hn
            simp only [Option.some.injEq, Prod.mk.injEq] at h
            obtain ⟨rfl, rfl, rfl⟩ := h
            clear hl hv ha h0 hn
            go_enter Try.func30, Try.ntmps30
            go_wp2_with (first | (go_at_call 52; (with_reducible refine (impl_IsFunc.calls _ _ _ _ HI.out).mono ?_); rintro e w1 ⟨rfl, hb⟩; have HB1 := Aside0.mk (below_step HB0.out hb); have F1 := Aside0.mk (blk_below F0.out hb); have D1 := Aside0.mk (blk_below D0.out hb); have R1 := Aside0.mk (blk_below R0.out hb); have HR1 := Aside0.mk (Kd.C_below HR0.out hb); have hc2 := blk_cell D1.out 0; simp at hc2; have hz0 := blk_cell R1.out 0; have hz1 := blk_cell R1.out 1; simp at hz0 hz1; have hy0 := blk_frozen R1.out 0; have hy1 := blk_frozen R1.out 1; clear hb HB0 F0 D0 R0 HR0) | (go_at_call 70; (with_reducible refine (impl_areFuncs.calls _ _ _ _ _ HR1.out HC1.out HV1.out).mono ?_); rintro e w2 ⟨rfl, hb⟩; have HB2 := Aside0.mk (below_step HB1.out hb); have F2 := Aside0.mk (blk_below F1.out hb); have D2 := Aside0.mk (blk_below D1.out hb); have R2 := Aside0.mk (blk_below R1.out hb); have HR2 := Aside0.mk (Kd.C_below HR1.out hb); clear hc2 hz0 hz1 hy0 hy1; have hc0 := blk_cell F2.out 0; have hc1 := blk_cell F2.out 1; have hc2 := blk_cell D2.out 0; simp at hc0 hc1 hc2; have hz0 := blk_cell R2.out 0; have hz1 := blk_cell R2.out 1; simp at hz0 hz1; have hy0 := blk_frozen R2.out 0; have hy1 := blk_frozen R2.out 1; clear hb HB1 F1 D1 R1 HR1) | (go_at_call 71; (with_reducible refine (HC.out _ (blk_lt D2.out) D2.out HR2.out).mono ?_); rintro e w3 ⟨rfl, hb⟩; have HB3 := Aside0.mk (below_step HB2.out hb); have F3 := Aside0.mk (blk_below F2.out hb); have D3 := Aside0.mk (blk_below D2.out hb); have R3 := Aside0.mk (blk_below R2.out hb); have HR3 := Aside0.mk (Kd.C_below HR2.out hb); clear hc0 hc1 hc2 hz0 hz1 hy0 hy1; have hz0 := blk_cell R3.out 0; have hz1 := blk_cell R3.out 1; simp at hz0 hz1; have hy0 := blk_frozen R3.out 0; have hy1 := blk_frozen R3.out 1; clear hb HB2 F2 D2 R2 HR2))
            refine bodyPost_ret (results_ct rfl _ _ (w.heap.size + 1 + 1) 27 #[.int .i64 0, .int .i64 0] (0, 0) _ rfl (blk_put (cs := #[.int .i64 0, .int .i64 0]) (blk_put R2.out 0 _ rfl) 1 _ rfl) Try.underlying27 rfl (by kernel_rfl)) rfl ⟨rfl, ?_⟩
            exact (HB2.out.setCell (by simp <;> omega) _).setCell (by simp <;> omega) _
      · rw [if_neg ha] at h
        simp only [Bool.not_eq_true] at ha
        rw [ha] at HV1
        simp only [Option.some.injEq, Prod.mk.injEq] at h
        obtain ⟨rfl, rfl, rfl⟩ := h
        clear hl hv ha
        go_enter Try.func30, Try.ntmps30
        go_wp2_with (first | (go_at_call 52; (with_reducible refine (impl_IsFunc.calls _ _ _ _ HI.out).mono ?_); rintro e w1 ⟨rfl, hb⟩; have HB1 := Aside0.mk (below_step HB0.out hb); have F1 := Aside0.mk (blk_below F0.out hb); have D1 := Aside0.mk (blk_below D0.out hb); have R1 := Aside0.mk (blk_below R0.out hb); have HR1 := Aside0.mk (Kd.C_below HR0.out hb); have hc2 := blk_cell D1.out 0; simp at hc2; have hz0 := blk_cell R1.out 0; have hz1 := blk_cell R1.out 1; simp at hz0 hz1; have hy0 := blk_frozen R1.out 0; have hy1 := blk_frozen R1.out 1; clear hb HB0 F0 D0 R0 HR0) | (go_at_call 70; (with_reducible refine (impl_areFuncs.calls _ _ _ _ _ HR1.out HC1.out HV1.out).mono ?_); rintro e w2 ⟨rfl, hb⟩; have HB2 := Aside0.mk (below_step HB1.out hb); have F2 := Aside0.mk (blk_below F1.out hb); have D2 := Aside0.mk (blk_below D1.out hb); have R2 := Aside0.mk (blk_below R1.out hb); have HR2 := Aside0.mk (Kd.C_below HR1.out hb); clear hc2 hz0 hz1 hy0 hy1; have hc0 := blk_cell F2.out 0; have hc1 := blk_cell F2.out 1; have hc2 := blk_cell D2.out 0; simp at hc0 hc1 hc2; have hz0 := blk_cell R2.out 0; have hz1 := blk_cell R2.out 1; simp at hz0 hz1; have hy0 := blk_frozen R2.out 0; have hy1 := blk_frozen R2.out 1; clear hb HB1 F1 D1 R1 HR1))
        refine bodyPost_ret (results_ct rfl _ _ (w.heap.size + 1 + 1) 27 #[.int .i64 0, .int .i64 0] (0, 0) _ rfl (blk_put (cs := #[.int .i64 0, .int .i64 0]) (blk_put R2.out 0 _ rfl) 1 _ rfl) Try.underlying27 rfl (by kernel_rfl)) rfl ⟨rfl, ?_⟩
        exact (HB2.out.setCell (by simp <;> omega) _).setCell (by simp <;> omega) _
    · rw [if_neg hv] at h
      simp only [Bool.not_eq_true] at hv
      rw [hv] at HI
      simp only [Option.some.injEq, Prod.mk.injEq] at h
      obtain ⟨rfl, rfl, rfl⟩ := h
      clear hl hv
      go_enter Try.func30, Try.ntmps30
      go_wp2_with (first | (go_at_call 52; (with_reducible refine (impl_IsFunc.calls _ _ _ _ HI.out).mono ?_); rintro e w1 ⟨rfl, hb⟩; have HB1 := Aside0.mk (below_step HB0.out hb); have F1 := Aside0.mk (blk_below F0.out hb); have D1 := Aside0.mk (blk_below D0.out hb); have R1 := Aside0.mk (blk_below R0.out hb); have HR1 := Aside0.mk (Kd.C_below HR0.out hb); have hc2 := blk_cell D1.out 0; simp at hc2; have hz0 := blk_cell R1.out 0; have hz1 := blk_cell R1.out 1; simp at hz0 hz1; have hy0 := blk_frozen R1.out 0; have hy1 := blk_frozen R1.out 1; clear hb HB0 F0 D0 R0 HR0) | (go_at_call 70; (with_reducible refine (impl_areFuncs.calls _ _ _ _ _ HR1.out HC1.out HV1.out).mono ?_); rintro e w2 ⟨rfl, hb⟩; have HB2 := Aside0.mk (below_step HB1.out hb); have F2 := Aside0.mk (blk_below F1.out hb); have D2 := Aside0.mk (blk_below D1.out hb); have R2 := Aside0.mk (blk_below R1.out hb); have HR2 := Aside0.mk (Kd.C_below HR1.out hb); clear hc2 hz0 hz1 hy0 hy1; have hc0 := blk_cell F2.out 0; have hc1 := blk_cell F2.out 1; have hc2 := blk_cell D2.out 0; simp at hc0 hc1 hc2; have hz0 := blk_cell R2.out 0; have hz1 := blk_cell R2.out 1; simp at hz0 hz1; have hy0 := blk_frozen R2.out 0; have hy1 := blk_frozen R2.out 1; clear hb HB1 F1 D1 R1 HR1))
      refine bodyPost_ret (results_ct rfl _ _ (w.heap.size + 1 + 1) 27 #[.int .i64 0, .int .i64 0] (0, 0) _ rfl (blk_put (cs := #[.int .i64 0, .int .i64 0]) (blk_put R1.out 0 _ rfl) 1 _ rfl) Try.underlying27 rfl (by kernel_rfl)) rfl ⟨rfl, ?_⟩
      exact (HB1.out.setCell (by simp <;> omega) _).setCell (by simp <;> omega) _
  · rw [if_neg hl] at h
    exact absurd h (by simp)

end Go.Proofs.Ytmfkmkjgeibpnaa.P
