/- The law ConfigSigns. -/
import Derived.Test.YthdldmkeoglflaaDoorSignHash
import Derived.Test.YthdldmkeoglflaaDoorCfgAlive
import Derived.Test.YthdldmkeoglflaaDoorCfgSame
import Derived.Test.YthdldmkeoglflaaDoorCfgOpen
import Derived.Test.YthdldmkeoglflaaDoorCfgCardS
namespace Go.Proofs.YthdldmkeoglflaaDoor
set_option linter.unusedSimpArgs false
set_option linter.unusedVariables false
set_option linter.unnecessarySimpa false
open Go.RowKit

theorem backR_sign {s : Int} (h1 : 1 ≤ s) (h2 : s < 500000003) (bs : List Int) : backR (pubK s) (sgE s bs) (sgS s bs) = pubK (nonP s bs) := by
  have hE := sgE_rng s bs
  have hk := nonP_rng s bs
  have hS : sgS s bs = (nonP s bs + sgE s bs * s % 500000003) % 500000003 := rfl
  have hS2 := sgS_rng s bs
  generalize sgE s bs = E at *
  generalize sgS s bs = S at *
  generalize nonP s bs = k at *
  have hm0 : 0 ≤ E * s := Int.mul_nonneg hE.1 (by omega)
  have hQ : s * (500000003 - E) = 500000003 * s - E * s := by rw [Int.mul_sub, Int.mul_comm s 500000003, Int.mul_comm s E]
  have hQ0 : 0 ≤ s * (500000003 - E) := Int.mul_nonneg (by omega) (by omega)
  unfold backR pubK
  rw [pwI_mul 4 s (500000003 - E) (by omega) (by omega), pwI_add 4 S _ hS2.1 hQ0, ← pwI_rem is_4 (S + s * (500000003 - E)) (by omega), ← pwI_rem is_4 k (by omega)]
  congr 2
  rw [hQ]
  generalize E * s = m at *
  omega
theorem verify_sign {s : Int} (h1 : 1 ≤ s) (h2 : s < 500000003) (bs : List Int) (a : Option Addr) (n c : Nat) (w : World) (hm : MsgIn w a n bs) (hn : n ≤ 9991) (hT : TabK w) :
    Calls Tryd.prog 26 #[.int .u32 (pubK s), .slice a n c, .agg #[.int .u32 (sgE s bs), .int .u32 (sgS s bs)]] w fun e w' =>
      e = .returned (.int .i64 0) ∧ Below w.heap.size w w' := by
  have hE := sgE_rng s bs
  have hS := sgS_rng s bs
  have h := verify_go (pubK s) (sgE s bs) (sgS s bs) bs a n c w (pubK_in s) hm hn hT hE.1 hE.2 hS.1 hS.2
  rw [backR_sign h1 h2, if_pos (show chaP (pubK (nonP s bs)) (pubK s) bs = sgE s bs from rfl)] at h
  exact h
theorem whoR_own (K : Int) (ps : Peers) : whoR K 0 ps K = (⟨#[]⟩, 0) := by
  unfold whoR; rw [if_pos rfl, if_pos rfl]
set_option maxRecDepth 100000 in
set_option maxHeartbeats 10000000 in
theorem signs_walk (l0 l1 l2 l3 l4 l5 l6 l7 l8 : Int) (s : Int) (ps : Peers) (a : Option Addr) (c : Nat) (bs : List Int) (ma : Option Addr) (mc : Nat) (w : World) (h : SetIn w s ps a c) (hm : MsgIn w ma bs.length bs) (hT : TabK w) (htab : ∀ W, Below w.heap.size w W → Lib.TabIs Tryd.prog W "internal/strconv.uint64pow10" .u64 Lib.pow10Tab) :
    Calls Tryd.prog 6 #[.agg #[.int .i64 l0, .int .i64 l1, .int .i64 l2, .int .i64 l3, .int .i64 l4, .int .i64 l5, .int .i64 l6, .int .i64 l7, .int .i64 l8, .int .u32 s, .slice a ps.length c], .slice ma bs.length mc] w fun e w' =>
      e = .returned (.bool true) ∧ Below w.heap.size w w' := by
  have hml := h.len
  have hc := h.cells
  have hgr := fun W g => great_any l0 l1 l2 l3 l4 l5 l6 l7 l8 s ps a c W g hml
  unfold GreatR at hgr
  have s0 := h.s0
  have s4 := h.s4
  have hk := h.keys
  obtain ⟨E, hE2⟩ : ∃ E, chkS (⟨l0, l1, l2, l3, l4, l5, l6, l7, l8⟩ : Lim) s ps = E := ⟨_, rfl⟩
  have w8 := fun W (h : SIn W s ps a) => hE2 ▸ rCheck_any l0 l1 l2 l3 l4 l5 l6 l7 l8 s ps a c W h.cells h.s0 h.s4 h.keys h.ml
  obtain ⟨n, hn⟩ : ∃ n, bs.length = n := ⟨_, rfl⟩
  rw [hn] at hm ⊢
  by_cases h0 : E = 0
  · subst h0
    have hcv := CV.of hE2
    have s1 := hcv.s1
    have s5 := hcv.s5
    by_cases hx : 200 < n
    · have hx' : (200 : Int) < (n : Int) := by omega
      have H_hml := Box.mk hml
      have H_htab := Box.mk htab
      have H_hk := Box.mk hk
      have H_hE2 := Box.mk hE2
      have H_hcv := Box.mk hcv
      have H_hn := Box.mk hn
      have H_hm := Box.mk hm
      have H_hT := Box.mk hT
      clear hml htab hk hE2 hcv hn hm hT
      go_enter Tryd.func6, Tryd.ntmps6
      have hb0 := Below.refl w.heap.size w
      go_wp2_with fail
      with_reducible refine (alive_any _ (fun W hb => H_htab.out W (bchain ((Below.refl _ w).alloc (Nat.le_refl _) _) hb))).mono ?_
      rintro e w1 ⟨rfl, hc1⟩
      have hb1 : Below w.heap.size w w1 := bchain (by repeat' (first | with_reducible exact hb0 | with_reducible refine Below.drew ?_ | with_reducible refine below_drewN ?_ _ | with_reducible refine Below.alloc ?_ (by have := hb0.size; first | (simp; done) | (simp; omega) | omega) _ | with_reducible refine Below.setCell ?_ (by first | (simp; done) | (simp; omega) | omega) _)) hc1
      have hst1 : Below w.heap.size w w1 := bchain (by repeat' (first | with_reducible exact Below.refl _ _ | with_reducible refine Below.drew ?_ | with_reducible refine below_drewN ?_ _ | with_reducible refine Below.alloc ?_ (by first | (simp; done) | (simp; omega) | omega) _ | with_reducible refine Below.setCell ?_ (by first | (simp; done) | (simp; omega) | omega) _)) hc1
      have X_0 : w1.cell? ⟨w.heap.size, 0, none⟩ = some (.int .i64 l0) := (hc1.cell (p := ⟨w.heap.size, 0, none⟩) (by first | (simp; done) | (simp; omega))).trans (by first | (simp; done) | go_simp)
      have X_1 : w1.cell? ⟨w.heap.size, 1, none⟩ = some (.int .i64 l1) := (hc1.cell (p := ⟨w.heap.size, 1, none⟩) (by first | (simp; done) | (simp; omega))).trans (by first | (simp; done) | go_simp)
      have X_2 : w1.cell? ⟨w.heap.size, 2, none⟩ = some (.int .i64 l2) := (hc1.cell (p := ⟨w.heap.size, 2, none⟩) (by first | (simp; done) | (simp; omega))).trans (by first | (simp; done) | go_simp)
      have X_3 : w1.cell? ⟨w.heap.size, 3, none⟩ = some (.int .i64 l3) := (hc1.cell (p := ⟨w.heap.size, 3, none⟩) (by first | (simp; done) | (simp; omega))).trans (by first | (simp; done) | go_simp)
      have X_4 : w1.cell? ⟨w.heap.size, 4, none⟩ = some (.int .i64 l4) := (hc1.cell (p := ⟨w.heap.size, 4, none⟩) (by first | (simp; done) | (simp; omega))).trans (by first | (simp; done) | go_simp)
      have X_5 : w1.cell? ⟨w.heap.size, 5, none⟩ = some (.int .i64 l5) := (hc1.cell (p := ⟨w.heap.size, 5, none⟩) (by first | (simp; done) | (simp; omega))).trans (by first | (simp; done) | go_simp)
      have X_6 : w1.cell? ⟨w.heap.size, 6, none⟩ = some (.int .i64 l6) := (hc1.cell (p := ⟨w.heap.size, 6, none⟩) (by first | (simp; done) | (simp; omega))).trans (by first | (simp; done) | go_simp)
      have X_7 : w1.cell? ⟨w.heap.size, 7, none⟩ = some (.int .i64 l7) := (hc1.cell (p := ⟨w.heap.size, 7, none⟩) (by first | (simp; done) | (simp; omega))).trans (by first | (simp; done) | go_simp)
      have X_8 : w1.cell? ⟨w.heap.size, 8, none⟩ = some (.int .i64 l8) := (hc1.cell (p := ⟨w.heap.size, 8, none⟩) (by first | (simp; done) | (simp; omega))).trans (by first | (simp; done) | go_simp)
      have X_9 : w1.cell? ⟨w.heap.size, 9, none⟩ = some (.int .u32 s) := (hc1.cell (p := ⟨w.heap.size, 9, none⟩) (by first | (simp; done) | (simp; omega))).trans (by first | (simp; done) | go_simp)
      have X_10 : w1.cell? ⟨w.heap.size, 10, none⟩ = some (.slice a ps.length c) := (hc1.cell (p := ⟨w.heap.size, 10, none⟩) (by first | (simp; done) | (simp; omega))).trans (by first | (simp; done) | go_simp)
      have X_l : w.heap.size < w1.heap.size := Nat.lt_of_lt_of_le (by first | (simp; done) | (simp; omega)) hc1.size
      replace hc := hc.later hst1
      clear hst1
      clear hc1 hb0
      go_wp2_with fail
      with_reducible refine (hgr _ hc).mono ?_
      rintro e w2 ⟨⟨g, rfl, hg⟩, hc2⟩
      have hb2 : Below w.heap.size w w2 := bchain (by repeat' (first | with_reducible exact hb1 | with_reducible refine Below.drew ?_ | with_reducible refine below_drewN ?_ _ | with_reducible refine Below.alloc ?_ (by have := hb1.size; first | (simp; done) | (simp; omega) | omega) _ | with_reducible refine Below.setCell ?_ (by first | (simp; done) | (simp; omega) | omega) _)) hc2
      have hst2 : Below w1.heap.size w1 w2 := bchain (by repeat' (first | with_reducible exact Below.refl _ _ | with_reducible refine Below.drew ?_ | with_reducible refine below_drewN ?_ _ | with_reducible refine Below.alloc ?_ (by first | (simp; done) | (simp; omega) | omega) _ | with_reducible refine Below.setCell ?_ (by first | (simp; done) | (simp; omega) | omega) _)) hc2
      replace X_0 := cell_later hst2 X_0
      replace X_1 := cell_later hst2 X_1
      replace X_2 := cell_later hst2 X_2
      replace X_3 := cell_later hst2 X_3
      replace X_4 := cell_later hst2 X_4
      replace X_5 := cell_later hst2 X_5
      replace X_6 := cell_later hst2 X_6
      replace X_7 := cell_later hst2 X_7
      replace X_8 := cell_later hst2 X_8
      replace X_9 := cell_later hst2 X_9
      replace X_10 := cell_later hst2 X_10
      replace X_l := Nat.lt_of_lt_of_le X_l hst2.size
      replace hc := hc.later hst2
      clear hst2
      clear hc2 hb1
      cases g with
      | true =>
        go_wp2_with fail
        go_ret
        exact ⟨rfl, (by repeat' (first | with_reducible exact hb2 | with_reducible refine Below.drew ?_ | with_reducible refine below_drewN ?_ _ | with_reducible refine Below.alloc ?_ (by have := hb2.size; first | (simp; done) | (simp; omega) | omega) _ | with_reducible refine Below.setCell ?_ (by first | (simp; done) | (simp; omega) | omega) _))⟩
      | false =>
      obtain ⟨hl30, _⟩ := hg rfl
      have hS : SIn w2 s ps a := ⟨s0, s4, hc, H_hk.out, by omega⟩
      clear hg
      go_wp2_with fail
      with_reducible refine (w8 _ hS).mono ?_
      rintro e w3 ⟨rfl, hc3⟩
      have hb3 : Below w.heap.size w w3 := bchain (by repeat' (first | with_reducible exact hb2 | with_reducible refine Below.drew ?_ | with_reducible refine below_drewN ?_ _ | with_reducible refine Below.alloc ?_ (by have := hb2.size; first | (simp; done) | (simp; omega) | omega) _ | with_reducible refine Below.setCell ?_ (by first | (simp; done) | (simp; omega) | omega) _)) hc3
      have hst3 : Below w2.heap.size w2 w3 := bchain (by repeat' (first | with_reducible exact Below.refl _ _ | with_reducible refine Below.drew ?_ | with_reducible refine below_drewN ?_ _ | with_reducible refine Below.alloc ?_ (by first | (simp; done) | (simp; omega) | omega) _ | with_reducible refine Below.setCell ?_ (by first | (simp; done) | (simp; omega) | omega) _)) hc3
      replace X_0 := cell_later hst3 X_0
      replace X_1 := cell_later hst3 X_1
      replace X_2 := cell_later hst3 X_2
      replace X_3 := cell_later hst3 X_3
      replace X_4 := cell_later hst3 X_4
      replace X_5 := cell_later hst3 X_5
      replace X_6 := cell_later hst3 X_6
      replace X_7 := cell_later hst3 X_7
      replace X_8 := cell_later hst3 X_8
      replace X_9 := cell_later hst3 X_9
      replace X_10 := cell_later hst3 X_10
      replace X_l := Nat.lt_of_lt_of_le X_l hst3.size
      replace hc := hc.later hst3
      clear hst3
      clear hc3 hb2
      go_wp2_with fail
      go_ret
      exact ⟨rfl, (by repeat' (first | with_reducible exact hb3 | with_reducible refine Below.drew ?_ | with_reducible refine below_drewN ?_ _ | with_reducible refine Below.alloc ?_ (by have := hb3.size; first | (simp; done) | (simp; omega) | omega) _ | with_reducible refine Below.setCell ?_ (by first | (simp; done) | (simp; omega) | omega) _))⟩
    have hx' : ¬ (200 : Int) < (n : Int) := by omega
    have w1 := fun W g => Public_any l0 l1 l2 l3 l4 l5 l6 l7 l8 s ps a c W g 0 hE2
    have w2 := fun W (hM : MsgIn W ma n bs) (hT : TabK W) => sign_ok s bs ma n mc W s1 s5 hM (by omega) hT
    have w3 := fun W => public_ok s W s1 s5
    have w4 := fun W g => Who_any l0 l1 l2 l3 l4 l5 l6 l7 l8 s (pubK s) ps a c W g 0 hE2
    have w5 := fun W (hM : MsgIn W ma n bs) (hT : TabK W) => verify_sign s1 s5 bs ma n mc W hM (by omega) hT
    unfold RetSI at w4
    have hpr : pubR 0 s = pubK s := rfl
    simp only [whoR_own, hpr] at w4 w1
    obtain ⟨K, hK⟩ : ∃ K, pubK s = K := ⟨_, rfl⟩
    obtain ⟨gE, hgE⟩ : ∃ K, sgE s bs = K := ⟨_, rfl⟩
    obtain ⟨gS, hgS⟩ : ∃ K, sgS s bs = K := ⟨_, rfl⟩
    simp only [hK, hgE, hgS] at w1 w2 w3 w4 w5
    have H_hml := Box.mk hml
    have H_htab := Box.mk htab
    have H_hk := Box.mk hk
    have H_hE2 := Box.mk hE2
    have H_hcv := Box.mk hcv
    have H_hn := Box.mk hn
    have H_hK := Box.mk hK
    have H_hgE := Box.mk hgE
    have H_hgS := Box.mk hgS
    have H_w1 := Box.mk w1
    have H_w2 := Box.mk w2
    have H_w3 := Box.mk w3
    have H_w4 := Box.mk w4
    have H_w5 := Box.mk w5
    have H_w8 := Box.mk w8
    clear hml htab hk hE2 hcv hn hK hgE hgS w1 w2 w3 w4 w5 w8
    go_enter Tryd.func6, Tryd.ntmps6
    have hb0 := Below.refl w.heap.size w
    go_wp2_with fail
    with_reducible refine (alive_any _ (fun W hb => H_htab.out W (bchain ((Below.refl _ w).alloc (Nat.le_refl _) _) hb))).mono ?_
    rintro e w1 ⟨rfl, hc1⟩
    have hb1 : Below w.heap.size w w1 := bchain (by repeat' (first | with_reducible exact hb0 | with_reducible refine Below.drew ?_ | with_reducible refine below_drewN ?_ _ | with_reducible refine Below.alloc ?_ (by have := hb0.size; first | (simp; done) | (simp; omega) | omega) _ | with_reducible refine Below.setCell ?_ (by first | (simp; done) | (simp; omega) | omega) _)) hc1
    have hst1 : Below w.heap.size w w1 := bchain (by repeat' (first | with_reducible exact Below.refl _ _ | with_reducible refine Below.drew ?_ | with_reducible refine below_drewN ?_ _ | with_reducible refine Below.alloc ?_ (by first | (simp; done) | (simp; omega) | omega) _ | with_reducible refine Below.setCell ?_ (by first | (simp; done) | (simp; omega) | omega) _)) hc1
    have X_0 : w1.cell? ⟨w.heap.size, 0, none⟩ = some (.int .i64 l0) := (hc1.cell (p := ⟨w.heap.size, 0, none⟩) (by first | (simp; done) | (simp; omega))).trans (by first | (simp; done) | go_simp)
    have X_1 : w1.cell? ⟨w.heap.size, 1, none⟩ = some (.int .i64 l1) := (hc1.cell (p := ⟨w.heap.size, 1, none⟩) (by first | (simp; done) | (simp; omega))).trans (by first | (simp; done) | go_simp)
    have X_2 : w1.cell? ⟨w.heap.size, 2, none⟩ = some (.int .i64 l2) := (hc1.cell (p := ⟨w.heap.size, 2, none⟩) (by first | (simp; done) | (simp; omega))).trans (by first | (simp; done) | go_simp)
    have X_3 : w1.cell? ⟨w.heap.size, 3, none⟩ = some (.int .i64 l3) := (hc1.cell (p := ⟨w.heap.size, 3, none⟩) (by first | (simp; done) | (simp; omega))).trans (by first | (simp; done) | go_simp)
    have X_4 : w1.cell? ⟨w.heap.size, 4, none⟩ = some (.int .i64 l4) := (hc1.cell (p := ⟨w.heap.size, 4, none⟩) (by first | (simp; done) | (simp; omega))).trans (by first | (simp; done) | go_simp)
    have X_5 : w1.cell? ⟨w.heap.size, 5, none⟩ = some (.int .i64 l5) := (hc1.cell (p := ⟨w.heap.size, 5, none⟩) (by first | (simp; done) | (simp; omega))).trans (by first | (simp; done) | go_simp)
    have X_6 : w1.cell? ⟨w.heap.size, 6, none⟩ = some (.int .i64 l6) := (hc1.cell (p := ⟨w.heap.size, 6, none⟩) (by first | (simp; done) | (simp; omega))).trans (by first | (simp; done) | go_simp)
    have X_7 : w1.cell? ⟨w.heap.size, 7, none⟩ = some (.int .i64 l7) := (hc1.cell (p := ⟨w.heap.size, 7, none⟩) (by first | (simp; done) | (simp; omega))).trans (by first | (simp; done) | go_simp)
    have X_8 : w1.cell? ⟨w.heap.size, 8, none⟩ = some (.int .i64 l8) := (hc1.cell (p := ⟨w.heap.size, 8, none⟩) (by first | (simp; done) | (simp; omega))).trans (by first | (simp; done) | go_simp)
    have X_9 : w1.cell? ⟨w.heap.size, 9, none⟩ = some (.int .u32 s) := (hc1.cell (p := ⟨w.heap.size, 9, none⟩) (by first | (simp; done) | (simp; omega))).trans (by first | (simp; done) | go_simp)
    have X_10 : w1.cell? ⟨w.heap.size, 10, none⟩ = some (.slice a ps.length c) := (hc1.cell (p := ⟨w.heap.size, 10, none⟩) (by first | (simp; done) | (simp; omega))).trans (by first | (simp; done) | go_simp)
    have X_l : w.heap.size < w1.heap.size := Nat.lt_of_lt_of_le (by first | (simp; done) | (simp; omega)) hc1.size
    replace hc := hc.later hst1
    replace hm := hm.later hst1
    replace hT := hT.later hst1
    clear hst1
    clear hc1 hb0
    go_wp2_with fail
    with_reducible refine (hgr _ hc).mono ?_
    rintro e w2 ⟨⟨g, rfl, hg⟩, hc2⟩
    have hb2 : Below w.heap.size w w2 := bchain (by repeat' (first | with_reducible exact hb1 | with_reducible refine Below.drew ?_ | with_reducible refine below_drewN ?_ _ | with_reducible refine Below.alloc ?_ (by have := hb1.size; first | (simp; done) | (simp; omega) | omega) _ | with_reducible refine Below.setCell ?_ (by first | (simp; done) | (simp; omega) | omega) _)) hc2
    have hst2 : Below w1.heap.size w1 w2 := bchain (by repeat' (first | with_reducible exact Below.refl _ _ | with_reducible refine Below.drew ?_ | with_reducible refine below_drewN ?_ _ | with_reducible refine Below.alloc ?_ (by first | (simp; done) | (simp; omega) | omega) _ | with_reducible refine Below.setCell ?_ (by first | (simp; done) | (simp; omega) | omega) _)) hc2
    replace X_0 := cell_later hst2 X_0
    replace X_1 := cell_later hst2 X_1
    replace X_2 := cell_later hst2 X_2
    replace X_3 := cell_later hst2 X_3
    replace X_4 := cell_later hst2 X_4
    replace X_5 := cell_later hst2 X_5
    replace X_6 := cell_later hst2 X_6
    replace X_7 := cell_later hst2 X_7
    replace X_8 := cell_later hst2 X_8
    replace X_9 := cell_later hst2 X_9
    replace X_10 := cell_later hst2 X_10
    replace X_l := Nat.lt_of_lt_of_le X_l hst2.size
    replace hc := hc.later hst2
    replace hm := hm.later hst2
    replace hT := hT.later hst2
    clear hst2
    clear hc2 hb1
    cases g with
    | true =>
      go_wp2_with fail
      go_ret
      exact ⟨rfl, (by repeat' (first | with_reducible exact hb2 | with_reducible refine Below.drew ?_ | with_reducible refine below_drewN ?_ _ | with_reducible refine Below.alloc ?_ (by have := hb2.size; first | (simp; done) | (simp; omega) | omega) _ | with_reducible refine Below.setCell ?_ (by first | (simp; done) | (simp; omega) | omega) _))⟩
    | false =>
    obtain ⟨hl30, _⟩ := hg rfl
    have hS : SIn w2 s ps a := ⟨s0, s4, hc, H_hk.out, by omega⟩
    clear hg
    go_wp2_with fail
    with_reducible refine (H_w8.out _ hS).mono ?_
    rintro e w3 ⟨rfl, hc3⟩
    have hb3 : Below w.heap.size w w3 := bchain (by repeat' (first | with_reducible exact hb2 | with_reducible refine Below.drew ?_ | with_reducible refine below_drewN ?_ _ | with_reducible refine Below.alloc ?_ (by have := hb2.size; first | (simp; done) | (simp; omega) | omega) _ | with_reducible refine Below.setCell ?_ (by first | (simp; done) | (simp; omega) | omega) _)) hc3
    have hst3 : Below w2.heap.size w2 w3 := bchain (by repeat' (first | with_reducible exact Below.refl _ _ | with_reducible refine Below.drew ?_ | with_reducible refine below_drewN ?_ _ | with_reducible refine Below.alloc ?_ (by first | (simp; done) | (simp; omega) | omega) _ | with_reducible refine Below.setCell ?_ (by first | (simp; done) | (simp; omega) | omega) _)) hc3
    replace X_0 := cell_later hst3 X_0
    replace X_1 := cell_later hst3 X_1
    replace X_2 := cell_later hst3 X_2
    replace X_3 := cell_later hst3 X_3
    replace X_4 := cell_later hst3 X_4
    replace X_5 := cell_later hst3 X_5
    replace X_6 := cell_later hst3 X_6
    replace X_7 := cell_later hst3 X_7
    replace X_8 := cell_later hst3 X_8
    replace X_9 := cell_later hst3 X_9
    replace X_10 := cell_later hst3 X_10
    replace X_l := Nat.lt_of_lt_of_le X_l hst3.size
    replace hm := hm.later hst3
    replace hT := hT.later hst3
    replace hS := hS.later hst3
    clear hst3
    clear hc3 hb2
    go_wp2_with fail
    with_reducible refine (H_w1.out _ hS).mono ?_
    rintro e w4 ⟨rfl, hc4⟩
    have hb4 : Below w.heap.size w w4 := bchain (by repeat' (first | with_reducible exact hb3 | with_reducible refine Below.drew ?_ | with_reducible refine below_drewN ?_ _ | with_reducible refine Below.alloc ?_ (by have := hb3.size; first | (simp; done) | (simp; omega) | omega) _ | with_reducible refine Below.setCell ?_ (by first | (simp; done) | (simp; omega) | omega) _)) hc4
    have hst4 : Below w3.heap.size w3 w4 := bchain (by repeat' (first | with_reducible exact Below.refl _ _ | with_reducible refine Below.drew ?_ | with_reducible refine below_drewN ?_ _ | with_reducible refine Below.alloc ?_ (by first | (simp; done) | (simp; omega) | omega) _ | with_reducible refine Below.setCell ?_ (by first | (simp; done) | (simp; omega) | omega) _)) hc4
    replace X_0 := cell_later hst4 X_0
    replace X_1 := cell_later hst4 X_1
    replace X_2 := cell_later hst4 X_2
    replace X_3 := cell_later hst4 X_3
    replace X_4 := cell_later hst4 X_4
    replace X_5 := cell_later hst4 X_5
    replace X_6 := cell_later hst4 X_6
    replace X_7 := cell_later hst4 X_7
    replace X_8 := cell_later hst4 X_8
    replace X_9 := cell_later hst4 X_9
    replace X_10 := cell_later hst4 X_10
    replace X_l := Nat.lt_of_lt_of_le X_l hst4.size
    replace hm := hm.later hst4
    replace hT := hT.later hst4
    replace hS := hS.later hst4
    clear hst4
    clear hc4 hb3
    go_wp2_with fail
    with_reducible refine (H_w2.out _ hm hT).mono ?_
    rintro e w5 ⟨rfl, hc5⟩
    have hb5 : Below w.heap.size w w5 := bchain (by repeat' (first | with_reducible exact hb4 | with_reducible refine Below.drew ?_ | with_reducible refine below_drewN ?_ _ | with_reducible refine Below.alloc ?_ (by have := hb4.size; first | (simp; done) | (simp; omega) | omega) _ | with_reducible refine Below.setCell ?_ (by first | (simp; done) | (simp; omega) | omega) _)) hc5
    have hst5 : Below w4.heap.size w4 w5 := bchain (by repeat' (first | with_reducible exact Below.refl _ _ | with_reducible refine Below.drew ?_ | with_reducible refine below_drewN ?_ _ | with_reducible refine Below.alloc ?_ (by first | (simp; done) | (simp; omega) | omega) _ | with_reducible refine Below.setCell ?_ (by first | (simp; done) | (simp; omega) | omega) _)) hc5
    replace X_0 := cell_later hst5 X_0
    replace X_1 := cell_later hst5 X_1
    replace X_2 := cell_later hst5 X_2
    replace X_3 := cell_later hst5 X_3
    replace X_4 := cell_later hst5 X_4
    replace X_5 := cell_later hst5 X_5
    replace X_6 := cell_later hst5 X_6
    replace X_7 := cell_later hst5 X_7
    replace X_8 := cell_later hst5 X_8
    replace X_9 := cell_later hst5 X_9
    replace X_10 := cell_later hst5 X_10
    replace X_l := Nat.lt_of_lt_of_le X_l hst5.size
    replace hm := hm.later hst5
    replace hT := hT.later hst5
    replace hS := hS.later hst5
    clear hst5
    clear hc5 hb4
    go_wp2_with fail
    with_reducible refine (H_w3.out _).mono ?_
    rintro e w6 ⟨rfl, hc6⟩
    have hb6 : Below w.heap.size w w6 := bchain (by repeat' (first | with_reducible exact hb5 | with_reducible refine Below.drew ?_ | with_reducible refine below_drewN ?_ _ | with_reducible refine Below.alloc ?_ (by have := hb5.size; first | (simp; done) | (simp; omega) | omega) _ | with_reducible refine Below.setCell ?_ (by first | (simp; done) | (simp; omega) | omega) _)) hc6
    have hst6 : Below w5.heap.size w5 w6 := bchain (by repeat' (first | with_reducible exact Below.refl _ _ | with_reducible refine Below.drew ?_ | with_reducible refine below_drewN ?_ _ | with_reducible refine Below.alloc ?_ (by first | (simp; done) | (simp; omega) | omega) _ | with_reducible refine Below.setCell ?_ (by first | (simp; done) | (simp; omega) | omega) _)) hc6
    replace X_0 := cell_later hst6 X_0
    replace X_1 := cell_later hst6 X_1
    replace X_2 := cell_later hst6 X_2
    replace X_3 := cell_later hst6 X_3
    replace X_4 := cell_later hst6 X_4
    replace X_5 := cell_later hst6 X_5
    replace X_6 := cell_later hst6 X_6
    replace X_7 := cell_later hst6 X_7
    replace X_8 := cell_later hst6 X_8
    replace X_9 := cell_later hst6 X_9
    replace X_10 := cell_later hst6 X_10
    replace X_l := Nat.lt_of_lt_of_le X_l hst6.size
    have G_0 : w6.cell? ⟨w5.heap.size, 0, none⟩ = some (.int .u32 gE) := (hc6.cell (p := ⟨w5.heap.size, 0, none⟩) (by first | (simp; done) | (simp; omega))).trans (by first | (simp; done) | go_simp)
    have G_1 : w6.cell? ⟨w5.heap.size, 1, none⟩ = some (.int .u32 gS) := (hc6.cell (p := ⟨w5.heap.size, 1, none⟩) (by first | (simp; done) | (simp; omega))).trans (by first | (simp; done) | go_simp)
    have G_l : w5.heap.size < w6.heap.size := Nat.lt_of_lt_of_le (by first | (simp; done) | (simp; omega)) hc6.size
    replace hm := hm.later hst6
    replace hT := hT.later hst6
    replace hS := hS.later hst6
    clear hst6
    clear hc6 hb5
    go_wp2_with fail
    with_reducible refine (H_w4.out _ hS).mono ?_
    rintro e w7 ⟨rfl, hc7⟩
    have hb7 : Below w.heap.size w w7 := bchain (by repeat' (first | with_reducible exact hb6 | with_reducible refine Below.drew ?_ | with_reducible refine below_drewN ?_ _ | with_reducible refine Below.alloc ?_ (by have := hb6.size; first | (simp; done) | (simp; omega) | omega) _ | with_reducible refine Below.setCell ?_ (by first | (simp; done) | (simp; omega) | omega) _)) hc7
    have hst7 : Below w6.heap.size w6 w7 := bchain (by repeat' (first | with_reducible exact Below.refl _ _ | with_reducible refine Below.drew ?_ | with_reducible refine below_drewN ?_ _ | with_reducible refine Below.alloc ?_ (by first | (simp; done) | (simp; omega) | omega) _ | with_reducible refine Below.setCell ?_ (by first | (simp; done) | (simp; omega) | omega) _)) hc7
    replace X_0 := cell_later hst7 X_0
    replace X_1 := cell_later hst7 X_1
    replace X_2 := cell_later hst7 X_2
    replace X_3 := cell_later hst7 X_3
    replace X_4 := cell_later hst7 X_4
    replace X_5 := cell_later hst7 X_5
    replace X_6 := cell_later hst7 X_6
    replace X_7 := cell_later hst7 X_7
    replace X_8 := cell_later hst7 X_8
    replace X_9 := cell_later hst7 X_9
    replace X_10 := cell_later hst7 X_10
    replace X_l := Nat.lt_of_lt_of_le X_l hst7.size
    replace G_0 := cell_later hst7 G_0
    replace G_1 := cell_later hst7 G_1
    replace G_l := Nat.lt_of_lt_of_le G_l hst7.size
    replace hm := hm.later hst7
    replace hT := hT.later hst7
    replace hS := hS.later hst7
    clear hst7
    clear hc7 hb6
    go_wp2_with fail
    with_reducible refine (H_w5.out _ hm hT).mono ?_
    rintro e w8 ⟨rfl, hc8⟩
    have hb8 : Below w.heap.size w w8 := bchain (by repeat' (first | with_reducible exact hb7 | with_reducible refine Below.drew ?_ | with_reducible refine below_drewN ?_ _ | with_reducible refine Below.alloc ?_ (by have := hb7.size; first | (simp; done) | (simp; omega) | omega) _ | with_reducible refine Below.setCell ?_ (by first | (simp; done) | (simp; omega) | omega) _)) hc8
    have hst8 : Below w7.heap.size w7 w8 := bchain (by repeat' (first | with_reducible exact Below.refl _ _ | with_reducible refine Below.drew ?_ | with_reducible refine below_drewN ?_ _ | with_reducible refine Below.alloc ?_ (by first | (simp; done) | (simp; omega) | omega) _ | with_reducible refine Below.setCell ?_ (by first | (simp; done) | (simp; omega) | omega) _)) hc8
    replace X_0 := cell_later hst8 X_0
    replace X_1 := cell_later hst8 X_1
    replace X_2 := cell_later hst8 X_2
    replace X_3 := cell_later hst8 X_3
    replace X_4 := cell_later hst8 X_4
    replace X_5 := cell_later hst8 X_5
    replace X_6 := cell_later hst8 X_6
    replace X_7 := cell_later hst8 X_7
    replace X_8 := cell_later hst8 X_8
    replace X_9 := cell_later hst8 X_9
    replace X_10 := cell_later hst8 X_10
    replace X_l := Nat.lt_of_lt_of_le X_l hst8.size
    replace G_0 := cell_later hst8 G_0
    replace G_1 := cell_later hst8 G_1
    replace G_l := Nat.lt_of_lt_of_le G_l hst8.size
    replace hm := hm.later hst8
    replace hT := hT.later hst8
    replace hS := hS.later hst8
    clear hst8
    clear hc8 hb7
    go_wp2_with fail
    go_ret
    exact ⟨rfl, (by repeat' (first | with_reducible exact hb8 | with_reducible refine Below.drew ?_ | with_reducible refine below_drewN ?_ _ | with_reducible refine Below.alloc ?_ (by have := hb8.size; first | (simp; done) | (simp; omega) | omega) _ | with_reducible refine Below.setCell ?_ (by first | (simp; done) | (simp; omega) | omega) _))⟩
  · have b1 : (E != 0) = true := bne_iff_ne.2 h0
    have H_hml := Box.mk hml
    have H_htab := Box.mk htab
    have H_hk := Box.mk hk
    have H_hE2 := Box.mk hE2
    have H_hn := Box.mk hn
    have H_hm := Box.mk hm
    have H_hT := Box.mk hT
    clear hml htab hk hE2 hn hm hT
    go_enter Tryd.func6, Tryd.ntmps6
    have hb0 := Below.refl w.heap.size w
    go_wp2_with fail
    with_reducible refine (alive_any _ (fun W hb => H_htab.out W (bchain ((Below.refl _ w).alloc (Nat.le_refl _) _) hb))).mono ?_
    rintro e w1 ⟨rfl, hc1⟩
    have hb1 : Below w.heap.size w w1 := bchain (by repeat' (first | with_reducible exact hb0 | with_reducible refine Below.drew ?_ | with_reducible refine below_drewN ?_ _ | with_reducible refine Below.alloc ?_ (by have := hb0.size; first | (simp; done) | (simp; omega) | omega) _ | with_reducible refine Below.setCell ?_ (by first | (simp; done) | (simp; omega) | omega) _)) hc1
    have hst1 : Below w.heap.size w w1 := bchain (by repeat' (first | with_reducible exact Below.refl _ _ | with_reducible refine Below.drew ?_ | with_reducible refine below_drewN ?_ _ | with_reducible refine Below.alloc ?_ (by first | (simp; done) | (simp; omega) | omega) _ | with_reducible refine Below.setCell ?_ (by first | (simp; done) | (simp; omega) | omega) _)) hc1
    have X_0 : w1.cell? ⟨w.heap.size, 0, none⟩ = some (.int .i64 l0) := (hc1.cell (p := ⟨w.heap.size, 0, none⟩) (by first | (simp; done) | (simp; omega))).trans (by first | (simp; done) | go_simp)
    have X_1 : w1.cell? ⟨w.heap.size, 1, none⟩ = some (.int .i64 l1) := (hc1.cell (p := ⟨w.heap.size, 1, none⟩) (by first | (simp; done) | (simp; omega))).trans (by first | (simp; done) | go_simp)
    have X_2 : w1.cell? ⟨w.heap.size, 2, none⟩ = some (.int .i64 l2) := (hc1.cell (p := ⟨w.heap.size, 2, none⟩) (by first | (simp; done) | (simp; omega))).trans (by first | (simp; done) | go_simp)
    have X_3 : w1.cell? ⟨w.heap.size, 3, none⟩ = some (.int .i64 l3) := (hc1.cell (p := ⟨w.heap.size, 3, none⟩) (by first | (simp; done) | (simp; omega))).trans (by first | (simp; done) | go_simp)
    have X_4 : w1.cell? ⟨w.heap.size, 4, none⟩ = some (.int .i64 l4) := (hc1.cell (p := ⟨w.heap.size, 4, none⟩) (by first | (simp; done) | (simp; omega))).trans (by first | (simp; done) | go_simp)
    have X_5 : w1.cell? ⟨w.heap.size, 5, none⟩ = some (.int .i64 l5) := (hc1.cell (p := ⟨w.heap.size, 5, none⟩) (by first | (simp; done) | (simp; omega))).trans (by first | (simp; done) | go_simp)
    have X_6 : w1.cell? ⟨w.heap.size, 6, none⟩ = some (.int .i64 l6) := (hc1.cell (p := ⟨w.heap.size, 6, none⟩) (by first | (simp; done) | (simp; omega))).trans (by first | (simp; done) | go_simp)
    have X_7 : w1.cell? ⟨w.heap.size, 7, none⟩ = some (.int .i64 l7) := (hc1.cell (p := ⟨w.heap.size, 7, none⟩) (by first | (simp; done) | (simp; omega))).trans (by first | (simp; done) | go_simp)
    have X_8 : w1.cell? ⟨w.heap.size, 8, none⟩ = some (.int .i64 l8) := (hc1.cell (p := ⟨w.heap.size, 8, none⟩) (by first | (simp; done) | (simp; omega))).trans (by first | (simp; done) | go_simp)
    have X_9 : w1.cell? ⟨w.heap.size, 9, none⟩ = some (.int .u32 s) := (hc1.cell (p := ⟨w.heap.size, 9, none⟩) (by first | (simp; done) | (simp; omega))).trans (by first | (simp; done) | go_simp)
    have X_10 : w1.cell? ⟨w.heap.size, 10, none⟩ = some (.slice a ps.length c) := (hc1.cell (p := ⟨w.heap.size, 10, none⟩) (by first | (simp; done) | (simp; omega))).trans (by first | (simp; done) | go_simp)
    have X_l : w.heap.size < w1.heap.size := Nat.lt_of_lt_of_le (by first | (simp; done) | (simp; omega)) hc1.size
    replace hc := hc.later hst1
    clear hst1
    clear hc1 hb0
    go_wp2_with fail
    with_reducible refine (hgr _ hc).mono ?_
    rintro e w2 ⟨⟨g, rfl, hg⟩, hc2⟩
    have hb2 : Below w.heap.size w w2 := bchain (by repeat' (first | with_reducible exact hb1 | with_reducible refine Below.drew ?_ | with_reducible refine below_drewN ?_ _ | with_reducible refine Below.alloc ?_ (by have := hb1.size; first | (simp; done) | (simp; omega) | omega) _ | with_reducible refine Below.setCell ?_ (by first | (simp; done) | (simp; omega) | omega) _)) hc2
    have hst2 : Below w1.heap.size w1 w2 := bchain (by repeat' (first | with_reducible exact Below.refl _ _ | with_reducible refine Below.drew ?_ | with_reducible refine below_drewN ?_ _ | with_reducible refine Below.alloc ?_ (by first | (simp; done) | (simp; omega) | omega) _ | with_reducible refine Below.setCell ?_ (by first | (simp; done) | (simp; omega) | omega) _)) hc2
    replace X_0 := cell_later hst2 X_0
    replace X_1 := cell_later hst2 X_1
    replace X_2 := cell_later hst2 X_2
    replace X_3 := cell_later hst2 X_3
    replace X_4 := cell_later hst2 X_4
    replace X_5 := cell_later hst2 X_5
    replace X_6 := cell_later hst2 X_6
    replace X_7 := cell_later hst2 X_7
    replace X_8 := cell_later hst2 X_8
    replace X_9 := cell_later hst2 X_9
    replace X_10 := cell_later hst2 X_10
    replace X_l := Nat.lt_of_lt_of_le X_l hst2.size
    replace hc := hc.later hst2
    clear hst2
    clear hc2 hb1
    cases g with
    | true =>
      go_wp2_with fail
      go_ret
      exact ⟨rfl, (by repeat' (first | with_reducible exact hb2 | with_reducible refine Below.drew ?_ | with_reducible refine below_drewN ?_ _ | with_reducible refine Below.alloc ?_ (by have := hb2.size; first | (simp; done) | (simp; omega) | omega) _ | with_reducible refine Below.setCell ?_ (by first | (simp; done) | (simp; omega) | omega) _))⟩
    | false =>
    obtain ⟨hl30, _⟩ := hg rfl
    have hS : SIn w2 s ps a := ⟨s0, s4, hc, H_hk.out, by omega⟩
    clear hg
    go_wp2_with fail
    with_reducible refine (w8 _ hS).mono ?_
    rintro e w3 ⟨rfl, hc3⟩
    have hb3 : Below w.heap.size w w3 := bchain (by repeat' (first | with_reducible exact hb2 | with_reducible refine Below.drew ?_ | with_reducible refine below_drewN ?_ _ | with_reducible refine Below.alloc ?_ (by have := hb2.size; first | (simp; done) | (simp; omega) | omega) _ | with_reducible refine Below.setCell ?_ (by first | (simp; done) | (simp; omega) | omega) _)) hc3
    have hst3 : Below w2.heap.size w2 w3 := bchain (by repeat' (first | with_reducible exact Below.refl _ _ | with_reducible refine Below.drew ?_ | with_reducible refine below_drewN ?_ _ | with_reducible refine Below.alloc ?_ (by first | (simp; done) | (simp; omega) | omega) _ | with_reducible refine Below.setCell ?_ (by first | (simp; done) | (simp; omega) | omega) _)) hc3
    replace X_0 := cell_later hst3 X_0
    replace X_1 := cell_later hst3 X_1
    replace X_2 := cell_later hst3 X_2
    replace X_3 := cell_later hst3 X_3
    replace X_4 := cell_later hst3 X_4
    replace X_5 := cell_later hst3 X_5
    replace X_6 := cell_later hst3 X_6
    replace X_7 := cell_later hst3 X_7
    replace X_8 := cell_later hst3 X_8
    replace X_9 := cell_later hst3 X_9
    replace X_10 := cell_later hst3 X_10
    replace X_l := Nat.lt_of_lt_of_le X_l hst3.size
    replace hc := hc.later hst3
    clear hst3
    clear hc3 hb2
    go_wp2_with fail
    go_ret
    exact ⟨rfl, (by repeat' (first | with_reducible exact hb3 | with_reducible refine Below.drew ?_ | with_reducible refine below_drewN ?_ _ | with_reducible refine Below.alloc ?_ (by have := hb3.size; first | (simp; done) | (simp; omega) | omega) _ | with_reducible refine Below.setCell ?_ (by first | (simp; done) | (simp; omega) | omega) _))⟩
theorem signs_full (l0 l1 l2 l3 l4 l5 l6 l7 l8 : Int) (s : Int) (ps : Peers) (a : Option Addr) (c : Nat) (bs : List Int) (ma : Option Addr) (mc : Nat) (w : World) (h : SetIn w s ps a c) (hB : BytesIn w ma bs) (hL : LaidS w) :
    Calls Tryd.prog 6 #[.agg #[.int .i64 l0, .int .i64 l1, .int .i64 l2, .int .i64 l3, .int .i64 l4, .int .i64 l5, .int .i64 l6, .int .i64 l7, .int .i64 l8, .int .u32 s, .slice a ps.length c], .slice ma bs.length mc] w fun e w' =>
      e = .returned (.bool true) ∧ Below w.heap.size w w' := signs_walk l0 l1 l2 l3 l4 l5 l6 l7 l8 s ps a c bs ma mc w h ⟨rfl, hB.cells, hB.bytes⟩ hL.tk hL.tab
end Go.Proofs.YthdldmkeoglflaaDoor
