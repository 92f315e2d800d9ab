/- The law ConfigTexts. -/
import Derived.Test.YthdldmkeoglflaaDoorCfgRParse
import Derived.Test.YthdldmkeoglflaaDoorCfgSame
import Derived.Test.YthdldmkeoglflaaDoorCfgOpen
import Derived.Test.YthdldmkeoglflaaDoorCfgCardT
namespace Go.Proofs.YthdldmkeoglflaaDoor
set_option linter.unusedSimpArgs false
set_option linter.unusedVariables false
set_option linter.unnecessarySimpa false
open Go.RowKit

theorem pz_len (b : ByteArray) : (pzR b).ps.length ≤ 8 := by
  rcases pz_err b with h | ⟨h, _⟩ | ⟨h, _⟩
  · exact (pz_ok h).1.len
  · rw [h]; exact Nat.zero_le _
  · rw [h]; exact Nat.zero_le _
set_option maxRecDepth 100000 in
set_option maxHeartbeats 10000000 in
theorem texts_walk (l0 l1 l2 l3 l4 l5 l6 l7 l8 : Int) (s : Int) (ps : Peers) (a : Option Addr) (c : Nat) (b : ByteArray) (w : World) (h : SetIn w s ps a c) (hE : ErrIn w) (htab : ∀ W, Below w.heap.size w W → Lib.TabIs Tryd.prog W "internal/strconv.uint64pow10" .u64 Lib.pow10Tab) :
    Calls Tryd.prog 7 #[.agg #[.int .i64 l0, .int .i64 l1, .int .i64 l2, .int .i64 l3, .int .i64 l4, .int .i64 l5, .int .i64 l6, .int .i64 l7, .int .i64 l8, .int .u32 s, .slice a ps.length c], .string b] w fun e w' =>
      e = .returned (.bool true) ∧ Below w.heap.size w w' := by
  have hml := h.len
  have hc := h.cells
  have hgr := fun W g => great_any l0 l1 l2 l3 l4 l5 l6 l7 l8 s ps a c W g hml
  unfold GreatR at hgr
  have s0 := h.s0
  have s4 := h.s4
  have hk := h.keys
  by_cases hx : 1200 < b.size
  · have hx' : (1200 : Int) < (b.size : Int) := by omega
    have H_hml := Box.mk hml
    have H_htab := Box.mk htab
    have H_hE := Box.mk hE
    have H_hk := Box.mk hk
    clear hml htab hE hk
    go_enter Tryd.func7, Tryd.ntmps7
    have hb0 := Below.refl w.heap.size w
    go_wp2_with fail
    with_reducible refine (hgr _ (hc.alloc _)).mono ?_
    rintro e w1 ⟨⟨g, rfl, hg⟩, hc1⟩
    have hb1 : Below w.heap.size w w1 := bchain (by repeat' (first | with_reducible exact hb0 | with_reducible refine Below.drew ?_ | with_reducible refine below_drewN ?_ _ | with_reducible refine Below.alloc ?_ (by have := hb0.size; first | (simp; done) | (simp; omega) | omega) _ | with_reducible refine Below.setCell ?_ (by first | (simp; done) | (simp; omega) | omega) _)) hc1
    have X_0 : w1.cell? ⟨w.heap.size, 0, none⟩ = some (.int .i64 l0) := (hc1.cell (p := ⟨w.heap.size, 0, none⟩) (by first | (simp; done) | (simp; omega))).trans (by first | (simp; done) | go_simp)
    have X_1 : w1.cell? ⟨w.heap.size, 1, none⟩ = some (.int .i64 l1) := (hc1.cell (p := ⟨w.heap.size, 1, none⟩) (by first | (simp; done) | (simp; omega))).trans (by first | (simp; done) | go_simp)
    have X_2 : w1.cell? ⟨w.heap.size, 2, none⟩ = some (.int .i64 l2) := (hc1.cell (p := ⟨w.heap.size, 2, none⟩) (by first | (simp; done) | (simp; omega))).trans (by first | (simp; done) | go_simp)
    have X_3 : w1.cell? ⟨w.heap.size, 3, none⟩ = some (.int .i64 l3) := (hc1.cell (p := ⟨w.heap.size, 3, none⟩) (by first | (simp; done) | (simp; omega))).trans (by first | (simp; done) | go_simp)
    have X_4 : w1.cell? ⟨w.heap.size, 4, none⟩ = some (.int .i64 l4) := (hc1.cell (p := ⟨w.heap.size, 4, none⟩) (by first | (simp; done) | (simp; omega))).trans (by first | (simp; done) | go_simp)
    have X_5 : w1.cell? ⟨w.heap.size, 5, none⟩ = some (.int .i64 l5) := (hc1.cell (p := ⟨w.heap.size, 5, none⟩) (by first | (simp; done) | (simp; omega))).trans (by first | (simp; done) | go_simp)
    have X_6 : w1.cell? ⟨w.heap.size, 6, none⟩ = some (.int .i64 l6) := (hc1.cell (p := ⟨w.heap.size, 6, none⟩) (by first | (simp; done) | (simp; omega))).trans (by first | (simp; done) | go_simp)
    have X_7 : w1.cell? ⟨w.heap.size, 7, none⟩ = some (.int .i64 l7) := (hc1.cell (p := ⟨w.heap.size, 7, none⟩) (by first | (simp; done) | (simp; omega))).trans (by first | (simp; done) | go_simp)
    have X_8 : w1.cell? ⟨w.heap.size, 8, none⟩ = some (.int .i64 l8) := (hc1.cell (p := ⟨w.heap.size, 8, none⟩) (by first | (simp; done) | (simp; omega))).trans (by first | (simp; done) | go_simp)
    have X_9 : w1.cell? ⟨w.heap.size, 9, none⟩ = some (.int .u32 s) := (hc1.cell (p := ⟨w.heap.size, 9, none⟩) (by first | (simp; done) | (simp; omega))).trans (by first | (simp; done) | go_simp)
    have X_10 : w1.cell? ⟨w.heap.size, 10, none⟩ = some (.slice a ps.length c) := (hc1.cell (p := ⟨w.heap.size, 10, none⟩) (by first | (simp; done) | (simp; omega))).trans (by first | (simp; done) | go_simp)
    have X_l : w.heap.size < w1.heap.size := Nat.lt_of_lt_of_le (by first | (simp; done) | (simp; omega)) hc1.size
    clear hc1 hb0
    cases g with
    | true =>
      go_wp2_with fail
      go_ret
      exact ⟨rfl, (by repeat' (first | with_reducible exact hb1 | with_reducible refine Below.drew ?_ | with_reducible refine below_drewN ?_ _ | with_reducible refine Below.alloc ?_ (by have := hb1.size; first | (simp; done) | (simp; omega) | omega) _ | with_reducible refine Below.setCell ?_ (by first | (simp; done) | (simp; omega) | omega) _))⟩
    | false =>
      go_wp2_with fail
      go_ret
      exact ⟨rfl, (by repeat' (first | with_reducible exact hb1 | with_reducible refine Below.drew ?_ | with_reducible refine below_drewN ?_ _ | with_reducible refine Below.alloc ?_ (by have := hb1.size; first | (simp; done) | (simp; omega) | omega) _ | with_reducible refine Below.setCell ?_ (by first | (simp; done) | (simp; omega) | omega) _))⟩
  have hx' : ¬ (1200 : Int) < (b.size : Int) := by omega
  obtain ⟨E, hE2⟩ : ∃ E, chkS (⟨l0, l1, l2, l3, l4, l5, l6, l7, l8⟩ : Lim) s ps = E := ⟨_, rfl⟩
  have w1 := fun W g (hb : Below w.heap.size w W) => Text_any l0 l1 l2 l3 l4 l5 l6 l7 l8 s ps a c W g E hE2 (fun W' hb' => htab W' (bchain hb hb'))
  have w2 := fun W g => rText_any l0 l1 l2 l3 l4 l5 l6 l7 l8 s ps a c W g E hE2
  have w3 := fun W (hb : Below w.heap.size w W) => Parse_any b W (by omega) (hE.later hb) (fun W' hb' => htab W' (bchain hb hb'))
  have w4 := fun W => rParse_any b W (by omega)
  have w5 := fun W g => Public_any l0 l1 l2 l3 l4 l5 l6 l7 l8 s ps a c W g E hE2
  have w6 := fun W g => rPublic_any l0 l1 l2 l3 l4 l5 l6 l7 l8 s ps a c W g E hE2
  have w7 := fun W (h : SIn W s ps a) => hE2 ▸ Check_any l0 l1 l2 l3 l4 l5 l6 l7 l8 s ps a c W h.cells h.s0 h.s4 h.keys h.ml
  have w8 := fun W (h : SIn W s ps a) => hE2 ▸ rCheck_any l0 l1 l2 l3 l4 l5 l6 l7 l8 s ps a c W h.cells h.s0 h.s4 h.keys h.ml
  have y3 := pz_len b
  have hpub : rpubR E s = (pubR E s, E) := by
    unfold rpubR pubR
    by_cases h : E = 0
    · rw [if_pos h, if_pos h, h]
    · rw [if_neg h, if_neg h]
  obtain ⟨⟨t1, t2⟩, ht⟩ : ∃ r, textR E (⟨l0, l1, l2, l3, l4, l5, l6, l7, l8⟩ : Lim) s ps = r := ⟨_, rfl⟩
  obtain ⟨P, hP⟩ : ∃ r, pzR b = r := ⟨_, rfl⟩
  obtain ⟨pk, hpk⟩ : ∃ r, pubR E s = r := ⟨_, rfl⟩
  rw [hpk] at hpub
  rw [hP] at y3
  unfold RetSI at w1 w2
  unfold RetUI at w6
  simp only [ht, hP, hpk, hpub] at w1 w2 w3 w4 w5 w6
  obtain ⟨⟨m0, m1, m2, m3, m4, m5, m6, m7, m8⟩, ms, mq, me⟩ := P
  simp only at y3
  unfold RetS at w3 w4
  simp only at w3 w4
  have mm : mq.length ≤ maxLen := by unfold maxLen; omega
  have hso : (t1.toList == t1.toList) = true := seqB_self t1
  clear hpub
  have H_hk := Box.mk hk
  have H_w1 := Box.mk w1
  have H_w2 := Box.mk w2
  have H_w3 := Box.mk w3
  have H_w4 := Box.mk w4
  have H_w5 := Box.mk w5
  have H_w6 := Box.mk w6
  have H_w7 := Box.mk w7
  have H_w8 := Box.mk w8
  have H_hE2 := Box.mk hE2
  have H_ht := Box.mk ht
  have H_hP := Box.mk hP
  have H_hpk := Box.mk hpk
  have H_htab := Box.mk htab
  have H_hE := Box.mk hE
  have H_mm := Box.mk mm
  clear hk w1 w2 w3 w4 w5 w6 w7 w8 hE2 ht hP hpk htab hE mm
  go_enter Tryd.func7, Tryd.ntmps7
  have hb0 := Below.refl w.heap.size w
  go_wp2_with fail
  with_reducible refine (hgr _ (hc.alloc _)).mono ?_
  rintro e w1 ⟨⟨g, rfl, hg⟩, hc1⟩
  have hb1 : Below w.heap.size w w1 := bchain (by repeat' (first | with_reducible exact hb0 | with_reducible refine Below.drew ?_ | with_reducible refine below_drewN ?_ _ | with_reducible refine Below.alloc ?_ (by have := hb0.size; first | (simp; done) | (simp; omega) | omega) _ | with_reducible refine Below.setCell ?_ (by first | (simp; done) | (simp; omega) | omega) _)) hc1
  have hst1 : Below w.heap.size w w1 := bchain (by repeat' (first | with_reducible exact Below.refl _ _ | with_reducible refine Below.drew ?_ | with_reducible refine below_drewN ?_ _ | with_reducible refine Below.alloc ?_ (by first | (simp; done) | (simp; omega) | omega) _ | with_reducible refine Below.setCell ?_ (by first | (simp; done) | (simp; omega) | omega) _)) hc1
  have X_0 : w1.cell? ⟨w.heap.size, 0, none⟩ = some (.int .i64 l0) := (hc1.cell (p := ⟨w.heap.size, 0, none⟩) (by first | (simp; done) | (simp; omega))).trans (by first | (simp; done) | go_simp)
  have X_1 : w1.cell? ⟨w.heap.size, 1, none⟩ = some (.int .i64 l1) := (hc1.cell (p := ⟨w.heap.size, 1, none⟩) (by first | (simp; done) | (simp; omega))).trans (by first | (simp; done) | go_simp)
  have X_2 : w1.cell? ⟨w.heap.size, 2, none⟩ = some (.int .i64 l2) := (hc1.cell (p := ⟨w.heap.size, 2, none⟩) (by first | (simp; done) | (simp; omega))).trans (by first | (simp; done) | go_simp)
  have X_3 : w1.cell? ⟨w.heap.size, 3, none⟩ = some (.int .i64 l3) := (hc1.cell (p := ⟨w.heap.size, 3, none⟩) (by first | (simp; done) | (simp; omega))).trans (by first | (simp; done) | go_simp)
  have X_4 : w1.cell? ⟨w.heap.size, 4, none⟩ = some (.int .i64 l4) := (hc1.cell (p := ⟨w.heap.size, 4, none⟩) (by first | (simp; done) | (simp; omega))).trans (by first | (simp; done) | go_simp)
  have X_5 : w1.cell? ⟨w.heap.size, 5, none⟩ = some (.int .i64 l5) := (hc1.cell (p := ⟨w.heap.size, 5, none⟩) (by first | (simp; done) | (simp; omega))).trans (by first | (simp; done) | go_simp)
  have X_6 : w1.cell? ⟨w.heap.size, 6, none⟩ = some (.int .i64 l6) := (hc1.cell (p := ⟨w.heap.size, 6, none⟩) (by first | (simp; done) | (simp; omega))).trans (by first | (simp; done) | go_simp)
  have X_7 : w1.cell? ⟨w.heap.size, 7, none⟩ = some (.int .i64 l7) := (hc1.cell (p := ⟨w.heap.size, 7, none⟩) (by first | (simp; done) | (simp; omega))).trans (by first | (simp; done) | go_simp)
  have X_8 : w1.cell? ⟨w.heap.size, 8, none⟩ = some (.int .i64 l8) := (hc1.cell (p := ⟨w.heap.size, 8, none⟩) (by first | (simp; done) | (simp; omega))).trans (by first | (simp; done) | go_simp)
  have X_9 : w1.cell? ⟨w.heap.size, 9, none⟩ = some (.int .u32 s) := (hc1.cell (p := ⟨w.heap.size, 9, none⟩) (by first | (simp; done) | (simp; omega))).trans (by first | (simp; done) | go_simp)
  have X_10 : w1.cell? ⟨w.heap.size, 10, none⟩ = some (.slice a ps.length c) := (hc1.cell (p := ⟨w.heap.size, 10, none⟩) (by first | (simp; done) | (simp; omega))).trans (by first | (simp; done) | go_simp)
  have X_l : w.heap.size < w1.heap.size := Nat.lt_of_lt_of_le (by first | (simp; done) | (simp; omega)) hc1.size
  replace hc := hc.later hst1
  clear hst1
  clear hc1 hb0
  cases g with
  | true =>
    go_wp2_with fail
    go_ret
    exact ⟨rfl, (by repeat' (first | with_reducible exact hb1 | with_reducible refine Below.drew ?_ | with_reducible refine below_drewN ?_ _ | with_reducible refine Below.alloc ?_ (by have := hb1.size; first | (simp; done) | (simp; omega) | omega) _ | with_reducible refine Below.setCell ?_ (by first | (simp; done) | (simp; omega) | omega) _))⟩
  | false =>
  obtain ⟨hl30, _⟩ := hg rfl
  have hS : SIn w1 s ps a := ⟨s0, s4, hc, H_hk.out, by omega⟩
  clear hg
  go_wp2_with fail
  with_reducible refine (H_w1.out _ hS (by repeat' (first | with_reducible exact hb1 | with_reducible refine Below.drew ?_ | with_reducible refine below_drewN ?_ _ | with_reducible refine Below.alloc ?_ (by have := hb1.size; first | (simp; done) | (simp; omega) | omega) _ | with_reducible refine Below.setCell ?_ (by first | (simp; done) | (simp; omega) | omega) _))).mono ?_
  rintro e w2 ⟨rfl, hc2⟩
  have hb2 : Below w.heap.size w w2 := bchain (by repeat' (first | with_reducible exact hb1 | with_reducible refine Below.drew ?_ | with_reducible refine below_drewN ?_ _ | with_reducible refine Below.alloc ?_ (by have := hb1.size; first | (simp; done) | (simp; omega) | omega) _ | with_reducible refine Below.setCell ?_ (by first | (simp; done) | (simp; omega) | omega) _)) hc2
  have hst2 : Below w1.heap.size w1 w2 := bchain (by repeat' (first | with_reducible exact Below.refl _ _ | with_reducible refine Below.drew ?_ | with_reducible refine below_drewN ?_ _ | with_reducible refine Below.alloc ?_ (by first | (simp; done) | (simp; omega) | omega) _ | with_reducible refine Below.setCell ?_ (by first | (simp; done) | (simp; omega) | omega) _)) hc2
  replace X_0 := cell_later hst2 X_0
  replace X_1 := cell_later hst2 X_1
  replace X_2 := cell_later hst2 X_2
  replace X_3 := cell_later hst2 X_3
  replace X_4 := cell_later hst2 X_4
  replace X_5 := cell_later hst2 X_5
  replace X_6 := cell_later hst2 X_6
  replace X_7 := cell_later hst2 X_7
  replace X_8 := cell_later hst2 X_8
  replace X_9 := cell_later hst2 X_9
  replace X_10 := cell_later hst2 X_10
  replace X_l := Nat.lt_of_lt_of_le X_l hst2.size
  replace hS := hS.later hst2
  clear hst2
  clear hc2 hb1
  go_wp2_with fail
  with_reducible refine (H_w2.out _ hS).mono ?_
  rintro e w3 ⟨rfl, hc3⟩
  have hb3 : Below w.heap.size w w3 := bchain (by repeat' (first | with_reducible exact hb2 | with_reducible refine Below.drew ?_ | with_reducible refine below_drewN ?_ _ | with_reducible refine Below.alloc ?_ (by have := hb2.size; first | (simp; done) | (simp; omega) | omega) _ | with_reducible refine Below.setCell ?_ (by first | (simp; done) | (simp; omega) | omega) _)) hc3
  have hst3 : Below w2.heap.size w2 w3 := bchain (by repeat' (first | with_reducible exact Below.refl _ _ | with_reducible refine Below.drew ?_ | with_reducible refine below_drewN ?_ _ | with_reducible refine Below.alloc ?_ (by first | (simp; done) | (simp; omega) | omega) _ | with_reducible refine Below.setCell ?_ (by first | (simp; done) | (simp; omega) | omega) _)) hc3
  replace X_0 := cell_later hst3 X_0
  replace X_1 := cell_later hst3 X_1
  replace X_2 := cell_later hst3 X_2
  replace X_3 := cell_later hst3 X_3
  replace X_4 := cell_later hst3 X_4
  replace X_5 := cell_later hst3 X_5
  replace X_6 := cell_later hst3 X_6
  replace X_7 := cell_later hst3 X_7
  replace X_8 := cell_later hst3 X_8
  replace X_9 := cell_later hst3 X_9
  replace X_10 := cell_later hst3 X_10
  replace X_l := Nat.lt_of_lt_of_le X_l hst3.size
  replace hS := hS.later hst3
  clear hst3
  clear hc3 hb2
  go_wp2_with fail
  with_reducible refine (H_w3.out _ (by repeat' (first | with_reducible exact hb3 | with_reducible refine Below.drew ?_ | with_reducible refine below_drewN ?_ _ | with_reducible refine Below.alloc ?_ (by have := hb3.size; first | (simp; done) | (simp; omega) | omega) _ | with_reducible refine Below.setCell ?_ (by first | (simp; done) | (simp; omega) | omega) _))).mono ?_
  rintro e w4 ⟨⟨a1, c1, rfl, k1⟩, hc4⟩
  have hb4 : Below w.heap.size w w4 := bchain (by repeat' (first | with_reducible exact hb3 | with_reducible refine Below.drew ?_ | with_reducible refine below_drewN ?_ _ | with_reducible refine Below.alloc ?_ (by have := hb3.size; first | (simp; done) | (simp; omega) | omega) _ | with_reducible refine Below.setCell ?_ (by first | (simp; done) | (simp; omega) | omega) _)) hc4
  have hst4 : Below w3.heap.size w3 w4 := bchain (by repeat' (first | with_reducible exact Below.refl _ _ | with_reducible refine Below.drew ?_ | with_reducible refine below_drewN ?_ _ | with_reducible refine Below.alloc ?_ (by first | (simp; done) | (simp; omega) | omega) _ | with_reducible refine Below.setCell ?_ (by first | (simp; done) | (simp; omega) | omega) _)) hc4
  replace X_0 := cell_later hst4 X_0
  replace X_1 := cell_later hst4 X_1
  replace X_2 := cell_later hst4 X_2
  replace X_3 := cell_later hst4 X_3
  replace X_4 := cell_later hst4 X_4
  replace X_5 := cell_later hst4 X_5
  replace X_6 := cell_later hst4 X_6
  replace X_7 := cell_later hst4 X_7
  replace X_8 := cell_later hst4 X_8
  replace X_9 := cell_later hst4 X_9
  replace X_10 := cell_later hst4 X_10
  replace X_l := Nat.lt_of_lt_of_le X_l hst4.size
  replace hS := hS.later hst4
  clear hst4
  clear hc4 hb3
  go_wp2_with fail
  with_reducible refine (H_w4.out _).mono ?_
  rintro e w5 ⟨⟨a2, c2, rfl, k2⟩, hc5⟩
  have hb5 : Below w.heap.size w w5 := bchain (by repeat' (first | with_reducible exact hb4 | with_reducible refine Below.drew ?_ | with_reducible refine below_drewN ?_ _ | with_reducible refine Below.alloc ?_ (by have := hb4.size; first | (simp; done) | (simp; omega) | omega) _ | with_reducible refine Below.setCell ?_ (by first | (simp; done) | (simp; omega) | omega) _)) hc5
  have hst5 : Below w4.heap.size w4 w5 := bchain (by repeat' (first | with_reducible exact Below.refl _ _ | with_reducible refine Below.drew ?_ | with_reducible refine below_drewN ?_ _ | with_reducible refine Below.alloc ?_ (by first | (simp; done) | (simp; omega) | omega) _ | with_reducible refine Below.setCell ?_ (by first | (simp; done) | (simp; omega) | omega) _)) hc5
  replace X_0 := cell_later hst5 X_0
  replace X_1 := cell_later hst5 X_1
  replace X_2 := cell_later hst5 X_2
  replace X_3 := cell_later hst5 X_3
  replace X_4 := cell_later hst5 X_4
  replace X_5 := cell_later hst5 X_5
  replace X_6 := cell_later hst5 X_6
  replace X_7 := cell_later hst5 X_7
  replace X_8 := cell_later hst5 X_8
  replace X_9 := cell_later hst5 X_9
  replace X_10 := cell_later hst5 X_10
  replace X_l := Nat.lt_of_lt_of_le X_l hst5.size
  have A_0 : w5.cell? ⟨w4.heap.size, 0, none⟩ = some (.int .i64 m0) := (hc5.cell (p := ⟨w4.heap.size, 0, none⟩) (by first | (simp; done) | (simp; omega))).trans (by first | (simp; done) | go_simp)
  have A_1 : w5.cell? ⟨w4.heap.size, 1, none⟩ = some (.int .i64 m1) := (hc5.cell (p := ⟨w4.heap.size, 1, none⟩) (by first | (simp; done) | (simp; omega))).trans (by first | (simp; done) | go_simp)
  have A_2 : w5.cell? ⟨w4.heap.size, 2, none⟩ = some (.int .i64 m2) := (hc5.cell (p := ⟨w4.heap.size, 2, none⟩) (by first | (simp; done) | (simp; omega))).trans (by first | (simp; done) | go_simp)
  have A_3 : w5.cell? ⟨w4.heap.size, 3, none⟩ = some (.int .i64 m3) := (hc5.cell (p := ⟨w4.heap.size, 3, none⟩) (by first | (simp; done) | (simp; omega))).trans (by first | (simp; done) | go_simp)
  have A_4 : w5.cell? ⟨w4.heap.size, 4, none⟩ = some (.int .i64 m4) := (hc5.cell (p := ⟨w4.heap.size, 4, none⟩) (by first | (simp; done) | (simp; omega))).trans (by first | (simp; done) | go_simp)
  have A_5 : w5.cell? ⟨w4.heap.size, 5, none⟩ = some (.int .i64 m5) := (hc5.cell (p := ⟨w4.heap.size, 5, none⟩) (by first | (simp; done) | (simp; omega))).trans (by first | (simp; done) | go_simp)
  have A_6 : w5.cell? ⟨w4.heap.size, 6, none⟩ = some (.int .i64 m6) := (hc5.cell (p := ⟨w4.heap.size, 6, none⟩) (by first | (simp; done) | (simp; omega))).trans (by first | (simp; done) | go_simp)
  have A_7 : w5.cell? ⟨w4.heap.size, 7, none⟩ = some (.int .i64 m7) := (hc5.cell (p := ⟨w4.heap.size, 7, none⟩) (by first | (simp; done) | (simp; omega))).trans (by first | (simp; done) | go_simp)
  have A_8 : w5.cell? ⟨w4.heap.size, 8, none⟩ = some (.int .i64 m8) := (hc5.cell (p := ⟨w4.heap.size, 8, none⟩) (by first | (simp; done) | (simp; omega))).trans (by first | (simp; done) | go_simp)
  have A_9 : w5.cell? ⟨w4.heap.size, 9, none⟩ = some (.int .u32 ms) := (hc5.cell (p := ⟨w4.heap.size, 9, none⟩) (by first | (simp; done) | (simp; omega))).trans (by first | (simp; done) | go_simp)
  have A_10 : w5.cell? ⟨w4.heap.size, 10, none⟩ = some (.slice a1 mq.length c1) := (hc5.cell (p := ⟨w4.heap.size, 10, none⟩) (by first | (simp; done) | (simp; omega))).trans (by first | (simp; done) | go_simp)
  have A_l : w4.heap.size < w5.heap.size := Nat.lt_of_lt_of_le (by first | (simp; done) | (simp; omega)) hc5.size
  replace hS := hS.later hst5
  replace k1 := k1.later hst5
  clear hst5
  clear hc5 hb4
  go_wp2_with fail
  with_reducible refine (H_w5.out _ (hS.alloc _)).mono ?_
  rintro e w6 ⟨rfl, hc6⟩
  have hb6 : Below w.heap.size w w6 := bchain (by repeat' (first | with_reducible exact hb5 | with_reducible refine Below.drew ?_ | with_reducible refine below_drewN ?_ _ | with_reducible refine Below.alloc ?_ (by have := hb5.size; first | (simp; done) | (simp; omega) | omega) _ | with_reducible refine Below.setCell ?_ (by first | (simp; done) | (simp; omega) | omega) _)) hc6
  have hst6 : Below w5.heap.size w5 w6 := bchain (by repeat' (first | with_reducible exact Below.refl _ _ | with_reducible refine Below.drew ?_ | with_reducible refine below_drewN ?_ _ | with_reducible refine Below.alloc ?_ (by first | (simp; done) | (simp; omega) | omega) _ | with_reducible refine Below.setCell ?_ (by first | (simp; done) | (simp; omega) | omega) _)) hc6
  replace X_0 := cell_later hst6 X_0
  replace X_1 := cell_later hst6 X_1
  replace X_2 := cell_later hst6 X_2
  replace X_3 := cell_later hst6 X_3
  replace X_4 := cell_later hst6 X_4
  replace X_5 := cell_later hst6 X_5
  replace X_6 := cell_later hst6 X_6
  replace X_7 := cell_later hst6 X_7
  replace X_8 := cell_later hst6 X_8
  replace X_9 := cell_later hst6 X_9
  replace X_10 := cell_later hst6 X_10
  replace X_l := Nat.lt_of_lt_of_le X_l hst6.size
  replace A_0 := cell_later hst6 A_0
  replace A_1 := cell_later hst6 A_1
  replace A_2 := cell_later hst6 A_2
  replace A_3 := cell_later hst6 A_3
  replace A_4 := cell_later hst6 A_4
  replace A_5 := cell_later hst6 A_5
  replace A_6 := cell_later hst6 A_6
  replace A_7 := cell_later hst6 A_7
  replace A_8 := cell_later hst6 A_8
  replace A_9 := cell_later hst6 A_9
  replace A_10 := cell_later hst6 A_10
  replace A_l := Nat.lt_of_lt_of_le A_l hst6.size
  have D_0 : w6.cell? ⟨w5.heap.size, 0, none⟩ = some (.int .i64 m0) := (hc6.cell (p := ⟨w5.heap.size, 0, none⟩) (by first | (simp; done) | (simp; omega))).trans (by first | (simp; done) | go_simp)
  have D_1 : w6.cell? ⟨w5.heap.size, 1, none⟩ = some (.int .i64 m1) := (hc6.cell (p := ⟨w5.heap.size, 1, none⟩) (by first | (simp; done) | (simp; omega))).trans (by first | (simp; done) | go_simp)
  have D_2 : w6.cell? ⟨w5.heap.size, 2, none⟩ = some (.int .i64 m2) := (hc6.cell (p := ⟨w5.heap.size, 2, none⟩) (by first | (simp; done) | (simp; omega))).trans (by first | (simp; done) | go_simp)
  have D_3 : w6.cell? ⟨w5.heap.size, 3, none⟩ = some (.int .i64 m3) := (hc6.cell (p := ⟨w5.heap.size, 3, none⟩) (by first | (simp; done) | (simp; omega))).trans (by first | (simp; done) | go_simp)
  have D_4 : w6.cell? ⟨w5.heap.size, 4, none⟩ = some (.int .i64 m4) := (hc6.cell (p := ⟨w5.heap.size, 4, none⟩) (by first | (simp; done) | (simp; omega))).trans (by first | (simp; done) | go_simp)
  have D_5 : w6.cell? ⟨w5.heap.size, 5, none⟩ = some (.int .i64 m5) := (hc6.cell (p := ⟨w5.heap.size, 5, none⟩) (by first | (simp; done) | (simp; omega))).trans (by first | (simp; done) | go_simp)
  have D_6 : w6.cell? ⟨w5.heap.size, 6, none⟩ = some (.int .i64 m6) := (hc6.cell (p := ⟨w5.heap.size, 6, none⟩) (by first | (simp; done) | (simp; omega))).trans (by first | (simp; done) | go_simp)
  have D_7 : w6.cell? ⟨w5.heap.size, 7, none⟩ = some (.int .i64 m7) := (hc6.cell (p := ⟨w5.heap.size, 7, none⟩) (by first | (simp; done) | (simp; omega))).trans (by first | (simp; done) | go_simp)
  have D_8 : w6.cell? ⟨w5.heap.size, 8, none⟩ = some (.int .i64 m8) := (hc6.cell (p := ⟨w5.heap.size, 8, none⟩) (by first | (simp; done) | (simp; omega))).trans (by first | (simp; done) | go_simp)
  have D_9 : w6.cell? ⟨w5.heap.size, 9, none⟩ = some (.int .u32 ms) := (hc6.cell (p := ⟨w5.heap.size, 9, none⟩) (by first | (simp; done) | (simp; omega))).trans (by first | (simp; done) | go_simp)
  have D_10 : w6.cell? ⟨w5.heap.size, 10, none⟩ = some (.slice a2 mq.length c2) := (hc6.cell (p := ⟨w5.heap.size, 10, none⟩) (by first | (simp; done) | (simp; omega))).trans (by first | (simp; done) | go_simp)
  have D_l : w5.heap.size < w6.heap.size := Nat.lt_of_lt_of_le (by first | (simp; done) | (simp; omega)) hc6.size
  replace hS := hS.later hst6
  replace k1 := k1.later hst6
  replace k2 := k2.later hst6
  clear hst6
  clear hc6 hb5
  go_wp2_with fail
  with_reducible refine (H_w6.out _ hS).mono ?_
  rintro e w7 ⟨rfl, hc7⟩
  have hb7 : Below w.heap.size w w7 := bchain (by repeat' (first | with_reducible exact hb6 | with_reducible refine Below.drew ?_ | with_reducible refine below_drewN ?_ _ | with_reducible refine Below.alloc ?_ (by have := hb6.size; first | (simp; done) | (simp; omega) | omega) _ | with_reducible refine Below.setCell ?_ (by first | (simp; done) | (simp; omega) | omega) _)) hc7
  have hst7 : Below w6.heap.size w6 w7 := bchain (by repeat' (first | with_reducible exact Below.refl _ _ | with_reducible refine Below.drew ?_ | with_reducible refine below_drewN ?_ _ | with_reducible refine Below.alloc ?_ (by first | (simp; done) | (simp; omega) | omega) _ | with_reducible refine Below.setCell ?_ (by first | (simp; done) | (simp; omega) | omega) _)) hc7
  replace X_0 := cell_later hst7 X_0
  replace X_1 := cell_later hst7 X_1
  replace X_2 := cell_later hst7 X_2
  replace X_3 := cell_later hst7 X_3
  replace X_4 := cell_later hst7 X_4
  replace X_5 := cell_later hst7 X_5
  replace X_6 := cell_later hst7 X_6
  replace X_7 := cell_later hst7 X_7
  replace X_8 := cell_later hst7 X_8
  replace X_9 := cell_later hst7 X_9
  replace X_10 := cell_later hst7 X_10
  replace X_l := Nat.lt_of_lt_of_le X_l hst7.size
  replace A_0 := cell_later hst7 A_0
  replace A_1 := cell_later hst7 A_1
  replace A_2 := cell_later hst7 A_2
  replace A_3 := cell_later hst7 A_3
  replace A_4 := cell_later hst7 A_4
  replace A_5 := cell_later hst7 A_5
  replace A_6 := cell_later hst7 A_6
  replace A_7 := cell_later hst7 A_7
  replace A_8 := cell_later hst7 A_8
  replace A_9 := cell_later hst7 A_9
  replace A_10 := cell_later hst7 A_10
  replace A_l := Nat.lt_of_lt_of_le A_l hst7.size
  replace D_0 := cell_later hst7 D_0
  replace D_1 := cell_later hst7 D_1
  replace D_2 := cell_later hst7 D_2
  replace D_3 := cell_later hst7 D_3
  replace D_4 := cell_later hst7 D_4
  replace D_5 := cell_later hst7 D_5
  replace D_6 := cell_later hst7 D_6
  replace D_7 := cell_later hst7 D_7
  replace D_8 := cell_later hst7 D_8
  replace D_9 := cell_later hst7 D_9
  replace D_10 := cell_later hst7 D_10
  replace D_l := Nat.lt_of_lt_of_le D_l hst7.size
  replace hS := hS.later hst7
  replace k1 := k1.later hst7
  replace k2 := k2.later hst7
  clear hst7
  clear hc7 hb6
  go_wp2_with fail
  refine wp_gen fun w8 hc8 => ?_
  have hb8 : Below w.heap.size w w8 := bchain (by repeat' (first | with_reducible exact hb7 | with_reducible refine Below.drew ?_ | with_reducible refine below_drewN ?_ _ | with_reducible refine Below.alloc ?_ (by have := hb7.size; first | (simp; done) | (simp; omega) | omega) _ | with_reducible refine Below.setCell ?_ (by first | (simp; done) | (simp; omega) | omega) _)) hc8
  have hst8 : Below w7.heap.size w7 w8 := bchain (by repeat' (first | with_reducible exact Below.refl _ _ | with_reducible refine Below.drew ?_ | with_reducible refine below_drewN ?_ _ | with_reducible refine Below.alloc ?_ (by first | (simp; done) | (simp; omega) | omega) _ | with_reducible refine Below.setCell ?_ (by first | (simp; done) | (simp; omega) | omega) _)) hc8
  replace X_0 := cell_later hst8 X_0
  replace X_1 := cell_later hst8 X_1
  replace X_2 := cell_later hst8 X_2
  replace X_3 := cell_later hst8 X_3
  replace X_4 := cell_later hst8 X_4
  replace X_5 := cell_later hst8 X_5
  replace X_6 := cell_later hst8 X_6
  replace X_7 := cell_later hst8 X_7
  replace X_8 := cell_later hst8 X_8
  replace X_9 := cell_later hst8 X_9
  replace X_10 := cell_later hst8 X_10
  replace X_l := Nat.lt_of_lt_of_le X_l hst8.size
  replace A_0 := cell_later hst8 A_0
  replace A_1 := cell_later hst8 A_1
  replace A_2 := cell_later hst8 A_2
  replace A_3 := cell_later hst8 A_3
  replace A_4 := cell_later hst8 A_4
  replace A_5 := cell_later hst8 A_5
  replace A_6 := cell_later hst8 A_6
  replace A_7 := cell_later hst8 A_7
  replace A_8 := cell_later hst8 A_8
  replace A_9 := cell_later hst8 A_9
  replace A_10 := cell_later hst8 A_10
  replace A_l := Nat.lt_of_lt_of_le A_l hst8.size
  replace D_0 := cell_later hst8 D_0
  replace D_1 := cell_later hst8 D_1
  replace D_2 := cell_later hst8 D_2
  replace D_3 := cell_later hst8 D_3
  replace D_4 := cell_later hst8 D_4
  replace D_5 := cell_later hst8 D_5
  replace D_6 := cell_later hst8 D_6
  replace D_7 := cell_later hst8 D_7
  replace D_8 := cell_later hst8 D_8
  replace D_9 := cell_later hst8 D_9
  replace D_10 := cell_later hst8 D_10
  replace D_l := Nat.lt_of_lt_of_le D_l hst8.size
  replace hS := hS.later hst8
  replace k1 := k1.later hst8
  replace k2 := k2.later hst8
  clear hst8
  have KX_0 := cell_on X_0
  have KX_1 := cell_on X_1
  have KX_2 := cell_on X_2
  have KX_3 := cell_on X_3
  have KX_4 := cell_on X_4
  have KX_5 := cell_on X_5
  have KX_6 := cell_on X_6
  have KX_7 := cell_on X_7
  have KX_8 := cell_on X_8
  have KX_9 := cell_on X_9
  have KX_10 := cell_on X_10
  have KA_0 := cell_on A_0
  have KA_1 := cell_on A_1
  have KA_2 := cell_on A_2
  have KA_3 := cell_on A_3
  have KA_4 := cell_on A_4
  have KA_5 := cell_on A_5
  have KA_6 := cell_on A_6
  have KA_7 := cell_on A_7
  have KA_8 := cell_on A_8
  have KA_9 := cell_on A_9
  have KA_10 := cell_on A_10
  have KD_0 := cell_on D_0
  have KD_1 := cell_on D_1
  have KD_2 := cell_on D_2
  have KD_3 := cell_on D_3
  have KD_4 := cell_on D_4
  have KD_5 := cell_on D_5
  have KD_6 := cell_on D_6
  have KD_7 := cell_on D_7
  have KD_8 := cell_on D_8
  have KD_9 := cell_on D_9
  have KD_10 := cell_on D_10
  refine wp_region_on (by kernel_rfl) (by kernel_rfl) ?_
  repeat (go_big_quiet_step ((first | (go_at_call 11; with_reducible exact calls_on (H_w7.out _ (hS.on _))) | (go_at_call 12; with_reducible exact calls_on (H_w8.out _ (hS.on _))) | (go_at_call 14; with_reducible exact calls_on (same_any m0 m1 m2 m3 m4 m5 m6 m7 m8 ms mq a1 a2 c1 c2 mq.length _ rfl (k1.on _) (k2.on _) H_mm.out)))))
  refine wpQuiet_nil ?_
  intro w9 hc9
  clear KX_0 KX_1 KX_2 KX_3 KX_4 KX_5 KX_6 KX_7 KX_8 KX_9 KX_10 KA_0 KA_1 KA_2 KA_3 KA_4 KA_5 KA_6 KA_7 KA_8 KA_9 KA_10 KD_0 KD_1 KD_2 KD_3 KD_4 KD_5 KD_6 KD_7 KD_8 KD_9 KD_10
  have hb9 : Below w.heap.size w w9 := bchain (by repeat' (first | with_reducible exact hb8 | with_reducible refine Below.drew ?_ | with_reducible refine below_drewN ?_ _ | with_reducible refine Below.alloc ?_ (by have := hb8.size; first | (simp; done) | (simp; omega) | omega) _ | with_reducible refine Below.setCell ?_ (by first | (simp; done) | (simp; omega) | omega) _)) hc9
  have hst9 : Below w8.heap.size w8 w9 := bchain (by repeat' (first | with_reducible exact Below.refl _ _ | with_reducible refine Below.drew ?_ | with_reducible refine below_drewN ?_ _ | with_reducible refine Below.alloc ?_ (by first | (simp; done) | (simp; omega) | omega) _ | with_reducible refine Below.setCell ?_ (by first | (simp; done) | (simp; omega) | omega) _)) hc9
  replace X_0 := cell_later hst9 X_0
  replace X_1 := cell_later hst9 X_1
  replace X_2 := cell_later hst9 X_2
  replace X_3 := cell_later hst9 X_3
  replace X_4 := cell_later hst9 X_4
  replace X_5 := cell_later hst9 X_5
  replace X_6 := cell_later hst9 X_6
  replace X_7 := cell_later hst9 X_7
  replace X_8 := cell_later hst9 X_8
  replace X_9 := cell_later hst9 X_9
  replace X_10 := cell_later hst9 X_10
  replace X_l := Nat.lt_of_lt_of_le X_l hst9.size
  replace A_0 := cell_later hst9 A_0
  replace A_1 := cell_later hst9 A_1
  replace A_2 := cell_later hst9 A_2
  replace A_3 := cell_later hst9 A_3
  replace A_4 := cell_later hst9 A_4
  replace A_5 := cell_later hst9 A_5
  replace A_6 := cell_later hst9 A_6
  replace A_7 := cell_later hst9 A_7
  replace A_8 := cell_later hst9 A_8
  replace A_9 := cell_later hst9 A_9
  replace A_10 := cell_later hst9 A_10
  replace A_l := Nat.lt_of_lt_of_le A_l hst9.size
  replace D_0 := cell_later hst9 D_0
  replace D_1 := cell_later hst9 D_1
  replace D_2 := cell_later hst9 D_2
  replace D_3 := cell_later hst9 D_3
  replace D_4 := cell_later hst9 D_4
  replace D_5 := cell_later hst9 D_5
  replace D_6 := cell_later hst9 D_6
  replace D_7 := cell_later hst9 D_7
  replace D_8 := cell_later hst9 D_8
  replace D_9 := cell_later hst9 D_9
  replace D_10 := cell_later hst9 D_10
  replace D_l := Nat.lt_of_lt_of_le D_l hst9.size
  replace hS := hS.later hst9
  replace k1 := k1.later hst9
  replace k2 := k2.later hst9
  clear hst9
  go_wp2_with fail
  go_ret
  exact ⟨rfl, (by repeat' (first | with_reducible exact hb9 | with_reducible refine Below.drew ?_ | with_reducible refine below_drewN ?_ _ | with_reducible refine Below.alloc ?_ (by have := hb9.size; first | (simp; done) | (simp; omega) | omega) _ | with_reducible refine Below.setCell ?_ (by first | (simp; done) | (simp; omega) | omega) _))⟩
theorem texts_full (l0 l1 l2 l3 l4 l5 l6 l7 l8 : Int) (s : Int) (ps : Peers) (a : Option Addr) (c : Nat) (b : ByteArray) (w : World) (h : SetIn w s ps a c) (_ : b.size ≤ maxLen) (hL : LaidIn w) :
    Calls Tryd.prog 7 #[.agg #[.int .i64 l0, .int .i64 l1, .int .i64 l2, .int .i64 l3, .int .i64 l4, .int .i64 l5, .int .i64 l6, .int .i64 l7, .int .i64 l8, .int .u32 s, .slice a ps.length c], .string b] w fun e w' =>
      e = .returned (.bool true) ∧ Below w.heap.size w w' := texts_walk l0 l1 l2 l3 l4 l5 l6 l7 l8 s ps a c b w h hL.err hL.tab
end Go.Proofs.YthdldmkeoglflaaDoor
