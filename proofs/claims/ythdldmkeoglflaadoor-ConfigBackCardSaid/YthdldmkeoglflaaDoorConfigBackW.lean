/- The law ConfigBack. -/
import Derived.Test.YthdldmkeoglflaaDoorCfgRParse
import Derived.Test.YthdldmkeoglflaaDoorCfgAlive
import Derived.Test.YthdldmkeoglflaaDoorCfgSame
import Derived.Test.YthdldmkeoglflaaDoorCfgOpen
import Derived.Test.YthdldmkeoglflaaDoorCfgCardT
namespace Go.Proofs.YthdldmkeoglflaaDoor
set_option linter.unusedSimpArgs false
set_option linter.unusedVariables false
set_option linter.unnecessarySimpa false
open Go.RowKit

theorem pz_len (b : ByteArray) : (pzR b).ps.length ≤ 8 := by
  rcases pz_err b with h | ⟨h, _⟩ | ⟨h, _⟩
  · exact (pz_ok h).1.len
  · rw [h]; exact Nat.zero_le _
  · rw [h]; exact Nat.zero_le _
theorem text_cut {L : Lim} {s : Int} {ps : Peers} (h : CV L s ps) : (splitS 10 (bsB (textL L s ps))).length = ps.length + 11 := by
  unfold splitS
  rw [bsB_list, cut_text h]
  unfold lineT
  simp; omega
/-- A slice of strings of a known length. -/
def VSl (n : Nat) : Value → World → Prop := fun v _ => ∃ a c, v = .slice a n c
theorem VSl.last {n : Nat} (v : Value) (w w' : World) (h : VSl n v w) (_ : Below w.heap.size w w') : VSl n v w' := h
set_option maxRecDepth 100000 in
set_option maxHeartbeats 10000000 in
theorem back_walk (l0 l1 l2 l3 l4 l5 l6 l7 l8 : Int) (s : Int) (ps : Peers) (a : Option Addr) (c : Nat) (b : ByteArray) (w : World) (h : SetIn w s ps a c) (hE : ErrIn w) (htab : ∀ W, Below w.heap.size w W → Lib.TabIs Tryd.prog W "internal/strconv.uint64pow10" .u64 Lib.pow10Tab) :
    Calls Tryd.prog 3 #[.agg #[.int .i64 l0, .int .i64 l1, .int .i64 l2, .int .i64 l3, .int .i64 l4, .int .i64 l5, .int .i64 l6, .int .i64 l7, .int .i64 l8, .int .u32 s, .slice a ps.length c], .string b] w fun e w' =>
      e = .returned (.bool true) ∧ Below w.heap.size w w' := by
  have hml := h.len
  have hc := h.cells
  have hgr := fun W g => great_any l0 l1 l2 l3 l4 l5 l6 l7 l8 s ps a c W g hml
  unfold GreatR at hgr
  have s0 := h.s0
  have s4 := h.s4
  have hk := h.keys
  by_cases hx : 1200 < b.size
  · have hx' : (1200 : Int) < (b.size : Int) := by omega
    have H_hml := Box.mk hml
    have H_htab := Box.mk htab
    have H_hE := Box.mk hE
    have H_hk := Box.mk hk
    clear hml htab hE hk
    go_enter Tryd.func3, Tryd.ntmps3
    have hb0 := Below.refl w.heap.size w
    go_wp2_with fail
    with_reducible refine (alive_any _ (fun W hb => H_htab.out W (bchain ((Below.refl _ w).alloc (Nat.le_refl _) _) hb))).mono ?_
    rintro e w1 ⟨rfl, hc1⟩
    have hb1 : Below w.heap.size w w1 := bchain (by repeat' (first | with_reducible exact hb0 | with_reducible refine Below.drew ?_ | with_reducible refine below_drewN ?_ _ | with_reducible refine Below.alloc ?_ (by have := hb0.size; first | (simp; done) | (simp; omega) | omega) _ | with_reducible refine Below.setCell ?_ (by first | (simp; done) | (simp; omega) | omega) _)) hc1
    have hst1 : Below w.heap.size w w1 := bchain (by repeat' (first | with_reducible exact Below.refl _ _ | with_reducible refine Below.drew ?_ | with_reducible refine below_drewN ?_ _ | with_reducible refine Below.alloc ?_ (by first | (simp; done) | (simp; omega) | omega) _ | with_reducible refine Below.setCell ?_ (by first | (simp; done) | (simp; omega) | omega) _)) hc1
    have X_0 : w1.cell? ⟨w.heap.size, 0, none⟩ = some (.int .i64 l0) := (hc1.cell (p := ⟨w.heap.size, 0, none⟩) (by first | (simp; done) | (simp; omega))).trans (by first | (simp; done) | go_simp)
    have X_1 : w1.cell? ⟨w.heap.size, 1, none⟩ = some (.int .i64 l1) := (hc1.cell (p := ⟨w.heap.size, 1, none⟩) (by first | (simp; done) | (simp; omega))).trans (by first | (simp; done) | go_simp)
    have X_2 : w1.cell? ⟨w.heap.size, 2, none⟩ = some (.int .i64 l2) := (hc1.cell (p := ⟨w.heap.size, 2, none⟩) (by first | (simp; done) | (simp; omega))).trans (by first | (simp; done) | go_simp)
    have X_3 : w1.cell? ⟨w.heap.size, 3, none⟩ = some (.int .i64 l3) := (hc1.cell (p := ⟨w.heap.size, 3, none⟩) (by first | (simp; done) | (simp; omega))).trans (by first | (simp; done) | go_simp)
    have X_4 : w1.cell? ⟨w.heap.size, 4, none⟩ = some (.int .i64 l4) := (hc1.cell (p := ⟨w.heap.size, 4, none⟩) (by first | (simp; done) | (simp; omega))).trans (by first | (simp; done) | go_simp)
    have X_5 : w1.cell? ⟨w.heap.size, 5, none⟩ = some (.int .i64 l5) := (hc1.cell (p := ⟨w.heap.size, 5, none⟩) (by first | (simp; done) | (simp; omega))).trans (by first | (simp; done) | go_simp)
    have X_6 : w1.cell? ⟨w.heap.size, 6, none⟩ = some (.int .i64 l6) := (hc1.cell (p := ⟨w.heap.size, 6, none⟩) (by first | (simp; done) | (simp; omega))).trans (by first | (simp; done) | go_simp)
    have X_7 : w1.cell? ⟨w.heap.size, 7, none⟩ = some (.int .i64 l7) := (hc1.cell (p := ⟨w.heap.size, 7, none⟩) (by first | (simp; done) | (simp; omega))).trans (by first | (simp; done) | go_simp)
    have X_8 : w1.cell? ⟨w.heap.size, 8, none⟩ = some (.int .i64 l8) := (hc1.cell (p := ⟨w.heap.size, 8, none⟩) (by first | (simp; done) | (simp; omega))).trans (by first | (simp; done) | go_simp)
    have X_9 : w1.cell? ⟨w.heap.size, 9, none⟩ = some (.int .u32 s) := (hc1.cell (p := ⟨w.heap.size, 9, none⟩) (by first | (simp; done) | (simp; omega))).trans (by first | (simp; done) | go_simp)
    have X_10 : w1.cell? ⟨w.heap.size, 10, none⟩ = some (.slice a ps.length c) := (hc1.cell (p := ⟨w.heap.size, 10, none⟩) (by first | (simp; done) | (simp; omega))).trans (by first | (simp; done) | go_simp)
    have X_l : w.heap.size < w1.heap.size := Nat.lt_of_lt_of_le (by first | (simp; done) | (simp; omega)) hc1.size
    replace hc := hc.later hst1
    clear hst1
    clear hc1 hb0
    go_wp2_with fail
    with_reducible refine (hgr _ hc).mono ?_
    rintro e w2 ⟨⟨g, rfl, hg⟩, hc2⟩
    have hb2 : Below w.heap.size w w2 := bchain (by repeat' (first | with_reducible exact hb1 | with_reducible refine Below.drew ?_ | with_reducible refine below_drewN ?_ _ | with_reducible refine Below.alloc ?_ (by have := hb1.size; first | (simp; done) | (simp; omega) | omega) _ | with_reducible refine Below.setCell ?_ (by first | (simp; done) | (simp; omega) | omega) _)) hc2
    have hst2 : Below w1.heap.size w1 w2 := bchain (by repeat' (first | with_reducible exact Below.refl _ _ | with_reducible refine Below.drew ?_ | with_reducible refine below_drewN ?_ _ | with_reducible refine Below.alloc ?_ (by first | (simp; done) | (simp; omega) | omega) _ | with_reducible refine Below.setCell ?_ (by first | (simp; done) | (simp; omega) | omega) _)) hc2
    replace X_0 := cell_later hst2 X_0
    replace X_1 := cell_later hst2 X_1
    replace X_2 := cell_later hst2 X_2
    replace X_3 := cell_later hst2 X_3
    replace X_4 := cell_later hst2 X_4
    replace X_5 := cell_later hst2 X_5
    replace X_6 := cell_later hst2 X_6
    replace X_7 := cell_later hst2 X_7
    replace X_8 := cell_later hst2 X_8
    replace X_9 := cell_later hst2 X_9
    replace X_10 := cell_later hst2 X_10
    replace X_l := Nat.lt_of_lt_of_le X_l hst2.size
    replace hc := hc.later hst2
    clear hst2
    clear hc2 hb1
    cases g with
    | true =>
      go_wp2_with fail
      go_ret
      exact ⟨rfl, (by repeat' (first | with_reducible exact hb2 | with_reducible refine Below.drew ?_ | with_reducible refine below_drewN ?_ _ | with_reducible refine Below.alloc ?_ (by have := hb2.size; first | (simp; done) | (simp; omega) | omega) _ | with_reducible refine Below.setCell ?_ (by first | (simp; done) | (simp; omega) | omega) _))⟩
    | false =>
      go_wp2_with fail
      go_ret
      exact ⟨rfl, (by repeat' (first | with_reducible exact hb2 | with_reducible refine Below.drew ?_ | with_reducible refine below_drewN ?_ _ | with_reducible refine Below.alloc ?_ (by have := hb2.size; first | (simp; done) | (simp; omega) | omega) _ | with_reducible refine Below.setCell ?_ (by first | (simp; done) | (simp; omega) | omega) _))⟩
  have hx' : ¬ (1200 : Int) < (b.size : Int) := by omega
  obtain ⟨E, hE2⟩ : ∃ E, chkS (⟨l0, l1, l2, l3, l4, l5, l6, l7, l8⟩ : Lim) s ps = E := ⟨_, rfl⟩
  have w1 := fun W g (hb : Below w.heap.size w W) => Text_any l0 l1 l2 l3 l4 l5 l6 l7 l8 s ps a c W g E hE2 (fun W' hb' => htab W' (bchain hb hb'))
  have w4 := fun W (hb : Below w.heap.size w W) => Parse_any b W (by omega) (hE.later hb) (fun W' hb' => htab W' (bchain hb hb'))
  have w7 := fun W (h : SIn W s ps a) => hE2 ▸ Check_any l0 l1 l2 l3 l4 l5 l6 l7 l8 s ps a c W h.cells h.s0 h.s4 h.keys h.ml
  have w8 := fun W (h : SIn W s ps a) => hE2 ▸ rCheck_any l0 l1 l2 l3 l4 l5 l6 l7 l8 s ps a c W h.cells h.s0 h.s4 h.keys h.ml
  have y3 := pz_len b
  have hz : ((pzR b).err = 0 ∧ CV (pzR b).lim (pzR b).sec (pzR b).ps ∧ textL (pzR b).lim (pzR b).sec (pzR b).ps = b.data.toList ∧ Keys (pzR b).ps) ∨ ((pzR b).err ≠ 0 ∧ ((pzR b).err = 12 ∨ (pzR b).err = 4 ∧ 1000 < b.size)) := by
    rcases pz_err b with h | ⟨h, _⟩ | ⟨h, h2⟩
    · exact .inl ⟨h, pz_ok h⟩
    · exact .inr (by rw [h]; exact ⟨by decide, .inl rfl⟩)
    · exact .inr (by rw [h]; exact ⟨by decide, .inr ⟨rfl, h2⟩⟩)
  obtain ⟨P, hP⟩ : ∃ r, pzR b = r := ⟨_, rfl⟩
  rw [hP] at y3 hz
  simp only [hP] at w4
  obtain ⟨⟨m0, m1, m2, m3, m4, m5, m6, m7, m8⟩, ms, mq, me⟩ := P
  simp only at y3 hz
  unfold RetS at w4
  simp only at w4
  unfold RetSI at w1
  by_cases h0 : E = 0
  · subst h0
    have hcv := CV.of hE2
    have hts := text_short hcv hk
    have htc := text_cut hcv
    have hptx := pz_text hcv hk
    have htr : textR 0 (⟨l0, l1, l2, l3, l4, l5, l6, l7, l8⟩ : Lim) s ps = (bsB (textL (⟨l0, l1, l2, l3, l4, l5, l6, l7, l8⟩ : Lim) s ps), 0) := by unfold textR; rw [if_pos rfl]; rfl
    have htl : (bsB (textL (⟨l0, l1, l2, l3, l4, l5, l6, l7, l8⟩ : Lim) s ps)).size ≤ 1000 := by rw [bsB_size]; exact hts
    simp only [htr] at w1
    obtain ⟨T, hT⟩ : ∃ T, bsB (textL (⟨l0, l1, l2, l3, l4, l5, l6, l7, l8⟩ : Lim) s ps) = T := ⟨_, rfl⟩
    rw [hT] at htc hptx htl
    simp only [hT] at w1
    have w2 := fun W (hb : Below w.heap.size w W) => Parse_any T W (by omega) (hE.later hb) (fun W' hb' => htab W' (bchain hb hb'))
    simp only [hptx] at w2
    unfold RetS at w2
    simp only at w2
    have w3 := fun W => rCut10 T W (by omega)
    simp only [htc] at w3
    have htl' : ¬ (1000 : Int) < (T.size : Int) := by omega
    have htlN : ¬ 1000 < T.size := by omega
    have hd1 : decide ((1000 : Int) < (T.size : Int)) = false := decide_eq_false htl'
    have hd2 : decide (1000 < T.size) = false := decide_eq_false htlN
    clear hts htr
    have H_hk := Box.mk hk
    have H_w1 := Box.mk w1
    have H_w2 := Box.mk w2
    have H_w3 := Box.mk w3
    have H_w4 := Box.mk w4
    have H_w7 := Box.mk w7
    have H_w8 := Box.mk w8
    have H_hE2 := Box.mk hE2
    have H_hP := Box.mk hP
    have H_htab := Box.mk htab
    have H_hE := Box.mk hE
    have H_hml := Box.mk hml
    have H_hz := Box.mk hz
    have H_hcv := Box.mk hcv
    have H_htc := Box.mk htc
    have H_hptx := Box.mk hptx
    have H_hT := Box.mk hT
    clear hk w1 w2 w3 w4 w7 w8 hE2 hP htab hE hml hz hcv htc hptx hT
    go_enter Tryd.func3, Tryd.ntmps3
    have hb0 := Below.refl w.heap.size w
    go_wp2_with fail
    with_reducible refine (alive_any _ (fun W hb => H_htab.out W (bchain ((Below.refl _ w).alloc (Nat.le_refl _) _) hb))).mono ?_
    rintro e w1 ⟨rfl, hc1⟩
    have hb1 : Below w.heap.size w w1 := bchain (by repeat' (first | with_reducible exact hb0 | with_reducible refine Below.drew ?_ | with_reducible refine below_drewN ?_ _ | with_reducible refine Below.alloc ?_ (by have := hb0.size; first | (simp; done) | (simp; omega) | omega) _ | with_reducible refine Below.setCell ?_ (by first | (simp; done) | (simp; omega) | omega) _)) hc1
    have hst1 : Below w.heap.size w w1 := bchain (by repeat' (first | with_reducible exact Below.refl _ _ | with_reducible refine Below.drew ?_ | with_reducible refine below_drewN ?_ _ | with_reducible refine Below.alloc ?_ (by first | (simp; done) | (simp; omega) | omega) _ | with_reducible refine Below.setCell ?_ (by first | (simp; done) | (simp; omega) | omega) _)) hc1
    have X_0 : w1.cell? ⟨w.heap.size, 0, none⟩ = some (.int .i64 l0) := (hc1.cell (p := ⟨w.heap.size, 0, none⟩) (by first | (simp; done) | (simp; omega))).trans (by first | (simp; done) | go_simp)
    have X_1 : w1.cell? ⟨w.heap.size, 1, none⟩ = some (.int .i64 l1) := (hc1.cell (p := ⟨w.heap.size, 1, none⟩) (by first | (simp; done) | (simp; omega))).trans (by first | (simp; done) | go_simp)
    have X_2 : w1.cell? ⟨w.heap.size, 2, none⟩ = some (.int .i64 l2) := (hc1.cell (p := ⟨w.heap.size, 2, none⟩) (by first | (simp; done) | (simp; omega))).trans (by first | (simp; done) | go_simp)
    have X_3 : w1.cell? ⟨w.heap.size, 3, none⟩ = some (.int .i64 l3) := (hc1.cell (p := ⟨w.heap.size, 3, none⟩) (by first | (simp; done) | (simp; omega))).trans (by first | (simp; done) | go_simp)
    have X_4 : w1.cell? ⟨w.heap.size, 4, none⟩ = some (.int .i64 l4) := (hc1.cell (p := ⟨w.heap.size, 4, none⟩) (by first | (simp; done) | (simp; omega))).trans (by first | (simp; done) | go_simp)
    have X_5 : w1.cell? ⟨w.heap.size, 5, none⟩ = some (.int .i64 l5) := (hc1.cell (p := ⟨w.heap.size, 5, none⟩) (by first | (simp; done) | (simp; omega))).trans (by first | (simp; done) | go_simp)
    have X_6 : w1.cell? ⟨w.heap.size, 6, none⟩ = some (.int .i64 l6) := (hc1.cell (p := ⟨w.heap.size, 6, none⟩) (by first | (simp; done) | (simp; omega))).trans (by first | (simp; done) | go_simp)
    have X_7 : w1.cell? ⟨w.heap.size, 7, none⟩ = some (.int .i64 l7) := (hc1.cell (p := ⟨w.heap.size, 7, none⟩) (by first | (simp; done) | (simp; omega))).trans (by first | (simp; done) | go_simp)
    have X_8 : w1.cell? ⟨w.heap.size, 8, none⟩ = some (.int .i64 l8) := (hc1.cell (p := ⟨w.heap.size, 8, none⟩) (by first | (simp; done) | (simp; omega))).trans (by first | (simp; done) | go_simp)
    have X_9 : w1.cell? ⟨w.heap.size, 9, none⟩ = some (.int .u32 s) := (hc1.cell (p := ⟨w.heap.size, 9, none⟩) (by first | (simp; done) | (simp; omega))).trans (by first | (simp; done) | go_simp)
    have X_10 : w1.cell? ⟨w.heap.size, 10, none⟩ = some (.slice a ps.length c) := (hc1.cell (p := ⟨w.heap.size, 10, none⟩) (by first | (simp; done) | (simp; omega))).trans (by first | (simp; done) | go_simp)
    have X_l : w.heap.size < w1.heap.size := Nat.lt_of_lt_of_le (by first | (simp; done) | (simp; omega)) hc1.size
    replace hc := hc.later hst1
    clear hst1
    clear hc1 hb0
    go_wp2_with fail
    with_reducible refine (hgr _ hc).mono ?_
    rintro e w2 ⟨⟨g, rfl, hg⟩, hc2⟩
    have hb2 : Below w.heap.size w w2 := bchain (by repeat' (first | with_reducible exact hb1 | with_reducible refine Below.drew ?_ | with_reducible refine below_drewN ?_ _ | with_reducible refine Below.alloc ?_ (by have := hb1.size; first | (simp; done) | (simp; omega) | omega) _ | with_reducible refine Below.setCell ?_ (by first | (simp; done) | (simp; omega) | omega) _)) hc2
    have hst2 : Below w1.heap.size w1 w2 := bchain (by repeat' (first | with_reducible exact Below.refl _ _ | with_reducible refine Below.drew ?_ | with_reducible refine below_drewN ?_ _ | with_reducible refine Below.alloc ?_ (by first | (simp; done) | (simp; omega) | omega) _ | with_reducible refine Below.setCell ?_ (by first | (simp; done) | (simp; omega) | omega) _)) hc2
    replace X_0 := cell_later hst2 X_0
    replace X_1 := cell_later hst2 X_1
    replace X_2 := cell_later hst2 X_2
    replace X_3 := cell_later hst2 X_3
    replace X_4 := cell_later hst2 X_4
    replace X_5 := cell_later hst2 X_5
    replace X_6 := cell_later hst2 X_6
    replace X_7 := cell_later hst2 X_7
    replace X_8 := cell_later hst2 X_8
    replace X_9 := cell_later hst2 X_9
    replace X_10 := cell_later hst2 X_10
    replace X_l := Nat.lt_of_lt_of_le X_l hst2.size
    replace hc := hc.later hst2
    clear hst2
    clear hc2 hb1
    cases g with
    | true =>
      go_wp2_with fail
      go_ret
      exact ⟨rfl, (by repeat' (first | with_reducible exact hb2 | with_reducible refine Below.drew ?_ | with_reducible refine below_drewN ?_ _ | with_reducible refine Below.alloc ?_ (by have := hb2.size; first | (simp; done) | (simp; omega) | omega) _ | with_reducible refine Below.setCell ?_ (by first | (simp; done) | (simp; omega) | omega) _))⟩
    | false =>
    obtain ⟨hl30, _⟩ := hg rfl
    have hS : SIn w2 s ps a := ⟨s0, s4, hc, H_hk.out, by omega⟩
    clear hg
    go_wp2_with fail
    with_reducible refine (H_w1.out _ hS (by repeat' (first | with_reducible exact hb2 | with_reducible refine Below.drew ?_ | with_reducible refine below_drewN ?_ _ | with_reducible refine Below.alloc ?_ (by have := hb2.size; first | (simp; done) | (simp; omega) | omega) _ | with_reducible refine Below.setCell ?_ (by first | (simp; done) | (simp; omega) | omega) _))).mono ?_
    rintro e w3 ⟨rfl, hc3⟩
    have hb3 : Below w.heap.size w w3 := bchain (by repeat' (first | with_reducible exact hb2 | with_reducible refine Below.drew ?_ | with_reducible refine below_drewN ?_ _ | with_reducible refine Below.alloc ?_ (by have := hb2.size; first | (simp; done) | (simp; omega) | omega) _ | with_reducible refine Below.setCell ?_ (by first | (simp; done) | (simp; omega) | omega) _)) hc3
    have hst3 : Below w2.heap.size w2 w3 := bchain (by repeat' (first | with_reducible exact Below.refl _ _ | with_reducible refine Below.drew ?_ | with_reducible refine below_drewN ?_ _ | with_reducible refine Below.alloc ?_ (by first | (simp; done) | (simp; omega) | omega) _ | with_reducible refine Below.setCell ?_ (by first | (simp; done) | (simp; omega) | omega) _)) hc3
    replace X_0 := cell_later hst3 X_0
    replace X_1 := cell_later hst3 X_1
    replace X_2 := cell_later hst3 X_2
    replace X_3 := cell_later hst3 X_3
    replace X_4 := cell_later hst3 X_4
    replace X_5 := cell_later hst3 X_5
    replace X_6 := cell_later hst3 X_6
    replace X_7 := cell_later hst3 X_7
    replace X_8 := cell_later hst3 X_8
    replace X_9 := cell_later hst3 X_9
    replace X_10 := cell_later hst3 X_10
    replace X_l := Nat.lt_of_lt_of_le X_l hst3.size
    replace hS := hS.later hst3
    clear hst3
    clear hc3 hb2
    go_wp2_with fail
    with_reducible refine (H_w7.out _ hS).mono ?_
    rintro e w4 ⟨rfl, hc4⟩
    have hb4 : Below w.heap.size w w4 := bchain (by repeat' (first | with_reducible exact hb3 | with_reducible refine Below.drew ?_ | with_reducible refine below_drewN ?_ _ | with_reducible refine Below.alloc ?_ (by have := hb3.size; first | (simp; done) | (simp; omega) | omega) _ | with_reducible refine Below.setCell ?_ (by first | (simp; done) | (simp; omega) | omega) _)) hc4
    have hst4 : Below w3.heap.size w3 w4 := bchain (by repeat' (first | with_reducible exact Below.refl _ _ | with_reducible refine Below.drew ?_ | with_reducible refine below_drewN ?_ _ | with_reducible refine Below.alloc ?_ (by first | (simp; done) | (simp; omega) | omega) _ | with_reducible refine Below.setCell ?_ (by first | (simp; done) | (simp; omega) | omega) _)) hc4
    replace X_0 := cell_later hst4 X_0
    replace X_1 := cell_later hst4 X_1
    replace X_2 := cell_later hst4 X_2
    replace X_3 := cell_later hst4 X_3
    replace X_4 := cell_later hst4 X_4
    replace X_5 := cell_later hst4 X_5
    replace X_6 := cell_later hst4 X_6
    replace X_7 := cell_later hst4 X_7
    replace X_8 := cell_later hst4 X_8
    replace X_9 := cell_later hst4 X_9
    replace X_10 := cell_later hst4 X_10
    replace X_l := Nat.lt_of_lt_of_le X_l hst4.size
    replace hS := hS.later hst4
    clear hst4
    clear hc4 hb3
    go_wp2_with fail
    with_reducible refine (H_w8.out _ hS).mono ?_
    rintro e w5 ⟨rfl, hc5⟩
    have hb5 : Below w.heap.size w w5 := bchain (by repeat' (first | with_reducible exact hb4 | with_reducible refine Below.drew ?_ | with_reducible refine below_drewN ?_ _ | with_reducible refine Below.alloc ?_ (by have := hb4.size; first | (simp; done) | (simp; omega) | omega) _ | with_reducible refine Below.setCell ?_ (by first | (simp; done) | (simp; omega) | omega) _)) hc5
    have hst5 : Below w4.heap.size w4 w5 := bchain (by repeat' (first | with_reducible exact Below.refl _ _ | with_reducible refine Below.drew ?_ | with_reducible refine below_drewN ?_ _ | with_reducible refine Below.alloc ?_ (by first | (simp; done) | (simp; omega) | omega) _ | with_reducible refine Below.setCell ?_ (by first | (simp; done) | (simp; omega) | omega) _)) hc5
    replace X_0 := cell_later hst5 X_0
    replace X_1 := cell_later hst5 X_1
    replace X_2 := cell_later hst5 X_2
    replace X_3 := cell_later hst5 X_3
    replace X_4 := cell_later hst5 X_4
    replace X_5 := cell_later hst5 X_5
    replace X_6 := cell_later hst5 X_6
    replace X_7 := cell_later hst5 X_7
    replace X_8 := cell_later hst5 X_8
    replace X_9 := cell_later hst5 X_9
    replace X_10 := cell_later hst5 X_10
    replace X_l := Nat.lt_of_lt_of_le X_l hst5.size
    replace hS := hS.later hst5
    clear hst5
    clear hc5 hb4
    go_wp2_with fail
    with_reducible refine (H_w2.out _ (by repeat' (first | with_reducible exact hb5 | with_reducible refine Below.drew ?_ | with_reducible refine below_drewN ?_ _ | with_reducible refine Below.alloc ?_ (by have := hb5.size; first | (simp; done) | (simp; omega) | omega) _ | with_reducible refine Below.setCell ?_ (by first | (simp; done) | (simp; omega) | omega) _))).mono ?_
    rintro e w6 ⟨⟨a1, c1, rfl, k1⟩, hc6⟩
    have hb6 : Below w.heap.size w w6 := bchain (by repeat' (first | with_reducible exact hb5 | with_reducible refine Below.drew ?_ | with_reducible refine below_drewN ?_ _ | with_reducible refine Below.alloc ?_ (by have := hb5.size; first | (simp; done) | (simp; omega) | omega) _ | with_reducible refine Below.setCell ?_ (by first | (simp; done) | (simp; omega) | omega) _)) hc6
    have hst6 : Below w5.heap.size w5 w6 := bchain (by repeat' (first | with_reducible exact Below.refl _ _ | with_reducible refine Below.drew ?_ | with_reducible refine below_drewN ?_ _ | with_reducible refine Below.alloc ?_ (by first | (simp; done) | (simp; omega) | omega) _ | with_reducible refine Below.setCell ?_ (by first | (simp; done) | (simp; omega) | omega) _)) hc6
    replace X_0 := cell_later hst6 X_0
    replace X_1 := cell_later hst6 X_1
    replace X_2 := cell_later hst6 X_2
    replace X_3 := cell_later hst6 X_3
    replace X_4 := cell_later hst6 X_4
    replace X_5 := cell_later hst6 X_5
    replace X_6 := cell_later hst6 X_6
    replace X_7 := cell_later hst6 X_7
    replace X_8 := cell_later hst6 X_8
    replace X_9 := cell_later hst6 X_9
    replace X_10 := cell_later hst6 X_10
    replace X_l := Nat.lt_of_lt_of_le X_l hst6.size
    replace hS := hS.later hst6
    clear hst6
    clear hc6 hb5
    go_wp2_with fail
    refine wp_gen fun w7 hc7 => ?_
    have hb7 : Below w.heap.size w w7 := bchain (by repeat' (first | with_reducible exact hb6 | with_reducible refine Below.drew ?_ | with_reducible refine below_drewN ?_ _ | with_reducible refine Below.alloc ?_ (by have := hb6.size; first | (simp; done) | (simp; omega) | omega) _ | with_reducible refine Below.setCell ?_ (by first | (simp; done) | (simp; omega) | omega) _)) hc7
    have hst7 : Below w6.heap.size w6 w7 := bchain (by repeat' (first | with_reducible exact Below.refl _ _ | with_reducible refine Below.drew ?_ | with_reducible refine below_drewN ?_ _ | with_reducible refine Below.alloc ?_ (by first | (simp; done) | (simp; omega) | omega) _ | with_reducible refine Below.setCell ?_ (by first | (simp; done) | (simp; omega) | omega) _)) hc7
    replace X_0 := cell_later hst7 X_0
    replace X_1 := cell_later hst7 X_1
    replace X_2 := cell_later hst7 X_2
    replace X_3 := cell_later hst7 X_3
    replace X_4 := cell_later hst7 X_4
    replace X_5 := cell_later hst7 X_5
    replace X_6 := cell_later hst7 X_6
    replace X_7 := cell_later hst7 X_7
    replace X_8 := cell_later hst7 X_8
    replace X_9 := cell_later hst7 X_9
    replace X_10 := cell_later hst7 X_10
    replace X_l := Nat.lt_of_lt_of_le X_l hst7.size
    have Y_0 : w7.cell? ⟨w6.heap.size, 0, none⟩ = some (.int .i64 l0) := (hc7.cell (p := ⟨w6.heap.size, 0, none⟩) (by first | (simp; done) | (simp; omega))).trans (by first | (simp; done) | go_simp)
    have Y_1 : w7.cell? ⟨w6.heap.size, 1, none⟩ = some (.int .i64 l1) := (hc7.cell (p := ⟨w6.heap.size, 1, none⟩) (by first | (simp; done) | (simp; omega))).trans (by first | (simp; done) | go_simp)
    have Y_2 : w7.cell? ⟨w6.heap.size, 2, none⟩ = some (.int .i64 l2) := (hc7.cell (p := ⟨w6.heap.size, 2, none⟩) (by first | (simp; done) | (simp; omega))).trans (by first | (simp; done) | go_simp)
    have Y_3 : w7.cell? ⟨w6.heap.size, 3, none⟩ = some (.int .i64 l3) := (hc7.cell (p := ⟨w6.heap.size, 3, none⟩) (by first | (simp; done) | (simp; omega))).trans (by first | (simp; done) | go_simp)
    have Y_4 : w7.cell? ⟨w6.heap.size, 4, none⟩ = some (.int .i64 l4) := (hc7.cell (p := ⟨w6.heap.size, 4, none⟩) (by first | (simp; done) | (simp; omega))).trans (by first | (simp; done) | go_simp)
    have Y_5 : w7.cell? ⟨w6.heap.size, 5, none⟩ = some (.int .i64 l5) := (hc7.cell (p := ⟨w6.heap.size, 5, none⟩) (by first | (simp; done) | (simp; omega))).trans (by first | (simp; done) | go_simp)
    have Y_6 : w7.cell? ⟨w6.heap.size, 6, none⟩ = some (.int .i64 l6) := (hc7.cell (p := ⟨w6.heap.size, 6, none⟩) (by first | (simp; done) | (simp; omega))).trans (by first | (simp; done) | go_simp)
    have Y_7 : w7.cell? ⟨w6.heap.size, 7, none⟩ = some (.int .i64 l7) := (hc7.cell (p := ⟨w6.heap.size, 7, none⟩) (by first | (simp; done) | (simp; omega))).trans (by first | (simp; done) | go_simp)
    have Y_8 : w7.cell? ⟨w6.heap.size, 8, none⟩ = some (.int .i64 l8) := (hc7.cell (p := ⟨w6.heap.size, 8, none⟩) (by first | (simp; done) | (simp; omega))).trans (by first | (simp; done) | go_simp)
    have Y_9 : w7.cell? ⟨w6.heap.size, 9, none⟩ = some (.int .u32 s) := (hc7.cell (p := ⟨w6.heap.size, 9, none⟩) (by first | (simp; done) | (simp; omega))).trans (by first | (simp; done) | go_simp)
    have Y_10 : w7.cell? ⟨w6.heap.size, 10, none⟩ = some (.slice a1 ps.length c1) := (hc7.cell (p := ⟨w6.heap.size, 10, none⟩) (by first | (simp; done) | (simp; omega))).trans (by first | (simp; done) | go_simp)
    have Y_l : w6.heap.size < w7.heap.size := Nat.lt_of_lt_of_le (by first | (simp; done) | (simp; omega)) hc7.size
    replace hS := hS.later hst7
    replace k1 := k1.later hst7
    clear hst7
    have KX_0 := cell_on X_0
    have KX_1 := cell_on X_1
    have KX_2 := cell_on X_2
    have KX_3 := cell_on X_3
    have KX_4 := cell_on X_4
    have KX_5 := cell_on X_5
    have KX_6 := cell_on X_6
    have KX_7 := cell_on X_7
    have KX_8 := cell_on X_8
    have KX_9 := cell_on X_9
    have KX_10 := cell_on X_10
    have KY_0 := cell_on Y_0
    have KY_1 := cell_on Y_1
    have KY_2 := cell_on Y_2
    have KY_3 := cell_on Y_3
    have KY_4 := cell_on Y_4
    have KY_5 := cell_on Y_5
    have KY_6 := cell_on Y_6
    have KY_7 := cell_on Y_7
    have KY_8 := cell_on Y_8
    have KY_9 := cell_on Y_9
    have KY_10 := cell_on Y_10
    refine wp_region_on_spec [(5, [], fun _ => VIs (.bool true)), (15, [], fun _ => VSl (ps.length + 11))] [5, 15] [] [(5, []), (15, [])] (by kernel_rfl) (by kernel_rfl) rfl (by kernel_rfl) rfl (by kernel_rfl) ⟨fun _ => VIs.last, fun _ => VSl.last, trivial⟩ ?_
    try simp only [List.take_succ_cons, List.take_zero, List.drop_succ_cons, List.drop_zero]
    refine wpSpec_quiet 5 (by kernel_rfl) (by kernel_rfl) ?_
    simp only [List.take_succ_cons, List.take_zero, List.drop_succ_cons, List.drop_zero]
    repeat (go_big_quiet_step (fail))
    refine wpQuiet_nil ?_
    show wpSpec _ _ _ _ _ _ _ _ _ _ _
    refine wpSpec_at [] (VIs (.bool true)) rfl (by first | rfl | (simp [viewS, Act.eval]; done)) rfl (by first | rfl | (simp [Region.wanted]; done)) ?_ rfl ?_
    · intro wq hq hfq
      clear hfq
      refine gives_call 14 _ _ #[.agg #[.int .i64 l0, .int .i64 l1, .int .i64 l2, .int .i64 l3, .int .i64 l4, .int .i64 l5, .int .i64 l6, .int .i64 l7, .int .i64 l8, .int .u32 s, .slice a1 ps.length c1], .agg #[.int .i64 l0, .int .i64 l1, .int .i64 l2, .int .i64 l3, .int .i64 l4, .int .i64 l5, .int .i64 l6, .int .i64 l7, .int .i64 l8, .int .u32 s, .slice a ps.length c]] rfl (by kernel_rfl) (by simp [Act.eval]) ((same_any l0 l1 l2 l3 l4 l5 l6 l7 l8 s ps a1 a c1 c ps.length _ rfl (k1.later hq) (hS.cells.later hq) H_hml.out).mono ?_)
      rintro e w' ⟨rfl, hb⟩
      exact ⟨_, rfl, hb, rfl⟩
    rintro x5 ⟨_, hx5⟩
    cases hx5
    simp only [Act.put, List.setIfInBounds_toArray, List.set_cons_succ, List.set_cons_zero]
    refine wpSpec_quiet 9 (by kernel_rfl) (by kernel_rfl) ?_
    simp only [List.take_succ_cons, List.take_zero, List.drop_succ_cons, List.drop_zero]
    repeat (go_big_quiet_step (fail))
    refine wpQuiet_nil ?_
    show wpSpec _ _ _ _ _ _ _ _ _ _ _
    refine wpSpec_at [] (VSl (ps.length + 11)) rfl (by first | rfl | (simp [viewS, Act.eval]; done)) rfl (by first | rfl | (simp [Region.wanted]; done)) ?_ rfl ?_
    · intro wq hq hfq
      clear hfq
      refine gives_call 15 _ _ #[.string T, .int .u8 10] rfl (by kernel_rfl) (by simp [Act.eval]) ((H_w3.out _).mono ?_)
      rintro e w' ⟨⟨ca, cc, rfl, -⟩, hb⟩
      exact ⟨_, rfl, hb, _, _, rfl⟩
    rintro x15 ⟨_, ⟨ca, cc, rfl⟩⟩
    simp only [Act.put, List.setIfInBounds_toArray, List.set_cons_succ, List.set_cons_zero]
    refine wpSpec_quiet 7 (by kernel_rfl) (by kernel_rfl) ?_
    simp only [List.take_succ_cons, List.take_zero, List.drop_succ_cons, List.drop_zero]
    repeat (go_big_quiet_step (fail))
    refine wpQuiet_nil ?_
    show wpSpec _ _ _ _ _ _ _ _ _ _ _
    intro w8 hc8 hfq
    clear hfq
    clear KX_0 KX_1 KX_2 KX_3 KX_4 KX_5 KX_6 KX_7 KX_8 KX_9 KX_10 KY_0 KY_1 KY_2 KY_3 KY_4 KY_5 KY_6 KY_7 KY_8 KY_9 KY_10
    have hb8 : Below w.heap.size w w8 := bchain (by repeat' (first | with_reducible exact hb7 | with_reducible refine Below.drew ?_ | with_reducible refine below_drewN ?_ _ | with_reducible refine Below.alloc ?_ (by have := hb7.size; first | (simp; done) | (simp; omega) | omega) _ | with_reducible refine Below.setCell ?_ (by first | (simp; done) | (simp; omega) | omega) _)) hc8
    have hst8 : Below w7.heap.size w7 w8 := bchain (by repeat' (first | with_reducible exact Below.refl _ _ | with_reducible refine Below.drew ?_ | with_reducible refine below_drewN ?_ _ | with_reducible refine Below.alloc ?_ (by first | (simp; done) | (simp; omega) | omega) _ | with_reducible refine Below.setCell ?_ (by first | (simp; done) | (simp; omega) | omega) _)) hc8
    replace X_0 := cell_later hst8 X_0
    replace X_1 := cell_later hst8 X_1
    replace X_2 := cell_later hst8 X_2
    replace X_3 := cell_later hst8 X_3
    replace X_4 := cell_later hst8 X_4
    replace X_5 := cell_later hst8 X_5
    replace X_6 := cell_later hst8 X_6
    replace X_7 := cell_later hst8 X_7
    replace X_8 := cell_later hst8 X_8
    replace X_9 := cell_later hst8 X_9
    replace X_10 := cell_later hst8 X_10
    replace X_l := Nat.lt_of_lt_of_le X_l hst8.size
    replace Y_0 := cell_later hst8 Y_0
    replace Y_1 := cell_later hst8 Y_1
    replace Y_2 := cell_later hst8 Y_2
    replace Y_3 := cell_later hst8 Y_3
    replace Y_4 := cell_later hst8 Y_4
    replace Y_5 := cell_later hst8 Y_5
    replace Y_6 := cell_later hst8 Y_6
    replace Y_7 := cell_later hst8 Y_7
    replace Y_8 := cell_later hst8 Y_8
    replace Y_9 := cell_later hst8 Y_9
    replace Y_10 := cell_later hst8 Y_10
    replace Y_l := Nat.lt_of_lt_of_le Y_l hst8.size
    replace hS := hS.later hst8
    replace k1 := k1.later hst8
    clear hst8
    rcases H_hz.out with ⟨hme, hcz, htz, hkz⟩ | ⟨hme, hme2⟩
    · subst hme
      have hzt := fun a2 c2 W (g : SIn W ms mq a2) (hb : Below w.heap.size w W) => Text_any m0 m1 m2 m3 m4 m5 m6 m7 m8 ms mq a2 c2 W g 0 hcz.err (fun W' hb' => H_htab.out W' (bchain hb hb'))
      have hzc : ∀ a2 c2 W, SIn W ms mq a2 → Calls Tryd.prog 11 #[.agg #[.int .i64 m0, .int .i64 m1, .int .i64 m2, .int .i64 m3, .int .i64 m4, .int .i64 m5, .int .i64 m6, .int .i64 m7, .int .i64 m8, .int .u32 ms, .slice a2 mq.length c2]] W fun e w' => e = .returned (.int .i64 0) ∧ Below W.heap.size W w' := fun a2 c2 W g => by
        have := Check_any m0 m1 m2 m3 m4 m5 m6 m7 m8 ms mq a2 c2 W g.cells g.s0 g.s4 g.keys g.ml
        rwa [hcz.err] at this
      have htr : textR 0 ⟨m0, m1, m2, m3, m4, m5, m6, m7, m8⟩ ms mq = (b, 0) := by
        unfold textR; rw [if_pos rfl, htz]
      unfold RetSI at hzt
      simp only [htr] at hzt
      have hz1 := hcz.s1
      have hz5 := hcz.s5
      have hzl := hcz.len
      have hbb : (b.toList == b.toList) = true := seqB_self b
      have H_hcz := Box.mk hcz
      have H_htz := Box.mk htz
      have H_hzt := Box.mk hzt
      have H_hzc := Box.mk hzc
      have H_htr := Box.mk htr
      have H_hkz := Box.mk hkz
      clear hcz htz hzt hzc htr hkz
      go_wp2_with fail
      with_reducible refine (H_w4.out _ (by repeat' (first | with_reducible exact hb8 | with_reducible refine Below.drew ?_ | with_reducible refine below_drewN ?_ _ | with_reducible refine Below.alloc ?_ (by have := hb8.size; first | (simp; done) | (simp; omega) | omega) _ | with_reducible refine Below.setCell ?_ (by first | (simp; done) | (simp; omega) | omega) _))).mono ?_
      rintro e w9 ⟨⟨a2, c2, rfl, k2⟩, hc9⟩
      have hb9 : Below w.heap.size w w9 := bchain (by repeat' (first | with_reducible exact hb8 | with_reducible refine Below.drew ?_ | with_reducible refine below_drewN ?_ _ | with_reducible refine Below.alloc ?_ (by have := hb8.size; first | (simp; done) | (simp; omega) | omega) _ | with_reducible refine Below.setCell ?_ (by first | (simp; done) | (simp; omega) | omega) _)) hc9
      have hst9 : Below w8.heap.size w8 w9 := bchain (by repeat' (first | with_reducible exact Below.refl _ _ | with_reducible refine Below.drew ?_ | with_reducible refine below_drewN ?_ _ | with_reducible refine Below.alloc ?_ (by first | (simp; done) | (simp; omega) | omega) _ | with_reducible refine Below.setCell ?_ (by first | (simp; done) | (simp; omega) | omega) _)) hc9
      replace X_0 := cell_later hst9 X_0
      replace X_1 := cell_later hst9 X_1
      replace X_2 := cell_later hst9 X_2
      replace X_3 := cell_later hst9 X_3
      replace X_4 := cell_later hst9 X_4
      replace X_5 := cell_later hst9 X_5
      replace X_6 := cell_later hst9 X_6
      replace X_7 := cell_later hst9 X_7
      replace X_8 := cell_later hst9 X_8
      replace X_9 := cell_later hst9 X_9
      replace X_10 := cell_later hst9 X_10
      replace X_l := Nat.lt_of_lt_of_le X_l hst9.size
      replace Y_0 := cell_later hst9 Y_0
      replace Y_1 := cell_later hst9 Y_1
      replace Y_2 := cell_later hst9 Y_2
      replace Y_3 := cell_later hst9 Y_3
      replace Y_4 := cell_later hst9 Y_4
      replace Y_5 := cell_later hst9 Y_5
      replace Y_6 := cell_later hst9 Y_6
      replace Y_7 := cell_later hst9 Y_7
      replace Y_8 := cell_later hst9 Y_8
      replace Y_9 := cell_later hst9 Y_9
      replace Y_10 := cell_later hst9 Y_10
      replace Y_l := Nat.lt_of_lt_of_le Y_l hst9.size
      replace hS := hS.later hst9
      replace k1 := k1.later hst9
      clear hst9
      clear hc9 hb8
      have hSz : ∀ W, CellsAt W a2 (cel mq) → SIn W ms mq a2 := fun W g => ⟨by omega, by omega, g, H_hkz.out, by omega⟩
      have H_hSz := Box.mk hSz
      clear hSz
      go_wp2_with fail
      with_reducible refine (H_hzt.out _ _ _ (H_hSz.out _ (k2.alloc _)) (by repeat' (first | with_reducible exact hb9 | with_reducible refine Below.drew ?_ | with_reducible refine below_drewN ?_ _ | with_reducible refine Below.alloc ?_ (by have := hb9.size; first | (simp; done) | (simp; omega) | omega) _ | with_reducible refine Below.setCell ?_ (by first | (simp; done) | (simp; omega) | omega) _))).mono ?_
      rintro e w10 ⟨rfl, hc10⟩
      have hb10 : Below w.heap.size w w10 := bchain (by repeat' (first | with_reducible exact hb9 | with_reducible refine Below.drew ?_ | with_reducible refine below_drewN ?_ _ | with_reducible refine Below.alloc ?_ (by have := hb9.size; first | (simp; done) | (simp; omega) | omega) _ | with_reducible refine Below.setCell ?_ (by first | (simp; done) | (simp; omega) | omega) _)) hc10
      have hst10 : Below w9.heap.size w9 w10 := bchain (by repeat' (first | with_reducible exact Below.refl _ _ | with_reducible refine Below.drew ?_ | with_reducible refine below_drewN ?_ _ | with_reducible refine Below.alloc ?_ (by first | (simp; done) | (simp; omega) | omega) _ | with_reducible refine Below.setCell ?_ (by first | (simp; done) | (simp; omega) | omega) _)) hc10
      replace X_0 := cell_later hst10 X_0
      replace X_1 := cell_later hst10 X_1
      replace X_2 := cell_later hst10 X_2
      replace X_3 := cell_later hst10 X_3
      replace X_4 := cell_later hst10 X_4
      replace X_5 := cell_later hst10 X_5
      replace X_6 := cell_later hst10 X_6
      replace X_7 := cell_later hst10 X_7
      replace X_8 := cell_later hst10 X_8
      replace X_9 := cell_later hst10 X_9
      replace X_10 := cell_later hst10 X_10
      replace X_l := Nat.lt_of_lt_of_le X_l hst10.size
      replace Y_0 := cell_later hst10 Y_0
      replace Y_1 := cell_later hst10 Y_1
      replace Y_2 := cell_later hst10 Y_2
      replace Y_3 := cell_later hst10 Y_3
      replace Y_4 := cell_later hst10 Y_4
      replace Y_5 := cell_later hst10 Y_5
      replace Y_6 := cell_later hst10 Y_6
      replace Y_7 := cell_later hst10 Y_7
      replace Y_8 := cell_later hst10 Y_8
      replace Y_9 := cell_later hst10 Y_9
      replace Y_10 := cell_later hst10 Y_10
      replace Y_l := Nat.lt_of_lt_of_le Y_l hst10.size
      have D_0 : w10.cell? ⟨w9.heap.size, 0, none⟩ = some (.int .i64 m0) := (hc10.cell (p := ⟨w9.heap.size, 0, none⟩) (by first | (simp; done) | (simp; omega))).trans (by first | (simp; done) | go_simp)
      have D_1 : w10.cell? ⟨w9.heap.size, 1, none⟩ = some (.int .i64 m1) := (hc10.cell (p := ⟨w9.heap.size, 1, none⟩) (by first | (simp; done) | (simp; omega))).trans (by first | (simp; done) | go_simp)
      have D_2 : w10.cell? ⟨w9.heap.size, 2, none⟩ = some (.int .i64 m2) := (hc10.cell (p := ⟨w9.heap.size, 2, none⟩) (by first | (simp; done) | (simp; omega))).trans (by first | (simp; done) | go_simp)
      have D_3 : w10.cell? ⟨w9.heap.size, 3, none⟩ = some (.int .i64 m3) := (hc10.cell (p := ⟨w9.heap.size, 3, none⟩) (by first | (simp; done) | (simp; omega))).trans (by first | (simp; done) | go_simp)
      have D_4 : w10.cell? ⟨w9.heap.size, 4, none⟩ = some (.int .i64 m4) := (hc10.cell (p := ⟨w9.heap.size, 4, none⟩) (by first | (simp; done) | (simp; omega))).trans (by first | (simp; done) | go_simp)
      have D_5 : w10.cell? ⟨w9.heap.size, 5, none⟩ = some (.int .i64 m5) := (hc10.cell (p := ⟨w9.heap.size, 5, none⟩) (by first | (simp; done) | (simp; omega))).trans (by first | (simp; done) | go_simp)
      have D_6 : w10.cell? ⟨w9.heap.size, 6, none⟩ = some (.int .i64 m6) := (hc10.cell (p := ⟨w9.heap.size, 6, none⟩) (by first | (simp; done) | (simp; omega))).trans (by first | (simp; done) | go_simp)
      have D_7 : w10.cell? ⟨w9.heap.size, 7, none⟩ = some (.int .i64 m7) := (hc10.cell (p := ⟨w9.heap.size, 7, none⟩) (by first | (simp; done) | (simp; omega))).trans (by first | (simp; done) | go_simp)
      have D_8 : w10.cell? ⟨w9.heap.size, 8, none⟩ = some (.int .i64 m8) := (hc10.cell (p := ⟨w9.heap.size, 8, none⟩) (by first | (simp; done) | (simp; omega))).trans (by first | (simp; done) | go_simp)
      have D_9 : w10.cell? ⟨w9.heap.size, 9, none⟩ = some (.int .u32 ms) := (hc10.cell (p := ⟨w9.heap.size, 9, none⟩) (by first | (simp; done) | (simp; omega))).trans (by first | (simp; done) | go_simp)
      have D_10 : w10.cell? ⟨w9.heap.size, 10, none⟩ = some (.slice a2 mq.length c2) := (hc10.cell (p := ⟨w9.heap.size, 10, none⟩) (by first | (simp; done) | (simp; omega))).trans (by first | (simp; done) | go_simp)
      have D_l : w9.heap.size < w10.heap.size := Nat.lt_of_lt_of_le (by first | (simp; done) | (simp; omega)) hc10.size
      replace hS := hS.later hst10
      replace k1 := k1.later hst10
      replace k2 := k2.later hst10
      clear hst10
      clear hc10 hb9
      go_wp2_with fail
      with_reducible refine (H_hzc.out _ _ _ (H_hSz.out _ k2)).mono ?_
      rintro e w11 ⟨rfl, hc11⟩
      have hb11 : Below w.heap.size w w11 := bchain (by repeat' (first | with_reducible exact hb10 | with_reducible refine Below.drew ?_ | with_reducible refine below_drewN ?_ _ | with_reducible refine Below.alloc ?_ (by have := hb10.size; first | (simp; done) | (simp; omega) | omega) _ | with_reducible refine Below.setCell ?_ (by first | (simp; done) | (simp; omega) | omega) _)) hc11
      have hst11 : Below w10.heap.size w10 w11 := bchain (by repeat' (first | with_reducible exact Below.refl _ _ | with_reducible refine Below.drew ?_ | with_reducible refine below_drewN ?_ _ | with_reducible refine Below.alloc ?_ (by first | (simp; done) | (simp; omega) | omega) _ | with_reducible refine Below.setCell ?_ (by first | (simp; done) | (simp; omega) | omega) _)) hc11
      replace X_0 := cell_later hst11 X_0
      replace X_1 := cell_later hst11 X_1
      replace X_2 := cell_later hst11 X_2
      replace X_3 := cell_later hst11 X_3
      replace X_4 := cell_later hst11 X_4
      replace X_5 := cell_later hst11 X_5
      replace X_6 := cell_later hst11 X_6
      replace X_7 := cell_later hst11 X_7
      replace X_8 := cell_later hst11 X_8
      replace X_9 := cell_later hst11 X_9
      replace X_10 := cell_later hst11 X_10
      replace X_l := Nat.lt_of_lt_of_le X_l hst11.size
      replace Y_0 := cell_later hst11 Y_0
      replace Y_1 := cell_later hst11 Y_1
      replace Y_2 := cell_later hst11 Y_2
      replace Y_3 := cell_later hst11 Y_3
      replace Y_4 := cell_later hst11 Y_4
      replace Y_5 := cell_later hst11 Y_5
      replace Y_6 := cell_later hst11 Y_6
      replace Y_7 := cell_later hst11 Y_7
      replace Y_8 := cell_later hst11 Y_8
      replace Y_9 := cell_later hst11 Y_9
      replace Y_10 := cell_later hst11 Y_10
      replace Y_l := Nat.lt_of_lt_of_le Y_l hst11.size
      replace D_0 := cell_later hst11 D_0
      replace D_1 := cell_later hst11 D_1
      replace D_2 := cell_later hst11 D_2
      replace D_3 := cell_later hst11 D_3
      replace D_4 := cell_later hst11 D_4
      replace D_5 := cell_later hst11 D_5
      replace D_6 := cell_later hst11 D_6
      replace D_7 := cell_later hst11 D_7
      replace D_8 := cell_later hst11 D_8
      replace D_9 := cell_later hst11 D_9
      replace D_10 := cell_later hst11 D_10
      replace D_l := Nat.lt_of_lt_of_le D_l hst11.size
      replace hS := hS.later hst11
      replace k1 := k1.later hst11
      replace k2 := k2.later hst11
      clear hst11
      clear hc11 hb10
      go_wp2_with fail
      go_ret
      exact ⟨rfl, (by repeat' (first | with_reducible exact hb11 | with_reducible refine Below.drew ?_ | with_reducible refine below_drewN ?_ _ | with_reducible refine Below.alloc ?_ (by have := hb11.size; first | (simp; done) | (simp; omega) | omega) _ | with_reducible refine Below.setCell ?_ (by first | (simp; done) | (simp; omega) | omega) _))⟩
    · rcases hme2 with rfl | ⟨rfl, h1000⟩
      · skip
        go_wp2_with fail
        with_reducible refine (H_w4.out _ (by repeat' (first | with_reducible exact hb8 | with_reducible refine Below.drew ?_ | with_reducible refine below_drewN ?_ _ | with_reducible refine Below.alloc ?_ (by have := hb8.size; first | (simp; done) | (simp; omega) | omega) _ | with_reducible refine Below.setCell ?_ (by first | (simp; done) | (simp; omega) | omega) _))).mono ?_
        rintro e w9 ⟨⟨a2, c2, rfl, k2⟩, hc9⟩
        have hb9 : Below w.heap.size w w9 := bchain (by repeat' (first | with_reducible exact hb8 | with_reducible refine Below.drew ?_ | with_reducible refine below_drewN ?_ _ | with_reducible refine Below.alloc ?_ (by have := hb8.size; first | (simp; done) | (simp; omega) | omega) _ | with_reducible refine Below.setCell ?_ (by first | (simp; done) | (simp; omega) | omega) _)) hc9
        have hst9 : Below w8.heap.size w8 w9 := bchain (by repeat' (first | with_reducible exact Below.refl _ _ | with_reducible refine Below.drew ?_ | with_reducible refine below_drewN ?_ _ | with_reducible refine Below.alloc ?_ (by first | (simp; done) | (simp; omega) | omega) _ | with_reducible refine Below.setCell ?_ (by first | (simp; done) | (simp; omega) | omega) _)) hc9
        replace X_0 := cell_later hst9 X_0
        replace X_1 := cell_later hst9 X_1
        replace X_2 := cell_later hst9 X_2
        replace X_3 := cell_later hst9 X_3
        replace X_4 := cell_later hst9 X_4
        replace X_5 := cell_later hst9 X_5
        replace X_6 := cell_later hst9 X_6
        replace X_7 := cell_later hst9 X_7
        replace X_8 := cell_later hst9 X_8
        replace X_9 := cell_later hst9 X_9
        replace X_10 := cell_later hst9 X_10
        replace X_l := Nat.lt_of_lt_of_le X_l hst9.size
        replace Y_0 := cell_later hst9 Y_0
        replace Y_1 := cell_later hst9 Y_1
        replace Y_2 := cell_later hst9 Y_2
        replace Y_3 := cell_later hst9 Y_3
        replace Y_4 := cell_later hst9 Y_4
        replace Y_5 := cell_later hst9 Y_5
        replace Y_6 := cell_later hst9 Y_6
        replace Y_7 := cell_later hst9 Y_7
        replace Y_8 := cell_later hst9 Y_8
        replace Y_9 := cell_later hst9 Y_9
        replace Y_10 := cell_later hst9 Y_10
        replace Y_l := Nat.lt_of_lt_of_le Y_l hst9.size
        replace hS := hS.later hst9
        replace k1 := k1.later hst9
        clear hst9
        clear hc9 hb8
        go_wp2_with fail
        go_ret
        exact ⟨rfl, (by repeat' (first | with_reducible exact hb9 | with_reducible refine Below.drew ?_ | with_reducible refine below_drewN ?_ _ | with_reducible refine Below.alloc ?_ (by have := hb9.size; first | (simp; done) | (simp; omega) | omega) _ | with_reducible refine Below.setCell ?_ (by first | (simp; done) | (simp; omega) | omega) _))⟩
      · have h1000' : (1000 : Int) < (b.size : Int) := by omega
        go_wp2_with fail
        with_reducible refine (H_w4.out _ (by repeat' (first | with_reducible exact hb8 | with_reducible refine Below.drew ?_ | with_reducible refine below_drewN ?_ _ | with_reducible refine Below.alloc ?_ (by have := hb8.size; first | (simp; done) | (simp; omega) | omega) _ | with_reducible refine Below.setCell ?_ (by first | (simp; done) | (simp; omega) | omega) _))).mono ?_
        rintro e w9 ⟨⟨a2, c2, rfl, k2⟩, hc9⟩
        have hb9 : Below w.heap.size w w9 := bchain (by repeat' (first | with_reducible exact hb8 | with_reducible refine Below.drew ?_ | with_reducible refine below_drewN ?_ _ | with_reducible refine Below.alloc ?_ (by have := hb8.size; first | (simp; done) | (simp; omega) | omega) _ | with_reducible refine Below.setCell ?_ (by first | (simp; done) | (simp; omega) | omega) _)) hc9
        have hst9 : Below w8.heap.size w8 w9 := bchain (by repeat' (first | with_reducible exact Below.refl _ _ | with_reducible refine Below.drew ?_ | with_reducible refine below_drewN ?_ _ | with_reducible refine Below.alloc ?_ (by first | (simp; done) | (simp; omega) | omega) _ | with_reducible refine Below.setCell ?_ (by first | (simp; done) | (simp; omega) | omega) _)) hc9
        replace X_0 := cell_later hst9 X_0
        replace X_1 := cell_later hst9 X_1
        replace X_2 := cell_later hst9 X_2
        replace X_3 := cell_later hst9 X_3
        replace X_4 := cell_later hst9 X_4
        replace X_5 := cell_later hst9 X_5
        replace X_6 := cell_later hst9 X_6
        replace X_7 := cell_later hst9 X_7
        replace X_8 := cell_later hst9 X_8
        replace X_9 := cell_later hst9 X_9
        replace X_10 := cell_later hst9 X_10
        replace X_l := Nat.lt_of_lt_of_le X_l hst9.size
        replace Y_0 := cell_later hst9 Y_0
        replace Y_1 := cell_later hst9 Y_1
        replace Y_2 := cell_later hst9 Y_2
        replace Y_3 := cell_later hst9 Y_3
        replace Y_4 := cell_later hst9 Y_4
        replace Y_5 := cell_later hst9 Y_5
        replace Y_6 := cell_later hst9 Y_6
        replace Y_7 := cell_later hst9 Y_7
        replace Y_8 := cell_later hst9 Y_8
        replace Y_9 := cell_later hst9 Y_9
        replace Y_10 := cell_later hst9 Y_10
        replace Y_l := Nat.lt_of_lt_of_le Y_l hst9.size
        replace hS := hS.later hst9
        replace k1 := k1.later hst9
        clear hst9
        clear hc9 hb8
        go_wp2_with fail
        go_ret
        exact ⟨rfl, (by repeat' (first | with_reducible exact hb9 | with_reducible refine Below.drew ?_ | with_reducible refine below_drewN ?_ _ | with_reducible refine Below.alloc ?_ (by have := hb9.size; first | (simp; done) | (simp; omega) | omega) _ | with_reducible refine Below.setCell ?_ (by first | (simp; done) | (simp; omega) | omega) _))⟩
  · have htr : textR E (⟨l0, l1, l2, l3, l4, l5, l6, l7, l8⟩ : Lim) s ps = (⟨#[]⟩, E) := by unfold textR; rw [if_neg h0]
    have b1 : (E == 0) = false := beq_eq_false_iff_ne.2 h0
    simp only [htr] at w1
    have H_hk := Box.mk hk
    have H_w1 := Box.mk w1
    have H_w4 := Box.mk w4
    have H_w7 := Box.mk w7
    have H_w8 := Box.mk w8
    have H_hE2 := Box.mk hE2
    have H_hP := Box.mk hP
    have H_htab := Box.mk htab
    have H_hE := Box.mk hE
    have H_hml := Box.mk hml
    have H_hz := Box.mk hz
    have H_htr := Box.mk htr
    clear hk w1 w4 w7 w8 hE2 hP htab hE hml hz htr
    go_enter Tryd.func3, Tryd.ntmps3
    have hb0 := Below.refl w.heap.size w
    go_wp2_with fail
    with_reducible refine (alive_any _ (fun W hb => H_htab.out W (bchain ((Below.refl _ w).alloc (Nat.le_refl _) _) hb))).mono ?_
    rintro e w1 ⟨rfl, hc1⟩
    have hb1 : Below w.heap.size w w1 := bchain (by repeat' (first | with_reducible exact hb0 | with_reducible refine Below.drew ?_ | with_reducible refine below_drewN ?_ _ | with_reducible refine Below.alloc ?_ (by have := hb0.size; first | (simp; done) | (simp; omega) | omega) _ | with_reducible refine Below.setCell ?_ (by first | (simp; done) | (simp; omega) | omega) _)) hc1
    have hst1 : Below w.heap.size w w1 := bchain (by repeat' (first | with_reducible exact Below.refl _ _ | with_reducible refine Below.drew ?_ | with_reducible refine below_drewN ?_ _ | with_reducible refine Below.alloc ?_ (by first | (simp; done) | (simp; omega) | omega) _ | with_reducible refine Below.setCell ?_ (by first | (simp; done) | (simp; omega) | omega) _)) hc1
    have X_0 : w1.cell? ⟨w.heap.size, 0, none⟩ = some (.int .i64 l0) := (hc1.cell (p := ⟨w.heap.size, 0, none⟩) (by first | (simp; done) | (simp; omega))).trans (by first | (simp; done) | go_simp)
    have X_1 : w1.cell? ⟨w.heap.size, 1, none⟩ = some (.int .i64 l1) := (hc1.cell (p := ⟨w.heap.size, 1, none⟩) (by first | (simp; done) | (simp; omega))).trans (by first | (simp; done) | go_simp)
    have X_2 : w1.cell? ⟨w.heap.size, 2, none⟩ = some (.int .i64 l2) := (hc1.cell (p := ⟨w.heap.size, 2, none⟩) (by first | (simp; done) | (simp; omega))).trans (by first | (simp; done) | go_simp)
    have X_3 : w1.cell? ⟨w.heap.size, 3, none⟩ = some (.int .i64 l3) := (hc1.cell (p := ⟨w.heap.size, 3, none⟩) (by first | (simp; done) | (simp; omega))).trans (by first | (simp; done) | go_simp)
    have X_4 : w1.cell? ⟨w.heap.size, 4, none⟩ = some (.int .i64 l4) := (hc1.cell (p := ⟨w.heap.size, 4, none⟩) (by first | (simp; done) | (simp; omega))).trans (by first | (simp; done) | go_simp)
    have X_5 : w1.cell? ⟨w.heap.size, 5, none⟩ = some (.int .i64 l5) := (hc1.cell (p := ⟨w.heap.size, 5, none⟩) (by first | (simp; done) | (simp; omega))).trans (by first | (simp; done) | go_simp)
    have X_6 : w1.cell? ⟨w.heap.size, 6, none⟩ = some (.int .i64 l6) := (hc1.cell (p := ⟨w.heap.size, 6, none⟩) (by first | (simp; done) | (simp; omega))).trans (by first | (simp; done) | go_simp)
    have X_7 : w1.cell? ⟨w.heap.size, 7, none⟩ = some (.int .i64 l7) := (hc1.cell (p := ⟨w.heap.size, 7, none⟩) (by first | (simp; done) | (simp; omega))).trans (by first | (simp; done) | go_simp)
    have X_8 : w1.cell? ⟨w.heap.size, 8, none⟩ = some (.int .i64 l8) := (hc1.cell (p := ⟨w.heap.size, 8, none⟩) (by first | (simp; done) | (simp; omega))).trans (by first | (simp; done) | go_simp)
    have X_9 : w1.cell? ⟨w.heap.size, 9, none⟩ = some (.int .u32 s) := (hc1.cell (p := ⟨w.heap.size, 9, none⟩) (by first | (simp; done) | (simp; omega))).trans (by first | (simp; done) | go_simp)
    have X_10 : w1.cell? ⟨w.heap.size, 10, none⟩ = some (.slice a ps.length c) := (hc1.cell (p := ⟨w.heap.size, 10, none⟩) (by first | (simp; done) | (simp; omega))).trans (by first | (simp; done) | go_simp)
    have X_l : w.heap.size < w1.heap.size := Nat.lt_of_lt_of_le (by first | (simp; done) | (simp; omega)) hc1.size
    replace hc := hc.later hst1
    clear hst1
    clear hc1 hb0
    go_wp2_with fail
    with_reducible refine (hgr _ hc).mono ?_
    rintro e w2 ⟨⟨g, rfl, hg⟩, hc2⟩
    have hb2 : Below w.heap.size w w2 := bchain (by repeat' (first | with_reducible exact hb1 | with_reducible refine Below.drew ?_ | with_reducible refine below_drewN ?_ _ | with_reducible refine Below.alloc ?_ (by have := hb1.size; first | (simp; done) | (simp; omega) | omega) _ | with_reducible refine Below.setCell ?_ (by first | (simp; done) | (simp; omega) | omega) _)) hc2
    have hst2 : Below w1.heap.size w1 w2 := bchain (by repeat' (first | with_reducible exact Below.refl _ _ | with_reducible refine Below.drew ?_ | with_reducible refine below_drewN ?_ _ | with_reducible refine Below.alloc ?_ (by first | (simp; done) | (simp; omega) | omega) _ | with_reducible refine Below.setCell ?_ (by first | (simp; done) | (simp; omega) | omega) _)) hc2
    replace X_0 := cell_later hst2 X_0
    replace X_1 := cell_later hst2 X_1
    replace X_2 := cell_later hst2 X_2
    replace X_3 := cell_later hst2 X_3
    replace X_4 := cell_later hst2 X_4
    replace X_5 := cell_later hst2 X_5
    replace X_6 := cell_later hst2 X_6
    replace X_7 := cell_later hst2 X_7
    replace X_8 := cell_later hst2 X_8
    replace X_9 := cell_later hst2 X_9
    replace X_10 := cell_later hst2 X_10
    replace X_l := Nat.lt_of_lt_of_le X_l hst2.size
    replace hc := hc.later hst2
    clear hst2
    clear hc2 hb1
    cases g with
    | true =>
      go_wp2_with fail
      go_ret
      exact ⟨rfl, (by repeat' (first | with_reducible exact hb2 | with_reducible refine Below.drew ?_ | with_reducible refine below_drewN ?_ _ | with_reducible refine Below.alloc ?_ (by have := hb2.size; first | (simp; done) | (simp; omega) | omega) _ | with_reducible refine Below.setCell ?_ (by first | (simp; done) | (simp; omega) | omega) _))⟩
    | false =>
    obtain ⟨hl30, _⟩ := hg rfl
    have hS : SIn w2 s ps a := ⟨s0, s4, hc, H_hk.out, by omega⟩
    clear hg
    go_wp2_with fail
    with_reducible refine (H_w1.out _ hS (by repeat' (first | with_reducible exact hb2 | with_reducible refine Below.drew ?_ | with_reducible refine below_drewN ?_ _ | with_reducible refine Below.alloc ?_ (by have := hb2.size; first | (simp; done) | (simp; omega) | omega) _ | with_reducible refine Below.setCell ?_ (by first | (simp; done) | (simp; omega) | omega) _))).mono ?_
    rintro e w3 ⟨rfl, hc3⟩
    have hb3 : Below w.heap.size w w3 := bchain (by repeat' (first | with_reducible exact hb2 | with_reducible refine Below.drew ?_ | with_reducible refine below_drewN ?_ _ | with_reducible refine Below.alloc ?_ (by have := hb2.size; first | (simp; done) | (simp; omega) | omega) _ | with_reducible refine Below.setCell ?_ (by first | (simp; done) | (simp; omega) | omega) _)) hc3
    have hst3 : Below w2.heap.size w2 w3 := bchain (by repeat' (first | with_reducible exact Below.refl _ _ | with_reducible refine Below.drew ?_ | with_reducible refine below_drewN ?_ _ | with_reducible refine Below.alloc ?_ (by first | (simp; done) | (simp; omega) | omega) _ | with_reducible refine Below.setCell ?_ (by first | (simp; done) | (simp; omega) | omega) _)) hc3
    replace X_0 := cell_later hst3 X_0
    replace X_1 := cell_later hst3 X_1
    replace X_2 := cell_later hst3 X_2
    replace X_3 := cell_later hst3 X_3
    replace X_4 := cell_later hst3 X_4
    replace X_5 := cell_later hst3 X_5
    replace X_6 := cell_later hst3 X_6
    replace X_7 := cell_later hst3 X_7
    replace X_8 := cell_later hst3 X_8
    replace X_9 := cell_later hst3 X_9
    replace X_10 := cell_later hst3 X_10
    replace X_l := Nat.lt_of_lt_of_le X_l hst3.size
    replace hS := hS.later hst3
    clear hst3
    clear hc3 hb2
    go_wp2_with fail
    with_reducible refine (H_w7.out _ hS).mono ?_
    rintro e w4 ⟨rfl, hc4⟩
    have hb4 : Below w.heap.size w w4 := bchain (by repeat' (first | with_reducible exact hb3 | with_reducible refine Below.drew ?_ | with_reducible refine below_drewN ?_ _ | with_reducible refine Below.alloc ?_ (by have := hb3.size; first | (simp; done) | (simp; omega) | omega) _ | with_reducible refine Below.setCell ?_ (by first | (simp; done) | (simp; omega) | omega) _)) hc4
    have hst4 : Below w3.heap.size w3 w4 := bchain (by repeat' (first | with_reducible exact Below.refl _ _ | with_reducible refine Below.drew ?_ | with_reducible refine below_drewN ?_ _ | with_reducible refine Below.alloc ?_ (by first | (simp; done) | (simp; omega) | omega) _ | with_reducible refine Below.setCell ?_ (by first | (simp; done) | (simp; omega) | omega) _)) hc4
    replace X_0 := cell_later hst4 X_0
    replace X_1 := cell_later hst4 X_1
    replace X_2 := cell_later hst4 X_2
    replace X_3 := cell_later hst4 X_3
    replace X_4 := cell_later hst4 X_4
    replace X_5 := cell_later hst4 X_5
    replace X_6 := cell_later hst4 X_6
    replace X_7 := cell_later hst4 X_7
    replace X_8 := cell_later hst4 X_8
    replace X_9 := cell_later hst4 X_9
    replace X_10 := cell_later hst4 X_10
    replace X_l := Nat.lt_of_lt_of_le X_l hst4.size
    replace hS := hS.later hst4
    clear hst4
    clear hc4 hb3
    go_wp2_with fail
    with_reducible refine (H_w8.out _ hS).mono ?_
    rintro e w5 ⟨rfl, hc5⟩
    have hb5 : Below w.heap.size w w5 := bchain (by repeat' (first | with_reducible exact hb4 | with_reducible refine Below.drew ?_ | with_reducible refine below_drewN ?_ _ | with_reducible refine Below.alloc ?_ (by have := hb4.size; first | (simp; done) | (simp; omega) | omega) _ | with_reducible refine Below.setCell ?_ (by first | (simp; done) | (simp; omega) | omega) _)) hc5
    have hst5 : Below w4.heap.size w4 w5 := bchain (by repeat' (first | with_reducible exact Below.refl _ _ | with_reducible refine Below.drew ?_ | with_reducible refine below_drewN ?_ _ | with_reducible refine Below.alloc ?_ (by first | (simp; done) | (simp; omega) | omega) _ | with_reducible refine Below.setCell ?_ (by first | (simp; done) | (simp; omega) | omega) _)) hc5
    replace X_0 := cell_later hst5 X_0
    replace X_1 := cell_later hst5 X_1
    replace X_2 := cell_later hst5 X_2
    replace X_3 := cell_later hst5 X_3
    replace X_4 := cell_later hst5 X_4
    replace X_5 := cell_later hst5 X_5
    replace X_6 := cell_later hst5 X_6
    replace X_7 := cell_later hst5 X_7
    replace X_8 := cell_later hst5 X_8
    replace X_9 := cell_later hst5 X_9
    replace X_10 := cell_later hst5 X_10
    replace X_l := Nat.lt_of_lt_of_le X_l hst5.size
    replace hS := hS.later hst5
    clear hst5
    clear hc5 hb4
    rcases H_hz.out with ⟨hme, hcz, htz, hkz⟩ | ⟨hme, hme2⟩
    · subst hme
      have hzt := fun a2 c2 W (g : SIn W ms mq a2) (hb : Below w.heap.size w W) => Text_any m0 m1 m2 m3 m4 m5 m6 m7 m8 ms mq a2 c2 W g 0 hcz.err (fun W' hb' => H_htab.out W' (bchain hb hb'))
      have hzc : ∀ a2 c2 W, SIn W ms mq a2 → Calls Tryd.prog 11 #[.agg #[.int .i64 m0, .int .i64 m1, .int .i64 m2, .int .i64 m3, .int .i64 m4, .int .i64 m5, .int .i64 m6, .int .i64 m7, .int .i64 m8, .int .u32 ms, .slice a2 mq.length c2]] W fun e w' => e = .returned (.int .i64 0) ∧ Below W.heap.size W w' := fun a2 c2 W g => by
        have := Check_any m0 m1 m2 m3 m4 m5 m6 m7 m8 ms mq a2 c2 W g.cells g.s0 g.s4 g.keys g.ml
        rwa [hcz.err] at this
      have htr : textR 0 ⟨m0, m1, m2, m3, m4, m5, m6, m7, m8⟩ ms mq = (b, 0) := by
        unfold textR; rw [if_pos rfl, htz]
      unfold RetSI at hzt
      simp only [htr] at hzt
      have hz1 := hcz.s1
      have hz5 := hcz.s5
      have hzl := hcz.len
      have hbb : (b.toList == b.toList) = true := seqB_self b
      have H_hcz := Box.mk hcz
      have H_htz := Box.mk htz
      have H_hzt := Box.mk hzt
      have H_hzc := Box.mk hzc
      have H_htr := Box.mk htr
      have H_hkz := Box.mk hkz
      clear hcz htz hzt hzc htr hkz
      go_wp2_with fail
      with_reducible refine (H_w4.out _ (by repeat' (first | with_reducible exact hb5 | with_reducible refine Below.drew ?_ | with_reducible refine below_drewN ?_ _ | with_reducible refine Below.alloc ?_ (by have := hb5.size; first | (simp; done) | (simp; omega) | omega) _ | with_reducible refine Below.setCell ?_ (by first | (simp; done) | (simp; omega) | omega) _))).mono ?_
      rintro e w6 ⟨⟨a2, c2, rfl, k2⟩, hc6⟩
      have hb6 : Below w.heap.size w w6 := bchain (by repeat' (first | with_reducible exact hb5 | with_reducible refine Below.drew ?_ | with_reducible refine below_drewN ?_ _ | with_reducible refine Below.alloc ?_ (by have := hb5.size; first | (simp; done) | (simp; omega) | omega) _ | with_reducible refine Below.setCell ?_ (by first | (simp; done) | (simp; omega) | omega) _)) hc6
      have hst6 : Below w5.heap.size w5 w6 := bchain (by repeat' (first | with_reducible exact Below.refl _ _ | with_reducible refine Below.drew ?_ | with_reducible refine below_drewN ?_ _ | with_reducible refine Below.alloc ?_ (by first | (simp; done) | (simp; omega) | omega) _ | with_reducible refine Below.setCell ?_ (by first | (simp; done) | (simp; omega) | omega) _)) hc6
      replace X_0 := cell_later hst6 X_0
      replace X_1 := cell_later hst6 X_1
      replace X_2 := cell_later hst6 X_2
      replace X_3 := cell_later hst6 X_3
      replace X_4 := cell_later hst6 X_4
      replace X_5 := cell_later hst6 X_5
      replace X_6 := cell_later hst6 X_6
      replace X_7 := cell_later hst6 X_7
      replace X_8 := cell_later hst6 X_8
      replace X_9 := cell_later hst6 X_9
      replace X_10 := cell_later hst6 X_10
      replace X_l := Nat.lt_of_lt_of_le X_l hst6.size
      replace hS := hS.later hst6
      clear hst6
      clear hc6 hb5
      have hSz : ∀ W, CellsAt W a2 (cel mq) → SIn W ms mq a2 := fun W g => ⟨by omega, by omega, g, H_hkz.out, by omega⟩
      have H_hSz := Box.mk hSz
      clear hSz
      go_wp2_with fail
      with_reducible refine (H_hzt.out _ _ _ (H_hSz.out _ (k2.alloc _)) (by repeat' (first | with_reducible exact hb6 | with_reducible refine Below.drew ?_ | with_reducible refine below_drewN ?_ _ | with_reducible refine Below.alloc ?_ (by have := hb6.size; first | (simp; done) | (simp; omega) | omega) _ | with_reducible refine Below.setCell ?_ (by first | (simp; done) | (simp; omega) | omega) _))).mono ?_
      rintro e w7 ⟨rfl, hc7⟩
      have hb7 : Below w.heap.size w w7 := bchain (by repeat' (first | with_reducible exact hb6 | with_reducible refine Below.drew ?_ | with_reducible refine below_drewN ?_ _ | with_reducible refine Below.alloc ?_ (by have := hb6.size; first | (simp; done) | (simp; omega) | omega) _ | with_reducible refine Below.setCell ?_ (by first | (simp; done) | (simp; omega) | omega) _)) hc7
      have hst7 : Below w6.heap.size w6 w7 := bchain (by repeat' (first | with_reducible exact Below.refl _ _ | with_reducible refine Below.drew ?_ | with_reducible refine below_drewN ?_ _ | with_reducible refine Below.alloc ?_ (by first | (simp; done) | (simp; omega) | omega) _ | with_reducible refine Below.setCell ?_ (by first | (simp; done) | (simp; omega) | omega) _)) hc7
      replace X_0 := cell_later hst7 X_0
      replace X_1 := cell_later hst7 X_1
      replace X_2 := cell_later hst7 X_2
      replace X_3 := cell_later hst7 X_3
      replace X_4 := cell_later hst7 X_4
      replace X_5 := cell_later hst7 X_5
      replace X_6 := cell_later hst7 X_6
      replace X_7 := cell_later hst7 X_7
      replace X_8 := cell_later hst7 X_8
      replace X_9 := cell_later hst7 X_9
      replace X_10 := cell_later hst7 X_10
      replace X_l := Nat.lt_of_lt_of_le X_l hst7.size
      have D_0 : w7.cell? ⟨w6.heap.size, 0, none⟩ = some (.int .i64 m0) := (hc7.cell (p := ⟨w6.heap.size, 0, none⟩) (by first | (simp; done) | (simp; omega))).trans (by first | (simp; done) | go_simp)
      have D_1 : w7.cell? ⟨w6.heap.size, 1, none⟩ = some (.int .i64 m1) := (hc7.cell (p := ⟨w6.heap.size, 1, none⟩) (by first | (simp; done) | (simp; omega))).trans (by first | (simp; done) | go_simp)
      have D_2 : w7.cell? ⟨w6.heap.size, 2, none⟩ = some (.int .i64 m2) := (hc7.cell (p := ⟨w6.heap.size, 2, none⟩) (by first | (simp; done) | (simp; omega))).trans (by first | (simp; done) | go_simp)
      have D_3 : w7.cell? ⟨w6.heap.size, 3, none⟩ = some (.int .i64 m3) := (hc7.cell (p := ⟨w6.heap.size, 3, none⟩) (by first | (simp; done) | (simp; omega))).trans (by first | (simp; done) | go_simp)
      have D_4 : w7.cell? ⟨w6.heap.size, 4, none⟩ = some (.int .i64 m4) := (hc7.cell (p := ⟨w6.heap.size, 4, none⟩) (by first | (simp; done) | (simp; omega))).trans (by first | (simp; done) | go_simp)
      have D_5 : w7.cell? ⟨w6.heap.size, 5, none⟩ = some (.int .i64 m5) := (hc7.cell (p := ⟨w6.heap.size, 5, none⟩) (by first | (simp; done) | (simp; omega))).trans (by first | (simp; done) | go_simp)
      have D_6 : w7.cell? ⟨w6.heap.size, 6, none⟩ = some (.int .i64 m6) := (hc7.cell (p := ⟨w6.heap.size, 6, none⟩) (by first | (simp; done) | (simp; omega))).trans (by first | (simp; done) | go_simp)
      have D_7 : w7.cell? ⟨w6.heap.size, 7, none⟩ = some (.int .i64 m7) := (hc7.cell (p := ⟨w6.heap.size, 7, none⟩) (by first | (simp; done) | (simp; omega))).trans (by first | (simp; done) | go_simp)
      have D_8 : w7.cell? ⟨w6.heap.size, 8, none⟩ = some (.int .i64 m8) := (hc7.cell (p := ⟨w6.heap.size, 8, none⟩) (by first | (simp; done) | (simp; omega))).trans (by first | (simp; done) | go_simp)
      have D_9 : w7.cell? ⟨w6.heap.size, 9, none⟩ = some (.int .u32 ms) := (hc7.cell (p := ⟨w6.heap.size, 9, none⟩) (by first | (simp; done) | (simp; omega))).trans (by first | (simp; done) | go_simp)
      have D_10 : w7.cell? ⟨w6.heap.size, 10, none⟩ = some (.slice a2 mq.length c2) := (hc7.cell (p := ⟨w6.heap.size, 10, none⟩) (by first | (simp; done) | (simp; omega))).trans (by first | (simp; done) | go_simp)
      have D_l : w6.heap.size < w7.heap.size := Nat.lt_of_lt_of_le (by first | (simp; done) | (simp; omega)) hc7.size
      replace hS := hS.later hst7
      replace k2 := k2.later hst7
      clear hst7
      clear hc7 hb6
      go_wp2_with fail
      with_reducible refine (H_hzc.out _ _ _ (H_hSz.out _ k2)).mono ?_
      rintro e w8 ⟨rfl, hc8⟩
      have hb8 : Below w.heap.size w w8 := bchain (by repeat' (first | with_reducible exact hb7 | with_reducible refine Below.drew ?_ | with_reducible refine below_drewN ?_ _ | with_reducible refine Below.alloc ?_ (by have := hb7.size; first | (simp; done) | (simp; omega) | omega) _ | with_reducible refine Below.setCell ?_ (by first | (simp; done) | (simp; omega) | omega) _)) hc8
      have hst8 : Below w7.heap.size w7 w8 := bchain (by repeat' (first | with_reducible exact Below.refl _ _ | with_reducible refine Below.drew ?_ | with_reducible refine below_drewN ?_ _ | with_reducible refine Below.alloc ?_ (by first | (simp; done) | (simp; omega) | omega) _ | with_reducible refine Below.setCell ?_ (by first | (simp; done) | (simp; omega) | omega) _)) hc8
      replace X_0 := cell_later hst8 X_0
      replace X_1 := cell_later hst8 X_1
      replace X_2 := cell_later hst8 X_2
      replace X_3 := cell_later hst8 X_3
      replace X_4 := cell_later hst8 X_4
      replace X_5 := cell_later hst8 X_5
      replace X_6 := cell_later hst8 X_6
      replace X_7 := cell_later hst8 X_7
      replace X_8 := cell_later hst8 X_8
      replace X_9 := cell_later hst8 X_9
      replace X_10 := cell_later hst8 X_10
      replace X_l := Nat.lt_of_lt_of_le X_l hst8.size
      replace D_0 := cell_later hst8 D_0
      replace D_1 := cell_later hst8 D_1
      replace D_2 := cell_later hst8 D_2
      replace D_3 := cell_later hst8 D_3
      replace D_4 := cell_later hst8 D_4
      replace D_5 := cell_later hst8 D_5
      replace D_6 := cell_later hst8 D_6
      replace D_7 := cell_later hst8 D_7
      replace D_8 := cell_later hst8 D_8
      replace D_9 := cell_later hst8 D_9
      replace D_10 := cell_later hst8 D_10
      replace D_l := Nat.lt_of_lt_of_le D_l hst8.size
      replace hS := hS.later hst8
      replace k2 := k2.later hst8
      clear hst8
      clear hc8 hb7
      go_wp2_with fail
      go_ret
      exact ⟨rfl, (by repeat' (first | with_reducible exact hb8 | with_reducible refine Below.drew ?_ | with_reducible refine below_drewN ?_ _ | with_reducible refine Below.alloc ?_ (by have := hb8.size; first | (simp; done) | (simp; omega) | omega) _ | with_reducible refine Below.setCell ?_ (by first | (simp; done) | (simp; omega) | omega) _))⟩
    · rcases hme2 with rfl | ⟨rfl, h1000⟩
      · skip
        go_wp2_with fail
        with_reducible refine (H_w4.out _ (by repeat' (first | with_reducible exact hb5 | with_reducible refine Below.drew ?_ | with_reducible refine below_drewN ?_ _ | with_reducible refine Below.alloc ?_ (by have := hb5.size; first | (simp; done) | (simp; omega) | omega) _ | with_reducible refine Below.setCell ?_ (by first | (simp; done) | (simp; omega) | omega) _))).mono ?_
        rintro e w6 ⟨⟨a2, c2, rfl, k2⟩, hc6⟩
        have hb6 : Below w.heap.size w w6 := bchain (by repeat' (first | with_reducible exact hb5 | with_reducible refine Below.drew ?_ | with_reducible refine below_drewN ?_ _ | with_reducible refine Below.alloc ?_ (by have := hb5.size; first | (simp; done) | (simp; omega) | omega) _ | with_reducible refine Below.setCell ?_ (by first | (simp; done) | (simp; omega) | omega) _)) hc6
        have hst6 : Below w5.heap.size w5 w6 := bchain (by repeat' (first | with_reducible exact Below.refl _ _ | with_reducible refine Below.drew ?_ | with_reducible refine below_drewN ?_ _ | with_reducible refine Below.alloc ?_ (by first | (simp; done) | (simp; omega) | omega) _ | with_reducible refine Below.setCell ?_ (by first | (simp; done) | (simp; omega) | omega) _)) hc6
        replace X_0 := cell_later hst6 X_0
        replace X_1 := cell_later hst6 X_1
        replace X_2 := cell_later hst6 X_2
        replace X_3 := cell_later hst6 X_3
        replace X_4 := cell_later hst6 X_4
        replace X_5 := cell_later hst6 X_5
        replace X_6 := cell_later hst6 X_6
        replace X_7 := cell_later hst6 X_7
        replace X_8 := cell_later hst6 X_8
        replace X_9 := cell_later hst6 X_9
        replace X_10 := cell_later hst6 X_10
        replace X_l := Nat.lt_of_lt_of_le X_l hst6.size
        replace hS := hS.later hst6
        clear hst6
        clear hc6 hb5
        go_wp2_with fail
        go_ret
        exact ⟨rfl, (by repeat' (first | with_reducible exact hb6 | with_reducible refine Below.drew ?_ | with_reducible refine below_drewN ?_ _ | with_reducible refine Below.alloc ?_ (by have := hb6.size; first | (simp; done) | (simp; omega) | omega) _ | with_reducible refine Below.setCell ?_ (by first | (simp; done) | (simp; omega) | omega) _))⟩
      · have h1000' : (1000 : Int) < (b.size : Int) := by omega
        go_wp2_with fail
        with_reducible refine (H_w4.out _ (by repeat' (first | with_reducible exact hb5 | with_reducible refine Below.drew ?_ | with_reducible refine below_drewN ?_ _ | with_reducible refine Below.alloc ?_ (by have := hb5.size; first | (simp; done) | (simp; omega) | omega) _ | with_reducible refine Below.setCell ?_ (by first | (simp; done) | (simp; omega) | omega) _))).mono ?_
        rintro e w6 ⟨⟨a2, c2, rfl, k2⟩, hc6⟩
        have hb6 : Below w.heap.size w w6 := bchain (by repeat' (first | with_reducible exact hb5 | with_reducible refine Below.drew ?_ | with_reducible refine below_drewN ?_ _ | with_reducible refine Below.alloc ?_ (by have := hb5.size; first | (simp; done) | (simp; omega) | omega) _ | with_reducible refine Below.setCell ?_ (by first | (simp; done) | (simp; omega) | omega) _)) hc6
        have hst6 : Below w5.heap.size w5 w6 := bchain (by repeat' (first | with_reducible exact Below.refl _ _ | with_reducible refine Below.drew ?_ | with_reducible refine below_drewN ?_ _ | with_reducible refine Below.alloc ?_ (by first | (simp; done) | (simp; omega) | omega) _ | with_reducible refine Below.setCell ?_ (by first | (simp; done) | (simp; omega) | omega) _)) hc6
        replace X_0 := cell_later hst6 X_0
        replace X_1 := cell_later hst6 X_1
        replace X_2 := cell_later hst6 X_2
        replace X_3 := cell_later hst6 X_3
        replace X_4 := cell_later hst6 X_4
        replace X_5 := cell_later hst6 X_5
        replace X_6 := cell_later hst6 X_6
        replace X_7 := cell_later hst6 X_7
        replace X_8 := cell_later hst6 X_8
        replace X_9 := cell_later hst6 X_9
        replace X_10 := cell_later hst6 X_10
        replace X_l := Nat.lt_of_lt_of_le X_l hst6.size
        replace hS := hS.later hst6
        clear hst6
        clear hc6 hb5
        go_wp2_with fail
        go_ret
        exact ⟨rfl, (by repeat' (first | with_reducible exact hb6 | with_reducible refine Below.drew ?_ | with_reducible refine below_drewN ?_ _ | with_reducible refine Below.alloc ?_ (by have := hb6.size; first | (simp; done) | (simp; omega) | omega) _ | with_reducible refine Below.setCell ?_ (by first | (simp; done) | (simp; omega) | omega) _))⟩
theorem back_full (l0 l1 l2 l3 l4 l5 l6 l7 l8 : Int) (s : Int) (ps : Peers) (a : Option Addr) (c : Nat) (b : ByteArray) (w : World) (h : SetIn w s ps a c) (_ : b.size ≤ maxLen) (hL : LaidIn w) :
    Calls Tryd.prog 3 #[.agg #[.int .i64 l0, .int .i64 l1, .int .i64 l2, .int .i64 l3, .int .i64 l4, .int .i64 l5, .int .i64 l6, .int .i64 l7, .int .i64 l8, .int .u32 s, .slice a ps.length c], .string b] w fun e w' =>
      e = .returned (.bool true) ∧ Below w.heap.size w w' := back_walk l0 l1 l2 l3 l4 l5 l6 l7 l8 s ps a c b w h hL.err hL.tab
end Go.Proofs.YthdldmkeoglflaaDoor
