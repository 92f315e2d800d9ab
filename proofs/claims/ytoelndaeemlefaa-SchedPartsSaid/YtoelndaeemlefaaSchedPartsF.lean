/- The law SchedParts, case F of the picks' slice. -/
import Derived.Test.YtoelndaeemlefaaSchedPartsH
namespace Go.Proofs.Ytoelndaeemlefaa
set_option linter.unusedSimpArgs false
set_option linter.unusedVariables false
set_option linter.unnecessarySimpa false
open Go.RowKit



set_option maxRecDepth 100000 in
set_option maxHeartbeats 40000000 in
theorem parts_F (l a : List Int) (la aa : Option Addr) (lc ac : Nat) (pa : Option Addr) (ps : List Int) (k : Nat) (w : World) (hl : CellsAt w la (l.map (Value.int .i64))) (ha : CellsAt w aa (a.map (Value.int .i64))) (hp : CellsAt w pa (ps.map (Value.int .i64))) (hpc : ps.length ≤ k) (hml : l.length ≤ maxLen) (h8 : pkErr l a ps = 0) (hk : k ≤ ps.length) (ad : Addr) (hpa : pa = some ad) (hps : ps.length = 0) :
    Calls Try.prog 7 #[.agg #[.slice la l.length lc, .slice aa a.length ac], .slice pa ps.length k, .int .i64 k] w fun e w' =>
      e = .returned (.bool true) ∧ Below w.heap.size w w' := by
  have hpt := parts_of h8 hk
  generalize (runAt a ps l ps.length).1 = L at hpt
  generalize (runAt a ps l k).1 = L1 at hpt
  generalize (runAt a ps l ps.length).2 = D at hpt
  generalize (runAt a ps l k).2 = D1 at hpt
  generalize (runAt a (ps.drop k) L1 (ps.length - k)).2 = D2 at hpt
  have Hp := hid hpt
  have len := hpt.len
  have len1 := hpt.len1
  obtain ⟨h1, h2, h3⟩ := pkErr_ok h8
  have hfit : decide (tErr l a = 0) = true := by simp [h1]
  obtain ⟨q1, q2, q3, _⟩ := tErr_ok h1
  have htk : k = (ps.take k).length := by simp; omega
  have hn1 : ¬ (k : Int) < 0 := by omega
  have hn2 : ¬ (ps.length : Int) < (k : Int) := by omega
  have hkc : (k : Int) ≤ (k : Int) := by omega
  have hdk : 0 = (ps.drop k).length := by simp; omega
  have hml1 : L1.length ≤ maxLen := by unfold maxLen; omega
  have hmL : L.length ≤ maxLen := by unfold maxLen; omega
  have hma : a.length ≤ maxLen := by unfold maxLen; omega
  have hR : tkRuns L a = (runs L a L.length, 0) := by rw [tkRuns, if_pos (tErr_of hpt.tv (by omega) (by omega))]
  generalize hRe : runs L a L.length = R at hR
  have H_R := hid hR
  have hDl : D.length = D1.length + D2.length := by rw [hpt.did]; simp
  have hDn : ((D.length : Int) != (D1.length : Int) + (D2.length : Int)) = false := by rw [bne_eq_false_iff_eq]; omega
  have hRp := runs_pos hpt.tv
  have hdle := hpt.dle
  have hd1 : D1.length ≤ 300 := by omega
  have hd2 : D2.length ≤ 300 := by omega
  have hk3 : k ≤ 300 := by omega
  rw [hRe] at hRp
  clear hpt hR
  have H_hdk := hid hdk
  have H_hDl := hid hDl
  have H_hRe := hid hRe
  have H_hRp := hid hRp
  clear hdk hDl hRe hRp
  have H_h8 := hid h8
  have H_h1 := hid h1
  have H_hfit := hid hfit
  have H_len := hid len
  have H_len1 := hid len1
  have H_q3 := hid q3
  have H_htk := hid htk
  clear h8 h1 hfit len len1 q3 htk
  clear h3
  subst hpa
  have hdz : (ps.drop k).length = 0 := by simp; omega
  have htz : (ps.take k).length = 0 := by simp; omega
  have H_hdz := hid hdz
  have H_htz := hid htz
  have H_hps := hid hps
  clear hdz htz hps
  go_enter Try.func7, Try.ntmps7
  have hb0 := Below.refl w.heap.size w
  go_wp2_with fail
  refine (alive_any _).mono ?_
  rintro e w1 ⟨rfl, hc1⟩
  have hb1 : Below w.heap.size w w1 := bchain (by repeat' (first | exact hb0 | refine Below.drew ?_ | refine below_drewN ?_ _ | refine Below.alloc ?_ (by have := hb0.size; first | (simp; done) | (simp; omega) | omega) _ | refine Below.setCell ?_ (by first | (simp; done) | (simp; omega) | omega) _)) hc1
  have hst1 : Below w.heap.size w w1 := bchain (by repeat' (first | exact Below.refl _ _ | refine Below.drew ?_ | refine below_drewN ?_ _ | refine Below.alloc ?_ (by first | (simp; done) | (simp; omega) | omega) _ | refine Below.setCell ?_ (by first | (simp; done) | (simp; omega) | omega) _)) hc1
  have P_0 : w1.cell? ⟨w.heap.size, 0, none⟩ = some (.slice la l.length lc) := (hc1.cell (p := ⟨w.heap.size, 0, none⟩) (by first | (simp; done) | (simp; omega))).trans (by first | (simp; done) | go_simp)
  have P_1 : w1.cell? ⟨w.heap.size, 1, none⟩ = some (.slice aa a.length ac) := (hc1.cell (p := ⟨w.heap.size, 1, none⟩) (by first | (simp; done) | (simp; omega))).trans (by first | (simp; done) | go_simp)
  have P_l : w.heap.size < w1.heap.size := Nat.lt_of_lt_of_le (by first | (simp; done) | (simp; omega)) hc1.size
  replace hl := hl.later hst1
  replace ha := ha.later hst1
  replace hp := hp.later hst1
  clear hst1
  clear hc1 hb0
  go_wp2_with fail
  refine (fit_any l a la aa lc ac _ (by repeat' (first | with_reducible exact hl | with_reducible refine CellsAt.setFar ?_ ?_ _ | with_reducible refine CellsAt.alloc ?_ _ | with_reducible refine CellsAt.drew ?_ | with_reducible refine CellsAt.drewN ?_ _ | assumption | (simp; omega) | omega)) (by repeat' (first | with_reducible exact ha | with_reducible refine CellsAt.setFar ?_ ?_ _ | with_reducible refine CellsAt.alloc ?_ _ | with_reducible refine CellsAt.drew ?_ | with_reducible refine CellsAt.drewN ?_ _ | assumption | (simp; omega) | omega)) hml).mono ?_
  rintro e w2 ⟨rfl, hc2⟩
  have hb2 : Below w.heap.size w w2 := bchain (by repeat' (first | exact hb1 | refine Below.drew ?_ | refine below_drewN ?_ _ | refine Below.alloc ?_ (by have := hb1.size; first | (simp; done) | (simp; omega) | omega) _ | refine Below.setCell ?_ (by first | (simp; done) | (simp; omega) | omega) _)) hc2
  have hst2 : Below w1.heap.size w1 w2 := bchain (by repeat' (first | exact Below.refl _ _ | refine Below.drew ?_ | refine below_drewN ?_ _ | refine Below.alloc ?_ (by first | (simp; done) | (simp; omega) | omega) _ | refine Below.setCell ?_ (by first | (simp; done) | (simp; omega) | omega) _)) hc2
  replace P_0 := cell_later hst2 P_0
  replace P_1 := cell_later hst2 P_1
  replace P_l := Nat.lt_of_lt_of_le P_l hst2.size
  replace hl := hl.later hst2
  replace ha := ha.later hst2
  replace hp := hp.later hst2
  clear hst2
  clear hc2 hb1
  rw [H_hfit.out]
  go_wp2_with fail
  refine (rpicks_any l a ps la aa _ lc ac k _ (by repeat' (first | with_reducible exact hl | with_reducible refine CellsAt.setFar ?_ ?_ _ | with_reducible refine CellsAt.alloc ?_ _ | with_reducible refine CellsAt.drew ?_ | with_reducible refine CellsAt.drewN ?_ _ | assumption | (simp; omega) | omega)) (by repeat' (first | with_reducible exact ha | with_reducible refine CellsAt.setFar ?_ ?_ _ | with_reducible refine CellsAt.alloc ?_ _ | with_reducible refine CellsAt.drew ?_ | with_reducible refine CellsAt.drewN ?_ _ | assumption | (simp; omega) | omega)) (by repeat' (first | with_reducible exact hp | with_reducible refine CellsAt.setFar ?_ ?_ _ | with_reducible refine CellsAt.alloc ?_ _ | with_reducible refine CellsAt.drew ?_ | with_reducible refine CellsAt.drewN ?_ _ | assumption | (simp; omega) | omega)) hml).mono ?_
  rintro e w3 ⟨rfl, hc3⟩
  have hb3 : Below w.heap.size w w3 := bchain (by repeat' (first | exact hb2 | refine Below.drew ?_ | refine below_drewN ?_ _ | refine Below.alloc ?_ (by have := hb2.size; first | (simp; done) | (simp; omega) | omega) _ | refine Below.setCell ?_ (by first | (simp; done) | (simp; omega) | omega) _)) hc3
  have hst3 : Below w2.heap.size w2 w3 := bchain (by repeat' (first | exact Below.refl _ _ | refine Below.drew ?_ | refine below_drewN ?_ _ | refine Below.alloc ?_ (by first | (simp; done) | (simp; omega) | omega) _ | refine Below.setCell ?_ (by first | (simp; done) | (simp; omega) | omega) _)) hc3
  replace P_0 := cell_later hst3 P_0
  replace P_1 := cell_later hst3 P_1
  replace P_l := Nat.lt_of_lt_of_le P_l hst3.size
  replace hl := hl.later hst3
  replace ha := ha.later hst3
  replace hp := hp.later hst3
  clear hst3
  clear hc3 hb2
  rw [H_h8.out]
  go_wp2_with fail
  refine (run_f l a ps L a D 0 l.length a.length ps.length l.length a.length D.length la aa _ lc ac k _ rfl rfl rfl H_len.out.symm rfl rfl Hp.out.all hml (by repeat' (first | with_reducible exact hl | with_reducible refine CellsAt.setFar ?_ ?_ _ | with_reducible refine CellsAt.alloc ?_ _ | with_reducible refine CellsAt.drew ?_ | with_reducible refine CellsAt.drewN ?_ _ | assumption | (simp; omega) | omega)) (by repeat' (first | with_reducible exact ha | with_reducible refine CellsAt.setFar ?_ ?_ _ | with_reducible refine CellsAt.alloc ?_ _ | with_reducible refine CellsAt.drew ?_ | with_reducible refine CellsAt.drewN ?_ _ | assumption | (simp; omega) | omega)) (by repeat' (first | with_reducible exact hp | with_reducible refine CellsAt.setFar ?_ ?_ _ | with_reducible refine CellsAt.alloc ?_ _ | with_reducible refine CellsAt.drew ?_ | with_reducible refine CellsAt.drewN ?_ _ | assumption | (simp; omega) | omega))).mono ?_
  rintro e w4 ⟨⟨l4, c4, a4, d4, s4, u4, rfl, k4, m4, n4, _, _, _⟩, hc4⟩
  have hb4 : Below w.heap.size w w4 := bchain (by repeat' (first | exact hb3 | refine Below.drew ?_ | refine below_drewN ?_ _ | refine Below.alloc ?_ (by have := hb3.size; first | (simp; done) | (simp; omega) | omega) _ | refine Below.setCell ?_ (by first | (simp; done) | (simp; omega) | omega) _)) hc4
  have hst4 : Below w3.heap.size w3 w4 := bchain (by repeat' (first | exact Below.refl _ _ | refine Below.drew ?_ | refine below_drewN ?_ _ | refine Below.alloc ?_ (by first | (simp; done) | (simp; omega) | omega) _ | refine Below.setCell ?_ (by first | (simp; done) | (simp; omega) | omega) _)) hc4
  replace P_0 := cell_later hst4 P_0
  replace P_1 := cell_later hst4 P_1
  replace P_l := Nat.lt_of_lt_of_le P_l hst4.size
  replace hl := hl.later hst4
  replace ha := ha.later hst4
  replace hp := hp.later hst4
  clear hst4
  clear hc4 hb3
  go_upto_region 5 with fail
  refine wp_gen fun w5 hc5 => ?_
  have hb5 : Below w.heap.size w w5 := bchain (by repeat' (first | exact hb4 | refine Below.drew ?_ | refine below_drewN ?_ _ | refine Below.alloc ?_ (by have := hb4.size; first | (simp; done) | (simp; omega) | omega) _ | refine Below.setCell ?_ (by first | (simp; done) | (simp; omega) | omega) _)) hc5
  have hst5 : Below w4.heap.size w4 w5 := bchain (by repeat' (first | exact Below.refl _ _ | refine Below.drew ?_ | refine below_drewN ?_ _ | refine Below.alloc ?_ (by first | (simp; done) | (simp; omega) | omega) _ | refine Below.setCell ?_ (by first | (simp; done) | (simp; omega) | omega) _)) hc5
  replace P_0 := cell_later hst5 P_0
  replace P_1 := cell_later hst5 P_1
  replace P_l := Nat.lt_of_lt_of_le P_l hst5.size
  have A_0 : w5.cell? ⟨w4.heap.size, 0, none⟩ = some (.slice l4 l.length c4) := (hc5.cell (p := ⟨w4.heap.size, 0, none⟩) (by first | (simp; done) | (simp; omega))).trans (by first | (simp; done) | go_simp)
  have A_1 : w5.cell? ⟨w4.heap.size, 1, none⟩ = some (.slice a4 a.length d4) := (hc5.cell (p := ⟨w4.heap.size, 1, none⟩) (by first | (simp; done) | (simp; omega))).trans (by first | (simp; done) | go_simp)
  have A_l : w4.heap.size < w5.heap.size := Nat.lt_of_lt_of_le (by first | (simp; done) | (simp; omega)) hc5.size
  replace hl := hl.later hst5
  replace ha := ha.later hst5
  replace hp := hp.later hst5
  replace k4 := k4.later hst5
  replace m4 := m4.later hst5
  replace n4 := n4.later hst5
  clear hst5
  have hz5 : w5.heap.size < w5.heap.size + 1 := by omega
  go_cut [11, 12, 13] (fun s t u wx => ∃ B b1 c1 b2 c2 b3 c3, s = .pointer (some ⟨B, 0, none⟩) ∧ t = .slice b3 D1.length c3 ∧ u = .int .i64 0 ∧ Below w5.heap.size w5 wx ∧ (wx.cell? ⟨B, 0, none⟩ = some (.slice b1 l.length c1) ∧ wx.cell? ⟨B, 1, none⟩ = some (.slice b2 a.length c2)) ∧ CellsAt wx b1 (L1.map (Value.int .i64)) ∧ CellsAt wx b2 (a.map (Value.int .i64)) ∧ CellsAt wx b3 (D1.map (Value.int .i64)))
  case first =>
    go_region_held3 (fun w' => w'.cell? ⟨w.heap.size, 0, none⟩ = some (.slice la l.length lc) ∧ w'.cell? ⟨w.heap.size, 1, none⟩ = some (.slice aa a.length ac)) (refine ⟨(Below.cell (p := ⟨w.heap.size, 0, none⟩) (B := w5.heap.size) ?_ P_l).trans P_0, (Below.cell (p := ⟨w.heap.size, 1, none⟩) (B := w5.heap.size) ?_ P_l).trans P_1⟩ <;> (repeat' (first | exact Below.refl _ _ | exact KR | with_reducible refine Below.drew ?_ | with_reducible refine Below.alloc ?_ (by first | omega | (simp; done) | (simp; omega)) _ | with_reducible refine Below.setCell ?_ (by first | omega | (simp; done) | (simp; omega)) _))) ((first
    |
      (go_at_call 19; refine (run_f l a (ps.take k) L1 a D1 0 l.length a.length k l.length a.length D1.length la aa _ lc ac _ _ rfl rfl H_htk.out H_len1.out.symm rfl rfl Hp.out.fst hml ?_ ?_ ?_).mono ?_; (focus (repeat' (first | with_reducible exact hl | with_reducible refine CellsAt.alloc ?_ _ | with_reducible refine CellsAt.drew ?_))); (focus (repeat' (first | with_reducible exact ha | with_reducible refine CellsAt.alloc ?_ _ | with_reducible refine CellsAt.drew ?_))); (focus (repeat' (first | with_reducible exact cells_none H_htz.out | with_reducible refine CellsAt.alloc ?_ _ | with_reducible refine CellsAt.drew ?_))); rintro e wR ⟨⟨b1, c1, b2, c2, b3, c3, rfl, x1, x2, x3, y1, y2, y3⟩, hcR⟩; have KR : Below w5.heap.size w5 wR := (bchain (by (repeat' (first | exact Below.refl _ _ | with_reducible refine Below.drew ?_ | with_reducible refine Below.alloc ?_ (by first | omega | (simp; done) | (simp; omega)) _))) hcR); have hzR := hcR.size; (try simp only [World.size_drew, World.size_alloc] at hzR); obtain ⟨hcellR, hfrozR⟩ := bcell hcR; have hxR : wR.heap.size < wR.heap.size + 1 := (by omega); (try (have hyR : w5.heap.size < wR.heap.size := by omega)))
    ))
    all_goals (
      simp only [World.size_drew, World.size_alloc] at y1 y2 y3
      go_wp2_with fail
      go_meet
      refine ⟨_, b1, c1, b2, c2, b3, c3, rfl, rfl, rfl, ?_, ⟨by go_simp, by go_simp⟩, ?_, ?_, ?_⟩
      · skip
        (repeat' (first | exact Below.refl _ _ | exact KR | with_reducible refine Below.drew ?_ | with_reducible refine Below.alloc ?_ (by first | omega | (simp; done) | (simp; omega)) _ | with_reducible refine Below.setCell ?_ (by first | omega | (simp; done) | (simp; omega)) _))
      · first | exact x1.alloc _ | exact (x1.setFarG (p := ⟨_, 0, none⟩) (fun ad e => by have := y1 ad e; simp; omega) _).setFarG (p := ⟨_, 1, none⟩) (fun ad e => by have := y1 ad e; simp; omega) _
      · first | exact x2.alloc _ | exact (x2.setFarG (p := ⟨_, 0, none⟩) (fun ad e => by have := y2 ad e; simp; omega) _).setFarG (p := ⟨_, 1, none⟩) (fun ad e => by have := y2 ad e; simp; omega) _
      · first | exact x3.alloc _ | exact (x3.setFarG (p := ⟨_, 0, none⟩) (fun ad e => by have := y3 ad e; simp; omega) _).setFarG (p := ⟨_, 1, none⟩) (fun ad e => by have := y3 ad e; simp; omega) _)
  case rest =>
    obtain ⟨B, b1, c1, b2, c2, b3, c3, rfl, rfl, rfl, hc6, ⟨Bq_0, Bq_1⟩, x1, x2, x3⟩ := hcut
    obtain ⟨w6, hw6⟩ : ∃ w6, w6 = wc := ⟨wc, rfl⟩
    subst hw6
    have Bq_l : B < w6.heap.size := by have := World.block_lt_of_cell? _ _ Bq_0; simpa using this
    have hb6 : Below w.heap.size w w6 := bchain (by repeat' (first | exact hb5 | refine Below.drew ?_ | refine below_drewN ?_ _ | refine Below.alloc ?_ (by have := hb5.size; first | (simp; done) | (simp; omega) | omega) _ | refine Below.setCell ?_ (by first | (simp; done) | (simp; omega) | omega) _)) hc6
    have hst6 : Below w5.heap.size w5 w6 := bchain (by repeat' (first | exact Below.refl _ _ | refine Below.drew ?_ | refine below_drewN ?_ _ | refine Below.alloc ?_ (by first | (simp; done) | (simp; omega) | omega) _ | refine Below.setCell ?_ (by first | (simp; done) | (simp; omega) | omega) _)) hc6
    replace P_0 := cell_later hst6 P_0
    replace P_1 := cell_later hst6 P_1
    replace P_l := Nat.lt_of_lt_of_le P_l hst6.size
    replace A_0 := cell_later hst6 A_0
    replace A_1 := cell_later hst6 A_1
    replace A_l := Nat.lt_of_lt_of_le A_l hst6.size
    replace hl := hl.later hst6
    replace ha := ha.later hst6
    replace hp := hp.later hst6
    replace k4 := k4.later hst6
    replace m4 := m4.later hst6
    replace n4 := n4.later hst6
    clear hst6
    have hz6 : w6.heap.size < w6.heap.size + 1 := by omega
    have hBz : B < w6.heap.size + 1 := by omega
    go_upto_region 6 with fail
    go_cut [14, 15, 16] (fun s t u wx => ∃ B b1 c1 b2 c2 b3 c3, s = .pointer (some ⟨B, 0, none⟩) ∧ t = .slice b3 D2.length c3 ∧ u = .int .i64 0 ∧ Below w6.heap.size w6 wx ∧ (wx.cell? ⟨B, 0, none⟩ = some (.slice b1 l.length c1) ∧ wx.cell? ⟨B, 1, none⟩ = some (.slice b2 a.length c2)) ∧ CellsAt wx b1 (L.map (Value.int .i64)) ∧ CellsAt wx b2 (a.map (Value.int .i64)) ∧ CellsAt wx b3 (D2.map (Value.int .i64)))
    case first =>
      go_region_held3 (fun w' => w'.cell? ⟨B, 0, none⟩ = some (.slice b1 l.length c1) ∧ w'.cell? ⟨B, 1, none⟩ = some (.slice b2 a.length c2)) (refine ⟨(Below.cell (p := ⟨B, 0, none⟩) (B := w6.heap.size) ?_ Bq_l).trans Bq_0, (Below.cell (p := ⟨B, 1, none⟩) (B := w6.heap.size) ?_ Bq_l).trans Bq_1⟩ <;> (repeat' (first | exact Below.refl _ _ | exact KR | with_reducible refine Below.drew ?_ | with_reducible refine Below.alloc ?_ (by first | omega | (simp; done) | (simp; omega)) _ | with_reducible refine Below.setCell ?_ (by first | omega | (simp; done) | (simp; omega)) _))) ((first
      |
        (go_at_call 19; refine (run_f L1 a (ps.drop k) L a D2 0 l.length a.length 0 l.length a.length D2.length b1 b2 _ c1 c2 _ _ H_len1.out.symm rfl H_hdk.out H_len.out.symm rfl rfl Hp.out.snd hml1 ?_ ?_ ?_).mono ?_; (focus (repeat' (first | with_reducible exact x1 | with_reducible refine CellsAt.alloc ?_ _ | with_reducible refine CellsAt.drew ?_))); (focus (repeat' (first | with_reducible exact x2 | with_reducible refine CellsAt.alloc ?_ _ | with_reducible refine CellsAt.drew ?_))); (focus (repeat' (first | with_reducible exact cells_none H_hdz.out | with_reducible refine CellsAt.alloc ?_ _ | with_reducible refine CellsAt.drew ?_))); rintro e wR ⟨⟨b1, c1, b2, c2, b3, c3, rfl, x1, x2, x3, y1, y2, y3⟩, hcR⟩; have KR : Below w6.heap.size w6 wR := (bchain (by (repeat' (first | exact Below.refl _ _ | with_reducible refine Below.drew ?_ | with_reducible refine Below.alloc ?_ (by first | omega | (simp; done) | (simp; omega)) _))) hcR); have hzR := hcR.size; (try simp only [World.size_drew, World.size_alloc] at hzR); obtain ⟨hcellR, hfrozR⟩ := bcell hcR; have hxR : wR.heap.size < wR.heap.size + 1 := (by omega); (try (have hyR : w6.heap.size < wR.heap.size := by omega)))
      ))
      all_goals (
        simp only [World.size_drew, World.size_alloc] at y1 y2 y3
        go_wp2_with fail
        go_meet
        refine ⟨_, b1, c1, b2, c2, b3, c3, rfl, rfl, rfl, ?_, ⟨by go_simp, by go_simp⟩, ?_, ?_, ?_⟩
        · skip
          (repeat' (first | exact Below.refl _ _ | exact KR | with_reducible refine Below.drew ?_ | with_reducible refine Below.alloc ?_ (by first | omega | (simp; done) | (simp; omega)) _ | with_reducible refine Below.setCell ?_ (by first | omega | (simp; done) | (simp; omega)) _))
        · first | exact x1.alloc _ | exact (x1.setFarG (p := ⟨_, 0, none⟩) (fun ad e => by have := y1 ad e; simp; omega) _).setFarG (p := ⟨_, 1, none⟩) (fun ad e => by have := y1 ad e; simp; omega) _
        · first | exact x2.alloc _ | exact (x2.setFarG (p := ⟨_, 0, none⟩) (fun ad e => by have := y2 ad e; simp; omega) _).setFarG (p := ⟨_, 1, none⟩) (fun ad e => by have := y2 ad e; simp; omega) _
        · first | exact x3.alloc _ | exact (x3.setFarG (p := ⟨_, 0, none⟩) (fun ad e => by have := y3 ad e; simp; omega) _).setFarG (p := ⟨_, 1, none⟩) (fun ad e => by have := y3 ad e; simp; omega) _)
    case rest =>
      obtain ⟨C, b4, e4, b5, e5, b6, e6, rfl, rfl, rfl, hc7, ⟨Cq_0, Cq_1⟩, z1, z2, z3⟩ := hcut
      obtain ⟨w7, hw7⟩ : ∃ w7, w7 = wc := ⟨wc, rfl⟩
      subst hw7
      have Cq_l : C < w7.heap.size := by have := World.block_lt_of_cell? _ _ Cq_0; simpa using this
      have hb7 : Below w.heap.size w w7 := bchain (by repeat' (first | exact hb6 | refine Below.drew ?_ | refine below_drewN ?_ _ | refine Below.alloc ?_ (by have := hb6.size; first | (simp; done) | (simp; omega) | omega) _ | refine Below.setCell ?_ (by first | (simp; done) | (simp; omega) | omega) _)) hc7
      have hst7 : Below w6.heap.size w6 w7 := bchain (by repeat' (first | exact Below.refl _ _ | refine Below.drew ?_ | refine below_drewN ?_ _ | refine Below.alloc ?_ (by first | (simp; done) | (simp; omega) | omega) _ | refine Below.setCell ?_ (by first | (simp; done) | (simp; omega) | omega) _)) hc7
      replace P_0 := cell_later hst7 P_0
      replace P_1 := cell_later hst7 P_1
      replace P_l := Nat.lt_of_lt_of_le P_l hst7.size
      replace A_0 := cell_later hst7 A_0
      replace A_1 := cell_later hst7 A_1
      replace A_l := Nat.lt_of_lt_of_le A_l hst7.size
      replace Bq_0 := cell_later hst7 Bq_0
      replace Bq_1 := cell_later hst7 Bq_1
      replace Bq_l := Nat.lt_of_lt_of_le Bq_l hst7.size
      replace hl := hl.later hst7
      replace ha := ha.later hst7
      replace hp := hp.later hst7
      replace k4 := k4.later hst7
      replace m4 := m4.later hst7
      replace n4 := n4.later hst7
      replace x1 := x1.later hst7
      replace x2 := x2.later hst7
      replace x3 := x3.later hst7
      clear hst7
      clear Bq_0 Bq_1 Bq_l
      clear x1
      clear x2
      go_wp2_with fail
      refine (runnable_r L a R 0 l.length a.length R.length l4 a4 c4 d4 _ H_len.out.symm rfl rfl (by repeat' (first | with_reducible exact k4 | with_reducible refine CellsAt.setFar ?_ ?_ _ | with_reducible refine CellsAt.alloc ?_ _ | with_reducible refine CellsAt.drew ?_ | with_reducible refine CellsAt.drewN ?_ _ | assumption | (simp; omega) | omega)) (by repeat' (first | with_reducible exact m4 | with_reducible refine CellsAt.setFar ?_ ?_ _ | with_reducible refine CellsAt.alloc ?_ _ | with_reducible refine CellsAt.drew ?_ | with_reducible refine CellsAt.drewN ?_ _ | assumption | (simp; omega) | omega)) hmL H_R.out).mono ?_
      rintro e w8 ⟨⟨r1, e1, rfl, kr⟩, hc8⟩
      have hb8 : Below w.heap.size w w8 := bchain (by repeat' (first | exact hb7 | refine Below.drew ?_ | refine below_drewN ?_ _ | refine Below.alloc ?_ (by have := hb7.size; first | (simp; done) | (simp; omega) | omega) _ | refine Below.setCell ?_ (by first | (simp; done) | (simp; omega) | omega) _)) hc8
      have hst8 : Below w7.heap.size w7 w8 := bchain (by repeat' (first | exact Below.refl _ _ | refine Below.drew ?_ | refine below_drewN ?_ _ | refine Below.alloc ?_ (by first | (simp; done) | (simp; omega) | omega) _ | refine Below.setCell ?_ (by first | (simp; done) | (simp; omega) | omega) _)) hc8
      replace P_0 := cell_later hst8 P_0
      replace P_1 := cell_later hst8 P_1
      replace P_l := Nat.lt_of_lt_of_le P_l hst8.size
      replace A_0 := cell_later hst8 A_0
      replace A_1 := cell_later hst8 A_1
      replace A_l := Nat.lt_of_lt_of_le A_l hst8.size
      replace Cq_0 := cell_later hst8 Cq_0
      replace Cq_1 := cell_later hst8 Cq_1
      replace Cq_l := Nat.lt_of_lt_of_le Cq_l hst8.size
      replace hl := hl.later hst8
      replace ha := ha.later hst8
      replace hp := hp.later hst8
      replace k4 := k4.later hst8
      replace m4 := m4.later hst8
      replace n4 := n4.later hst8
      replace x3 := x3.later hst8
      replace z1 := z1.later hst8
      replace z2 := z2.later hst8
      replace z3 := z3.later hst8
      clear hst8
      clear hc8 hb7
      go_wp2_with fail
      refine (same_n l.length a.length L a l4 a4 b4 b5 c4 d4 e4 e5 _ H_len.out.symm rfl (by repeat' (first | with_reducible exact k4 | with_reducible refine CellsAt.setFar ?_ ?_ _ | with_reducible refine CellsAt.alloc ?_ _ | with_reducible refine CellsAt.drew ?_ | with_reducible refine CellsAt.drewN ?_ _ | assumption | (simp; omega) | omega)) (by repeat' (first | with_reducible exact m4 | with_reducible refine CellsAt.setFar ?_ ?_ _ | with_reducible refine CellsAt.alloc ?_ _ | with_reducible refine CellsAt.drew ?_ | with_reducible refine CellsAt.drewN ?_ _ | assumption | (simp; omega) | omega)) (by repeat' (first | with_reducible exact z1 | with_reducible refine CellsAt.setFar ?_ ?_ _ | with_reducible refine CellsAt.alloc ?_ _ | with_reducible refine CellsAt.drew ?_ | with_reducible refine CellsAt.drewN ?_ _ | assumption | (simp; omega) | omega)) (by repeat' (first | with_reducible exact z2 | with_reducible refine CellsAt.setFar ?_ ?_ _ | with_reducible refine CellsAt.alloc ?_ _ | with_reducible refine CellsAt.drew ?_ | with_reducible refine CellsAt.drewN ?_ _ | assumption | (simp; omega) | omega)) hmL hma).mono ?_
      rintro e w9 ⟨rfl, hc9⟩
      have hb9 : Below w.heap.size w w9 := bchain (by repeat' (first | exact hb8 | refine Below.drew ?_ | refine below_drewN ?_ _ | refine Below.alloc ?_ (by have := hb8.size; first | (simp; done) | (simp; omega) | omega) _ | refine Below.setCell ?_ (by first | (simp; done) | (simp; omega) | omega) _)) hc9
      have hst9 : Below w8.heap.size w8 w9 := bchain (by repeat' (first | exact Below.refl _ _ | refine Below.drew ?_ | refine below_drewN ?_ _ | refine Below.alloc ?_ (by first | (simp; done) | (simp; omega) | omega) _ | refine Below.setCell ?_ (by first | (simp; done) | (simp; omega) | omega) _)) hc9
      replace P_0 := cell_later hst9 P_0
      replace P_1 := cell_later hst9 P_1
      replace P_l := Nat.lt_of_lt_of_le P_l hst9.size
      replace A_0 := cell_later hst9 A_0
      replace A_1 := cell_later hst9 A_1
      replace A_l := Nat.lt_of_lt_of_le A_l hst9.size
      replace Cq_0 := cell_later hst9 Cq_0
      replace Cq_1 := cell_later hst9 Cq_1
      replace Cq_l := Nat.lt_of_lt_of_le Cq_l hst9.size
      replace hl := hl.later hst9
      replace ha := ha.later hst9
      replace hp := hp.later hst9
      replace k4 := k4.later hst9
      replace m4 := m4.later hst9
      replace n4 := n4.later hst9
      replace x3 := x3.later hst9
      replace z1 := z1.later hst9
      replace z2 := z2.later hst9
      replace z3 := z3.later hst9
      clear hst9
      clear hc9 hb8
      clear Cq_0 Cq_1 Cq_l
      clear z1
      clear z2
      go_wp2_with fail
      obtain ⟨w10, hw10⟩ : ∃ w10, w10 = w9 := ⟨w9, rfl⟩
      subst hw10
      go_loopw [19] (fun iv wr => ∃ j : Nat, j ≤ D.length ∧ iv = .int .i64 j ∧ Below w10.heap.size w10 wr) (fun iv _ => D.length - (intOf iv).toNat)
      case atStart => exact ⟨0, Nat.zero_le _, rfl, Below.refl _ _⟩
      case round =>
        obtain ⟨j, hj, rfl, hbr⟩ := hrel
        by_cases hjD : j < D.length
        · have hjD' : (j : Int) < (D.length : Int) := by omega
          obtain ⟨bD, oD, rfl, hrD⟩ := n4.intG (by omega)
          obtain ⟨cD, -, -⟩ := hrD j hjD
          replace cD := cell_later hbr cD
          clear hrD
          by_cases hj1 : j < D1.length
          · have hj1' : (j : Int) < (D1.length : Int) := by omega
            obtain ⟨bE, oE, rfl, hrE⟩ := x3.intG (by omega)
            obtain ⟨cE, -, -⟩ := hrE j hj1
            replace cE := cell_later hbr cE
            clear hrE
            have hge : g D j = g D1 j := by rw [Hp.out.did, g_append_left hj1]
            rw [hge] at cD
            obtain ⟨u, hu⟩ : ∃ u, g D1 j = u := ⟨_, rfl⟩
            rw [hu] at cD cE
            have huu : (u != u) = false := by simp
            clear hge hu
            have hdj : decide ((j : Int) < (D1.length : Int)) = true := by simpa using hj1'
            have hdj2 : decide ((D1.length : Int) ≤ (j : Int)) = false := by simp; omega
            have hdj3 : decide (D1.length ≤ j) = false := by simp; omega
            have hdj4 : ¬ D1.length ≤ j := by omega
            have hdj5 : ¬ (D1.length : Int) ≤ (j : Int) := by omega
            go_wp2_with fail
            go_quiet (fail)
            go_wp2_with fail
            go_roundw
            case rel => exact ⟨j + 1, by omega, by go_num, by first | exact hbr | exact below_drewN hbr _⟩
            case measure => simp [intOf]; omega
          · obtain ⟨m, rfl⟩ := Nat.exists_eq_add_of_le (Nat.le_of_not_lt hj1)
            have hD0 := H_hDl.out
            have hm2 : m < D2.length := by omega
            have hm2' : (m : Int) < (D2.length : Int) := by omega
            have hj1' : ¬ ((D1.length + m : Nat) : Int) < (D1.length : Int) := by omega
            have hj1'' : (D1.length : Int) ≤ ((D1.length + m : Nat) : Int) := by omega
            have hsub : ((D1.length + m : Nat) : Int) - (D1.length : Int) = (m : Int) := by omega
            have hsub2 : (D1.length : Int) + (m : Int) - (D1.length : Int) = (m : Int) := by omega
            obtain ⟨bE, oE, rfl, hrE⟩ := z3.intG (by omega)
            obtain ⟨cE, -, -⟩ := hrE m hm2
            replace cE := cell_later hbr cE
            clear hrE
            have hge : g D (D1.length + m) = g D2 m + (k : Int) := by
              rw [Hp.out.did, g_append_right (by omega), Nat.add_sub_cancel_left, g_map_add hm2]
            have hgb := Hp.out.lt _ (g_mem hjD)
            rw [hge] at cD hgb
            obtain ⟨u, hu⟩ : ∃ u, g D2 m = u := ⟨_, rfl⟩
            rw [hu] at cD cE hgb
            clear hge hu hD0
            obtain ⟨hgb1, hgb2⟩ := hgb
            have hmk : 0 ≤ (k : Int) := by omega
            have hdj : decide ((D1.length : Int) + (m : Int) < (D1.length : Int)) = false := by simp; omega
            have hdj2 : decide ((D1.length : Int) ≤ (D1.length : Int) + (m : Int)) = true := by simp; omega
            go_wp2_with fail
            go_quiet (fail)
            go_wp2_with fail
            go_roundw
            case rel => exact ⟨D1.length + m + 1, by omega, by go_num, by first | exact hbr | exact below_drewN hbr _⟩
            case measure => simp [intOf]; omega
        · obtain rfl : j = D.length := by omega
          have Pr_0 := cell_later hbr P_0
          have Ar_0 := cell_later hbr A_0
          have hbf := bchain hb9 hbr
          obtain ⟨S, hS⟩ : ∃ S, sumTo L L.length = S := ⟨_, rfl⟩
          have hsl : sumTo l l.length = S + (D.length : Int) := by rw [Hp.out.sum, hS]
          have hRS := H_hRp.out
          rw [hS] at hRS
          have tvl := TV.of H_h1.out
          have hbdl : ∀ j, j < l.length → 0 ≤ g l j ∧ g l j ≤ 60 := fun j hj => ⟨(tvl.nth j hj).1, (tvl.nth j hj).2.1⟩
          have hbdL : ∀ j, j < L.length → 0 ≤ g L j ∧ g L j ≤ 60 := fun j hj => ⟨(Hp.out.tv.nth j hj).1, (Hp.out.tv.nth j hj).2.1⟩
          have hS0 := sumTo_nonneg (fun i hi => (hbdL i hi).1) L.length (Nat.le_refl _)
          have hS1 := sumTo_le (fun i hi => (hbdL i hi).2) L.length (Nat.le_refl _)
          rw [hS] at hS0 hS1
          have hL12 : L.length ≤ 12 := by have := H_len.out; omega
          have hS2 : S ≤ 720 := by omega
          have klr := hl.later hbr
          have kLr := k4.later hbr
          have heq : (S + (D.length : Int) == S + (D.length : Int)) = true := by simp
          have H_bdl := hid hbdl
          have H_bdL := hid hbdL
          clear hS1 hbdl hbdL tvl hDn hjD hj
          by_cases hSp : 0 < S
          · have hR0 : (0 : Int) < (R.length : Int) := by have := hRS.2 hSp; omega
            have hRn : 0 < R.length := by omega
            have hSd : decide (0 < S) = true := by simpa using hSp
            have hRd : decide ((0 : Int) < (R.length : Int)) = true := by simpa using hR0
            have H_hS := hid hS
            have H_hsl := hid hsl
            have H_hRS := hid hRS
            clear hS hsl hRS
            go_wp2_with fail
            go_quiet (first
              | (go_at_call 31; with_reducible refine Calls.quiet_of_same (sum_same l.length L S l4 c4 _ H_len.out.symm H_hS.out (kLr.drewN _) hL12 H_bdL.out))
              | (go_at_call 31; with_reducible refine Calls.quiet_of_same (sum_same l.length l (S + (D.length : Int)) la lc _ rfl H_hsl.out (klr.drewN _) q2 H_bdl.out)))
            go_wp2_with fail
            go_ret
            refine ⟨?_, (by repeat' (first | exact hbf | refine Below.drew ?_ | refine below_drewN ?_ _ | refine Below.alloc ?_ (by have := hbf.size; first | (simp; done) | (simp; omega) | omega) _ | refine Below.setCell ?_ (by first | (simp; done) | (simp; omega) | omega) _))⟩
            first
            | rfl
            | (apply ret_bool; simp [*]; done)
          · have hR0 : ¬ (0 : Int) < (R.length : Int) := by have := fun h => hRS.1 h; omega
            have hRn : ¬ 0 < R.length := by omega
            have hSd : decide (0 < S) = false := by simpa using hSp
            have hRd : decide ((0 : Int) < (R.length : Int)) = false := by simpa using hR0
            have H_hS := hid hS
            have H_hsl := hid hsl
            have H_hRS := hid hRS
            clear hS hsl hRS
            go_wp2_with fail
            go_quiet (first
              | (go_at_call 31; with_reducible refine Calls.quiet_of_same (sum_same l.length L S l4 c4 _ H_len.out.symm H_hS.out (kLr.drewN _) hL12 H_bdL.out))
              | (go_at_call 31; with_reducible refine Calls.quiet_of_same (sum_same l.length l (S + (D.length : Int)) la lc _ rfl H_hsl.out (klr.drewN _) q2 H_bdl.out)))
            go_wp2_with fail
            go_ret
            refine ⟨?_, (by repeat' (first | exact hbf | refine Below.drew ?_ | refine below_drewN ?_ _ | refine Below.alloc ?_ (by have := hbf.size; first | (simp; done) | (simp; omega) | omega) _ | refine Below.setCell ?_ (by first | (simp; done) | (simp; omega) | omega) _))⟩
            first
            | rfl
            | (apply ret_bool; simp [*]; done)

end Go.Proofs.Ytoelndaeemlefaa
