/- The law SchedWindows. -/
import Derived.Test.YtoelndaeemlefaaSchedPartsH
namespace Go.Proofs.Ytoelndaeemlefaa
set_option linter.unusedSimpArgs false
set_option linter.unusedVariables false
set_option linter.unnecessarySimpa false
open Go.RowKit

theorem window_cells2 {w : World} {b o i W : Nat} {ps : List Int} (h : CellsAt w (some ⟨b, o, none⟩) (ps.map (Value.int .i64))) : CellsAt w (some ⟨b, o + i, none⟩) (((ps.drop i).take W).map (Value.int .i64)) := take_cells W (drop_cells i h)

/-- What is known of a run up to a window and of one over it. -/
structure Wins (l a ps : List Int) (k W m : Nat) (L1 L2 D1 D2 : List Int) : Prop where
  fst : tkRun l a (ps.take k) = ((L1, a), D1, 0)
  snd : tkRun L1 a ((ps.drop k).take W) = ((L2, a), D2, 0)
  len1 : L1.length = l.length
  len2 : L2.length = l.length
  tv1 : TV L1 a
  fair1 : tkFair l a ps W = (fairB l a ps W, 0)
  fair2 : tkFair l a ps ((W : Int) + 1) = (fairB l a ps (W + 1), 0)
  more : fairB l a ps W = true → fairB l a ps (W + 1) = true
  step : fairB l a ps W = true → can L1 a m = true → g L2 m < g L1 m
theorem wins_of {l a ps : List Int} {k W m : Nat} (h : pkErr l a ps = 0) (hk : k + W ≤ ps.length) (hW : 1 ≤ W) (hm : m < l.length) :
    Wins l a ps k W m (runAt a ps l k).1 (runAt a ps l (k + W)).1 (runAt a ps l k).2 (runAt a ((ps.drop k).take W) (runAt a ps l k).1 W).2 := by
  obtain ⟨h1, h2, h3⟩ := pkErr_ok h
  obtain ⟨q1, q2, q3, _⟩ := tErr_ok h1
  have htv := TV.of h1
  have tv1 := runAt_TV htv h3 (k := k) (by omega)
  have len1 := runAt_len a ps l k
  have len2 := runAt_len a ps l (k + W)
  have e1 : pkErr l a (ps.take k) = 0 := pkErr_zero h1 (by simp; omega) fun j hj => by
    have hj' : j < k := by simp at hj; omega
    rw [g_take hj']; exact h3 j (by omega)
  have hwl : ((ps.drop k).take W).length = W := by simp; omega
  have e2 : pkErr (runAt a ps l k).1 a ((ps.drop k).take W) = 0 := pkErr_zero (tErr_of tv1 (by omega) (by omega)) (by omega) fun j hj => by
    rw [g_take (by omega), g_drop, len1]; exact h3 (k + j) (by omega)
  obtain ⟨d1, d2⟩ := runAt_drop a ps l k W
  refine ⟨?_, ?_, len1, len2, tv1, ?_, ?_, fair_more, fun hf hc => ?_⟩
  · rw [tkRun, if_pos e1, show (ps.take k).length = k from by simp; omega, runAt_take _ _ _ _ k (Nat.le_refl _)]
  · rw [tkRun, if_pos e2, hwl]
    rw [runAt_take _ _ _ _ W (Nat.le_refl _), ← d1]
  · rw [tkFair, if_pos h, if_neg (by omega), Int.toNat_natCast]
  · rw [tkFair, if_pos h, if_neg (by omega)]; rfl
  · have := htv.nth m hm
    exact window_step h3 hf hk hm (by omega) hc



theorem rtcheck_n (n m : Nat) (l a : List Int) (la aa : Option Addr) (lc ac : Nat) (w : World) (hn : n = l.length) (hm : m = a.length) (hl : CellsAt w la (l.map (Value.int .i64))) (ha : CellsAt w aa (a.map (Value.int .i64))) (hml : l.length ≤ maxLen) :
    Calls Try.prog 22 #[.agg #[.slice la n lc, .slice aa m ac]] w fun e w' =>
      e = .returned (.int .i64 (tErr l a)) ∧ Below w.heap.size w w' := by
  subst hn hm
  exact rtcheck_any l a la aa lc ac w hl ha hml

set_option maxRecDepth 100000 in
set_option maxHeartbeats 40000000 in
theorem windows_main (l a ps : List Int) (la aa : Option Addr) (lc ac pc b o k W m : Nat) (w : World) (hl : CellsAt w la (l.map (Value.int .i64))) (ha : CellsAt w aa (a.map (Value.int .i64))) (hp : CellsAt w (some ⟨b, o, none⟩) (ps.map (Value.int .i64))) (hpc : ps.length ≤ pc) (hml : l.length ≤ maxLen) (h8 : pkErr l a ps = 0) (hW1 : 1 ≤ W) (hW2 : W ≤ 300) (hk : k + W ≤ ps.length) (hm : m < l.length) :
    Calls Try.prog 5 #[.agg #[.slice la l.length lc, .slice aa a.length ac], .slice (some ⟨b, o, none⟩) ps.length pc, .int .i64 W, .int .i64 m, .int .i64 k] w fun e w' =>
      e = .returned (.bool true) ∧ Below w.heap.size w w' := by
  have hpt := wins_of h8 hk hW1 hm
  generalize (runAt a ps l k).1 = L1 at hpt
  generalize (runAt a ps l (k + W)).1 = L2 at hpt
  generalize (runAt a ps l k).2 = D1 at hpt
  generalize (runAt a ((ps.drop k).take W) L1 W).2 = D2 at hpt
  have Hp := hid hpt
  have len1 := hpt.len1
  have len2 := hpt.len2
  have F1 := hpt.fair1
  have F2 := hpt.fair2
  have hmore := hpt.more
  obtain ⟨h1, h2, h3⟩ := pkErr_ok h8
  have hfit : decide (tErr l a = 0) = true := by simp [h1]
  obtain ⟨q1, q2, q3, _⟩ := tErr_ok h1
  have htk : k = (ps.take k).length := by simp; omega
  have hwl : ((k : Int) + (W : Int)).toNat - k = ((ps.drop k).take W).length := by simp; omega
  have hml1 : L1.length ≤ maxLen := by unfold maxLen; omega
  have tE1 : tErr L1 a = 0 := tErr_of hpt.tv1 (by omega) (by omega)
  have hmL1 : m < L1.length := by omega
  have hmL2 : m < L2.length := by omega
  have hpc0 : ¬ pc = 0 := by omega
  have hpck : ¬ pc = k := by omega
  have t1 : ¬ (W : Int) < 1 := by omega
  have t2 : ¬ (300 : Int) < (W : Int) := by omega
  have t3 : ¬ (m : Int) < 0 := by omega
  have t4 : ¬ (l.length : Int) ≤ (m : Int) := by omega
  have t4' : (m : Int) < (l.length : Int) := by omega
  have t5 : ¬ (k : Int) < 0 := by omega
  have t6 : ¬ (ps.length : Int) - (W : Int) < (k : Int) := by omega
  have t7 : (k : Int) ≤ (pc : Int) := by omega
  have t8 : (k : Int) ≤ (k : Int) + (W : Int) := by omega
  have t9 : (k : Int) + (W : Int) ≤ (pc : Int) := by omega
  clear hpt h3
  by_cases hF : fairB l a ps W = true
  · have hF2 := hmore hF
    rw [hF] at F1
    rw [hF2] at F2
    clear hmore
    by_cases hcan : can L1 a m = true
    · skip
      have H_h8 := hid h8
      have H_h1 := hid h1
      have H_hfit := hid hfit
      have H_len1 := hid len1
      have H_len2 := hid len2
      have H_q3 := hid q3
      have H_htk := hid htk
      have H_hwl := hid hwl
      have H_F1 := hid F1
      have H_F2 := hid F2
      have H_tE1 := hid tE1
      have H_hF := hid hF
      have H_hF2 := hid hF2
      have H_hcan := hid hcan
      clear h8 h1 hfit len1 len2 q3 htk hwl F1 F2 tE1 hF hF2 hcan
      go_enter Try.func5, Try.ntmps5
      have hb0 := Below.refl w.heap.size w
      go_wp2_with fail
      refine (alive_any _).mono ?_
      rintro e w1 ⟨rfl, hc1⟩
      have hb1 : Below w.heap.size w w1 := bchain (by repeat' (first | exact hb0 | refine Below.drew ?_ | refine below_drewN ?_ _ | refine Below.alloc ?_ (by have := hb0.size; first | (simp; done) | (simp; omega) | omega) _ | refine Below.setCell ?_ (by first | (simp; done) | (simp; omega) | omega) _)) hc1
      have hst1 : Below w.heap.size w w1 := bchain (by repeat' (first | exact Below.refl _ _ | refine Below.drew ?_ | refine below_drewN ?_ _ | refine Below.alloc ?_ (by first | (simp; done) | (simp; omega) | omega) _ | refine Below.setCell ?_ (by first | (simp; done) | (simp; omega) | omega) _)) hc1
      have P_0 : w1.cell? ⟨w.heap.size, 0, none⟩ = some (.slice la l.length lc) := (hc1.cell (p := ⟨w.heap.size, 0, none⟩) (by first | (simp; done) | (simp; omega))).trans (by first | (simp; done) | go_simp)
      have P_1 : w1.cell? ⟨w.heap.size, 1, none⟩ = some (.slice aa a.length ac) := (hc1.cell (p := ⟨w.heap.size, 1, none⟩) (by first | (simp; done) | (simp; omega))).trans (by first | (simp; done) | go_simp)
      have P_l : w.heap.size < w1.heap.size := Nat.lt_of_lt_of_le (by first | (simp; done) | (simp; omega)) hc1.size
      replace hl := hl.later hst1
      replace ha := ha.later hst1
      replace hp := hp.later hst1
      clear hst1
      clear hc1 hb0
      go_wp2_with fail
      refine (fit_any l a la aa lc ac _ (by repeat' (first | with_reducible exact hl | with_reducible refine CellsAt.setFar ?_ ?_ _ | with_reducible refine CellsAt.alloc ?_ _ | with_reducible refine CellsAt.drew ?_ | with_reducible refine CellsAt.drewN ?_ _ | assumption | (simp; omega) | omega)) (by repeat' (first | with_reducible exact ha | with_reducible refine CellsAt.setFar ?_ ?_ _ | with_reducible refine CellsAt.alloc ?_ _ | with_reducible refine CellsAt.drew ?_ | with_reducible refine CellsAt.drewN ?_ _ | assumption | (simp; omega) | omega)) hml).mono ?_
      rintro e w2 ⟨rfl, hc2⟩
      have hb2 : Below w.heap.size w w2 := bchain (by repeat' (first | exact hb1 | refine Below.drew ?_ | refine below_drewN ?_ _ | refine Below.alloc ?_ (by have := hb1.size; first | (simp; done) | (simp; omega) | omega) _ | refine Below.setCell ?_ (by first | (simp; done) | (simp; omega) | omega) _)) hc2
      have hst2 : Below w1.heap.size w1 w2 := bchain (by repeat' (first | exact Below.refl _ _ | refine Below.drew ?_ | refine below_drewN ?_ _ | refine Below.alloc ?_ (by first | (simp; done) | (simp; omega) | omega) _ | refine Below.setCell ?_ (by first | (simp; done) | (simp; omega) | omega) _)) hc2
      replace P_0 := cell_later hst2 P_0
      replace P_1 := cell_later hst2 P_1
      replace P_l := Nat.lt_of_lt_of_le P_l hst2.size
      replace hl := hl.later hst2
      replace ha := ha.later hst2
      replace hp := hp.later hst2
      clear hst2
      clear hc2 hb1
      rw [H_hfit.out]
      go_wp2_with fail
      refine (rpicks_any l a ps la aa _ lc ac pc _ (by repeat' (first | with_reducible exact hl | with_reducible refine CellsAt.setFar ?_ ?_ _ | with_reducible refine CellsAt.alloc ?_ _ | with_reducible refine CellsAt.drew ?_ | with_reducible refine CellsAt.drewN ?_ _ | assumption | (simp; omega) | omega)) (by repeat' (first | with_reducible exact ha | with_reducible refine CellsAt.setFar ?_ ?_ _ | with_reducible refine CellsAt.alloc ?_ _ | with_reducible refine CellsAt.drew ?_ | with_reducible refine CellsAt.drewN ?_ _ | assumption | (simp; omega) | omega)) (by repeat' (first | with_reducible exact hp | with_reducible refine CellsAt.setFar ?_ ?_ _ | with_reducible refine CellsAt.alloc ?_ _ | with_reducible refine CellsAt.drew ?_ | with_reducible refine CellsAt.drewN ?_ _ | assumption | (simp; omega) | omega)) hml).mono ?_
      rintro e w3 ⟨rfl, hc3⟩
      have hb3 : Below w.heap.size w w3 := bchain (by repeat' (first | exact hb2 | refine Below.drew ?_ | refine below_drewN ?_ _ | refine Below.alloc ?_ (by have := hb2.size; first | (simp; done) | (simp; omega) | omega) _ | refine Below.setCell ?_ (by first | (simp; done) | (simp; omega) | omega) _)) hc3
      have hst3 : Below w2.heap.size w2 w3 := bchain (by repeat' (first | exact Below.refl _ _ | refine Below.drew ?_ | refine below_drewN ?_ _ | refine Below.alloc ?_ (by first | (simp; done) | (simp; omega) | omega) _ | refine Below.setCell ?_ (by first | (simp; done) | (simp; omega) | omega) _)) hc3
      replace P_0 := cell_later hst3 P_0
      replace P_1 := cell_later hst3 P_1
      replace P_l := Nat.lt_of_lt_of_le P_l hst3.size
      replace hl := hl.later hst3
      replace ha := ha.later hst3
      replace hp := hp.later hst3
      clear hst3
      clear hc3 hb2
      rw [H_h8.out]
      go_wp2_with fail
      refine (fair_r l a ps (W : Int) 0 true l.length a.length ps.length la aa _ lc ac pc _ rfl rfl rfl (by repeat' (first | with_reducible exact hl | with_reducible refine CellsAt.setFar ?_ ?_ _ | with_reducible refine CellsAt.alloc ?_ _ | with_reducible refine CellsAt.drew ?_ | with_reducible refine CellsAt.drewN ?_ _ | assumption | (simp; omega) | omega)) (by repeat' (first | with_reducible exact ha | with_reducible refine CellsAt.setFar ?_ ?_ _ | with_reducible refine CellsAt.alloc ?_ _ | with_reducible refine CellsAt.drew ?_ | with_reducible refine CellsAt.drewN ?_ _ | assumption | (simp; omega) | omega)) (by repeat' (first | with_reducible exact hp | with_reducible refine CellsAt.setFar ?_ ?_ _ | with_reducible refine CellsAt.alloc ?_ _ | with_reducible refine CellsAt.drew ?_ | with_reducible refine CellsAt.drewN ?_ _ | assumption | (simp; omega) | omega)) hml H_F1.out).mono ?_
      rintro e w4 ⟨rfl, hc4⟩
      have hb4 : Below w.heap.size w w4 := bchain (by repeat' (first | exact hb3 | refine Below.drew ?_ | refine below_drewN ?_ _ | refine Below.alloc ?_ (by have := hb3.size; first | (simp; done) | (simp; omega) | omega) _ | refine Below.setCell ?_ (by first | (simp; done) | (simp; omega) | omega) _)) hc4
      have hst4 : Below w3.heap.size w3 w4 := bchain (by repeat' (first | exact Below.refl _ _ | refine Below.drew ?_ | refine below_drewN ?_ _ | refine Below.alloc ?_ (by first | (simp; done) | (simp; omega) | omega) _ | refine Below.setCell ?_ (by first | (simp; done) | (simp; omega) | omega) _)) hc4
      replace P_0 := cell_later hst4 P_0
      replace P_1 := cell_later hst4 P_1
      replace P_l := Nat.lt_of_lt_of_le P_l hst4.size
      replace hl := hl.later hst4
      replace ha := ha.later hst4
      replace hp := hp.later hst4
      clear hst4
      clear hc4 hb3
      go_wp2_with fail
      refine (fair_r l a ps ((W : Int) + 1) 0 true l.length a.length ps.length la aa _ lc ac pc _ rfl rfl rfl (by repeat' (first | with_reducible exact hl | with_reducible refine CellsAt.setFar ?_ ?_ _ | with_reducible refine CellsAt.alloc ?_ _ | with_reducible refine CellsAt.drew ?_ | with_reducible refine CellsAt.drewN ?_ _ | assumption | (simp; omega) | omega)) (by repeat' (first | with_reducible exact ha | with_reducible refine CellsAt.setFar ?_ ?_ _ | with_reducible refine CellsAt.alloc ?_ _ | with_reducible refine CellsAt.drew ?_ | with_reducible refine CellsAt.drewN ?_ _ | assumption | (simp; omega) | omega)) (by repeat' (first | with_reducible exact hp | with_reducible refine CellsAt.setFar ?_ ?_ _ | with_reducible refine CellsAt.alloc ?_ _ | with_reducible refine CellsAt.drew ?_ | with_reducible refine CellsAt.drewN ?_ _ | assumption | (simp; omega) | omega)) hml H_F2.out).mono ?_
      rintro e w5 ⟨rfl, hc5⟩
      have hb5 : Below w.heap.size w w5 := bchain (by repeat' (first | exact hb4 | refine Below.drew ?_ | refine below_drewN ?_ _ | refine Below.alloc ?_ (by have := hb4.size; first | (simp; done) | (simp; omega) | omega) _ | refine Below.setCell ?_ (by first | (simp; done) | (simp; omega) | omega) _)) hc5
      have hst5 : Below w4.heap.size w4 w5 := bchain (by repeat' (first | exact Below.refl _ _ | refine Below.drew ?_ | refine below_drewN ?_ _ | refine Below.alloc ?_ (by first | (simp; done) | (simp; omega) | omega) _ | refine Below.setCell ?_ (by first | (simp; done) | (simp; omega) | omega) _)) hc5
      replace P_0 := cell_later hst5 P_0
      replace P_1 := cell_later hst5 P_1
      replace P_l := Nat.lt_of_lt_of_le P_l hst5.size
      replace hl := hl.later hst5
      replace ha := ha.later hst5
      replace hp := hp.later hst5
      clear hst5
      clear hc5 hb4
      have hz5 : w5.heap.size < w5.heap.size + 1 := by omega
      go_upto_region 6 with fail
      go_cut [16, 17, 18] (fun s t u wx => ∃ B b1 c1 b2 c2 b3 c3, s = .pointer (some ⟨B, 0, none⟩) ∧ t = .slice b3 D1.length c3 ∧ u = .int .i64 0 ∧ Below w5.heap.size w5 wx ∧ (wx.cell? ⟨B, 0, none⟩ = some (.slice b1 l.length c1) ∧ wx.cell? ⟨B, 1, none⟩ = some (.slice b2 a.length c2)) ∧ CellsAt wx b1 (L1.map (Value.int .i64)) ∧ CellsAt wx b2 (a.map (Value.int .i64)) ∧ CellsAt wx b3 (D1.map (Value.int .i64)))
      case first =>
        go_region_held3 (fun w' => w'.cell? ⟨w.heap.size, 0, none⟩ = some (.slice la l.length lc) ∧ w'.cell? ⟨w.heap.size, 1, none⟩ = some (.slice aa a.length ac)) (refine ⟨(Below.cell (p := ⟨w.heap.size, 0, none⟩) (B := w5.heap.size) ?_ P_l).trans P_0, (Below.cell (p := ⟨w.heap.size, 1, none⟩) (B := w5.heap.size) ?_ P_l).trans P_1⟩ <;> (repeat' (first | exact Below.refl _ _ | exact KR | with_reducible refine Below.drew ?_ | with_reducible refine Below.alloc ?_ (by first | omega | (simp; done) | (simp; omega)) _ | with_reducible refine Below.setCell ?_ (by first | omega | (simp; done) | (simp; omega)) _))) ((first
        |
          (go_at_call 19; with_reducible refine (run_f l a (ps.take k) L1 a D1 0 l.length a.length k l.length a.length D1.length la aa _ lc ac _ _ rfl rfl H_htk.out H_len1.out.symm rfl rfl Hp.out.fst hml ?_ ?_ ?_).mono ?_; (focus (repeat' (first | with_reducible exact hl | with_reducible refine CellsAt.alloc ?_ _ | with_reducible refine CellsAt.drew ?_))); (focus (repeat' (first | with_reducible exact ha | with_reducible refine CellsAt.alloc ?_ _ | with_reducible refine CellsAt.drew ?_))); (focus (repeat' (first | with_reducible exact take_cells k hp | with_reducible refine CellsAt.alloc ?_ _ | with_reducible refine CellsAt.drew ?_))); rintro e wR ⟨⟨b1, c1, b2, c2, b3, c3, rfl, x1, x2, x3, y1, y2, y3⟩, hcR⟩; have KR : Below w5.heap.size w5 wR := (bchain (by (repeat' (first | exact Below.refl _ _ | with_reducible refine Below.drew ?_ | with_reducible refine Below.alloc ?_ (by first | omega | (simp; done) | (simp; omega)) _))) hcR); have hzR := hcR.size; (try simp only [World.size_drew, World.size_alloc] at hzR); obtain ⟨hcellR, hfrozR⟩ := bcell hcR; have hxR : wR.heap.size < wR.heap.size + 1 := (by omega); (try (have hyR : w5.heap.size < wR.heap.size := by omega)))
        ))
        all_goals (
          simp only [World.size_drew, World.size_alloc] at y1 y2 y3
          go_wp2_with fail
          go_meet
          refine ⟨_, b1, c1, b2, c2, b3, c3, rfl, rfl, rfl, ?_, ⟨by go_simp, by go_simp⟩, ?_, ?_, ?_⟩
          · skip
            (repeat' (first | exact Below.refl _ _ | exact KR | with_reducible refine Below.drew ?_ | with_reducible refine Below.alloc ?_ (by first | omega | (simp; done) | (simp; omega)) _ | with_reducible refine Below.setCell ?_ (by first | omega | (simp; done) | (simp; omega)) _))
          · first | exact x1.alloc _ | exact (x1.setFarG (p := ⟨_, 0, none⟩) (fun ad e => by have := y1 ad e; simp; omega) _).setFarG (p := ⟨_, 1, none⟩) (fun ad e => by have := y1 ad e; simp; omega) _
          · first | exact x2.alloc _ | exact (x2.setFarG (p := ⟨_, 0, none⟩) (fun ad e => by have := y2 ad e; simp; omega) _).setFarG (p := ⟨_, 1, none⟩) (fun ad e => by have := y2 ad e; simp; omega) _
          · first | exact x3.alloc _ | exact (x3.setFarG (p := ⟨_, 0, none⟩) (fun ad e => by have := y3 ad e; simp; omega) _).setFarG (p := ⟨_, 1, none⟩) (fun ad e => by have := y3 ad e; simp; omega) _)
      case rest =>
        obtain ⟨B, b1, c1, b2, c2, b3, c3, rfl, rfl, rfl, hc6, ⟨Bq_0, Bq_1⟩, x1, x2, x3⟩ := hcut
        obtain ⟨w6, hw6⟩ : ∃ w6, w6 = wc := ⟨wc, rfl⟩
        subst hw6
        have Bq_l : B < w6.heap.size := by have := World.block_lt_of_cell? _ _ Bq_0; simpa using this
        have hb6 : Below w.heap.size w w6 := bchain (by repeat' (first | exact hb5 | refine Below.drew ?_ | refine below_drewN ?_ _ | refine Below.alloc ?_ (by have := hb5.size; first | (simp; done) | (simp; omega) | omega) _ | refine Below.setCell ?_ (by first | (simp; done) | (simp; omega) | omega) _)) hc6
        have hst6 : Below w5.heap.size w5 w6 := bchain (by repeat' (first | exact Below.refl _ _ | refine Below.drew ?_ | refine below_drewN ?_ _ | refine Below.alloc ?_ (by first | (simp; done) | (simp; omega) | omega) _ | refine Below.setCell ?_ (by first | (simp; done) | (simp; omega) | omega) _)) hc6
        replace P_0 := cell_later hst6 P_0
        replace P_1 := cell_later hst6 P_1
        replace P_l := Nat.lt_of_lt_of_le P_l hst6.size
        replace hl := hl.later hst6
        replace ha := ha.later hst6
        replace hp := hp.later hst6
        clear hst6
        go_wp2_with fail
        refine (rtcheck_n l.length a.length L1 a b1 b2 c1 c2 _ H_len1.out.symm rfl (by repeat' (first | with_reducible exact x1 | with_reducible refine CellsAt.setFar ?_ ?_ _ | with_reducible refine CellsAt.alloc ?_ _ | with_reducible refine CellsAt.drew ?_ | with_reducible refine CellsAt.drewN ?_ _ | assumption | (simp; omega) | omega)) (by repeat' (first | with_reducible exact x2 | with_reducible refine CellsAt.setFar ?_ ?_ _ | with_reducible refine CellsAt.alloc ?_ _ | with_reducible refine CellsAt.drew ?_ | with_reducible refine CellsAt.drewN ?_ _ | assumption | (simp; omega) | omega)) hml1).mono ?_
        rintro e w7 ⟨rfl, hc7⟩
        have hb7 : Below w.heap.size w w7 := bchain (by repeat' (first | exact hb6 | refine Below.drew ?_ | refine below_drewN ?_ _ | refine Below.alloc ?_ (by have := hb6.size; first | (simp; done) | (simp; omega) | omega) _ | refine Below.setCell ?_ (by first | (simp; done) | (simp; omega) | omega) _)) hc7
        have hst7 : Below w6.heap.size w6 w7 := bchain (by repeat' (first | exact Below.refl _ _ | refine Below.drew ?_ | refine below_drewN ?_ _ | refine Below.alloc ?_ (by first | (simp; done) | (simp; omega) | omega) _ | refine Below.setCell ?_ (by first | (simp; done) | (simp; omega) | omega) _)) hc7
        replace P_0 := cell_later hst7 P_0
        replace P_1 := cell_later hst7 P_1
        replace P_l := Nat.lt_of_lt_of_le P_l hst7.size
        replace Bq_0 := cell_later hst7 Bq_0
        replace Bq_1 := cell_later hst7 Bq_1
        replace Bq_l := Nat.lt_of_lt_of_le Bq_l hst7.size
        replace hl := hl.later hst7
        replace ha := ha.later hst7
        replace hp := hp.later hst7
        replace x1 := x1.later hst7
        replace x2 := x2.later hst7
        clear hst7
        clear hc7 hb6
        rw [H_tE1.out]
        go_wp2_with fail
        refine (rcan_n l.length a.length L1 a b1 b2 c1 c2 m _ H_len1.out.symm rfl (by repeat' (first | with_reducible exact x1 | with_reducible refine CellsAt.setFar ?_ ?_ _ | with_reducible refine CellsAt.alloc ?_ _ | with_reducible refine CellsAt.drew ?_ | with_reducible refine CellsAt.drewN ?_ _ | assumption | (simp; omega) | omega)) (by repeat' (first | with_reducible exact x2 | with_reducible refine CellsAt.setFar ?_ ?_ _ | with_reducible refine CellsAt.alloc ?_ _ | with_reducible refine CellsAt.drew ?_ | with_reducible refine CellsAt.drewN ?_ _ | assumption | (simp; omega) | omega)) hmL1 Hp.out.tv1).mono ?_
        rintro e w8 ⟨rfl, hc8⟩
        have hb8 : Below w.heap.size w w8 := bchain (by repeat' (first | exact hb7 | refine Below.drew ?_ | refine below_drewN ?_ _ | refine Below.alloc ?_ (by have := hb7.size; first | (simp; done) | (simp; omega) | omega) _ | refine Below.setCell ?_ (by first | (simp; done) | (simp; omega) | omega) _)) hc8
        have hst8 : Below w7.heap.size w7 w8 := bchain (by repeat' (first | exact Below.refl _ _ | refine Below.drew ?_ | refine below_drewN ?_ _ | refine Below.alloc ?_ (by first | (simp; done) | (simp; omega) | omega) _ | refine Below.setCell ?_ (by first | (simp; done) | (simp; omega) | omega) _)) hc8
        replace P_0 := cell_later hst8 P_0
        replace P_1 := cell_later hst8 P_1
        replace P_l := Nat.lt_of_lt_of_le P_l hst8.size
        replace Bq_0 := cell_later hst8 Bq_0
        replace Bq_1 := cell_later hst8 Bq_1
        replace Bq_l := Nat.lt_of_lt_of_le Bq_l hst8.size
        replace hl := hl.later hst8
        replace ha := ha.later hst8
        replace hp := hp.later hst8
        replace x1 := x1.later hst8
        replace x2 := x2.later hst8
        clear hst8
        clear hc8 hb7
        rw [H_hcan.out]
        have hz8 : w8.heap.size < w8.heap.size + 1 := by omega
        have hBz : B < w8.heap.size + 1 := by omega
        go_upto_region 11 with fail
        have t10 : IntKind.i64.wrap ((k : Int) + (W : Int)) = (k : Int) + (W : Int) := by rw [IntKind.wrap_i64]; omega
        go_cut [19, 20, 21] (fun s t u wx => ∃ B b1 c1 b2 c2 b3 c3, s = .pointer (some ⟨B, 0, none⟩) ∧ t = .slice b3 D2.length c3 ∧ u = .int .i64 0 ∧ Below w8.heap.size w8 wx ∧ (wx.cell? ⟨B, 0, none⟩ = some (.slice b1 l.length c1) ∧ wx.cell? ⟨B, 1, none⟩ = some (.slice b2 a.length c2)) ∧ CellsAt wx b1 (L2.map (Value.int .i64)) ∧ CellsAt wx b2 (a.map (Value.int .i64)) ∧ CellsAt wx b3 (D2.map (Value.int .i64)))
        case first =>
          go_region_held3 (fun w' => w'.cell? ⟨B, 0, none⟩ = some (.slice b1 l.length c1) ∧ w'.cell? ⟨B, 1, none⟩ = some (.slice b2 a.length c2)) (refine ⟨(Below.cell (p := ⟨B, 0, none⟩) (B := w8.heap.size) ?_ Bq_l).trans Bq_0, (Below.cell (p := ⟨B, 1, none⟩) (B := w8.heap.size) ?_ Bq_l).trans Bq_1⟩ <;> (repeat' (first | exact Below.refl _ _ | exact KR | with_reducible refine Below.drew ?_ | with_reducible refine Below.alloc ?_ (by first | omega | (simp; done) | (simp; omega)) _ | with_reducible refine Below.setCell ?_ (by first | omega | (simp; done) | (simp; omega)) _))) ((first
          |
            (go_at_call 19; with_reducible refine (run_f L1 a ((ps.drop k).take W) L2 a D2 0 l.length a.length (((k : Int) + (W : Int)).toNat - k) l.length a.length D2.length b1 b2 _ c1 c2 _ _ H_len1.out.symm rfl H_hwl.out H_len2.out.symm rfl rfl Hp.out.snd hml1 ?_ ?_ ?_).mono ?_; (focus (repeat' (first | with_reducible exact x1 | with_reducible refine CellsAt.alloc ?_ _ | with_reducible refine CellsAt.drew ?_))); (focus (repeat' (first | with_reducible exact x2 | with_reducible refine CellsAt.alloc ?_ _ | with_reducible refine CellsAt.drew ?_))); (focus (repeat' (first | with_reducible exact window_cells2 hp | with_reducible refine CellsAt.alloc ?_ _ | with_reducible refine CellsAt.drew ?_))); rintro e wR ⟨⟨b1, c1, b2, c2, b3, c3, rfl, x1, x2, x3, y1, y2, y3⟩, hcR⟩; have KR : Below w8.heap.size w8 wR := (bchain (by (repeat' (first | exact Below.refl _ _ | with_reducible refine Below.drew ?_ | with_reducible refine Below.alloc ?_ (by first | omega | (simp; done) | (simp; omega)) _))) hcR); have hzR := hcR.size; (try simp only [World.size_drew, World.size_alloc] at hzR); obtain ⟨hcellR, hfrozR⟩ := bcell hcR; have hxR : wR.heap.size < wR.heap.size + 1 := (by omega); (try (have hyR : w8.heap.size < wR.heap.size := by omega)))
          ))
          all_goals (
            simp only [World.size_drew, World.size_alloc] at y1 y2 y3
            go_wp2_with fail
            go_meet
            refine ⟨_, b1, c1, b2, c2, b3, c3, rfl, rfl, rfl, ?_, ⟨by go_simp, by go_simp⟩, ?_, ?_, ?_⟩
            · skip
              (repeat' (first | exact Below.refl _ _ | exact KR | with_reducible refine Below.drew ?_ | with_reducible refine Below.alloc ?_ (by first | omega | (simp; done) | (simp; omega)) _ | with_reducible refine Below.setCell ?_ (by first | omega | (simp; done) | (simp; omega)) _))
            · first | exact x1.alloc _ | exact (x1.setFarG (p := ⟨_, 0, none⟩) (fun ad e => by have := y1 ad e; simp; omega) _).setFarG (p := ⟨_, 1, none⟩) (fun ad e => by have := y1 ad e; simp; omega) _
            · first | exact x2.alloc _ | exact (x2.setFarG (p := ⟨_, 0, none⟩) (fun ad e => by have := y2 ad e; simp; omega) _).setFarG (p := ⟨_, 1, none⟩) (fun ad e => by have := y2 ad e; simp; omega) _
            · first | exact x3.alloc _ | exact (x3.setFarG (p := ⟨_, 0, none⟩) (fun ad e => by have := y3 ad e; simp; omega) _).setFarG (p := ⟨_, 1, none⟩) (fun ad e => by have := y3 ad e; simp; omega) _)
        case rest =>
          obtain ⟨C, b4, e4, b5, e5, b6, e6, rfl, rfl, rfl, hc9, ⟨Cq_0, Cq_1⟩, z1, z2, z3⟩ := hcut
          obtain ⟨w9, hw9⟩ : ∃ w9, w9 = wc := ⟨wc, rfl⟩
          subst hw9
          have Cq_l : C < w9.heap.size := by have := World.block_lt_of_cell? _ _ Cq_0; simpa using this
          have hb9 : Below w.heap.size w w9 := bchain (by repeat' (first | exact hb8 | refine Below.drew ?_ | refine below_drewN ?_ _ | refine Below.alloc ?_ (by have := hb8.size; first | (simp; done) | (simp; omega) | omega) _ | refine Below.setCell ?_ (by first | (simp; done) | (simp; omega) | omega) _)) hc9
          have hst9 : Below w8.heap.size w8 w9 := bchain (by repeat' (first | exact Below.refl _ _ | refine Below.drew ?_ | refine below_drewN ?_ _ | refine Below.alloc ?_ (by first | (simp; done) | (simp; omega) | omega) _ | refine Below.setCell ?_ (by first | (simp; done) | (simp; omega) | omega) _)) hc9
          replace P_0 := cell_later hst9 P_0
          replace P_1 := cell_later hst9 P_1
          replace P_l := Nat.lt_of_lt_of_le P_l hst9.size
          replace Bq_0 := cell_later hst9 Bq_0
          replace Bq_1 := cell_later hst9 Bq_1
          replace Bq_l := Nat.lt_of_lt_of_le Bq_l hst9.size
          replace hl := hl.later hst9
          replace ha := ha.later hst9
          replace hp := hp.later hst9
          replace x1 := x1.later hst9
          replace x2 := x2.later hst9
          clear hst9
          obtain ⟨bD, oD, rfl, hrD⟩ := x1.intG (by have := H_len1.out; omega)
          obtain ⟨cD, -, -⟩ := hrD m hmL1
          obtain ⟨bE, oE, rfl, hrE⟩ := z1.intG (by have := H_len2.out; omega)
          obtain ⟨cE, -, -⟩ := hrE m hmL2
          clear hrD hrE
          have hst := Hp.out.step H_hF.out H_hcan.out
          generalize g L2 m = u2 at cE hst
          generalize g L1 m = u1 at cD hst
          go_wp2_with fail
          go_quiet (fail)
          go_wp2_with fail
          go_ret
          exact ⟨rfl, by first | exact hb9 | exact below_drewN hb9 _⟩
    · have hcan : can L1 a m = false := by simpa using hcan
      have H_h8 := hid h8
      have H_h1 := hid h1
      have H_hfit := hid hfit
      have H_len1 := hid len1
      have H_len2 := hid len2
      have H_q3 := hid q3
      have H_htk := hid htk
      have H_hwl := hid hwl
      have H_F1 := hid F1
      have H_F2 := hid F2
      have H_tE1 := hid tE1
      have H_hF := hid hF
      have H_hF2 := hid hF2
      have H_hcan := hid hcan
      clear h8 h1 hfit len1 len2 q3 htk hwl F1 F2 tE1 hF hF2 hcan
      go_enter Try.func5, Try.ntmps5
      have hb0 := Below.refl w.heap.size w
      go_wp2_with fail
      refine (alive_any _).mono ?_
      rintro e w1 ⟨rfl, hc1⟩
      have hb1 : Below w.heap.size w w1 := bchain (by repeat' (first | exact hb0 | refine Below.drew ?_ | refine below_drewN ?_ _ | refine Below.alloc ?_ (by have := hb0.size; first | (simp; done) | (simp; omega) | omega) _ | refine Below.setCell ?_ (by first | (simp; done) | (simp; omega) | omega) _)) hc1
      have hst1 : Below w.heap.size w w1 := bchain (by repeat' (first | exact Below.refl _ _ | refine Below.drew ?_ | refine below_drewN ?_ _ | refine Below.alloc ?_ (by first | (simp; done) | (simp; omega) | omega) _ | refine Below.setCell ?_ (by first | (simp; done) | (simp; omega) | omega) _)) hc1
      have P_0 : w1.cell? ⟨w.heap.size, 0, none⟩ = some (.slice la l.length lc) := (hc1.cell (p := ⟨w.heap.size, 0, none⟩) (by first | (simp; done) | (simp; omega))).trans (by first | (simp; done) | go_simp)
      have P_1 : w1.cell? ⟨w.heap.size, 1, none⟩ = some (.slice aa a.length ac) := (hc1.cell (p := ⟨w.heap.size, 1, none⟩) (by first | (simp; done) | (simp; omega))).trans (by first | (simp; done) | go_simp)
      have P_l : w.heap.size < w1.heap.size := Nat.lt_of_lt_of_le (by first | (simp; done) | (simp; omega)) hc1.size
      replace hl := hl.later hst1
      replace ha := ha.later hst1
      replace hp := hp.later hst1
      clear hst1
      clear hc1 hb0
      go_wp2_with fail
      refine (fit_any l a la aa lc ac _ (by repeat' (first | with_reducible exact hl | with_reducible refine CellsAt.setFar ?_ ?_ _ | with_reducible refine CellsAt.alloc ?_ _ | with_reducible refine CellsAt.drew ?_ | with_reducible refine CellsAt.drewN ?_ _ | assumption | (simp; omega) | omega)) (by repeat' (first | with_reducible exact ha | with_reducible refine CellsAt.setFar ?_ ?_ _ | with_reducible refine CellsAt.alloc ?_ _ | with_reducible refine CellsAt.drew ?_ | with_reducible refine CellsAt.drewN ?_ _ | assumption | (simp; omega) | omega)) hml).mono ?_
      rintro e w2 ⟨rfl, hc2⟩
      have hb2 : Below w.heap.size w w2 := bchain (by repeat' (first | exact hb1 | refine Below.drew ?_ | refine below_drewN ?_ _ | refine Below.alloc ?_ (by have := hb1.size; first | (simp; done) | (simp; omega) | omega) _ | refine Below.setCell ?_ (by first | (simp; done) | (simp; omega) | omega) _)) hc2
      have hst2 : Below w1.heap.size w1 w2 := bchain (by repeat' (first | exact Below.refl _ _ | refine Below.drew ?_ | refine below_drewN ?_ _ | refine Below.alloc ?_ (by first | (simp; done) | (simp; omega) | omega) _ | refine Below.setCell ?_ (by first | (simp; done) | (simp; omega) | omega) _)) hc2
      replace P_0 := cell_later hst2 P_0
      replace P_1 := cell_later hst2 P_1
      replace P_l := Nat.lt_of_lt_of_le P_l hst2.size
      replace hl := hl.later hst2
      replace ha := ha.later hst2
      replace hp := hp.later hst2
      clear hst2
      clear hc2 hb1
      rw [H_hfit.out]
      go_wp2_with fail
      refine (rpicks_any l a ps la aa _ lc ac pc _ (by repeat' (first | with_reducible exact hl | with_reducible refine CellsAt.setFar ?_ ?_ _ | with_reducible refine CellsAt.alloc ?_ _ | with_reducible refine CellsAt.drew ?_ | with_reducible refine CellsAt.drewN ?_ _ | assumption | (simp; omega) | omega)) (by repeat' (first | with_reducible exact ha | with_reducible refine CellsAt.setFar ?_ ?_ _ | with_reducible refine CellsAt.alloc ?_ _ | with_reducible refine CellsAt.drew ?_ | with_reducible refine CellsAt.drewN ?_ _ | assumption | (simp; omega) | omega)) (by repeat' (first | with_reducible exact hp | with_reducible refine CellsAt.setFar ?_ ?_ _ | with_reducible refine CellsAt.alloc ?_ _ | with_reducible refine CellsAt.drew ?_ | with_reducible refine CellsAt.drewN ?_ _ | assumption | (simp; omega) | omega)) hml).mono ?_
      rintro e w3 ⟨rfl, hc3⟩
      have hb3 : Below w.heap.size w w3 := bchain (by repeat' (first | exact hb2 | refine Below.drew ?_ | refine below_drewN ?_ _ | refine Below.alloc ?_ (by have := hb2.size; first | (simp; done) | (simp; omega) | omega) _ | refine Below.setCell ?_ (by first | (simp; done) | (simp; omega) | omega) _)) hc3
      have hst3 : Below w2.heap.size w2 w3 := bchain (by repeat' (first | exact Below.refl _ _ | refine Below.drew ?_ | refine below_drewN ?_ _ | refine Below.alloc ?_ (by first | (simp; done) | (simp; omega) | omega) _ | refine Below.setCell ?_ (by first | (simp; done) | (simp; omega) | omega) _)) hc3
      replace P_0 := cell_later hst3 P_0
      replace P_1 := cell_later hst3 P_1
      replace P_l := Nat.lt_of_lt_of_le P_l hst3.size
      replace hl := hl.later hst3
      replace ha := ha.later hst3
      replace hp := hp.later hst3
      clear hst3
      clear hc3 hb2
      rw [H_h8.out]
      go_wp2_with fail
      refine (fair_r l a ps (W : Int) 0 true l.length a.length ps.length la aa _ lc ac pc _ rfl rfl rfl (by repeat' (first | with_reducible exact hl | with_reducible refine CellsAt.setFar ?_ ?_ _ | with_reducible refine CellsAt.alloc ?_ _ | with_reducible refine CellsAt.drew ?_ | with_reducible refine CellsAt.drewN ?_ _ | assumption | (simp; omega) | omega)) (by repeat' (first | with_reducible exact ha | with_reducible refine CellsAt.setFar ?_ ?_ _ | with_reducible refine CellsAt.alloc ?_ _ | with_reducible refine CellsAt.drew ?_ | with_reducible refine CellsAt.drewN ?_ _ | assumption | (simp; omega) | omega)) (by repeat' (first | with_reducible exact hp | with_reducible refine CellsAt.setFar ?_ ?_ _ | with_reducible refine CellsAt.alloc ?_ _ | with_reducible refine CellsAt.drew ?_ | with_reducible refine CellsAt.drewN ?_ _ | assumption | (simp; omega) | omega)) hml H_F1.out).mono ?_
      rintro e w4 ⟨rfl, hc4⟩
      have hb4 : Below w.heap.size w w4 := bchain (by repeat' (first | exact hb3 | refine Below.drew ?_ | refine below_drewN ?_ _ | refine Below.alloc ?_ (by have := hb3.size; first | (simp; done) | (simp; omega) | omega) _ | refine Below.setCell ?_ (by first | (simp; done) | (simp; omega) | omega) _)) hc4
      have hst4 : Below w3.heap.size w3 w4 := bchain (by repeat' (first | exact Below.refl _ _ | refine Below.drew ?_ | refine below_drewN ?_ _ | refine Below.alloc ?_ (by first | (simp; done) | (simp; omega) | omega) _ | refine Below.setCell ?_ (by first | (simp; done) | (simp; omega) | omega) _)) hc4
      replace P_0 := cell_later hst4 P_0
      replace P_1 := cell_later hst4 P_1
      replace P_l := Nat.lt_of_lt_of_le P_l hst4.size
      replace hl := hl.later hst4
      replace ha := ha.later hst4
      replace hp := hp.later hst4
      clear hst4
      clear hc4 hb3
      go_wp2_with fail
      refine (fair_r l a ps ((W : Int) + 1) 0 true l.length a.length ps.length la aa _ lc ac pc _ rfl rfl rfl (by repeat' (first | with_reducible exact hl | with_reducible refine CellsAt.setFar ?_ ?_ _ | with_reducible refine CellsAt.alloc ?_ _ | with_reducible refine CellsAt.drew ?_ | with_reducible refine CellsAt.drewN ?_ _ | assumption | (simp; omega) | omega)) (by repeat' (first | with_reducible exact ha | with_reducible refine CellsAt.setFar ?_ ?_ _ | with_reducible refine CellsAt.alloc ?_ _ | with_reducible refine CellsAt.drew ?_ | with_reducible refine CellsAt.drewN ?_ _ | assumption | (simp; omega) | omega)) (by repeat' (first | with_reducible exact hp | with_reducible refine CellsAt.setFar ?_ ?_ _ | with_reducible refine CellsAt.alloc ?_ _ | with_reducible refine CellsAt.drew ?_ | with_reducible refine CellsAt.drewN ?_ _ | assumption | (simp; omega) | omega)) hml H_F2.out).mono ?_
      rintro e w5 ⟨rfl, hc5⟩
      have hb5 : Below w.heap.size w w5 := bchain (by repeat' (first | exact hb4 | refine Below.drew ?_ | refine below_drewN ?_ _ | refine Below.alloc ?_ (by have := hb4.size; first | (simp; done) | (simp; omega) | omega) _ | refine Below.setCell ?_ (by first | (simp; done) | (simp; omega) | omega) _)) hc5
      have hst5 : Below w4.heap.size w4 w5 := bchain (by repeat' (first | exact Below.refl _ _ | refine Below.drew ?_ | refine below_drewN ?_ _ | refine Below.alloc ?_ (by first | (simp; done) | (simp; omega) | omega) _ | refine Below.setCell ?_ (by first | (simp; done) | (simp; omega) | omega) _)) hc5
      replace P_0 := cell_later hst5 P_0
      replace P_1 := cell_later hst5 P_1
      replace P_l := Nat.lt_of_lt_of_le P_l hst5.size
      replace hl := hl.later hst5
      replace ha := ha.later hst5
      replace hp := hp.later hst5
      clear hst5
      clear hc5 hb4
      have hz5 : w5.heap.size < w5.heap.size + 1 := by omega
      go_upto_region 6 with fail
      go_cut [16, 17, 18] (fun s t u wx => ∃ B b1 c1 b2 c2 b3 c3, s = .pointer (some ⟨B, 0, none⟩) ∧ t = .slice b3 D1.length c3 ∧ u = .int .i64 0 ∧ Below w5.heap.size w5 wx ∧ (wx.cell? ⟨B, 0, none⟩ = some (.slice b1 l.length c1) ∧ wx.cell? ⟨B, 1, none⟩ = some (.slice b2 a.length c2)) ∧ CellsAt wx b1 (L1.map (Value.int .i64)) ∧ CellsAt wx b2 (a.map (Value.int .i64)) ∧ CellsAt wx b3 (D1.map (Value.int .i64)))
      case first =>
        go_region_held3 (fun w' => w'.cell? ⟨w.heap.size, 0, none⟩ = some (.slice la l.length lc) ∧ w'.cell? ⟨w.heap.size, 1, none⟩ = some (.slice aa a.length ac)) (refine ⟨(Below.cell (p := ⟨w.heap.size, 0, none⟩) (B := w5.heap.size) ?_ P_l).trans P_0, (Below.cell (p := ⟨w.heap.size, 1, none⟩) (B := w5.heap.size) ?_ P_l).trans P_1⟩ <;> (repeat' (first | exact Below.refl _ _ | exact KR | with_reducible refine Below.drew ?_ | with_reducible refine Below.alloc ?_ (by first | omega | (simp; done) | (simp; omega)) _ | with_reducible refine Below.setCell ?_ (by first | omega | (simp; done) | (simp; omega)) _))) ((first
        |
          (go_at_call 19; with_reducible refine (run_f l a (ps.take k) L1 a D1 0 l.length a.length k l.length a.length D1.length la aa _ lc ac _ _ rfl rfl H_htk.out H_len1.out.symm rfl rfl Hp.out.fst hml ?_ ?_ ?_).mono ?_; (focus (repeat' (first | with_reducible exact hl | with_reducible refine CellsAt.alloc ?_ _ | with_reducible refine CellsAt.drew ?_))); (focus (repeat' (first | with_reducible exact ha | with_reducible refine CellsAt.alloc ?_ _ | with_reducible refine CellsAt.drew ?_))); (focus (repeat' (first | with_reducible exact take_cells k hp | with_reducible refine CellsAt.alloc ?_ _ | with_reducible refine CellsAt.drew ?_))); rintro e wR ⟨⟨b1, c1, b2, c2, b3, c3, rfl, x1, x2, x3, y1, y2, y3⟩, hcR⟩; have KR : Below w5.heap.size w5 wR := (bchain (by (repeat' (first | exact Below.refl _ _ | with_reducible refine Below.drew ?_ | with_reducible refine Below.alloc ?_ (by first | omega | (simp; done) | (simp; omega)) _))) hcR); have hzR := hcR.size; (try simp only [World.size_drew, World.size_alloc] at hzR); obtain ⟨hcellR, hfrozR⟩ := bcell hcR; have hxR : wR.heap.size < wR.heap.size + 1 := (by omega); (try (have hyR : w5.heap.size < wR.heap.size := by omega)))
        ))
        all_goals (
          simp only [World.size_drew, World.size_alloc] at y1 y2 y3
          go_wp2_with fail
          go_meet
          refine ⟨_, b1, c1, b2, c2, b3, c3, rfl, rfl, rfl, ?_, ⟨by go_simp, by go_simp⟩, ?_, ?_, ?_⟩
          · skip
            (repeat' (first | exact Below.refl _ _ | exact KR | with_reducible refine Below.drew ?_ | with_reducible refine Below.alloc ?_ (by first | omega | (simp; done) | (simp; omega)) _ | with_reducible refine Below.setCell ?_ (by first | omega | (simp; done) | (simp; omega)) _))
          · first | exact x1.alloc _ | exact (x1.setFarG (p := ⟨_, 0, none⟩) (fun ad e => by have := y1 ad e; simp; omega) _).setFarG (p := ⟨_, 1, none⟩) (fun ad e => by have := y1 ad e; simp; omega) _
          · first | exact x2.alloc _ | exact (x2.setFarG (p := ⟨_, 0, none⟩) (fun ad e => by have := y2 ad e; simp; omega) _).setFarG (p := ⟨_, 1, none⟩) (fun ad e => by have := y2 ad e; simp; omega) _
          · first | exact x3.alloc _ | exact (x3.setFarG (p := ⟨_, 0, none⟩) (fun ad e => by have := y3 ad e; simp; omega) _).setFarG (p := ⟨_, 1, none⟩) (fun ad e => by have := y3 ad e; simp; omega) _)
      case rest =>
        obtain ⟨B, b1, c1, b2, c2, b3, c3, rfl, rfl, rfl, hc6, ⟨Bq_0, Bq_1⟩, x1, x2, x3⟩ := hcut
        obtain ⟨w6, hw6⟩ : ∃ w6, w6 = wc := ⟨wc, rfl⟩
        subst hw6
        have Bq_l : B < w6.heap.size := by have := World.block_lt_of_cell? _ _ Bq_0; simpa using this
        have hb6 : Below w.heap.size w w6 := bchain (by repeat' (first | exact hb5 | refine Below.drew ?_ | refine below_drewN ?_ _ | refine Below.alloc ?_ (by have := hb5.size; first | (simp; done) | (simp; omega) | omega) _ | refine Below.setCell ?_ (by first | (simp; done) | (simp; omega) | omega) _)) hc6
        have hst6 : Below w5.heap.size w5 w6 := bchain (by repeat' (first | exact Below.refl _ _ | refine Below.drew ?_ | refine below_drewN ?_ _ | refine Below.alloc ?_ (by first | (simp; done) | (simp; omega) | omega) _ | refine Below.setCell ?_ (by first | (simp; done) | (simp; omega) | omega) _)) hc6
        replace P_0 := cell_later hst6 P_0
        replace P_1 := cell_later hst6 P_1
        replace P_l := Nat.lt_of_lt_of_le P_l hst6.size
        replace hl := hl.later hst6
        replace ha := ha.later hst6
        replace hp := hp.later hst6
        clear hst6
        go_wp2_with fail
        refine (rtcheck_n l.length a.length L1 a b1 b2 c1 c2 _ H_len1.out.symm rfl (by repeat' (first | with_reducible exact x1 | with_reducible refine CellsAt.setFar ?_ ?_ _ | with_reducible refine CellsAt.alloc ?_ _ | with_reducible refine CellsAt.drew ?_ | with_reducible refine CellsAt.drewN ?_ _ | assumption | (simp; omega) | omega)) (by repeat' (first | with_reducible exact x2 | with_reducible refine CellsAt.setFar ?_ ?_ _ | with_reducible refine CellsAt.alloc ?_ _ | with_reducible refine CellsAt.drew ?_ | with_reducible refine CellsAt.drewN ?_ _ | assumption | (simp; omega) | omega)) hml1).mono ?_
        rintro e w7 ⟨rfl, hc7⟩
        have hb7 : Below w.heap.size w w7 := bchain (by repeat' (first | exact hb6 | refine Below.drew ?_ | refine below_drewN ?_ _ | refine Below.alloc ?_ (by have := hb6.size; first | (simp; done) | (simp; omega) | omega) _ | refine Below.setCell ?_ (by first | (simp; done) | (simp; omega) | omega) _)) hc7
        have hst7 : Below w6.heap.size w6 w7 := bchain (by repeat' (first | exact Below.refl _ _ | refine Below.drew ?_ | refine below_drewN ?_ _ | refine Below.alloc ?_ (by first | (simp; done) | (simp; omega) | omega) _ | refine Below.setCell ?_ (by first | (simp; done) | (simp; omega) | omega) _)) hc7
        replace P_0 := cell_later hst7 P_0
        replace P_1 := cell_later hst7 P_1
        replace P_l := Nat.lt_of_lt_of_le P_l hst7.size
        replace Bq_0 := cell_later hst7 Bq_0
        replace Bq_1 := cell_later hst7 Bq_1
        replace Bq_l := Nat.lt_of_lt_of_le Bq_l hst7.size
        replace hl := hl.later hst7
        replace ha := ha.later hst7
        replace hp := hp.later hst7
        replace x1 := x1.later hst7
        replace x2 := x2.later hst7
        clear hst7
        clear hc7 hb6
        rw [H_tE1.out]
        go_wp2_with fail
        refine (rcan_n l.length a.length L1 a b1 b2 c1 c2 m _ H_len1.out.symm rfl (by repeat' (first | with_reducible exact x1 | with_reducible refine CellsAt.setFar ?_ ?_ _ | with_reducible refine CellsAt.alloc ?_ _ | with_reducible refine CellsAt.drew ?_ | with_reducible refine CellsAt.drewN ?_ _ | assumption | (simp; omega) | omega)) (by repeat' (first | with_reducible exact x2 | with_reducible refine CellsAt.setFar ?_ ?_ _ | with_reducible refine CellsAt.alloc ?_ _ | with_reducible refine CellsAt.drew ?_ | with_reducible refine CellsAt.drewN ?_ _ | assumption | (simp; omega) | omega)) hmL1 Hp.out.tv1).mono ?_
        rintro e w8 ⟨rfl, hc8⟩
        have hb8 : Below w.heap.size w w8 := bchain (by repeat' (first | exact hb7 | refine Below.drew ?_ | refine below_drewN ?_ _ | refine Below.alloc ?_ (by have := hb7.size; first | (simp; done) | (simp; omega) | omega) _ | refine Below.setCell ?_ (by first | (simp; done) | (simp; omega) | omega) _)) hc8
        have hst8 : Below w7.heap.size w7 w8 := bchain (by repeat' (first | exact Below.refl _ _ | refine Below.drew ?_ | refine below_drewN ?_ _ | refine Below.alloc ?_ (by first | (simp; done) | (simp; omega) | omega) _ | refine Below.setCell ?_ (by first | (simp; done) | (simp; omega) | omega) _)) hc8
        replace P_0 := cell_later hst8 P_0
        replace P_1 := cell_later hst8 P_1
        replace P_l := Nat.lt_of_lt_of_le P_l hst8.size
        replace Bq_0 := cell_later hst8 Bq_0
        replace Bq_1 := cell_later hst8 Bq_1
        replace Bq_l := Nat.lt_of_lt_of_le Bq_l hst8.size
        replace hl := hl.later hst8
        replace ha := ha.later hst8
        replace hp := hp.later hst8
        replace x1 := x1.later hst8
        replace x2 := x2.later hst8
        clear hst8
        clear hc8 hb7
        rw [H_hcan.out]
        go_wp2_with fail
        go_wp2_with fail
        go_ret
        exact ⟨rfl, by repeat' (first | exact hb8 | refine Below.drew ?_ | refine below_drewN ?_ _ | refine Below.alloc ?_ (by have := hb8.size; first | (simp; done) | (simp; omega) | omega) _ | refine Below.setCell ?_ (by first | (simp; done) | (simp; omega) | omega) _)⟩
  · have hF : fairB l a ps W = false := by simpa using hF
    rw [hF] at F1
    generalize fairB l a ps (W + 1) = G2 at F2
    clear hmore
    have H_h8 := hid h8
    have H_h1 := hid h1
    have H_hfit := hid hfit
    have H_len1 := hid len1
    have H_len2 := hid len2
    have H_q3 := hid q3
    have H_htk := hid htk
    have H_hwl := hid hwl
    have H_F1 := hid F1
    have H_F2 := hid F2
    have H_tE1 := hid tE1
    have H_hF := hid hF
    clear h8 h1 hfit len1 len2 q3 htk hwl F1 F2 tE1 hF
    go_enter Try.func5, Try.ntmps5
    have hb0 := Below.refl w.heap.size w
    go_wp2_with fail
    refine (alive_any _).mono ?_
    rintro e w1 ⟨rfl, hc1⟩
    have hb1 : Below w.heap.size w w1 := bchain (by repeat' (first | exact hb0 | refine Below.drew ?_ | refine below_drewN ?_ _ | refine Below.alloc ?_ (by have := hb0.size; first | (simp; done) | (simp; omega) | omega) _ | refine Below.setCell ?_ (by first | (simp; done) | (simp; omega) | omega) _)) hc1
    have hst1 : Below w.heap.size w w1 := bchain (by repeat' (first | exact Below.refl _ _ | refine Below.drew ?_ | refine below_drewN ?_ _ | refine Below.alloc ?_ (by first | (simp; done) | (simp; omega) | omega) _ | refine Below.setCell ?_ (by first | (simp; done) | (simp; omega) | omega) _)) hc1
    have P_0 : w1.cell? ⟨w.heap.size, 0, none⟩ = some (.slice la l.length lc) := (hc1.cell (p := ⟨w.heap.size, 0, none⟩) (by first | (simp; done) | (simp; omega))).trans (by first | (simp; done) | go_simp)
    have P_1 : w1.cell? ⟨w.heap.size, 1, none⟩ = some (.slice aa a.length ac) := (hc1.cell (p := ⟨w.heap.size, 1, none⟩) (by first | (simp; done) | (simp; omega))).trans (by first | (simp; done) | go_simp)
    have P_l : w.heap.size < w1.heap.size := Nat.lt_of_lt_of_le (by first | (simp; done) | (simp; omega)) hc1.size
    replace hl := hl.later hst1
    replace ha := ha.later hst1
    replace hp := hp.later hst1
    clear hst1
    clear hc1 hb0
    go_wp2_with fail
    refine (fit_any l a la aa lc ac _ (by repeat' (first | with_reducible exact hl | with_reducible refine CellsAt.setFar ?_ ?_ _ | with_reducible refine CellsAt.alloc ?_ _ | with_reducible refine CellsAt.drew ?_ | with_reducible refine CellsAt.drewN ?_ _ | assumption | (simp; omega) | omega)) (by repeat' (first | with_reducible exact ha | with_reducible refine CellsAt.setFar ?_ ?_ _ | with_reducible refine CellsAt.alloc ?_ _ | with_reducible refine CellsAt.drew ?_ | with_reducible refine CellsAt.drewN ?_ _ | assumption | (simp; omega) | omega)) hml).mono ?_
    rintro e w2 ⟨rfl, hc2⟩
    have hb2 : Below w.heap.size w w2 := bchain (by repeat' (first | exact hb1 | refine Below.drew ?_ | refine below_drewN ?_ _ | refine Below.alloc ?_ (by have := hb1.size; first | (simp; done) | (simp; omega) | omega) _ | refine Below.setCell ?_ (by first | (simp; done) | (simp; omega) | omega) _)) hc2
    have hst2 : Below w1.heap.size w1 w2 := bchain (by repeat' (first | exact Below.refl _ _ | refine Below.drew ?_ | refine below_drewN ?_ _ | refine Below.alloc ?_ (by first | (simp; done) | (simp; omega) | omega) _ | refine Below.setCell ?_ (by first | (simp; done) | (simp; omega) | omega) _)) hc2
    replace P_0 := cell_later hst2 P_0
    replace P_1 := cell_later hst2 P_1
    replace P_l := Nat.lt_of_lt_of_le P_l hst2.size
    replace hl := hl.later hst2
    replace ha := ha.later hst2
    replace hp := hp.later hst2
    clear hst2
    clear hc2 hb1
    rw [H_hfit.out]
    go_wp2_with fail
    refine (rpicks_any l a ps la aa _ lc ac pc _ (by repeat' (first | with_reducible exact hl | with_reducible refine CellsAt.setFar ?_ ?_ _ | with_reducible refine CellsAt.alloc ?_ _ | with_reducible refine CellsAt.drew ?_ | with_reducible refine CellsAt.drewN ?_ _ | assumption | (simp; omega) | omega)) (by repeat' (first | with_reducible exact ha | with_reducible refine CellsAt.setFar ?_ ?_ _ | with_reducible refine CellsAt.alloc ?_ _ | with_reducible refine CellsAt.drew ?_ | with_reducible refine CellsAt.drewN ?_ _ | assumption | (simp; omega) | omega)) (by repeat' (first | with_reducible exact hp | with_reducible refine CellsAt.setFar ?_ ?_ _ | with_reducible refine CellsAt.alloc ?_ _ | with_reducible refine CellsAt.drew ?_ | with_reducible refine CellsAt.drewN ?_ _ | assumption | (simp; omega) | omega)) hml).mono ?_
    rintro e w3 ⟨rfl, hc3⟩
    have hb3 : Below w.heap.size w w3 := bchain (by repeat' (first | exact hb2 | refine Below.drew ?_ | refine below_drewN ?_ _ | refine Below.alloc ?_ (by have := hb2.size; first | (simp; done) | (simp; omega) | omega) _ | refine Below.setCell ?_ (by first | (simp; done) | (simp; omega) | omega) _)) hc3
    have hst3 : Below w2.heap.size w2 w3 := bchain (by repeat' (first | exact Below.refl _ _ | refine Below.drew ?_ | refine below_drewN ?_ _ | refine Below.alloc ?_ (by first | (simp; done) | (simp; omega) | omega) _ | refine Below.setCell ?_ (by first | (simp; done) | (simp; omega) | omega) _)) hc3
    replace P_0 := cell_later hst3 P_0
    replace P_1 := cell_later hst3 P_1
    replace P_l := Nat.lt_of_lt_of_le P_l hst3.size
    replace hl := hl.later hst3
    replace ha := ha.later hst3
    replace hp := hp.later hst3
    clear hst3
    clear hc3 hb2
    rw [H_h8.out]
    go_wp2_with fail
    refine (fair_r l a ps (W : Int) 0 false l.length a.length ps.length la aa _ lc ac pc _ rfl rfl rfl (by repeat' (first | with_reducible exact hl | with_reducible refine CellsAt.setFar ?_ ?_ _ | with_reducible refine CellsAt.alloc ?_ _ | with_reducible refine CellsAt.drew ?_ | with_reducible refine CellsAt.drewN ?_ _ | assumption | (simp; omega) | omega)) (by repeat' (first | with_reducible exact ha | with_reducible refine CellsAt.setFar ?_ ?_ _ | with_reducible refine CellsAt.alloc ?_ _ | with_reducible refine CellsAt.drew ?_ | with_reducible refine CellsAt.drewN ?_ _ | assumption | (simp; omega) | omega)) (by repeat' (first | with_reducible exact hp | with_reducible refine CellsAt.setFar ?_ ?_ _ | with_reducible refine CellsAt.alloc ?_ _ | with_reducible refine CellsAt.drew ?_ | with_reducible refine CellsAt.drewN ?_ _ | assumption | (simp; omega) | omega)) hml H_F1.out).mono ?_
    rintro e w4 ⟨rfl, hc4⟩
    have hb4 : Below w.heap.size w w4 := bchain (by repeat' (first | exact hb3 | refine Below.drew ?_ | refine below_drewN ?_ _ | refine Below.alloc ?_ (by have := hb3.size; first | (simp; done) | (simp; omega) | omega) _ | refine Below.setCell ?_ (by first | (simp; done) | (simp; omega) | omega) _)) hc4
    have hst4 : Below w3.heap.size w3 w4 := bchain (by repeat' (first | exact Below.refl _ _ | refine Below.drew ?_ | refine below_drewN ?_ _ | refine Below.alloc ?_ (by first | (simp; done) | (simp; omega) | omega) _ | refine Below.setCell ?_ (by first | (simp; done) | (simp; omega) | omega) _)) hc4
    replace P_0 := cell_later hst4 P_0
    replace P_1 := cell_later hst4 P_1
    replace P_l := Nat.lt_of_lt_of_le P_l hst4.size
    replace hl := hl.later hst4
    replace ha := ha.later hst4
    replace hp := hp.later hst4
    clear hst4
    clear hc4 hb3
    go_wp2_with fail
    refine (fair_r l a ps ((W : Int) + 1) 0 G2 l.length a.length ps.length la aa _ lc ac pc _ rfl rfl rfl (by repeat' (first | with_reducible exact hl | with_reducible refine CellsAt.setFar ?_ ?_ _ | with_reducible refine CellsAt.alloc ?_ _ | with_reducible refine CellsAt.drew ?_ | with_reducible refine CellsAt.drewN ?_ _ | assumption | (simp; omega) | omega)) (by repeat' (first | with_reducible exact ha | with_reducible refine CellsAt.setFar ?_ ?_ _ | with_reducible refine CellsAt.alloc ?_ _ | with_reducible refine CellsAt.drew ?_ | with_reducible refine CellsAt.drewN ?_ _ | assumption | (simp; omega) | omega)) (by repeat' (first | with_reducible exact hp | with_reducible refine CellsAt.setFar ?_ ?_ _ | with_reducible refine CellsAt.alloc ?_ _ | with_reducible refine CellsAt.drew ?_ | with_reducible refine CellsAt.drewN ?_ _ | assumption | (simp; omega) | omega)) hml H_F2.out).mono ?_
    rintro e w5 ⟨rfl, hc5⟩
    have hb5 : Below w.heap.size w w5 := bchain (by repeat' (first | exact hb4 | refine Below.drew ?_ | refine below_drewN ?_ _ | refine Below.alloc ?_ (by have := hb4.size; first | (simp; done) | (simp; omega) | omega) _ | refine Below.setCell ?_ (by first | (simp; done) | (simp; omega) | omega) _)) hc5
    have hst5 : Below w4.heap.size w4 w5 := bchain (by repeat' (first | exact Below.refl _ _ | refine Below.drew ?_ | refine below_drewN ?_ _ | refine Below.alloc ?_ (by first | (simp; done) | (simp; omega) | omega) _ | refine Below.setCell ?_ (by first | (simp; done) | (simp; omega) | omega) _)) hc5
    replace P_0 := cell_later hst5 P_0
    replace P_1 := cell_later hst5 P_1
    replace P_l := Nat.lt_of_lt_of_le P_l hst5.size
    replace hl := hl.later hst5
    replace ha := ha.later hst5
    replace hp := hp.later hst5
    clear hst5
    clear hc5 hb4
    have hz5 : w5.heap.size < w5.heap.size + 1 := by omega
    go_upto_region 6 with fail
    go_cut [16, 17, 18] (fun s t u wx => ∃ B b1 c1 b2 c2 b3 c3, s = .pointer (some ⟨B, 0, none⟩) ∧ t = .slice b3 D1.length c3 ∧ u = .int .i64 0 ∧ Below w5.heap.size w5 wx ∧ (wx.cell? ⟨B, 0, none⟩ = some (.slice b1 l.length c1) ∧ wx.cell? ⟨B, 1, none⟩ = some (.slice b2 a.length c2)) ∧ CellsAt wx b1 (L1.map (Value.int .i64)) ∧ CellsAt wx b2 (a.map (Value.int .i64)) ∧ CellsAt wx b3 (D1.map (Value.int .i64)))
    case first =>
      go_region_held3 (fun w' => w'.cell? ⟨w.heap.size, 0, none⟩ = some (.slice la l.length lc) ∧ w'.cell? ⟨w.heap.size, 1, none⟩ = some (.slice aa a.length ac)) (refine ⟨(Below.cell (p := ⟨w.heap.size, 0, none⟩) (B := w5.heap.size) ?_ P_l).trans P_0, (Below.cell (p := ⟨w.heap.size, 1, none⟩) (B := w5.heap.size) ?_ P_l).trans P_1⟩ <;> (repeat' (first | exact Below.refl _ _ | exact KR | with_reducible refine Below.drew ?_ | with_reducible refine Below.alloc ?_ (by first | omega | (simp; done) | (simp; omega)) _ | with_reducible refine Below.setCell ?_ (by first | omega | (simp; done) | (simp; omega)) _))) ((first
      |
        (go_at_call 19; with_reducible refine (run_f l a (ps.take k) L1 a D1 0 l.length a.length k l.length a.length D1.length la aa _ lc ac _ _ rfl rfl H_htk.out H_len1.out.symm rfl rfl Hp.out.fst hml ?_ ?_ ?_).mono ?_; (focus (repeat' (first | with_reducible exact hl | with_reducible refine CellsAt.alloc ?_ _ | with_reducible refine CellsAt.drew ?_))); (focus (repeat' (first | with_reducible exact ha | with_reducible refine CellsAt.alloc ?_ _ | with_reducible refine CellsAt.drew ?_))); (focus (repeat' (first | with_reducible exact take_cells k hp | with_reducible refine CellsAt.alloc ?_ _ | with_reducible refine CellsAt.drew ?_))); rintro e wR ⟨⟨b1, c1, b2, c2, b3, c3, rfl, x1, x2, x3, y1, y2, y3⟩, hcR⟩; have KR : Below w5.heap.size w5 wR := (bchain (by (repeat' (first | exact Below.refl _ _ | with_reducible refine Below.drew ?_ | with_reducible refine Below.alloc ?_ (by first | omega | (simp; done) | (simp; omega)) _))) hcR); have hzR := hcR.size; (try simp only [World.size_drew, World.size_alloc] at hzR); obtain ⟨hcellR, hfrozR⟩ := bcell hcR; have hxR : wR.heap.size < wR.heap.size + 1 := (by omega); (try (have hyR : w5.heap.size < wR.heap.size := by omega)))
      ))
      all_goals (
        simp only [World.size_drew, World.size_alloc] at y1 y2 y3
        go_wp2_with fail
        go_meet
        refine ⟨_, b1, c1, b2, c2, b3, c3, rfl, rfl, rfl, ?_, ⟨by go_simp, by go_simp⟩, ?_, ?_, ?_⟩
        · skip
          (repeat' (first | exact Below.refl _ _ | exact KR | with_reducible refine Below.drew ?_ | with_reducible refine Below.alloc ?_ (by first | omega | (simp; done) | (simp; omega)) _ | with_reducible refine Below.setCell ?_ (by first | omega | (simp; done) | (simp; omega)) _))
        · first | exact x1.alloc _ | exact (x1.setFarG (p := ⟨_, 0, none⟩) (fun ad e => by have := y1 ad e; simp; omega) _).setFarG (p := ⟨_, 1, none⟩) (fun ad e => by have := y1 ad e; simp; omega) _
        · first | exact x2.alloc _ | exact (x2.setFarG (p := ⟨_, 0, none⟩) (fun ad e => by have := y2 ad e; simp; omega) _).setFarG (p := ⟨_, 1, none⟩) (fun ad e => by have := y2 ad e; simp; omega) _
        · first | exact x3.alloc _ | exact (x3.setFarG (p := ⟨_, 0, none⟩) (fun ad e => by have := y3 ad e; simp; omega) _).setFarG (p := ⟨_, 1, none⟩) (fun ad e => by have := y3 ad e; simp; omega) _)
    case rest =>
      obtain ⟨B, b1, c1, b2, c2, b3, c3, rfl, rfl, rfl, hc6, ⟨Bq_0, Bq_1⟩, x1, x2, x3⟩ := hcut
      obtain ⟨w6, hw6⟩ : ∃ w6, w6 = wc := ⟨wc, rfl⟩
      subst hw6
      have Bq_l : B < w6.heap.size := by have := World.block_lt_of_cell? _ _ Bq_0; simpa using this
      have hb6 : Below w.heap.size w w6 := bchain (by repeat' (first | exact hb5 | refine Below.drew ?_ | refine below_drewN ?_ _ | refine Below.alloc ?_ (by have := hb5.size; first | (simp; done) | (simp; omega) | omega) _ | refine Below.setCell ?_ (by first | (simp; done) | (simp; omega) | omega) _)) hc6
      have hst6 : Below w5.heap.size w5 w6 := bchain (by repeat' (first | exact Below.refl _ _ | refine Below.drew ?_ | refine below_drewN ?_ _ | refine Below.alloc ?_ (by first | (simp; done) | (simp; omega) | omega) _ | refine Below.setCell ?_ (by first | (simp; done) | (simp; omega) | omega) _)) hc6
      replace P_0 := cell_later hst6 P_0
      replace P_1 := cell_later hst6 P_1
      replace P_l := Nat.lt_of_lt_of_le P_l hst6.size
      replace hl := hl.later hst6
      replace ha := ha.later hst6
      replace hp := hp.later hst6
      clear hst6
      go_wp2_with fail
      refine (rtcheck_n l.length a.length L1 a b1 b2 c1 c2 _ H_len1.out.symm rfl (by repeat' (first | with_reducible exact x1 | with_reducible refine CellsAt.setFar ?_ ?_ _ | with_reducible refine CellsAt.alloc ?_ _ | with_reducible refine CellsAt.drew ?_ | with_reducible refine CellsAt.drewN ?_ _ | assumption | (simp; omega) | omega)) (by repeat' (first | with_reducible exact x2 | with_reducible refine CellsAt.setFar ?_ ?_ _ | with_reducible refine CellsAt.alloc ?_ _ | with_reducible refine CellsAt.drew ?_ | with_reducible refine CellsAt.drewN ?_ _ | assumption | (simp; omega) | omega)) hml1).mono ?_
      rintro e w7 ⟨rfl, hc7⟩
      have hb7 : Below w.heap.size w w7 := bchain (by repeat' (first | exact hb6 | refine Below.drew ?_ | refine below_drewN ?_ _ | refine Below.alloc ?_ (by have := hb6.size; first | (simp; done) | (simp; omega) | omega) _ | refine Below.setCell ?_ (by first | (simp; done) | (simp; omega) | omega) _)) hc7
      have hst7 : Below w6.heap.size w6 w7 := bchain (by repeat' (first | exact Below.refl _ _ | refine Below.drew ?_ | refine below_drewN ?_ _ | refine Below.alloc ?_ (by first | (simp; done) | (simp; omega) | omega) _ | refine Below.setCell ?_ (by first | (simp; done) | (simp; omega) | omega) _)) hc7
      replace P_0 := cell_later hst7 P_0
      replace P_1 := cell_later hst7 P_1
      replace P_l := Nat.lt_of_lt_of_le P_l hst7.size
      replace Bq_0 := cell_later hst7 Bq_0
      replace Bq_1 := cell_later hst7 Bq_1
      replace Bq_l := Nat.lt_of_lt_of_le Bq_l hst7.size
      replace hl := hl.later hst7
      replace ha := ha.later hst7
      replace hp := hp.later hst7
      replace x1 := x1.later hst7
      replace x2 := x2.later hst7
      clear hst7
      clear hc7 hb6
      rw [H_tE1.out]
      go_wp2_with fail
      go_wp2_with fail
      go_ret
      exact ⟨rfl, by repeat' (first | exact hb7 | refine Below.drew ?_ | refine below_drewN ?_ _ | refine Below.alloc ?_ (by have := hb7.size; first | (simp; done) | (simp; omega) | omega) _ | refine Below.setCell ?_ (by first | (simp; done) | (simp; omega) | omega) _)⟩

set_option maxRecDepth 100000 in
set_option maxHeartbeats 40000000 in
theorem windows_walk (l a : List Int) (la aa : Option Addr) (lc ac : Nat) (pa : Option Addr) (pc : Nat) (ps : List Int) (wi ta at_ : Int) (w : World) (h0 : TkIn w l a la aa lc ac) (h1 : RowIn w pa pc ps) (ww : (Lit.int .i64 wi).wf = true) (_ : (Lit.int .i64 ta).wf = true) (_ : (Lit.int .i64 at_).wf = true) :
    Calls Try.prog 5 #[.agg #[.slice la l.length lc, .slice aa a.length ac], .slice pa ps.length pc, .int .i64 wi, .int .i64 ta, .int .i64 at_] w fun e w' =>
      e = .returned (.bool true) ∧ Below w.heap.size w w' := by
  have hl := h0.left.cells
  have ha := h0.aft.cells
  have hp := h1.cells
  have hpc := h1.cap
  have hml := h0.left.len
  clear h0 h1
  rcases tErr_cases l a with h1 | h1
  · have hfit : decide (tErr l a = 0) = true := by simp [h1]
    rcases pkErr_cases l a ps with h8 | h8 | h8 | h8
    · have hps3 := (pkErr_ok h8).2.1
      by_cases i1 : wi < 1
      · skip
        have H_hfit := hid hfit
        have H_h8 := hid h8
        have H_h1 := hid h1
        clear hfit h8 h1
        go_enter Try.func5, Try.ntmps5
        have hb0 := Below.refl w.heap.size w
        go_wp2_with fail
        refine (alive_any _).mono ?_
        rintro e w1 ⟨rfl, hc1⟩
        have hb1 : Below w.heap.size w w1 := bchain (by repeat' (first | exact hb0 | refine Below.drew ?_ | refine below_drewN ?_ _ | refine Below.alloc ?_ (by have := hb0.size; first | (simp; done) | (simp; omega) | omega) _ | refine Below.setCell ?_ (by first | (simp; done) | (simp; omega) | omega) _)) hc1
        have hst1 : Below w.heap.size w w1 := bchain (by repeat' (first | exact Below.refl _ _ | refine Below.drew ?_ | refine below_drewN ?_ _ | refine Below.alloc ?_ (by first | (simp; done) | (simp; omega) | omega) _ | refine Below.setCell ?_ (by first | (simp; done) | (simp; omega) | omega) _)) hc1
        have P_0 : w1.cell? ⟨w.heap.size, 0, none⟩ = some (.slice la l.length lc) := (hc1.cell (p := ⟨w.heap.size, 0, none⟩) (by first | (simp; done) | (simp; omega))).trans (by first | (simp; done) | go_simp)
        have P_1 : w1.cell? ⟨w.heap.size, 1, none⟩ = some (.slice aa a.length ac) := (hc1.cell (p := ⟨w.heap.size, 1, none⟩) (by first | (simp; done) | (simp; omega))).trans (by first | (simp; done) | go_simp)
        have P_l : w.heap.size < w1.heap.size := Nat.lt_of_lt_of_le (by first | (simp; done) | (simp; omega)) hc1.size
        replace hl := hl.later hst1
        replace ha := ha.later hst1
        replace hp := hp.later hst1
        clear hst1
        clear hc1 hb0
        go_wp2_with fail
        refine (fit_any l a la aa lc ac _ (by repeat' (first | with_reducible exact hl | with_reducible refine CellsAt.setFar ?_ ?_ _ | with_reducible refine CellsAt.alloc ?_ _ | with_reducible refine CellsAt.drew ?_ | with_reducible refine CellsAt.drewN ?_ _ | assumption | (simp; omega) | omega)) (by repeat' (first | with_reducible exact ha | with_reducible refine CellsAt.setFar ?_ ?_ _ | with_reducible refine CellsAt.alloc ?_ _ | with_reducible refine CellsAt.drew ?_ | with_reducible refine CellsAt.drewN ?_ _ | assumption | (simp; omega) | omega)) hml).mono ?_
        rintro e w2 ⟨rfl, hc2⟩
        have hb2 : Below w.heap.size w w2 := bchain (by repeat' (first | exact hb1 | refine Below.drew ?_ | refine below_drewN ?_ _ | refine Below.alloc ?_ (by have := hb1.size; first | (simp; done) | (simp; omega) | omega) _ | refine Below.setCell ?_ (by first | (simp; done) | (simp; omega) | omega) _)) hc2
        have hst2 : Below w1.heap.size w1 w2 := bchain (by repeat' (first | exact Below.refl _ _ | refine Below.drew ?_ | refine below_drewN ?_ _ | refine Below.alloc ?_ (by first | (simp; done) | (simp; omega) | omega) _ | refine Below.setCell ?_ (by first | (simp; done) | (simp; omega) | omega) _)) hc2
        replace P_0 := cell_later hst2 P_0
        replace P_1 := cell_later hst2 P_1
        replace P_l := Nat.lt_of_lt_of_le P_l hst2.size
        replace hl := hl.later hst2
        replace ha := ha.later hst2
        replace hp := hp.later hst2
        clear hst2
        clear hc2 hb1
        rw [H_hfit.out]
        go_wp2_with fail
        refine (rpicks_any l a ps la aa pa lc ac pc _ (by repeat' (first | with_reducible exact hl | with_reducible refine CellsAt.setFar ?_ ?_ _ | with_reducible refine CellsAt.alloc ?_ _ | with_reducible refine CellsAt.drew ?_ | with_reducible refine CellsAt.drewN ?_ _ | assumption | (simp; omega) | omega)) (by repeat' (first | with_reducible exact ha | with_reducible refine CellsAt.setFar ?_ ?_ _ | with_reducible refine CellsAt.alloc ?_ _ | with_reducible refine CellsAt.drew ?_ | with_reducible refine CellsAt.drewN ?_ _ | assumption | (simp; omega) | omega)) (by repeat' (first | with_reducible exact hp | with_reducible refine CellsAt.setFar ?_ ?_ _ | with_reducible refine CellsAt.alloc ?_ _ | with_reducible refine CellsAt.drew ?_ | with_reducible refine CellsAt.drewN ?_ _ | assumption | (simp; omega) | omega)) hml).mono ?_
        rintro e w3 ⟨rfl, hc3⟩
        have hb3 : Below w.heap.size w w3 := bchain (by repeat' (first | exact hb2 | refine Below.drew ?_ | refine below_drewN ?_ _ | refine Below.alloc ?_ (by have := hb2.size; first | (simp; done) | (simp; omega) | omega) _ | refine Below.setCell ?_ (by first | (simp; done) | (simp; omega) | omega) _)) hc3
        have hst3 : Below w2.heap.size w2 w3 := bchain (by repeat' (first | exact Below.refl _ _ | refine Below.drew ?_ | refine below_drewN ?_ _ | refine Below.alloc ?_ (by first | (simp; done) | (simp; omega) | omega) _ | refine Below.setCell ?_ (by first | (simp; done) | (simp; omega) | omega) _)) hc3
        replace P_0 := cell_later hst3 P_0
        replace P_1 := cell_later hst3 P_1
        replace P_l := Nat.lt_of_lt_of_le P_l hst3.size
        replace hl := hl.later hst3
        replace ha := ha.later hst3
        replace hp := hp.later hst3
        clear hst3
        clear hc3 hb2
        rw [H_h8.out]
        go_wp2_with fail
        go_wp2_with fail
        go_ret
        exact ⟨rfl, by repeat' (first | exact hb3 | refine Below.drew ?_ | refine below_drewN ?_ _ | refine Below.alloc ?_ (by have := hb3.size; first | (simp; done) | (simp; omega) | omega) _ | refine Below.setCell ?_ (by first | (simp; done) | (simp; omega) | omega) _)⟩
      by_cases i2 : 300 < wi
      · skip
        have H_hfit := hid hfit
        have H_h8 := hid h8
        have H_h1 := hid h1
        clear hfit h8 h1
        go_enter Try.func5, Try.ntmps5
        have hb0 := Below.refl w.heap.size w
        go_wp2_with fail
        refine (alive_any _).mono ?_
        rintro e w1 ⟨rfl, hc1⟩
        have hb1 : Below w.heap.size w w1 := bchain (by repeat' (first | exact hb0 | refine Below.drew ?_ | refine below_drewN ?_ _ | refine Below.alloc ?_ (by have := hb0.size; first | (simp; done) | (simp; omega) | omega) _ | refine Below.setCell ?_ (by first | (simp; done) | (simp; omega) | omega) _)) hc1
        have hst1 : Below w.heap.size w w1 := bchain (by repeat' (first | exact Below.refl _ _ | refine Below.drew ?_ | refine below_drewN ?_ _ | refine Below.alloc ?_ (by first | (simp; done) | (simp; omega) | omega) _ | refine Below.setCell ?_ (by first | (simp; done) | (simp; omega) | omega) _)) hc1
        have P_0 : w1.cell? ⟨w.heap.size, 0, none⟩ = some (.slice la l.length lc) := (hc1.cell (p := ⟨w.heap.size, 0, none⟩) (by first | (simp; done) | (simp; omega))).trans (by first | (simp; done) | go_simp)
        have P_1 : w1.cell? ⟨w.heap.size, 1, none⟩ = some (.slice aa a.length ac) := (hc1.cell (p := ⟨w.heap.size, 1, none⟩) (by first | (simp; done) | (simp; omega))).trans (by first | (simp; done) | go_simp)
        have P_l : w.heap.size < w1.heap.size := Nat.lt_of_lt_of_le (by first | (simp; done) | (simp; omega)) hc1.size
        replace hl := hl.later hst1
        replace ha := ha.later hst1
        replace hp := hp.later hst1
        clear hst1
        clear hc1 hb0
        go_wp2_with fail
        refine (fit_any l a la aa lc ac _ (by repeat' (first | with_reducible exact hl | with_reducible refine CellsAt.setFar ?_ ?_ _ | with_reducible refine CellsAt.alloc ?_ _ | with_reducible refine CellsAt.drew ?_ | with_reducible refine CellsAt.drewN ?_ _ | assumption | (simp; omega) | omega)) (by repeat' (first | with_reducible exact ha | with_reducible refine CellsAt.setFar ?_ ?_ _ | with_reducible refine CellsAt.alloc ?_ _ | with_reducible refine CellsAt.drew ?_ | with_reducible refine CellsAt.drewN ?_ _ | assumption | (simp; omega) | omega)) hml).mono ?_
        rintro e w2 ⟨rfl, hc2⟩
        have hb2 : Below w.heap.size w w2 := bchain (by repeat' (first | exact hb1 | refine Below.drew ?_ | refine below_drewN ?_ _ | refine Below.alloc ?_ (by have := hb1.size; first | (simp; done) | (simp; omega) | omega) _ | refine Below.setCell ?_ (by first | (simp; done) | (simp; omega) | omega) _)) hc2
        have hst2 : Below w1.heap.size w1 w2 := bchain (by repeat' (first | exact Below.refl _ _ | refine Below.drew ?_ | refine below_drewN ?_ _ | refine Below.alloc ?_ (by first | (simp; done) | (simp; omega) | omega) _ | refine Below.setCell ?_ (by first | (simp; done) | (simp; omega) | omega) _)) hc2
        replace P_0 := cell_later hst2 P_0
        replace P_1 := cell_later hst2 P_1
        replace P_l := Nat.lt_of_lt_of_le P_l hst2.size
        replace hl := hl.later hst2
        replace ha := ha.later hst2
        replace hp := hp.later hst2
        clear hst2
        clear hc2 hb1
        rw [H_hfit.out]
        go_wp2_with fail
        refine (rpicks_any l a ps la aa pa lc ac pc _ (by repeat' (first | with_reducible exact hl | with_reducible refine CellsAt.setFar ?_ ?_ _ | with_reducible refine CellsAt.alloc ?_ _ | with_reducible refine CellsAt.drew ?_ | with_reducible refine CellsAt.drewN ?_ _ | assumption | (simp; omega) | omega)) (by repeat' (first | with_reducible exact ha | with_reducible refine CellsAt.setFar ?_ ?_ _ | with_reducible refine CellsAt.alloc ?_ _ | with_reducible refine CellsAt.drew ?_ | with_reducible refine CellsAt.drewN ?_ _ | assumption | (simp; omega) | omega)) (by repeat' (first | with_reducible exact hp | with_reducible refine CellsAt.setFar ?_ ?_ _ | with_reducible refine CellsAt.alloc ?_ _ | with_reducible refine CellsAt.drew ?_ | with_reducible refine CellsAt.drewN ?_ _ | assumption | (simp; omega) | omega)) hml).mono ?_
        rintro e w3 ⟨rfl, hc3⟩
        have hb3 : Below w.heap.size w w3 := bchain (by repeat' (first | exact hb2 | refine Below.drew ?_ | refine below_drewN ?_ _ | refine Below.alloc ?_ (by have := hb2.size; first | (simp; done) | (simp; omega) | omega) _ | refine Below.setCell ?_ (by first | (simp; done) | (simp; omega) | omega) _)) hc3
        have hst3 : Below w2.heap.size w2 w3 := bchain (by repeat' (first | exact Below.refl _ _ | refine Below.drew ?_ | refine below_drewN ?_ _ | refine Below.alloc ?_ (by first | (simp; done) | (simp; omega) | omega) _ | refine Below.setCell ?_ (by first | (simp; done) | (simp; omega) | omega) _)) hc3
        replace P_0 := cell_later hst3 P_0
        replace P_1 := cell_later hst3 P_1
        replace P_l := Nat.lt_of_lt_of_le P_l hst3.size
        replace hl := hl.later hst3
        replace ha := ha.later hst3
        replace hp := hp.later hst3
        clear hst3
        clear hc3 hb2
        rw [H_h8.out]
        go_wp2_with fail
        go_wp2_with fail
        go_ret
        exact ⟨rfl, by repeat' (first | exact hb3 | refine Below.drew ?_ | refine below_drewN ?_ _ | refine Below.alloc ?_ (by have := hb3.size; first | (simp; done) | (simp; omega) | omega) _ | refine Below.setCell ?_ (by first | (simp; done) | (simp; omega) | omega) _)⟩
      by_cases i3 : ta < 0
      · skip
        have H_hfit := hid hfit
        have H_h8 := hid h8
        have H_h1 := hid h1
        clear hfit h8 h1
        go_enter Try.func5, Try.ntmps5
        have hb0 := Below.refl w.heap.size w
        go_wp2_with fail
        refine (alive_any _).mono ?_
        rintro e w1 ⟨rfl, hc1⟩
        have hb1 : Below w.heap.size w w1 := bchain (by repeat' (first | exact hb0 | refine Below.drew ?_ | refine below_drewN ?_ _ | refine Below.alloc ?_ (by have := hb0.size; first | (simp; done) | (simp; omega) | omega) _ | refine Below.setCell ?_ (by first | (simp; done) | (simp; omega) | omega) _)) hc1
        have hst1 : Below w.heap.size w w1 := bchain (by repeat' (first | exact Below.refl _ _ | refine Below.drew ?_ | refine below_drewN ?_ _ | refine Below.alloc ?_ (by first | (simp; done) | (simp; omega) | omega) _ | refine Below.setCell ?_ (by first | (simp; done) | (simp; omega) | omega) _)) hc1
        have P_0 : w1.cell? ⟨w.heap.size, 0, none⟩ = some (.slice la l.length lc) := (hc1.cell (p := ⟨w.heap.size, 0, none⟩) (by first | (simp; done) | (simp; omega))).trans (by first | (simp; done) | go_simp)
        have P_1 : w1.cell? ⟨w.heap.size, 1, none⟩ = some (.slice aa a.length ac) := (hc1.cell (p := ⟨w.heap.size, 1, none⟩) (by first | (simp; done) | (simp; omega))).trans (by first | (simp; done) | go_simp)
        have P_l : w.heap.size < w1.heap.size := Nat.lt_of_lt_of_le (by first | (simp; done) | (simp; omega)) hc1.size
        replace hl := hl.later hst1
        replace ha := ha.later hst1
        replace hp := hp.later hst1
        clear hst1
        clear hc1 hb0
        go_wp2_with fail
        refine (fit_any l a la aa lc ac _ (by repeat' (first | with_reducible exact hl | with_reducible refine CellsAt.setFar ?_ ?_ _ | with_reducible refine CellsAt.alloc ?_ _ | with_reducible refine CellsAt.drew ?_ | with_reducible refine CellsAt.drewN ?_ _ | assumption | (simp; omega) | omega)) (by repeat' (first | with_reducible exact ha | with_reducible refine CellsAt.setFar ?_ ?_ _ | with_reducible refine CellsAt.alloc ?_ _ | with_reducible refine CellsAt.drew ?_ | with_reducible refine CellsAt.drewN ?_ _ | assumption | (simp; omega) | omega)) hml).mono ?_
        rintro e w2 ⟨rfl, hc2⟩
        have hb2 : Below w.heap.size w w2 := bchain (by repeat' (first | exact hb1 | refine Below.drew ?_ | refine below_drewN ?_ _ | refine Below.alloc ?_ (by have := hb1.size; first | (simp; done) | (simp; omega) | omega) _ | refine Below.setCell ?_ (by first | (simp; done) | (simp; omega) | omega) _)) hc2
        have hst2 : Below w1.heap.size w1 w2 := bchain (by repeat' (first | exact Below.refl _ _ | refine Below.drew ?_ | refine below_drewN ?_ _ | refine Below.alloc ?_ (by first | (simp; done) | (simp; omega) | omega) _ | refine Below.setCell ?_ (by first | (simp; done) | (simp; omega) | omega) _)) hc2
        replace P_0 := cell_later hst2 P_0
        replace P_1 := cell_later hst2 P_1
        replace P_l := Nat.lt_of_lt_of_le P_l hst2.size
        replace hl := hl.later hst2
        replace ha := ha.later hst2
        replace hp := hp.later hst2
        clear hst2
        clear hc2 hb1
        rw [H_hfit.out]
        go_wp2_with fail
        refine (rpicks_any l a ps la aa pa lc ac pc _ (by repeat' (first | with_reducible exact hl | with_reducible refine CellsAt.setFar ?_ ?_ _ | with_reducible refine CellsAt.alloc ?_ _ | with_reducible refine CellsAt.drew ?_ | with_reducible refine CellsAt.drewN ?_ _ | assumption | (simp; omega) | omega)) (by repeat' (first | with_reducible exact ha | with_reducible refine CellsAt.setFar ?_ ?_ _ | with_reducible refine CellsAt.alloc ?_ _ | with_reducible refine CellsAt.drew ?_ | with_reducible refine CellsAt.drewN ?_ _ | assumption | (simp; omega) | omega)) (by repeat' (first | with_reducible exact hp | with_reducible refine CellsAt.setFar ?_ ?_ _ | with_reducible refine CellsAt.alloc ?_ _ | with_reducible refine CellsAt.drew ?_ | with_reducible refine CellsAt.drewN ?_ _ | assumption | (simp; omega) | omega)) hml).mono ?_
        rintro e w3 ⟨rfl, hc3⟩
        have hb3 : Below w.heap.size w w3 := bchain (by repeat' (first | exact hb2 | refine Below.drew ?_ | refine below_drewN ?_ _ | refine Below.alloc ?_ (by have := hb2.size; first | (simp; done) | (simp; omega) | omega) _ | refine Below.setCell ?_ (by first | (simp; done) | (simp; omega) | omega) _)) hc3
        have hst3 : Below w2.heap.size w2 w3 := bchain (by repeat' (first | exact Below.refl _ _ | refine Below.drew ?_ | refine below_drewN ?_ _ | refine Below.alloc ?_ (by first | (simp; done) | (simp; omega) | omega) _ | refine Below.setCell ?_ (by first | (simp; done) | (simp; omega) | omega) _)) hc3
        replace P_0 := cell_later hst3 P_0
        replace P_1 := cell_later hst3 P_1
        replace P_l := Nat.lt_of_lt_of_le P_l hst3.size
        replace hl := hl.later hst3
        replace ha := ha.later hst3
        replace hp := hp.later hst3
        clear hst3
        clear hc3 hb2
        rw [H_h8.out]
        go_wp2_with fail
        go_wp2_with fail
        go_ret
        exact ⟨rfl, by repeat' (first | exact hb3 | refine Below.drew ?_ | refine below_drewN ?_ _ | refine Below.alloc ?_ (by have := hb3.size; first | (simp; done) | (simp; omega) | omega) _ | refine Below.setCell ?_ (by first | (simp; done) | (simp; omega) | omega) _)⟩
      by_cases i4 : (l.length : Int) ≤ ta
      · skip
        have H_hfit := hid hfit
        have H_h8 := hid h8
        have H_h1 := hid h1
        clear hfit h8 h1
        go_enter Try.func5, Try.ntmps5
        have hb0 := Below.refl w.heap.size w
        go_wp2_with fail
        refine (alive_any _).mono ?_
        rintro e w1 ⟨rfl, hc1⟩
        have hb1 : Below w.heap.size w w1 := bchain (by repeat' (first | exact hb0 | refine Below.drew ?_ | refine below_drewN ?_ _ | refine Below.alloc ?_ (by have := hb0.size; first | (simp; done) | (simp; omega) | omega) _ | refine Below.setCell ?_ (by first | (simp; done) | (simp; omega) | omega) _)) hc1
        have hst1 : Below w.heap.size w w1 := bchain (by repeat' (first | exact Below.refl _ _ | refine Below.drew ?_ | refine below_drewN ?_ _ | refine Below.alloc ?_ (by first | (simp; done) | (simp; omega) | omega) _ | refine Below.setCell ?_ (by first | (simp; done) | (simp; omega) | omega) _)) hc1
        have P_0 : w1.cell? ⟨w.heap.size, 0, none⟩ = some (.slice la l.length lc) := (hc1.cell (p := ⟨w.heap.size, 0, none⟩) (by first | (simp; done) | (simp; omega))).trans (by first | (simp; done) | go_simp)
        have P_1 : w1.cell? ⟨w.heap.size, 1, none⟩ = some (.slice aa a.length ac) := (hc1.cell (p := ⟨w.heap.size, 1, none⟩) (by first | (simp; done) | (simp; omega))).trans (by first | (simp; done) | go_simp)
        have P_l : w.heap.size < w1.heap.size := Nat.lt_of_lt_of_le (by first | (simp; done) | (simp; omega)) hc1.size
        replace hl := hl.later hst1
        replace ha := ha.later hst1
        replace hp := hp.later hst1
        clear hst1
        clear hc1 hb0
        go_wp2_with fail
        refine (fit_any l a la aa lc ac _ (by repeat' (first | with_reducible exact hl | with_reducible refine CellsAt.setFar ?_ ?_ _ | with_reducible refine CellsAt.alloc ?_ _ | with_reducible refine CellsAt.drew ?_ | with_reducible refine CellsAt.drewN ?_ _ | assumption | (simp; omega) | omega)) (by repeat' (first | with_reducible exact ha | with_reducible refine CellsAt.setFar ?_ ?_ _ | with_reducible refine CellsAt.alloc ?_ _ | with_reducible refine CellsAt.drew ?_ | with_reducible refine CellsAt.drewN ?_ _ | assumption | (simp; omega) | omega)) hml).mono ?_
        rintro e w2 ⟨rfl, hc2⟩
        have hb2 : Below w.heap.size w w2 := bchain (by repeat' (first | exact hb1 | refine Below.drew ?_ | refine below_drewN ?_ _ | refine Below.alloc ?_ (by have := hb1.size; first | (simp; done) | (simp; omega) | omega) _ | refine Below.setCell ?_ (by first | (simp; done) | (simp; omega) | omega) _)) hc2
        have hst2 : Below w1.heap.size w1 w2 := bchain (by repeat' (first | exact Below.refl _ _ | refine Below.drew ?_ | refine below_drewN ?_ _ | refine Below.alloc ?_ (by first | (simp; done) | (simp; omega) | omega) _ | refine Below.setCell ?_ (by first | (simp; done) | (simp; omega) | omega) _)) hc2
        replace P_0 := cell_later hst2 P_0
        replace P_1 := cell_later hst2 P_1
        replace P_l := Nat.lt_of_lt_of_le P_l hst2.size
        replace hl := hl.later hst2
        replace ha := ha.later hst2
        replace hp := hp.later hst2
        clear hst2
        clear hc2 hb1
        rw [H_hfit.out]
        go_wp2_with fail
        refine (rpicks_any l a ps la aa pa lc ac pc _ (by repeat' (first | with_reducible exact hl | with_reducible refine CellsAt.setFar ?_ ?_ _ | with_reducible refine CellsAt.alloc ?_ _ | with_reducible refine CellsAt.drew ?_ | with_reducible refine CellsAt.drewN ?_ _ | assumption | (simp; omega) | omega)) (by repeat' (first | with_reducible exact ha | with_reducible refine CellsAt.setFar ?_ ?_ _ | with_reducible refine CellsAt.alloc ?_ _ | with_reducible refine CellsAt.drew ?_ | with_reducible refine CellsAt.drewN ?_ _ | assumption | (simp; omega) | omega)) (by repeat' (first | with_reducible exact hp | with_reducible refine CellsAt.setFar ?_ ?_ _ | with_reducible refine CellsAt.alloc ?_ _ | with_reducible refine CellsAt.drew ?_ | with_reducible refine CellsAt.drewN ?_ _ | assumption | (simp; omega) | omega)) hml).mono ?_
        rintro e w3 ⟨rfl, hc3⟩
        have hb3 : Below w.heap.size w w3 := bchain (by repeat' (first | exact hb2 | refine Below.drew ?_ | refine below_drewN ?_ _ | refine Below.alloc ?_ (by have := hb2.size; first | (simp; done) | (simp; omega) | omega) _ | refine Below.setCell ?_ (by first | (simp; done) | (simp; omega) | omega) _)) hc3
        have hst3 : Below w2.heap.size w2 w3 := bchain (by repeat' (first | exact Below.refl _ _ | refine Below.drew ?_ | refine below_drewN ?_ _ | refine Below.alloc ?_ (by first | (simp; done) | (simp; omega) | omega) _ | refine Below.setCell ?_ (by first | (simp; done) | (simp; omega) | omega) _)) hc3
        replace P_0 := cell_later hst3 P_0
        replace P_1 := cell_later hst3 P_1
        replace P_l := Nat.lt_of_lt_of_le P_l hst3.size
        replace hl := hl.later hst3
        replace ha := ha.later hst3
        replace hp := hp.later hst3
        clear hst3
        clear hc3 hb2
        rw [H_h8.out]
        go_wp2_with fail
        go_wp2_with fail
        go_ret
        exact ⟨rfl, by repeat' (first | exact hb3 | refine Below.drew ?_ | refine below_drewN ?_ _ | refine Below.alloc ?_ (by have := hb3.size; first | (simp; done) | (simp; omega) | omega) _ | refine Below.setCell ?_ (by first | (simp; done) | (simp; omega) | omega) _)⟩
      by_cases i5 : at_ < 0
      · skip
        have H_hfit := hid hfit
        have H_h8 := hid h8
        have H_h1 := hid h1
        clear hfit h8 h1
        go_enter Try.func5, Try.ntmps5
        have hb0 := Below.refl w.heap.size w
        go_wp2_with fail
        refine (alive_any _).mono ?_
        rintro e w1 ⟨rfl, hc1⟩
        have hb1 : Below w.heap.size w w1 := bchain (by repeat' (first | exact hb0 | refine Below.drew ?_ | refine below_drewN ?_ _ | refine Below.alloc ?_ (by have := hb0.size; first | (simp; done) | (simp; omega) | omega) _ | refine Below.setCell ?_ (by first | (simp; done) | (simp; omega) | omega) _)) hc1
        have hst1 : Below w.heap.size w w1 := bchain (by repeat' (first | exact Below.refl _ _ | refine Below.drew ?_ | refine below_drewN ?_ _ | refine Below.alloc ?_ (by first | (simp; done) | (simp; omega) | omega) _ | refine Below.setCell ?_ (by first | (simp; done) | (simp; omega) | omega) _)) hc1
        have P_0 : w1.cell? ⟨w.heap.size, 0, none⟩ = some (.slice la l.length lc) := (hc1.cell (p := ⟨w.heap.size, 0, none⟩) (by first | (simp; done) | (simp; omega))).trans (by first | (simp; done) | go_simp)
        have P_1 : w1.cell? ⟨w.heap.size, 1, none⟩ = some (.slice aa a.length ac) := (hc1.cell (p := ⟨w.heap.size, 1, none⟩) (by first | (simp; done) | (simp; omega))).trans (by first | (simp; done) | go_simp)
        have P_l : w.heap.size < w1.heap.size := Nat.lt_of_lt_of_le (by first | (simp; done) | (simp; omega)) hc1.size
        replace hl := hl.later hst1
        replace ha := ha.later hst1
        replace hp := hp.later hst1
        clear hst1
        clear hc1 hb0
        go_wp2_with fail
        refine (fit_any l a la aa lc ac _ (by repeat' (first | with_reducible exact hl | with_reducible refine CellsAt.setFar ?_ ?_ _ | with_reducible refine CellsAt.alloc ?_ _ | with_reducible refine CellsAt.drew ?_ | with_reducible refine CellsAt.drewN ?_ _ | assumption | (simp; omega) | omega)) (by repeat' (first | with_reducible exact ha | with_reducible refine CellsAt.setFar ?_ ?_ _ | with_reducible refine CellsAt.alloc ?_ _ | with_reducible refine CellsAt.drew ?_ | with_reducible refine CellsAt.drewN ?_ _ | assumption | (simp; omega) | omega)) hml).mono ?_
        rintro e w2 ⟨rfl, hc2⟩
        have hb2 : Below w.heap.size w w2 := bchain (by repeat' (first | exact hb1 | refine Below.drew ?_ | refine below_drewN ?_ _ | refine Below.alloc ?_ (by have := hb1.size; first | (simp; done) | (simp; omega) | omega) _ | refine Below.setCell ?_ (by first | (simp; done) | (simp; omega) | omega) _)) hc2
        have hst2 : Below w1.heap.size w1 w2 := bchain (by repeat' (first | exact Below.refl _ _ | refine Below.drew ?_ | refine below_drewN ?_ _ | refine Below.alloc ?_ (by first | (simp; done) | (simp; omega) | omega) _ | refine Below.setCell ?_ (by first | (simp; done) | (simp; omega) | omega) _)) hc2
        replace P_0 := cell_later hst2 P_0
        replace P_1 := cell_later hst2 P_1
        replace P_l := Nat.lt_of_lt_of_le P_l hst2.size
        replace hl := hl.later hst2
        replace ha := ha.later hst2
        replace hp := hp.later hst2
        clear hst2
        clear hc2 hb1
        rw [H_hfit.out]
        go_wp2_with fail
        refine (rpicks_any l a ps la aa pa lc ac pc _ (by repeat' (first | with_reducible exact hl | with_reducible refine CellsAt.setFar ?_ ?_ _ | with_reducible refine CellsAt.alloc ?_ _ | with_reducible refine CellsAt.drew ?_ | with_reducible refine CellsAt.drewN ?_ _ | assumption | (simp; omega) | omega)) (by repeat' (first | with_reducible exact ha | with_reducible refine CellsAt.setFar ?_ ?_ _ | with_reducible refine CellsAt.alloc ?_ _ | with_reducible refine CellsAt.drew ?_ | with_reducible refine CellsAt.drewN ?_ _ | assumption | (simp; omega) | omega)) (by repeat' (first | with_reducible exact hp | with_reducible refine CellsAt.setFar ?_ ?_ _ | with_reducible refine CellsAt.alloc ?_ _ | with_reducible refine CellsAt.drew ?_ | with_reducible refine CellsAt.drewN ?_ _ | assumption | (simp; omega) | omega)) hml).mono ?_
        rintro e w3 ⟨rfl, hc3⟩
        have hb3 : Below w.heap.size w w3 := bchain (by repeat' (first | exact hb2 | refine Below.drew ?_ | refine below_drewN ?_ _ | refine Below.alloc ?_ (by have := hb2.size; first | (simp; done) | (simp; omega) | omega) _ | refine Below.setCell ?_ (by first | (simp; done) | (simp; omega) | omega) _)) hc3
        have hst3 : Below w2.heap.size w2 w3 := bchain (by repeat' (first | exact Below.refl _ _ | refine Below.drew ?_ | refine below_drewN ?_ _ | refine Below.alloc ?_ (by first | (simp; done) | (simp; omega) | omega) _ | refine Below.setCell ?_ (by first | (simp; done) | (simp; omega) | omega) _)) hc3
        replace P_0 := cell_later hst3 P_0
        replace P_1 := cell_later hst3 P_1
        replace P_l := Nat.lt_of_lt_of_le P_l hst3.size
        replace hl := hl.later hst3
        replace ha := ha.later hst3
        replace hp := hp.later hst3
        clear hst3
        clear hc3 hb2
        rw [H_h8.out]
        go_wp2_with fail
        go_wp2_with fail
        go_ret
        exact ⟨rfl, by repeat' (first | exact hb3 | refine Below.drew ?_ | refine below_drewN ?_ _ | refine Below.alloc ?_ (by have := hb3.size; first | (simp; done) | (simp; omega) | omega) _ | refine Below.setCell ?_ (by first | (simp; done) | (simp; omega) | omega) _)⟩
      by_cases i6 : (ps.length : Int) - wi < at_
      · skip
        have H_hfit := hid hfit
        have H_h8 := hid h8
        have H_h1 := hid h1
        clear hfit h8 h1
        go_enter Try.func5, Try.ntmps5
        have hb0 := Below.refl w.heap.size w
        go_wp2_with fail
        refine (alive_any _).mono ?_
        rintro e w1 ⟨rfl, hc1⟩
        have hb1 : Below w.heap.size w w1 := bchain (by repeat' (first | exact hb0 | refine Below.drew ?_ | refine below_drewN ?_ _ | refine Below.alloc ?_ (by have := hb0.size; first | (simp; done) | (simp; omega) | omega) _ | refine Below.setCell ?_ (by first | (simp; done) | (simp; omega) | omega) _)) hc1
        have hst1 : Below w.heap.size w w1 := bchain (by repeat' (first | exact Below.refl _ _ | refine Below.drew ?_ | refine below_drewN ?_ _ | refine Below.alloc ?_ (by first | (simp; done) | (simp; omega) | omega) _ | refine Below.setCell ?_ (by first | (simp; done) | (simp; omega) | omega) _)) hc1
        have P_0 : w1.cell? ⟨w.heap.size, 0, none⟩ = some (.slice la l.length lc) := (hc1.cell (p := ⟨w.heap.size, 0, none⟩) (by first | (simp; done) | (simp; omega))).trans (by first | (simp; done) | go_simp)
        have P_1 : w1.cell? ⟨w.heap.size, 1, none⟩ = some (.slice aa a.length ac) := (hc1.cell (p := ⟨w.heap.size, 1, none⟩) (by first | (simp; done) | (simp; omega))).trans (by first | (simp; done) | go_simp)
        have P_l : w.heap.size < w1.heap.size := Nat.lt_of_lt_of_le (by first | (simp; done) | (simp; omega)) hc1.size
        replace hl := hl.later hst1
        replace ha := ha.later hst1
        replace hp := hp.later hst1
        clear hst1
        clear hc1 hb0
        go_wp2_with fail
        refine (fit_any l a la aa lc ac _ (by repeat' (first | with_reducible exact hl | with_reducible refine CellsAt.setFar ?_ ?_ _ | with_reducible refine CellsAt.alloc ?_ _ | with_reducible refine CellsAt.drew ?_ | with_reducible refine CellsAt.drewN ?_ _ | assumption | (simp; omega) | omega)) (by repeat' (first | with_reducible exact ha | with_reducible refine CellsAt.setFar ?_ ?_ _ | with_reducible refine CellsAt.alloc ?_ _ | with_reducible refine CellsAt.drew ?_ | with_reducible refine CellsAt.drewN ?_ _ | assumption | (simp; omega) | omega)) hml).mono ?_
        rintro e w2 ⟨rfl, hc2⟩
        have hb2 : Below w.heap.size w w2 := bchain (by repeat' (first | exact hb1 | refine Below.drew ?_ | refine below_drewN ?_ _ | refine Below.alloc ?_ (by have := hb1.size; first | (simp; done) | (simp; omega) | omega) _ | refine Below.setCell ?_ (by first | (simp; done) | (simp; omega) | omega) _)) hc2
        have hst2 : Below w1.heap.size w1 w2 := bchain (by repeat' (first | exact Below.refl _ _ | refine Below.drew ?_ | refine below_drewN ?_ _ | refine Below.alloc ?_ (by first | (simp; done) | (simp; omega) | omega) _ | refine Below.setCell ?_ (by first | (simp; done) | (simp; omega) | omega) _)) hc2
        replace P_0 := cell_later hst2 P_0
        replace P_1 := cell_later hst2 P_1
        replace P_l := Nat.lt_of_lt_of_le P_l hst2.size
        replace hl := hl.later hst2
        replace ha := ha.later hst2
        replace hp := hp.later hst2
        clear hst2
        clear hc2 hb1
        rw [H_hfit.out]
        go_wp2_with fail
        refine (rpicks_any l a ps la aa pa lc ac pc _ (by repeat' (first | with_reducible exact hl | with_reducible refine CellsAt.setFar ?_ ?_ _ | with_reducible refine CellsAt.alloc ?_ _ | with_reducible refine CellsAt.drew ?_ | with_reducible refine CellsAt.drewN ?_ _ | assumption | (simp; omega) | omega)) (by repeat' (first | with_reducible exact ha | with_reducible refine CellsAt.setFar ?_ ?_ _ | with_reducible refine CellsAt.alloc ?_ _ | with_reducible refine CellsAt.drew ?_ | with_reducible refine CellsAt.drewN ?_ _ | assumption | (simp; omega) | omega)) (by repeat' (first | with_reducible exact hp | with_reducible refine CellsAt.setFar ?_ ?_ _ | with_reducible refine CellsAt.alloc ?_ _ | with_reducible refine CellsAt.drew ?_ | with_reducible refine CellsAt.drewN ?_ _ | assumption | (simp; omega) | omega)) hml).mono ?_
        rintro e w3 ⟨rfl, hc3⟩
        have hb3 : Below w.heap.size w w3 := bchain (by repeat' (first | exact hb2 | refine Below.drew ?_ | refine below_drewN ?_ _ | refine Below.alloc ?_ (by have := hb2.size; first | (simp; done) | (simp; omega) | omega) _ | refine Below.setCell ?_ (by first | (simp; done) | (simp; omega) | omega) _)) hc3
        have hst3 : Below w2.heap.size w2 w3 := bchain (by repeat' (first | exact Below.refl _ _ | refine Below.drew ?_ | refine below_drewN ?_ _ | refine Below.alloc ?_ (by first | (simp; done) | (simp; omega) | omega) _ | refine Below.setCell ?_ (by first | (simp; done) | (simp; omega) | omega) _)) hc3
        replace P_0 := cell_later hst3 P_0
        replace P_1 := cell_later hst3 P_1
        replace P_l := Nat.lt_of_lt_of_le P_l hst3.size
        replace hl := hl.later hst3
        replace ha := ha.later hst3
        replace hp := hp.later hst3
        clear hst3
        clear hc3 hb2
        rw [H_h8.out]
        go_wp2_with fail
        go_wp2_with fail
        go_ret
        exact ⟨rfl, by repeat' (first | exact hb3 | refine Below.drew ?_ | refine below_drewN ?_ _ | refine Below.alloc ?_ (by have := hb3.size; first | (simp; done) | (simp; omega) | omega) _ | refine Below.setCell ?_ (by first | (simp; done) | (simp; omega) | omega) _)⟩
      obtain ⟨W, rfl⟩ : ∃ W : Nat, wi = W := ⟨wi.toNat, by omega⟩
      obtain ⟨m, rfl⟩ : ∃ m : Nat, ta = m := ⟨ta.toNat, by omega⟩
      obtain ⟨k, rfl⟩ : ∃ k : Nat, at_ = k := ⟨at_.toNat, by omega⟩
      obtain ⟨b, o, rfl, -⟩ := hp.intG (by omega)
      exact windows_main l a ps la aa lc ac pc b o k W m w hl ha hp hpc hml h8 (by omega) (by omega) (by omega) (by omega)
    · skip
      have H_hfit := hid hfit
      have H_h8 := hid h8
      have H_h1 := hid h1
      clear hfit h8 h1
      go_enter Try.func5, Try.ntmps5
      have hb0 := Below.refl w.heap.size w
      go_wp2_with fail
      refine (alive_any _).mono ?_
      rintro e w1 ⟨rfl, hc1⟩
      have hb1 : Below w.heap.size w w1 := bchain (by repeat' (first | exact hb0 | refine Below.drew ?_ | refine below_drewN ?_ _ | refine Below.alloc ?_ (by have := hb0.size; first | (simp; done) | (simp; omega) | omega) _ | refine Below.setCell ?_ (by first | (simp; done) | (simp; omega) | omega) _)) hc1
      have hst1 : Below w.heap.size w w1 := bchain (by repeat' (first | exact Below.refl _ _ | refine Below.drew ?_ | refine below_drewN ?_ _ | refine Below.alloc ?_ (by first | (simp; done) | (simp; omega) | omega) _ | refine Below.setCell ?_ (by first | (simp; done) | (simp; omega) | omega) _)) hc1
      have P_0 : w1.cell? ⟨w.heap.size, 0, none⟩ = some (.slice la l.length lc) := (hc1.cell (p := ⟨w.heap.size, 0, none⟩) (by first | (simp; done) | (simp; omega))).trans (by first | (simp; done) | go_simp)
      have P_1 : w1.cell? ⟨w.heap.size, 1, none⟩ = some (.slice aa a.length ac) := (hc1.cell (p := ⟨w.heap.size, 1, none⟩) (by first | (simp; done) | (simp; omega))).trans (by first | (simp; done) | go_simp)
      have P_l : w.heap.size < w1.heap.size := Nat.lt_of_lt_of_le (by first | (simp; done) | (simp; omega)) hc1.size
      replace hl := hl.later hst1
      replace ha := ha.later hst1
      replace hp := hp.later hst1
      clear hst1
      clear hc1 hb0
      go_wp2_with fail
      refine (fit_any l a la aa lc ac _ (by repeat' (first | with_reducible exact hl | with_reducible refine CellsAt.setFar ?_ ?_ _ | with_reducible refine CellsAt.alloc ?_ _ | with_reducible refine CellsAt.drew ?_ | with_reducible refine CellsAt.drewN ?_ _ | assumption | (simp; omega) | omega)) (by repeat' (first | with_reducible exact ha | with_reducible refine CellsAt.setFar ?_ ?_ _ | with_reducible refine CellsAt.alloc ?_ _ | with_reducible refine CellsAt.drew ?_ | with_reducible refine CellsAt.drewN ?_ _ | assumption | (simp; omega) | omega)) hml).mono ?_
      rintro e w2 ⟨rfl, hc2⟩
      have hb2 : Below w.heap.size w w2 := bchain (by repeat' (first | exact hb1 | refine Below.drew ?_ | refine below_drewN ?_ _ | refine Below.alloc ?_ (by have := hb1.size; first | (simp; done) | (simp; omega) | omega) _ | refine Below.setCell ?_ (by first | (simp; done) | (simp; omega) | omega) _)) hc2
      have hst2 : Below w1.heap.size w1 w2 := bchain (by repeat' (first | exact Below.refl _ _ | refine Below.drew ?_ | refine below_drewN ?_ _ | refine Below.alloc ?_ (by first | (simp; done) | (simp; omega) | omega) _ | refine Below.setCell ?_ (by first | (simp; done) | (simp; omega) | omega) _)) hc2
      replace P_0 := cell_later hst2 P_0
      replace P_1 := cell_later hst2 P_1
      replace P_l := Nat.lt_of_lt_of_le P_l hst2.size
      replace hl := hl.later hst2
      replace ha := ha.later hst2
      replace hp := hp.later hst2
      clear hst2
      clear hc2 hb1
      rw [H_hfit.out]
      go_wp2_with fail
      refine (rpicks_any l a ps la aa pa lc ac pc _ (by repeat' (first | with_reducible exact hl | with_reducible refine CellsAt.setFar ?_ ?_ _ | with_reducible refine CellsAt.alloc ?_ _ | with_reducible refine CellsAt.drew ?_ | with_reducible refine CellsAt.drewN ?_ _ | assumption | (simp; omega) | omega)) (by repeat' (first | with_reducible exact ha | with_reducible refine CellsAt.setFar ?_ ?_ _ | with_reducible refine CellsAt.alloc ?_ _ | with_reducible refine CellsAt.drew ?_ | with_reducible refine CellsAt.drewN ?_ _ | assumption | (simp; omega) | omega)) (by repeat' (first | with_reducible exact hp | with_reducible refine CellsAt.setFar ?_ ?_ _ | with_reducible refine CellsAt.alloc ?_ _ | with_reducible refine CellsAt.drew ?_ | with_reducible refine CellsAt.drewN ?_ _ | assumption | (simp; omega) | omega)) hml).mono ?_
      rintro e w3 ⟨rfl, hc3⟩
      have hb3 : Below w.heap.size w w3 := bchain (by repeat' (first | exact hb2 | refine Below.drew ?_ | refine below_drewN ?_ _ | refine Below.alloc ?_ (by have := hb2.size; first | (simp; done) | (simp; omega) | omega) _ | refine Below.setCell ?_ (by first | (simp; done) | (simp; omega) | omega) _)) hc3
      have hst3 : Below w2.heap.size w2 w3 := bchain (by repeat' (first | exact Below.refl _ _ | refine Below.drew ?_ | refine below_drewN ?_ _ | refine Below.alloc ?_ (by first | (simp; done) | (simp; omega) | omega) _ | refine Below.setCell ?_ (by first | (simp; done) | (simp; omega) | omega) _)) hc3
      replace P_0 := cell_later hst3 P_0
      replace P_1 := cell_later hst3 P_1
      replace P_l := Nat.lt_of_lt_of_le P_l hst3.size
      replace hl := hl.later hst3
      replace ha := ha.later hst3
      replace hp := hp.later hst3
      clear hst3
      clear hc3 hb2
      rw [H_h8.out]
      go_wp2_with fail
      go_wp2_with fail
      go_ret
      exact ⟨rfl, by repeat' (first | exact hb3 | refine Below.drew ?_ | refine below_drewN ?_ _ | refine Below.alloc ?_ (by have := hb3.size; first | (simp; done) | (simp; omega) | omega) _ | refine Below.setCell ?_ (by first | (simp; done) | (simp; omega) | omega) _)⟩
    · skip
      have H_hfit := hid hfit
      have H_h8 := hid h8
      have H_h1 := hid h1
      clear hfit h8 h1
      go_enter Try.func5, Try.ntmps5
      have hb0 := Below.refl w.heap.size w
      go_wp2_with fail
      refine (alive_any _).mono ?_
      rintro e w1 ⟨rfl, hc1⟩
      have hb1 : Below w.heap.size w w1 := bchain (by repeat' (first | exact hb0 | refine Below.drew ?_ | refine below_drewN ?_ _ | refine Below.alloc ?_ (by have := hb0.size; first | (simp; done) | (simp; omega) | omega) _ | refine Below.setCell ?_ (by first | (simp; done) | (simp; omega) | omega) _)) hc1
      have hst1 : Below w.heap.size w w1 := bchain (by repeat' (first | exact Below.refl _ _ | refine Below.drew ?_ | refine below_drewN ?_ _ | refine Below.alloc ?_ (by first | (simp; done) | (simp; omega) | omega) _ | refine Below.setCell ?_ (by first | (simp; done) | (simp; omega) | omega) _)) hc1
      have P_0 : w1.cell? ⟨w.heap.size, 0, none⟩ = some (.slice la l.length lc) := (hc1.cell (p := ⟨w.heap.size, 0, none⟩) (by first | (simp; done) | (simp; omega))).trans (by first | (simp; done) | go_simp)
      have P_1 : w1.cell? ⟨w.heap.size, 1, none⟩ = some (.slice aa a.length ac) := (hc1.cell (p := ⟨w.heap.size, 1, none⟩) (by first | (simp; done) | (simp; omega))).trans (by first | (simp; done) | go_simp)
      have P_l : w.heap.size < w1.heap.size := Nat.lt_of_lt_of_le (by first | (simp; done) | (simp; omega)) hc1.size
      replace hl := hl.later hst1
      replace ha := ha.later hst1
      replace hp := hp.later hst1
      clear hst1
      clear hc1 hb0
      go_wp2_with fail
      refine (fit_any l a la aa lc ac _ (by repeat' (first | with_reducible exact hl | with_reducible refine CellsAt.setFar ?_ ?_ _ | with_reducible refine CellsAt.alloc ?_ _ | with_reducible refine CellsAt.drew ?_ | with_reducible refine CellsAt.drewN ?_ _ | assumption | (simp; omega) | omega)) (by repeat' (first | with_reducible exact ha | with_reducible refine CellsAt.setFar ?_ ?_ _ | with_reducible refine CellsAt.alloc ?_ _ | with_reducible refine CellsAt.drew ?_ | with_reducible refine CellsAt.drewN ?_ _ | assumption | (simp; omega) | omega)) hml).mono ?_
      rintro e w2 ⟨rfl, hc2⟩
      have hb2 : Below w.heap.size w w2 := bchain (by repeat' (first | exact hb1 | refine Below.drew ?_ | refine below_drewN ?_ _ | refine Below.alloc ?_ (by have := hb1.size; first | (simp; done) | (simp; omega) | omega) _ | refine Below.setCell ?_ (by first | (simp; done) | (simp; omega) | omega) _)) hc2
      have hst2 : Below w1.heap.size w1 w2 := bchain (by repeat' (first | exact Below.refl _ _ | refine Below.drew ?_ | refine below_drewN ?_ _ | refine Below.alloc ?_ (by first | (simp; done) | (simp; omega) | omega) _ | refine Below.setCell ?_ (by first | (simp; done) | (simp; omega) | omega) _)) hc2
      replace P_0 := cell_later hst2 P_0
      replace P_1 := cell_later hst2 P_1
      replace P_l := Nat.lt_of_lt_of_le P_l hst2.size
      replace hl := hl.later hst2
      replace ha := ha.later hst2
      replace hp := hp.later hst2
      clear hst2
      clear hc2 hb1
      rw [H_hfit.out]
      go_wp2_with fail
      refine (rpicks_any l a ps la aa pa lc ac pc _ (by repeat' (first | with_reducible exact hl | with_reducible refine CellsAt.setFar ?_ ?_ _ | with_reducible refine CellsAt.alloc ?_ _ | with_reducible refine CellsAt.drew ?_ | with_reducible refine CellsAt.drewN ?_ _ | assumption | (simp; omega) | omega)) (by repeat' (first | with_reducible exact ha | with_reducible refine CellsAt.setFar ?_ ?_ _ | with_reducible refine CellsAt.alloc ?_ _ | with_reducible refine CellsAt.drew ?_ | with_reducible refine CellsAt.drewN ?_ _ | assumption | (simp; omega) | omega)) (by repeat' (first | with_reducible exact hp | with_reducible refine CellsAt.setFar ?_ ?_ _ | with_reducible refine CellsAt.alloc ?_ _ | with_reducible refine CellsAt.drew ?_ | with_reducible refine CellsAt.drewN ?_ _ | assumption | (simp; omega) | omega)) hml).mono ?_
      rintro e w3 ⟨rfl, hc3⟩
      have hb3 : Below w.heap.size w w3 := bchain (by repeat' (first | exact hb2 | refine Below.drew ?_ | refine below_drewN ?_ _ | refine Below.alloc ?_ (by have := hb2.size; first | (simp; done) | (simp; omega) | omega) _ | refine Below.setCell ?_ (by first | (simp; done) | (simp; omega) | omega) _)) hc3
      have hst3 : Below w2.heap.size w2 w3 := bchain (by repeat' (first | exact Below.refl _ _ | refine Below.drew ?_ | refine below_drewN ?_ _ | refine Below.alloc ?_ (by first | (simp; done) | (simp; omega) | omega) _ | refine Below.setCell ?_ (by first | (simp; done) | (simp; omega) | omega) _)) hc3
      replace P_0 := cell_later hst3 P_0
      replace P_1 := cell_later hst3 P_1
      replace P_l := Nat.lt_of_lt_of_le P_l hst3.size
      replace hl := hl.later hst3
      replace ha := ha.later hst3
      replace hp := hp.later hst3
      clear hst3
      clear hc3 hb2
      rw [H_h8.out]
      go_wp2_with fail
      go_wp2_with fail
      go_ret
      exact ⟨rfl, by repeat' (first | exact hb3 | refine Below.drew ?_ | refine below_drewN ?_ _ | refine Below.alloc ?_ (by have := hb3.size; first | (simp; done) | (simp; omega) | omega) _ | refine Below.setCell ?_ (by first | (simp; done) | (simp; omega) | omega) _)⟩
    · skip
      have H_hfit := hid hfit
      have H_h8 := hid h8
      have H_h1 := hid h1
      clear hfit h8 h1
      go_enter Try.func5, Try.ntmps5
      have hb0 := Below.refl w.heap.size w
      go_wp2_with fail
      refine (alive_any _).mono ?_
      rintro e w1 ⟨rfl, hc1⟩
      have hb1 : Below w.heap.size w w1 := bchain (by repeat' (first | exact hb0 | refine Below.drew ?_ | refine below_drewN ?_ _ | refine Below.alloc ?_ (by have := hb0.size; first | (simp; done) | (simp; omega) | omega) _ | refine Below.setCell ?_ (by first | (simp; done) | (simp; omega) | omega) _)) hc1
      have hst1 : Below w.heap.size w w1 := bchain (by repeat' (first | exact Below.refl _ _ | refine Below.drew ?_ | refine below_drewN ?_ _ | refine Below.alloc ?_ (by first | (simp; done) | (simp; omega) | omega) _ | refine Below.setCell ?_ (by first | (simp; done) | (simp; omega) | omega) _)) hc1
      have P_0 : w1.cell? ⟨w.heap.size, 0, none⟩ = some (.slice la l.length lc) := (hc1.cell (p := ⟨w.heap.size, 0, none⟩) (by first | (simp; done) | (simp; omega))).trans (by first | (simp; done) | go_simp)
      have P_1 : w1.cell? ⟨w.heap.size, 1, none⟩ = some (.slice aa a.length ac) := (hc1.cell (p := ⟨w.heap.size, 1, none⟩) (by first | (simp; done) | (simp; omega))).trans (by first | (simp; done) | go_simp)
      have P_l : w.heap.size < w1.heap.size := Nat.lt_of_lt_of_le (by first | (simp; done) | (simp; omega)) hc1.size
      replace hl := hl.later hst1
      replace ha := ha.later hst1
      replace hp := hp.later hst1
      clear hst1
      clear hc1 hb0
      go_wp2_with fail
      refine (fit_any l a la aa lc ac _ (by repeat' (first | with_reducible exact hl | with_reducible refine CellsAt.setFar ?_ ?_ _ | with_reducible refine CellsAt.alloc ?_ _ | with_reducible refine CellsAt.drew ?_ | with_reducible refine CellsAt.drewN ?_ _ | assumption | (simp; omega) | omega)) (by repeat' (first | with_reducible exact ha | with_reducible refine CellsAt.setFar ?_ ?_ _ | with_reducible refine CellsAt.alloc ?_ _ | with_reducible refine CellsAt.drew ?_ | with_reducible refine CellsAt.drewN ?_ _ | assumption | (simp; omega) | omega)) hml).mono ?_
      rintro e w2 ⟨rfl, hc2⟩
      have hb2 : Below w.heap.size w w2 := bchain (by repeat' (first | exact hb1 | refine Below.drew ?_ | refine below_drewN ?_ _ | refine Below.alloc ?_ (by have := hb1.size; first | (simp; done) | (simp; omega) | omega) _ | refine Below.setCell ?_ (by first | (simp; done) | (simp; omega) | omega) _)) hc2
      have hst2 : Below w1.heap.size w1 w2 := bchain (by repeat' (first | exact Below.refl _ _ | refine Below.drew ?_ | refine below_drewN ?_ _ | refine Below.alloc ?_ (by first | (simp; done) | (simp; omega) | omega) _ | refine Below.setCell ?_ (by first | (simp; done) | (simp; omega) | omega) _)) hc2
      replace P_0 := cell_later hst2 P_0
      replace P_1 := cell_later hst2 P_1
      replace P_l := Nat.lt_of_lt_of_le P_l hst2.size
      replace hl := hl.later hst2
      replace ha := ha.later hst2
      replace hp := hp.later hst2
      clear hst2
      clear hc2 hb1
      rw [H_hfit.out]
      go_wp2_with fail
      refine (rpicks_any l a ps la aa pa lc ac pc _ (by repeat' (first | with_reducible exact hl | with_reducible refine CellsAt.setFar ?_ ?_ _ | with_reducible refine CellsAt.alloc ?_ _ | with_reducible refine CellsAt.drew ?_ | with_reducible refine CellsAt.drewN ?_ _ | assumption | (simp; omega) | omega)) (by repeat' (first | with_reducible exact ha | with_reducible refine CellsAt.setFar ?_ ?_ _ | with_reducible refine CellsAt.alloc ?_ _ | with_reducible refine CellsAt.drew ?_ | with_reducible refine CellsAt.drewN ?_ _ | assumption | (simp; omega) | omega)) (by repeat' (first | with_reducible exact hp | with_reducible refine CellsAt.setFar ?_ ?_ _ | with_reducible refine CellsAt.alloc ?_ _ | with_reducible refine CellsAt.drew ?_ | with_reducible refine CellsAt.drewN ?_ _ | assumption | (simp; omega) | omega)) hml).mono ?_
      rintro e w3 ⟨rfl, hc3⟩
      have hb3 : Below w.heap.size w w3 := bchain (by repeat' (first | exact hb2 | refine Below.drew ?_ | refine below_drewN ?_ _ | refine Below.alloc ?_ (by have := hb2.size; first | (simp; done) | (simp; omega) | omega) _ | refine Below.setCell ?_ (by first | (simp; done) | (simp; omega) | omega) _)) hc3
      have hst3 : Below w2.heap.size w2 w3 := bchain (by repeat' (first | exact Below.refl _ _ | refine Below.drew ?_ | refine below_drewN ?_ _ | refine Below.alloc ?_ (by first | (simp; done) | (simp; omega) | omega) _ | refine Below.setCell ?_ (by first | (simp; done) | (simp; omega) | omega) _)) hc3
      replace P_0 := cell_later hst3 P_0
      replace P_1 := cell_later hst3 P_1
      replace P_l := Nat.lt_of_lt_of_le P_l hst3.size
      replace hl := hl.later hst3
      replace ha := ha.later hst3
      replace hp := hp.later hst3
      clear hst3
      clear hc3 hb2
      rw [H_h8.out]
      go_wp2_with fail
      go_wp2_with fail
      go_ret
      exact ⟨rfl, by repeat' (first | exact hb3 | refine Below.drew ?_ | refine below_drewN ?_ _ | refine Below.alloc ?_ (by have := hb3.size; first | (simp; done) | (simp; omega) | omega) _ | refine Below.setCell ?_ (by first | (simp; done) | (simp; omega) | omega) _)⟩
  · have hfit : decide (tErr l a = 0) = false := by simp [h1]
    have H_hfit := hid hfit
    have H_h1 := hid h1
    clear hfit h1
    go_enter Try.func5, Try.ntmps5
    have hb0 := Below.refl w.heap.size w
    go_wp2_with fail
    refine (alive_any _).mono ?_
    rintro e w1 ⟨rfl, hc1⟩
    have hb1 : Below w.heap.size w w1 := bchain (by repeat' (first | exact hb0 | refine Below.drew ?_ | refine below_drewN ?_ _ | refine Below.alloc ?_ (by have := hb0.size; first | (simp; done) | (simp; omega) | omega) _ | refine Below.setCell ?_ (by first | (simp; done) | (simp; omega) | omega) _)) hc1
    have hst1 : Below w.heap.size w w1 := bchain (by repeat' (first | exact Below.refl _ _ | refine Below.drew ?_ | refine below_drewN ?_ _ | refine Below.alloc ?_ (by first | (simp; done) | (simp; omega) | omega) _ | refine Below.setCell ?_ (by first | (simp; done) | (simp; omega) | omega) _)) hc1
    have P_0 : w1.cell? ⟨w.heap.size, 0, none⟩ = some (.slice la l.length lc) := (hc1.cell (p := ⟨w.heap.size, 0, none⟩) (by first | (simp; done) | (simp; omega))).trans (by first | (simp; done) | go_simp)
    have P_1 : w1.cell? ⟨w.heap.size, 1, none⟩ = some (.slice aa a.length ac) := (hc1.cell (p := ⟨w.heap.size, 1, none⟩) (by first | (simp; done) | (simp; omega))).trans (by first | (simp; done) | go_simp)
    have P_l : w.heap.size < w1.heap.size := Nat.lt_of_lt_of_le (by first | (simp; done) | (simp; omega)) hc1.size
    replace hl := hl.later hst1
    replace ha := ha.later hst1
    replace hp := hp.later hst1
    clear hst1
    clear hc1 hb0
    go_wp2_with fail
    refine (fit_any l a la aa lc ac _ (by repeat' (first | with_reducible exact hl | with_reducible refine CellsAt.setFar ?_ ?_ _ | with_reducible refine CellsAt.alloc ?_ _ | with_reducible refine CellsAt.drew ?_ | with_reducible refine CellsAt.drewN ?_ _ | assumption | (simp; omega) | omega)) (by repeat' (first | with_reducible exact ha | with_reducible refine CellsAt.setFar ?_ ?_ _ | with_reducible refine CellsAt.alloc ?_ _ | with_reducible refine CellsAt.drew ?_ | with_reducible refine CellsAt.drewN ?_ _ | assumption | (simp; omega) | omega)) hml).mono ?_
    rintro e w2 ⟨rfl, hc2⟩
    have hb2 : Below w.heap.size w w2 := bchain (by repeat' (first | exact hb1 | refine Below.drew ?_ | refine below_drewN ?_ _ | refine Below.alloc ?_ (by have := hb1.size; first | (simp; done) | (simp; omega) | omega) _ | refine Below.setCell ?_ (by first | (simp; done) | (simp; omega) | omega) _)) hc2
    have hst2 : Below w1.heap.size w1 w2 := bchain (by repeat' (first | exact Below.refl _ _ | refine Below.drew ?_ | refine below_drewN ?_ _ | refine Below.alloc ?_ (by first | (simp; done) | (simp; omega) | omega) _ | refine Below.setCell ?_ (by first | (simp; done) | (simp; omega) | omega) _)) hc2
    replace P_0 := cell_later hst2 P_0
    replace P_1 := cell_later hst2 P_1
    replace P_l := Nat.lt_of_lt_of_le P_l hst2.size
    replace hl := hl.later hst2
    replace ha := ha.later hst2
    replace hp := hp.later hst2
    clear hst2
    clear hc2 hb1
    rw [H_hfit.out]
    go_wp2_with fail
    go_wp2_with fail
    go_ret
    exact ⟨rfl, by repeat' (first | exact hb2 | refine Below.drew ?_ | refine below_drewN ?_ _ | refine Below.alloc ?_ (by have := hb2.size; first | (simp; done) | (simp; omega) | omega) _ | refine Below.setCell ?_ (by first | (simp; done) | (simp; omega) | omega) _)⟩

end Go.Proofs.Ytoelndaeemlefaa
