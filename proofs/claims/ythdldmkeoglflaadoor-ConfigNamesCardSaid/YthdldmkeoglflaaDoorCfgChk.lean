/- config.Check. -/
import Derived.Test.YthdldmkeoglflaaDoorCfgSeen
namespace Go.Proofs.YthdldmkeoglflaaDoor
set_option maxRecDepth 100000
set_option linter.unusedSimpArgs false
set_option linter.unusedVariables false
set_option linter.unnecessarySimpa false
open Go.RowKit

/-- The setup's error. -/
def dupB (k : Int) (ps : Peers) (i : Nat) : Bool := decide (pu ps i = k) || (ps.take i).any fun p => p.2 == pu ps i
def distB (k : Int) (ps : Peers) : Bool := (List.range ps.length).all fun i => !dupB k ps i
def incB (ps : Peers) : Bool := (List.range ps.length).all fun i => decide (i = 0) || sltB (nm ps (i - 1)) (nm ps i)
def chkS (L : Lim) (s : Int) (ps : Peers) : Int :=
  if fitB L then (if secB s then (if ps.length ≤ 8 then (if ps.any (fun p => !vP p) then 8 else (if incB ps then (if distB (pubK s) ps then 0 else 14) else 32)) else 4) else 2) else 2
theorem chk_fit {L : Lim} {s : Int} {ps : Peers} (h : fitB L = false) : chkS L s ps = 2 := by unfold chkS; rw [h]; rfl
theorem chk_sec {L : Lim} {s : Int} {ps : Peers} (h : secB s = false) : chkS L s ps = 2 := by unfold chkS; rw [h]; cases fitB L <;> rfl
theorem chk_many {L : Lim} {s : Int} {ps : Peers} (h1 : fitB L = true) (h2 : secB s = true) (h3 : 8 < ps.length) : chkS L s ps = 4 := by unfold chkS; rw [h1, h2, if_neg (c := ps.length ≤ 8) (by omega)]; rfl
theorem chk_bad {L : Lim} {s : Int} {ps : Peers} (h1 : fitB L = true) (h2 : secB s = true) (h3 : ps.length ≤ 8) (h4 : (ps.any fun p => !vP p) = true) : chkS L s ps = 8 := by unfold chkS; rw [h1, h2, if_pos h3, h4]; rfl
theorem chk_inc {L : Lim} {s : Int} {ps : Peers} (h1 : fitB L = true) (h2 : secB s = true) (h3 : ps.length ≤ 8) (h4 : (ps.any fun p => !vP p) = false) (h5 : incB ps = false) : chkS L s ps = 32 := by unfold chkS; rw [h1, h2, if_pos h3, h4, h5]; rfl
theorem chk_dist {L : Lim} {s : Int} {ps : Peers} (h1 : fitB L = true) (h2 : secB s = true) (h3 : ps.length ≤ 8) (h4 : (ps.any fun p => !vP p) = false) (h5 : incB ps = true) (h6 : distB (pubK s) ps = false) : chkS L s ps = 14 := by unfold chkS; rw [h1, h2, if_pos h3, h4, h5, h6]; rfl
theorem chk_ok {L : Lim} {s : Int} {ps : Peers} (h1 : fitB L = true) (h2 : secB s = true) (h3 : ps.length ≤ 8) (h4 : (ps.any fun p => !vP p) = false) (h5 : incB ps = true) (h6 : distB (pubK s) ps = true) : chkS L s ps = 0 := by unfold chkS; rw [h1, h2, if_pos h3, h4, h5, h6]; rfl
theorem incB_no {ps : Peers} {k : Nat} (hk : k < ps.length) (h0 : 0 < k) (h : sltB (nm ps (k - 1)) (nm ps k) = false) : incB ps = false := by
  cases h2 : incB ps
  · rfl
  · have := List.all_eq_true.1 h2 k (List.mem_range.2 hk)
    rw [h, decide_eq_false (by omega)] at this; cases this
theorem incB_all {ps : Peers} (h : ∀ k, 0 < k → k < ps.length → sltB (nm ps (k - 1)) (nm ps k) = true) : incB ps = true :=
  List.all_eq_true.2 fun k hk => by
    have hk := List.mem_range.1 hk
    by_cases h0 : k = 0
    · simp [h0]
    · rw [h k (by omega) hk]; simp
theorem incB_iff {ps : Peers} : incB ps = true ↔ Inc ps := by
  constructor
  · intro h i h0 hi
    have := List.all_eq_true.1 h i (List.mem_range.2 hi)
    rw [decide_eq_false (by omega)] at this
    simpa using this
  · exact fun h => incB_all h
theorem distB_no {K : Int} {ps : Peers} {k : Nat} (hk : k < ps.length) (h : dupB K ps k = true) : distB K ps = false := by
  cases h2 : distB K ps
  · rfl
  · have := List.all_eq_true.1 h2 k (List.mem_range.2 hk)
    rw [h] at this; cases this
theorem distB_all {K : Int} {ps : Peers} (h : ∀ k, k < ps.length → dupB K ps k = false) : distB K ps = true :=
  List.all_eq_true.2 fun k hk => by rw [h k (List.mem_range.1 hk)]; rfl
theorem any_take {ps : Peers} {k : Nat} (hk : k < ps.length) (q : Int) : ((ps.take (k + 1)).any fun p => p.2 == q) = (((ps.take k).any fun p => p.2 == q) || (pu ps k == q)) := by
  rw [List.take_succ_eq_append_getElem hk, List.any_append, ps_at hk]
  simp

theorem eq_comm_b (a b : Int) : (a == b) = (b == a) := by rw [Bool.eq_iff_iff, beq_iff_eq, beq_iff_eq]; exact eq_comm
theorem limIdx (l0 l1 l2 l3 l4 l5 l6 l7 l8 : Int) (W : World) : ∀ k : Nat, k < 9 → (Instr.index 73 (.agg #[.int .i64 l0, .int .i64 l1, .int .i64 l2, .int .i64 l3, .int .i64 l4, .int .i64 l5, .int .i64 l6, .int .i64 l7, .int .i64 l8]) (.int .i64 k)).run Tryd.prog W = .ok (.int .i64 (((⟨l0, l1, l2, l3, l4, l5, l6, l7, l8⟩ : Lim)).l[k]?.getD 0)) W
  | 0, _ => rfl
  | 1, _ => rfl
  | 2, _ => rfl
  | 3, _ => rfl
  | 4, _ => rfl
  | 5, _ => rfl
  | 6, _ => rfl
  | 7, _ => rfl
  | 8, _ => rfl
  | k + 9, h => absurd h (by omega)
theorem mstCells {w : World} {B : Nat} (h : CellsAt w (some ⟨B, 0, none⟩) [.int .i64 3, .int .i64 4, .int .i64 40, .int .i64 8, .int .i64 8, .int .i64 8, .int .i64 4, .int .i64 4, .int .i64 8]) {k : Nat} (hk : k < 9) : w.cell? ⟨B, k, none⟩ = some (.int .i64 (mostL.l[k]?.getD 0)) := cellL (mostL_l ▸ h) hk

set_option maxHeartbeats 8000000 in
theorem Check_any (l0 l1 l2 l3 l4 l5 l6 l7 l8 : Int) (s : Int) (ps : Peers) (a : Option Addr) (c : Nat) (w : World) (hc : CellsAt w a (cel ps)) (s0 : 0 ≤ s) (s4 : s < 4294967296) (hk : Keys ps) (hml : ps.length ≤ maxLen) :
    Calls Tryd.prog 11 #[.agg #[.int .i64 l0, .int .i64 l1, .int .i64 l2, .int .i64 l3, .int .i64 l4, .int .i64 l5, .int .i64 l6, .int .i64 l7, .int .i64 l8, .int .u32 s, .slice a ps.length c]] w fun e w' =>
      e = .returned (.int .i64 (chkS (⟨l0, l1, l2, l3, l4, l5, l6, l7, l8⟩ : Lim) s ps)) ∧ Below w.heap.size w w' := by
  have hmm := @run_makeMap Tryd.prog
  have Hc0 := hid hc
  obtain ⟨R, hR⟩ : ∃ R, R = chkS (⟨l0, l1, l2, l3, l4, l5, l6, l7, l8⟩ : Lim) s ps := ⟨_, rfl⟩
  have r1 := fun h => hR.trans (chk_fit (L := (⟨l0, l1, l2, l3, l4, l5, l6, l7, l8⟩ : Lim)) (s := s) (ps := ps) h)
  have r2 := fun h => hR.trans (chk_sec (L := (⟨l0, l1, l2, l3, l4, l5, l6, l7, l8⟩ : Lim)) (s := s) (ps := ps) h)
  have r3 := fun h1 h2 h3 => hR.trans (chk_many (L := (⟨l0, l1, l2, l3, l4, l5, l6, l7, l8⟩ : Lim)) (s := s) (ps := ps) h1 h2 h3)
  have r4 := fun h1 h2 h3 h4 => hR.trans (chk_bad (L := (⟨l0, l1, l2, l3, l4, l5, l6, l7, l8⟩ : Lim)) (s := s) (ps := ps) h1 h2 h3 h4)
  have r5 := fun h1 h2 h3 h4 h5 => hR.trans (chk_inc (L := (⟨l0, l1, l2, l3, l4, l5, l6, l7, l8⟩ : Lim)) (s := s) (ps := ps) h1 h2 h3 h4 h5)
  have r6 := fun h1 h2 h3 h4 h5 h6 => hR.trans (chk_dist (L := (⟨l0, l1, l2, l3, l4, l5, l6, l7, l8⟩ : Lim)) (s := s) (ps := ps) h1 h2 h3 h4 h5 h6)
  have r7 := fun h1 h2 h3 h4 h5 h6 => hR.trans (chk_ok (L := (⟨l0, l1, l2, l3, l4, l5, l6, l7, l8⟩ : Lim)) (s := s) (ps := ps) h1 h2 h3 h4 h5 h6)
  obtain ⟨L, hL⟩ : ∃ L, L = (⟨l0, l1, l2, l3, l4, l5, l6, l7, l8⟩ : Lim) := ⟨_, rfl⟩
  have hidx : ∀ (k : Nat) W, k < 9 → (Instr.index 73 (.agg #[.int .i64 l0, .int .i64 l1, .int .i64 l2, .int .i64 l3, .int .i64 l4, .int .i64 l5, .int .i64 l6, .int .i64 l7, .int .i64 l8]) (.int .i64 k)).run Tryd.prog W = .ok (.int .i64 (L.l[k]?.getD 0)) W := fun k W h => hL ▸ limIdx l0 l1 l2 l3 l4 l5 l6 l7 l8 W k h
  rw [← hR]
  rw [← hL] at r1 r3 r4 r5 r6 r7
  clear hR hL
  have H_hidx := Box.mk hidx
  have H_r1 := Box.mk r1
  have H_r2 := Box.mk r2
  have H_r3 := Box.mk r3
  have H_r4 := Box.mk r4
  have H_r5 := Box.mk r5
  have H_r6 := Box.mk r6
  have H_r7 := Box.mk r7
  have H_hk := Box.mk hk
  have H_hml := Box.mk hml
  clear hidx r1 r2 r3 r4 r5 r6 r7 hk hml
  go_enter Tryd.func11, Tryd.ntmps11
  have hb0 := Below.refl w.heap.size w
  go_wp2_with fail
  with_reducible refine (greatest_any _).mono ?_
  rintro e w1 ⟨rfl, hc1⟩
  have hb1 : Below w.heap.size w w1 := bchain (by repeat' (first | with_reducible exact hb0 | with_reducible refine Below.drew ?_ | with_reducible refine below_drewN ?_ _ | with_reducible refine Below.alloc ?_ (by have := hb0.size; first | (simp; done) | (simp; omega) | omega) _ | with_reducible refine Below.setCell ?_ (by first | (simp; done) | (simp; omega) | omega) _)) hc1
  have hst1 : Below w.heap.size w w1 := bchain (by repeat' (first | with_reducible exact Below.refl _ _ | with_reducible refine Below.drew ?_ | with_reducible refine below_drewN ?_ _ | with_reducible refine Below.alloc ?_ (by first | (simp; done) | (simp; omega) | omega) _ | with_reducible refine Below.setCell ?_ (by first | (simp; done) | (simp; omega) | omega) _)) hc1
  have X_0 : w1.cell? ⟨w.heap.size, 0, none⟩ = some (.int .i64 l0) := (hc1.cell (p := ⟨w.heap.size, 0, none⟩) (by first | (simp; done) | (simp; omega))).trans (by first | (simp; done) | go_simp)
  have X_1 : w1.cell? ⟨w.heap.size, 1, none⟩ = some (.int .i64 l1) := (hc1.cell (p := ⟨w.heap.size, 1, none⟩) (by first | (simp; done) | (simp; omega))).trans (by first | (simp; done) | go_simp)
  have X_2 : w1.cell? ⟨w.heap.size, 2, none⟩ = some (.int .i64 l2) := (hc1.cell (p := ⟨w.heap.size, 2, none⟩) (by first | (simp; done) | (simp; omega))).trans (by first | (simp; done) | go_simp)
  have X_3 : w1.cell? ⟨w.heap.size, 3, none⟩ = some (.int .i64 l3) := (hc1.cell (p := ⟨w.heap.size, 3, none⟩) (by first | (simp; done) | (simp; omega))).trans (by first | (simp; done) | go_simp)
  have X_4 : w1.cell? ⟨w.heap.size, 4, none⟩ = some (.int .i64 l4) := (hc1.cell (p := ⟨w.heap.size, 4, none⟩) (by first | (simp; done) | (simp; omega))).trans (by first | (simp; done) | go_simp)
  have X_5 : w1.cell? ⟨w.heap.size, 5, none⟩ = some (.int .i64 l5) := (hc1.cell (p := ⟨w.heap.size, 5, none⟩) (by first | (simp; done) | (simp; omega))).trans (by first | (simp; done) | go_simp)
  have X_6 : w1.cell? ⟨w.heap.size, 6, none⟩ = some (.int .i64 l6) := (hc1.cell (p := ⟨w.heap.size, 6, none⟩) (by first | (simp; done) | (simp; omega))).trans (by first | (simp; done) | go_simp)
  have X_7 : w1.cell? ⟨w.heap.size, 7, none⟩ = some (.int .i64 l7) := (hc1.cell (p := ⟨w.heap.size, 7, none⟩) (by first | (simp; done) | (simp; omega))).trans (by first | (simp; done) | go_simp)
  have X_8 : w1.cell? ⟨w.heap.size, 8, none⟩ = some (.int .i64 l8) := (hc1.cell (p := ⟨w.heap.size, 8, none⟩) (by first | (simp; done) | (simp; omega))).trans (by first | (simp; done) | go_simp)
  have X_9 : w1.cell? ⟨w.heap.size, 9, none⟩ = some (.int .u32 s) := (hc1.cell (p := ⟨w.heap.size, 9, none⟩) (by first | (simp; done) | (simp; omega))).trans (by first | (simp; done) | go_simp)
  have X_10 : w1.cell? ⟨w.heap.size, 10, none⟩ = some (.slice a ps.length c) := (hc1.cell (p := ⟨w.heap.size, 10, none⟩) (by first | (simp; done) | (simp; omega))).trans (by first | (simp; done) | go_simp)
  have X_l : w.heap.size < w1.heap.size := Nat.lt_of_lt_of_le (by first | (simp; done) | (simp; omega)) hc1.size
  replace hc := hc.later hst1
  clear hst1
  clear hc1 hb0
  go_wp2_with fail
  with_reducible refine (row_any l0 l1 l2 l3 l4 l5 l6 l7 l8 _).mono ?_
  rintro e w2 ⟨rfl, hc2⟩
  have hb2 : Below w.heap.size w w2 := bchain (by repeat' (first | with_reducible exact hb1 | with_reducible refine Below.drew ?_ | with_reducible refine below_drewN ?_ _ | with_reducible refine Below.alloc ?_ (by have := hb1.size; first | (simp; done) | (simp; omega) | omega) _ | with_reducible refine Below.setCell ?_ (by first | (simp; done) | (simp; omega) | omega) _)) hc2
  have hst2 : Below w1.heap.size w1 w2 := bchain (by repeat' (first | with_reducible exact Below.refl _ _ | with_reducible refine Below.drew ?_ | with_reducible refine below_drewN ?_ _ | with_reducible refine Below.alloc ?_ (by first | (simp; done) | (simp; omega) | omega) _ | with_reducible refine Below.setCell ?_ (by first | (simp; done) | (simp; omega) | omega) _)) hc2
  replace X_0 := cell_later hst2 X_0
  replace X_1 := cell_later hst2 X_1
  replace X_2 := cell_later hst2 X_2
  replace X_3 := cell_later hst2 X_3
  replace X_4 := cell_later hst2 X_4
  replace X_5 := cell_later hst2 X_5
  replace X_6 := cell_later hst2 X_6
  replace X_7 := cell_later hst2 X_7
  replace X_8 := cell_later hst2 X_8
  replace X_9 := cell_later hst2 X_9
  replace X_10 := cell_later hst2 X_10
  replace X_l := Nat.lt_of_lt_of_le X_l hst2.size
  have M_0 : w2.cell? ⟨w1.heap.size, 0, none⟩ = some (.int .i64 3) := (hc2.cell (p := ⟨w1.heap.size, 0, none⟩) (by first | (simp; done) | (simp; omega))).trans (by first | (simp; done) | go_simp)
  have M_1 : w2.cell? ⟨w1.heap.size, 1, none⟩ = some (.int .i64 4) := (hc2.cell (p := ⟨w1.heap.size, 1, none⟩) (by first | (simp; done) | (simp; omega))).trans (by first | (simp; done) | go_simp)
  have M_2 : w2.cell? ⟨w1.heap.size, 2, none⟩ = some (.int .i64 40) := (hc2.cell (p := ⟨w1.heap.size, 2, none⟩) (by first | (simp; done) | (simp; omega))).trans (by first | (simp; done) | go_simp)
  have M_3 : w2.cell? ⟨w1.heap.size, 3, none⟩ = some (.int .i64 8) := (hc2.cell (p := ⟨w1.heap.size, 3, none⟩) (by first | (simp; done) | (simp; omega))).trans (by first | (simp; done) | go_simp)
  have M_4 : w2.cell? ⟨w1.heap.size, 4, none⟩ = some (.int .i64 8) := (hc2.cell (p := ⟨w1.heap.size, 4, none⟩) (by first | (simp; done) | (simp; omega))).trans (by first | (simp; done) | go_simp)
  have M_5 : w2.cell? ⟨w1.heap.size, 5, none⟩ = some (.int .i64 8) := (hc2.cell (p := ⟨w1.heap.size, 5, none⟩) (by first | (simp; done) | (simp; omega))).trans (by first | (simp; done) | go_simp)
  have M_6 : w2.cell? ⟨w1.heap.size, 6, none⟩ = some (.int .i64 4) := (hc2.cell (p := ⟨w1.heap.size, 6, none⟩) (by first | (simp; done) | (simp; omega))).trans (by first | (simp; done) | go_simp)
  have M_7 : w2.cell? ⟨w1.heap.size, 7, none⟩ = some (.int .i64 4) := (hc2.cell (p := ⟨w1.heap.size, 7, none⟩) (by first | (simp; done) | (simp; omega))).trans (by first | (simp; done) | go_simp)
  have M_8 : w2.cell? ⟨w1.heap.size, 8, none⟩ = some (.int .i64 8) := (hc2.cell (p := ⟨w1.heap.size, 8, none⟩) (by first | (simp; done) | (simp; omega))).trans (by first | (simp; done) | go_simp)
  have M_l : w1.heap.size < w2.heap.size := Nat.lt_of_lt_of_le (by first | (simp; done) | (simp; omega)) hc2.size
  replace hc := hc.later hst2
  clear hst2
  clear hc2 hb1
  go_wp2_with fail
  go_loopw [16] (fun i wr => ∃ k : Nat, k ≤ 9 ∧ i = .int .i64 k ∧ Hid (∀ j, j < k → limOk L j = true) ∧ wr = w2) (fun i _ => 9 - (intOf i).toNat)
  case atStart => exact ⟨0, Nat.zero_le _, rfl, hid (fun i hi => absurd hi (Nat.not_lt_zero _)), rfl⟩
  case round =>
    obtain ⟨k, hk9, rfl, hpre, hwr⟩ := hrel
    obtain rfl := hwr.symm
    by_cases hlt : k < 9
    · have hlt' : (k : Int) < 9 := by omega
      have hix := fun W => H_hidx.out k W hlt
      have d0 := mstCells (cells9 M_0 M_1 M_2 M_3 M_4 M_5 M_6 M_7 M_8) hlt
      obtain ⟨x, hx⟩ : ∃ x, L.l[k]?.getD 0 = x := ⟨_, rfl⟩
      obtain ⟨y, hy⟩ : ∃ y, mostL.l[k]?.getD 0 = y := ⟨_, rfl⟩
      have hok : limOk L k = (decide (1 ≤ x) && decide (x ≤ y)) := by unfold limOk; rw [hx, hy]
      have hall : limOk L k = true → ∀ j, j < k + 1 → limOk L j = true := fun h j hj => by
        by_cases he : j = k
        · rw [he]; exact h
        · exact hpre.out j (by omega)
      simp only [hx] at hix
      rw [hy] at d0
      clear hpre hx hy M_0 M_1 M_2 M_3 M_4 M_5 M_6 M_7 M_8 hc
      have H_hok := Box.mk hok
      have H_hall := Box.mk hall
      clear hok hall
      by_cases h1 : x < 1
      · go_wp2_with fail
        go_ret
        exact ⟨by rw [H_r1.out (fitB_no hlt (by rw [H_hok.out, decide_eq_false (by omega)]; rfl))]; rfl, (by repeat' (first | with_reducible exact hb2 | with_reducible refine Below.drew ?_ | with_reducible refine below_drewN ?_ _ | with_reducible refine Below.alloc ?_ (by have := hb2.size; first | (simp; done) | (simp; omega) | omega) _ | with_reducible refine Below.setCell ?_ (by first | (simp; done) | (simp; omega) | omega) _))⟩
      · by_cases h2 : y < x
        · go_wp2_with fail
          go_ret
          exact ⟨by rw [H_r1.out (fitB_no hlt (by rw [H_hok.out, decide_eq_false (p := x ≤ y) (by omega), Bool.and_false]))]; rfl, (by repeat' (first | with_reducible exact hb2 | with_reducible refine Below.drew ?_ | with_reducible refine below_drewN ?_ _ | with_reducible refine Below.alloc ?_ (by have := hb2.size; first | (simp; done) | (simp; omega) | omega) _ | with_reducible refine Below.setCell ?_ (by first | (simp; done) | (simp; omega) | omega) _))⟩
        · go_wp2_with fail
          go_roundw
          case rel => exact ⟨k + 1, hlt, by go_num, hid (H_hall.out (by rw [H_hok.out, decide_eq_true (by omega), decide_eq_true (by omega)]; rfl)), by first | rfl | trivial⟩
          case measure => simp [intOf]; omega
    · obtain rfl : k = 9 := by omega
      have hfit := fitB_all hpre.out
      have H_hfit := Box.mk hfit
      clear hfit
      clear hpre hk9 hlt
      clear M_0 M_1 M_2 M_3 M_4 M_5 M_6 M_7 M_8
      cases hs : secB s with
      | false =>
        have hn := secB_no s0 hs
        have H_hn := Box.mk hn
        have H_hs := Box.mk hs
        clear hn hs
        go_wp2_with fail
        go_wp2_with fail
        with_reducible refine (public_no s _ s0 s4 H_hn.out).mono ?_
        rintro e w11 ⟨rfl, hc11⟩
        have hb11 : Below w.heap.size w w11 := bchain (by repeat' (first | with_reducible exact hb2 | with_reducible refine Below.drew ?_ | with_reducible refine below_drewN ?_ _ | with_reducible refine Below.alloc ?_ (by have := hb2.size; first | (simp; done) | (simp; omega) | omega) _ | with_reducible refine Below.setCell ?_ (by first | (simp; done) | (simp; omega) | omega) _)) hc11
        have hst11 : Below w2.heap.size w2 w11 := bchain (by repeat' (first | with_reducible exact Below.refl _ _ | with_reducible refine Below.drew ?_ | with_reducible refine below_drewN ?_ _ | with_reducible refine Below.alloc ?_ (by first | (simp; done) | (simp; omega) | omega) _ | with_reducible refine Below.setCell ?_ (by first | (simp; done) | (simp; omega) | omega) _)) hc11
        replace X_0 := cell_later hst11 X_0
        replace X_1 := cell_later hst11 X_1
        replace X_2 := cell_later hst11 X_2
        replace X_3 := cell_later hst11 X_3
        replace X_4 := cell_later hst11 X_4
        replace X_5 := cell_later hst11 X_5
        replace X_6 := cell_later hst11 X_6
        replace X_7 := cell_later hst11 X_7
        replace X_8 := cell_later hst11 X_8
        replace X_9 := cell_later hst11 X_9
        replace X_10 := cell_later hst11 X_10
        replace X_l := Nat.lt_of_lt_of_le X_l hst11.size
        replace hc := hc.later hst11
        clear hst11
        clear hc11 hb2
        go_wp2_with fail
        go_ret
        exact ⟨by rw [H_r2.out H_hs.out]; rfl, (by repeat' (first | with_reducible exact hb11 | with_reducible refine Below.drew ?_ | with_reducible refine below_drewN ?_ _ | with_reducible refine Below.alloc ?_ (by have := hb11.size; first | (simp; done) | (simp; omega) | omega) _ | with_reducible refine Below.setCell ?_ (by first | (simp; done) | (simp; omega) | omega) _))⟩
      | true =>
        obtain ⟨s1, s5⟩ := secB_ok hs
        have H_hs := Box.mk hs
        clear hs
        go_wp2_with fail
        go_wp2_with fail
        with_reducible refine (public_ok s _ s1 s5).mono ?_
        rintro e w11 ⟨rfl, hc11⟩
        have hb11 : Below w.heap.size w w11 := bchain (by repeat' (first | with_reducible exact hb2 | with_reducible refine Below.drew ?_ | with_reducible refine below_drewN ?_ _ | with_reducible refine Below.alloc ?_ (by have := hb2.size; first | (simp; done) | (simp; omega) | omega) _ | with_reducible refine Below.setCell ?_ (by first | (simp; done) | (simp; omega) | omega) _)) hc11
        have hst11 : Below w2.heap.size w2 w11 := bchain (by repeat' (first | with_reducible exact Below.refl _ _ | with_reducible refine Below.drew ?_ | with_reducible refine below_drewN ?_ _ | with_reducible refine Below.alloc ?_ (by first | (simp; done) | (simp; omega) | omega) _ | with_reducible refine Below.setCell ?_ (by first | (simp; done) | (simp; omega) | omega) _)) hc11
        replace X_0 := cell_later hst11 X_0
        replace X_1 := cell_later hst11 X_1
        replace X_2 := cell_later hst11 X_2
        replace X_3 := cell_later hst11 X_3
        replace X_4 := cell_later hst11 X_4
        replace X_5 := cell_later hst11 X_5
        replace X_6 := cell_later hst11 X_6
        replace X_7 := cell_later hst11 X_7
        replace X_8 := cell_later hst11 X_8
        replace X_9 := cell_later hst11 X_9
        replace X_10 := cell_later hst11 X_10
        replace X_l := Nat.lt_of_lt_of_le X_l hst11.size
        replace hc := hc.later hst11
        clear hst11
        clear hc11 hb2
        by_cases h8 : 8 < ps.length
        · have h8' : (8 : Int) < (ps.length : Int) := by omega
          go_wp2_with fail
          go_ret
          exact ⟨by rw [H_r3.out H_hfit.out H_hs.out h8]; rfl, (by repeat' (first | with_reducible exact hb11 | with_reducible refine Below.drew ?_ | with_reducible refine below_drewN ?_ _ | with_reducible refine Below.alloc ?_ (by have := hb11.size; first | (simp; done) | (simp; omega) | omega) _ | with_reducible refine Below.setCell ?_ (by first | (simp; done) | (simp; omega) | omega) _))⟩
        · have h8' : ¬ ((8 : Int) < (ps.length : Int)) := by omega
          have hle : ps.length ≤ 8 := by omega
          cases ha : ps.any (fun p => !vP p) with
          | true =>
            have hcall := fun W g => ha ▸ contains_any ps a c W g H_hml.out H_hk.out
            have H_ha := Box.mk ha
            clear ha
            go_wp2_with fail
            go_wp2_with fail
            with_reducible refine (hcall _ hc).mono ?_
            rintro e w12 ⟨rfl, hc12⟩
            have hb12 : Below w.heap.size w w12 := bchain (by repeat' (first | with_reducible exact hb11 | with_reducible refine Below.drew ?_ | with_reducible refine below_drewN ?_ _ | with_reducible refine Below.alloc ?_ (by have := hb11.size; first | (simp; done) | (simp; omega) | omega) _ | with_reducible refine Below.setCell ?_ (by first | (simp; done) | (simp; omega) | omega) _)) hc12
            have hst12 : Below w11.heap.size w11 w12 := bchain (by repeat' (first | with_reducible exact Below.refl _ _ | with_reducible refine Below.drew ?_ | with_reducible refine below_drewN ?_ _ | with_reducible refine Below.alloc ?_ (by first | (simp; done) | (simp; omega) | omega) _ | with_reducible refine Below.setCell ?_ (by first | (simp; done) | (simp; omega) | omega) _)) hc12
            replace X_0 := cell_later hst12 X_0
            replace X_1 := cell_later hst12 X_1
            replace X_2 := cell_later hst12 X_2
            replace X_3 := cell_later hst12 X_3
            replace X_4 := cell_later hst12 X_4
            replace X_5 := cell_later hst12 X_5
            replace X_6 := cell_later hst12 X_6
            replace X_7 := cell_later hst12 X_7
            replace X_8 := cell_later hst12 X_8
            replace X_9 := cell_later hst12 X_9
            replace X_10 := cell_later hst12 X_10
            replace X_l := Nat.lt_of_lt_of_le X_l hst12.size
            replace hc := hc.later hst12
            clear hst12
            clear hc12 hb11
            go_wp2_with fail
            go_ret
            exact ⟨by rw [H_r4.out H_hfit.out H_hs.out hle H_ha.out]; rfl, (by repeat' (first | with_reducible exact hb12 | with_reducible refine Below.drew ?_ | with_reducible refine below_drewN ?_ _ | with_reducible refine Below.alloc ?_ (by have := hb12.size; first | (simp; done) | (simp; omega) | omega) _ | with_reducible refine Below.setCell ?_ (by first | (simp; done) | (simp; omega) | omega) _))⟩
          | false =>
            have hcall := fun W g => ha ▸ contains_any ps a c W g H_hml.out H_hk.out
            have H_ha := Box.mk ha
            clear ha
            go_wp2_with fail
            go_wp2_with fail
            with_reducible refine (hcall _ hc).mono ?_
            rintro e w12 ⟨rfl, hc12⟩
            have hb12 : Below w.heap.size w w12 := bchain (by repeat' (first | with_reducible exact hb11 | with_reducible refine Below.drew ?_ | with_reducible refine below_drewN ?_ _ | with_reducible refine Below.alloc ?_ (by have := hb11.size; first | (simp; done) | (simp; omega) | omega) _ | with_reducible refine Below.setCell ?_ (by first | (simp; done) | (simp; omega) | omega) _)) hc12
            have hst12 : Below w11.heap.size w11 w12 := bchain (by repeat' (first | with_reducible exact Below.refl _ _ | with_reducible refine Below.drew ?_ | with_reducible refine below_drewN ?_ _ | with_reducible refine Below.alloc ?_ (by first | (simp; done) | (simp; omega) | omega) _ | with_reducible refine Below.setCell ?_ (by first | (simp; done) | (simp; omega) | omega) _)) hc12
            replace X_0 := cell_later hst12 X_0
            replace X_1 := cell_later hst12 X_1
            replace X_2 := cell_later hst12 X_2
            replace X_3 := cell_later hst12 X_3
            replace X_4 := cell_later hst12 X_4
            replace X_5 := cell_later hst12 X_5
            replace X_6 := cell_later hst12 X_6
            replace X_7 := cell_later hst12 X_7
            replace X_8 := cell_later hst12 X_8
            replace X_9 := cell_later hst12 X_9
            replace X_10 := cell_later hst12 X_10
            replace X_l := Nat.lt_of_lt_of_le X_l hst12.size
            replace hc := hc.later hst12
            clear hst12
            clear hc12 hb11
            go_wp2_with fail
            go_loopw [48] (fun i wr => ∃ k : Nat, k ≤ ps.length ∧ i = .int .i64 k ∧ Hid (∀ j, 0 < j → j < k → sltB (nm ps (j - 1)) (nm ps j) = true) ∧ Below w.heap.size w wr ∧ (CellsAt wr a (cel ps) ∧ wr.cell? ⟨w.heap.size, 10, none⟩ = some (.slice a ps.length c))) (fun i _ => ps.length - (intOf i).toNat)
            case atStart => exact ⟨0, Nat.zero_le _, rfl, hid (fun j h0 hj => absurd hj (Nat.not_lt_zero _)), (by repeat' (first | with_reducible exact hb12 | with_reducible refine Below.drew ?_ | with_reducible refine below_drewN ?_ _ | with_reducible refine Below.alloc ?_ (by have := hb12.size; first | (simp; done) | (simp; omega) | omega) _ | with_reducible refine Below.setCell ?_ (by first | (simp; done) | (simp; omega) | omega) _)), hc, X_10⟩
            case round =>
              clear hc X_0 X_1 X_2 X_3 X_4 X_5 X_6 X_7 X_8 X_9 X_10 X_l
              obtain ⟨k, hkl, rfl, hpre, hbw, hc, X_10⟩ := hrel
              by_cases hlt : k < ps.length
              · have hlt' : (k : Int) < (ps.length : Int) := by omega
                obtain ⟨b, oo, rfl, g1, g2, hcell⟩ := hc.peers (by omega)
                by_cases hk0 : k = 0
                · subst hk0
                  clear hcell
                  go_wp2_with fail
                  go_quiet (fail)
                  go_wp2_with fail
                  go_roundw
                  case rel => exact ⟨1, by omega, by go_num, hid (fun j h0 hj => absurd h0 (by omega)), (by repeat' (first | with_reducible exact hbw | with_reducible refine Below.drew ?_ | with_reducible refine below_drewN ?_ _ | with_reducible refine Below.alloc ?_ (by have := hbw.size; first | (simp; done) | (simp; omega) | omega) _ | with_reducible refine Below.setCell ?_ (by first | (simp; done) | (simp; omega) | omega) _)), by first | exact hc | exact hc.drew, by go_simp⟩
                  case measure => simp [intOf]; omega
                · obtain ⟨m, rfl⟩ : ∃ m, k = m + 1 := ⟨k - 1, by omega⟩
                  have c0 := (hcell m (by omega)).1
                  have c1 := (hcell (m + 1) hlt).1
                  clear hcell
                  have e1 : ((m + 1 : Nat) : Int) - 1 = m := by omega
                  have e2 : (m : Int) < (ps.length : Int) := by omega
                  cases hlt2 : sltB (nm ps m) (nm ps (m + 1)) with
                  | true =>
                    have e3 : Op.bytesLess (nm ps (m + 1)).toList (nm ps m).toList = false := sltB_asymm hlt2
                    have e4 : ((nm ps (m + 1)).toList == (nm ps m).toList) = false := by
                      cases h : ((nm ps (m + 1)).toList == (nm ps m).toList)
                      · rfl
                      · have := seqB_iff.1 h
                        rw [this, sltB_irr] at hlt2; cases hlt2
                    have H_hlt2 := Box.mk hlt2
                    clear hlt2
                    go_wp2_with fail
                    go_quiet (fail)
                    go_wp2_with fail
                    go_roundw
                    case rel => exact ⟨m + 1 + 1, by omega, by go_num, hid (fun j h0 hj => by
                      by_cases hjk : j < m + 1
                      · exact hpre.out j h0 hjk
                      · obtain rfl : j = m + 1 := by omega
                        exact H_hlt2.out), (by repeat' (first | with_reducible exact hbw | with_reducible refine Below.drew ?_ | with_reducible refine below_drewN ?_ _ | with_reducible refine Below.alloc ?_ (by have := hbw.size; first | (simp; done) | (simp; omega) | omega) _ | with_reducible refine Below.setCell ?_ (by first | (simp; done) | (simp; omega) | omega) _)), by first | exact hc | exact hc.drew | exact hc.drewN _, by go_simp⟩
                    case measure => simp [intOf]; omega
                  | false =>
                    have hno := incB_no hlt (by omega) hlt2
                    cases e4 : ((nm ps (m + 1)).toList == (nm ps m).toList) with
                    | true =>
                      have H_hno := Box.mk hno
                      have H_hlt2 := Box.mk hlt2
                      clear hno hlt2
                      go_wp2_with fail
                      go_quiet (fail)
                      go_wp2_with fail
                      go_ret
                      exact ⟨by rw [H_r5.out H_hfit.out H_hs.out hle H_ha.out H_hno.out]; rfl, (by repeat' (first | with_reducible exact hbw | with_reducible refine Below.drew ?_ | with_reducible refine below_drewN ?_ _ | with_reducible refine Below.alloc ?_ (by have := hbw.size; first | (simp; done) | (simp; omega) | omega) _ | with_reducible refine Below.setCell ?_ (by first | (simp; done) | (simp; omega) | omega) _))⟩
                    | false =>
                      have e3 : Op.bytesLess (nm ps (m + 1)).toList (nm ps m).toList = true := sltB_tot hlt2 (by
                        cases h : seqB (nm ps m) (nm ps (m + 1))
                        · rfl
                        · rw [seqB_iff.1 h] at e4; simp at e4)
                      have H_hno := Box.mk hno
                      have H_hlt2 := Box.mk hlt2
                      clear hno hlt2
                      go_wp2_with fail
                      go_quiet (fail)
                      go_wp2_with fail
                      go_ret
                      exact ⟨by rw [H_r5.out H_hfit.out H_hs.out hle H_ha.out H_hno.out]; rfl, (by repeat' (first | with_reducible exact hbw | with_reducible refine Below.drew ?_ | with_reducible refine below_drewN ?_ _ | with_reducible refine Below.alloc ?_ (by have := hbw.size; first | (simp; done) | (simp; omega) | omega) _ | with_reducible refine Below.setCell ?_ (by first | (simp; done) | (simp; omega) | omega) _))⟩
              · obtain rfl : k = ps.length := by omega
                have hinc := incB_all hpre.out
                have H_hinc := Box.mk hinc
                clear hinc
                clear hpre
                rename World => wA
                have hpk := pubK_rng s
                have hwf := wf_u32 hpk.1 (by omega : pubK s < 4294967296)
                obtain ⟨K, hK⟩ : ∃ K, pubK s = K := ⟨_, rfl⟩
                rw [hK] at hwf ⊢
                clear hpk
                have H_hK := Box.mk hK
                have H_hwf := Box.mk hwf
                clear hK hwf
                go_wp2_with (refine wpList_seen rfl _ _ _ (.inr rfl) _ 0 [] rfl (SeenIn.made _) (by decide) K rfl rfl H_hwf.out ?_; refine stop ?_)
                refine Stop.go ?_
                intro wm hS hgr
                have hbm : Below wA.heap.size wA wm := Below.grown (by repeat' (first | exact Below.refl _ _ | refine Below.drew ?_ | refine below_drewN ?_ _ | refine Below.alloc ?_ (Nat.le_refl _) _)) hgr (by simp) (fun k hk => by simp at hk; omega)
                replace X_10 := cell_later hbm X_10
                replace hc := hc.later hbm
                have hbm2 : Below w.heap.size w wm := bchain hbw hbm
                go_wp2_with fail
                obtain ⟨B, hB⟩ : ∃ B, wA.heap.size = B := ⟨_, rfl⟩
                have hBw : w.heap.size ≤ B := hB ▸ hbw.size
                rw [hB] at hS
                simp only [hB]
                clear hgr hbm hB
                have H_hBw := Box.mk hBw
                clear hBw
                go_loopw [76] (fun i wr => ∃ (k : Nat) (S : List Int), k ≤ ps.length ∧ i = .int .i64 k ∧ SeenIn wr B (k + 1) S ∧ Hid (∀ q : Int, S.contains q = (decide (q = K) || (ps.take k).any fun p => p.2 == q)) ∧ Hid (∀ j, j < k → dupB K ps j = false) ∧ Below w.heap.size w wr ∧ CellsAt wr a (cel ps)) (fun i _ => ps.length - (intOf i).toNat)
                case atStart => exact ⟨0, _, Nat.zero_le _, rfl, hS, hid (fun q => by simp), hid (fun j hj => absurd hj (Nat.not_lt_zero _)), hbm2, hc⟩
                case round =>
                  clear hc X_10 hbw hbm2 hS
                  obtain ⟨k, S, hkl, rfl, hS, hSS, hpre, hbw, hc⟩ := hrel
                  by_cases hlt : k < ps.length
                  · have hlt' : (k : Int) < (ps.length : Int) := by omega
                    have hlt3 := hS.lt
                    obtain ⟨b, oo, rfl, g1, g2, hcell⟩ := hc.peers (by omega)
                    obtain ⟨c0, c1⟩ := hcell k hlt
                    have hkk := H_hk.out k hlt
                    have hwq := wf_u32 hkk.1 hkk.2
                    have hq1 := hSS.out (pu ps k)
                    have htk := any_take hlt
                    obtain ⟨q, hq⟩ : ∃ q, pu ps k = q := ⟨_, rfl⟩
                    have hdup : dupB K ps k = (decide (q = K) || (ps.take k).any fun p => p.2 == q) := by unfold dupB; rw [hq]
                    rw [hq] at c1 hwq hq1
                    simp only [hq] at htk
                    rw [← hdup] at hq1
                    clear hkk hcell
                    cases hd : S.contains q with
                    | true =>
                      have hno := distB_no hlt (hq1 ▸ hd : dupB K ps k = true)
                      have H_hno := Box.mk hno
                      have H_hwq := Box.mk hwq
                      have H_hd := Box.mk hd
                      clear hno hwq hd
                      go_wp2_with (refine wpList_look rfl _ _ rfl B (k + 1) S rfl (hS.later (by repeat' (first | with_reducible exact Below.refl _ _ | with_reducible refine Below.setCell ?_ (by first | (simp; done) | (simp; omega) | omega) _ | with_reducible refine Below.alloc ?_ (Nat.le_refl _) _))) q rfl H_hwq.out true H_hd.out ?_)
                      go_ret
                      exact ⟨by rw [H_r6.out H_hfit.out H_hs.out hle H_ha.out H_hinc.out (H_hK.out ▸ H_hno.out)]; rfl, (by repeat' (first | with_reducible exact hbw | with_reducible refine Below.drew ?_ | with_reducible refine below_drewN ?_ _ | with_reducible refine Below.alloc ?_ (by have := hbw.size; first | (simp; done) | (simp; omega) | omega) _ | with_reducible refine Below.setCell ?_ (by first | (simp; done) | (simp; omega) | omega) _))⟩
                    | false =>
                      have hdk : dupB K ps k = false := hq1 ▸ hd
                      have hS2 : ∀ z : Int, (q :: S).contains z = (decide (z = K) || (ps.take (k + 1)).any fun p => p.2 == z) := fun z => by
                        rw [any_take hlt, hq, List.contains_cons, hSS.out z, eq_comm_b z q]
                        cases (q == z) <;> cases decide (z = K) <;> simp
                      have hpre2 : ∀ j, j < k + 1 → dupB K ps j = false := fun j hj => by
                        by_cases hjk : j < k
                        · exact hpre.out j hjk
                        · obtain rfl : j = k := by omega
                          exact hdk
                      have H_hwq := Box.mk hwq
                      have H_hd := Box.mk hd
                      have H_hS2 := Box.mk hS2
                      have H_hpre2 := Box.mk hpre2
                      clear hwq hd hS2 hpre2
                      clear hSS hpre hq1 htk hdup
                      go_wp2_with (first | (refine wpList_look rfl _ _ rfl B (k + 1) S rfl (hS.later (by repeat' (first | with_reducible exact Below.refl _ _ | with_reducible refine Below.setCell ?_ (by first | (simp; done) | (simp; omega) | omega) _ | with_reducible refine Below.alloc ?_ (Nat.le_refl _) _))) q rfl H_hwq.out false H_hd.out ?_) | (at_mapUpdate; refine wpList_seen rfl _ _ _ (.inl rfl) B (k + 1) S rfl (hS.later (by repeat' (first | with_reducible exact Below.refl _ _ | with_reducible refine Below.setCell ?_ (by first | (simp; done) | (simp; omega) | omega) _ | with_reducible refine Below.alloc ?_ (Nat.le_refl _) _))) (by unfold maxLen; omega) q rfl rfl H_hwq.out ?_; refine stop ?_))
                      refine Stop.go ?_
                      intro wm hS3 hgr
                      have hbm : Below w.heap.size w wm := Below.grown (by repeat' (first | with_reducible exact hbw | with_reducible refine Below.drew ?_ | with_reducible refine below_drewN ?_ _ | with_reducible refine Below.alloc ?_ (by have := hbw.size; first | (simp; done) | (simp; omega) | omega) _ | with_reducible refine Below.setCell ?_ (by first | (simp; done) | (simp; omega) | omega) _)) hgr (by have := hbw.size; simp; omega) (fun k hk => by simp at hk; have := H_hBw.out; omega)
                      have hc3 : CellsAt wm (some ⟨b, oo, none⟩) (cel ps) := Hc0.out.later hbm
                      go_wp2_with fail
                      go_roundw
                      case rel => exact ⟨k + 1, q :: S, by omega, by go_num, hS3, hid H_hS2.out, hid H_hpre2.out, hbm, hc3⟩
                      case measure => simp [intOf]; omega
                  · obtain rfl : k = ps.length := by omega
                    have hdis := distB_all hpre.out
                    have H_hdis := Box.mk hdis
                    clear hdis
                    clear hpre hSS
                    go_wp2_with fail
                    go_ret
                    exact ⟨by rw [H_r7.out H_hfit.out H_hs.out hle H_ha.out H_hinc.out (H_hK.out ▸ H_hdis.out)]; rfl, (by repeat' (first | with_reducible exact hbw | with_reducible refine Below.drew ?_ | with_reducible refine below_drewN ?_ _ | with_reducible refine Below.alloc ?_ (by have := hbw.size; first | (simp; done) | (simp; omega) | omega) _ | with_reducible refine Below.setCell ?_ (by first | (simp; done) | (simp; omega) | omega) _))⟩

end Go.Proofs.YthdldmkeoglflaaDoor
