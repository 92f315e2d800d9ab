/- The reference's SameInts and Same, of equal lists. -/
import Derived.Test.YtnkbbfeaodppgaaLockSearch
namespace Go.Proofs.Ytnkbbfeaodppgaa
set_option linter.unusedSimpArgs false
set_option linter.unusedVariables false
set_option linter.unnecessarySimpa false
open Go.RowKit

set_option maxHeartbeats 1000000 in
theorem sameInts_self (xs : List Int) (a b : Option Addr) (n c d : Nat) (w : World) (hn : n = xs.length) (hml : n ≤ 1000001) (ha : CellsAt w a (xs.map (Value.int .i64))) (hb : CellsAt w b (xs.map (Value.int .i64))) :
    Calls Try.prog 20 #[.slice a n c, .slice b n d] w fun e w' =>
      e = .returned (.bool true) ∧ Below w.heap.size w w' := by
  have H_hn := Box.mk hn
  clear hn
  go_enter Try.func20, Try.ntmps20
  have hb0 := Below.refl w.heap.size w
  go_wp2_with fail
  go_loopw [5] (fun q wr => ∃ (i : Nat), i ≤ n ∧ q = .int .i64 i ∧ Below w.heap.size w wr) (fun q _ => n - (intOf q).toNat)
  case atStart => exact ⟨0, by omega, rfl, hb0⟩
  case round =>
    obtain ⟨i, hi, rfl, hbw⟩ := hrel
    by_cases hlt : i < n
    · obtain ⟨ba, oa, rfl, ca⟩ := (ha.later hbw).int (by have := H_hn.out; omega)
      obtain ⟨bb, ob, rfl, cb⟩ := (hb.later hbw).int (by have := H_hn.out; omega)
      replace ca := ca i (by have := H_hn.out; omega)
      replace cb := cb i (by have := H_hn.out; omega)
      obtain ⟨x, hx⟩ : ∃ x, xs[i]?.getD 0 = x := ⟨_, rfl⟩
      rw [hx] at ca cb
      have H_hx := Box.mk hx
      clear hx
      clear ha hb
      have hiI : (i : Int) < (n : Int) := by omega
      go_wp2_with fail
      go_quiet (fail)
      go_wp2_with fail
      go_roundw
      case rel =>
        refine ⟨i + 1, by omega, by go_num, ?_⟩
        repeat' (first | with_reducible exact hbw | with_reducible refine Below.drew ?_ | with_reducible refine below_drewN ?_ _)
      case measure => simp [intOf]; omega
    · have hge : (n : Int) ≤ (i : Int) := by omega
      go_wp2_with fail
      go_ret
      exact ⟨rfl, hbw⟩

set_option maxRecDepth 100000 in
set_option maxHeartbeats 2000000 in
theorem same_self (W : Int) (rs : List Int) (q : Waits) (ra qa ra2 qa2 : Option Addr) (rn rc qn qc rc2 qc2 : Nat) (w : World) (h : LockIn w rs q ra qa rn qn) (k : LockIn w rs q ra2 qa2 rn qn) :
    Calls Try.prog 16 #[.agg #[.int .i64 W, .slice ra rn rc, .slice qa qn qc], .agg #[.int .i64 W, .slice ra2 rn rc2, .slice qa2 qn qc2]] w fun e w' =>
      e = .returned (.bool true) ∧ Below w.heap.size w w' := by
  have hrm := h.rmax
  have hqm := h.qmax
  have hww : (W != W) = false := by simp
  have H_h := Box.mk h
  have H_k := Box.mk k
  clear h k
  go_enter Try.func16, Try.ntmps16
  have hb0 := Below.refl w.heap.size w
  go_wp2_with fail
  with_reducible refine (sameInts_self rs ra ra2 rn rc rc2 _ H_h.out.rlen (by omega) (H_h.out.later (below_alloc2 w _ _)).rs (H_k.out.later (below_alloc2 w _ _)).rs).mono ?_
  rintro e w1 ⟨rfl, hc1⟩
  have hb1 : Below w.heap.size w w1 := bchain (by repeat' (first | with_reducible exact hb0 | with_reducible refine Below.drew ?_ | with_reducible refine below_drewN ?_ _ | with_reducible refine Below.alloc ?_ (by have := hb0.size; first | (simp; done) | (simp; omega) | omega) _ | with_reducible refine Below.setCell ?_ (by first | (simp; done) | (simp; omega) | omega) _)) hc1
  have P_0 : w1.cell? ⟨w.heap.size, 0, none⟩ = some (.int .i64 W) := (hc1.cell (p := ⟨w.heap.size, 0, none⟩) (by first | (simp; done) | (simp; omega))).trans (by first | (simp; done) | go_simp)
  have P_1 : w1.cell? ⟨w.heap.size, 1, none⟩ = some (.slice ra rn rc) := (hc1.cell (p := ⟨w.heap.size, 1, none⟩) (by first | (simp; done) | (simp; omega))).trans (by first | (simp; done) | go_simp)
  have P_2 : w1.cell? ⟨w.heap.size, 2, none⟩ = some (.slice qa qn qc) := (hc1.cell (p := ⟨w.heap.size, 2, none⟩) (by first | (simp; done) | (simp; omega))).trans (by first | (simp; done) | go_simp)
  have P_l : w.heap.size < w1.heap.size := Nat.lt_of_lt_of_le (by first | (simp; done) | (simp; omega)) hc1.size
  have Q_0 : w1.cell? ⟨w.heap.size + 1, 0, none⟩ = some (.int .i64 W) := (hc1.cell (p := ⟨w.heap.size + 1, 0, none⟩) (by first | (simp; done) | (simp; omega))).trans (by first | (simp; done) | go_simp)
  have Q_1 : w1.cell? ⟨w.heap.size + 1, 1, none⟩ = some (.slice ra2 rn rc2) := (hc1.cell (p := ⟨w.heap.size + 1, 1, none⟩) (by first | (simp; done) | (simp; omega))).trans (by first | (simp; done) | go_simp)
  have Q_2 : w1.cell? ⟨w.heap.size + 1, 2, none⟩ = some (.slice qa2 qn qc2) := (hc1.cell (p := ⟨w.heap.size + 1, 2, none⟩) (by first | (simp; done) | (simp; omega))).trans (by first | (simp; done) | go_simp)
  have Q_l : w.heap.size + 1 < w1.heap.size := Nat.lt_of_lt_of_le (by first | (simp; done) | (simp; omega)) hc1.size
  clear hc1 hb0
  go_wp2_with fail
  go_loopw [5] (fun i wr => ∃ j : Nat, j ≤ qn ∧ i = .int .i64 j ∧ Below w.heap.size w wr ∧ Below w1.heap.size w1 wr) (fun i _ => qn - (intOf i).toNat)
  case atStart => exact ⟨0, Nat.zero_le _, rfl, hb1, Below.refl _ _⟩
  case round =>
    obtain ⟨j, hj, rfl, hbw, hb1w⟩ := hrel
    have hP0 := cell_later hb1w P_0
    have hP1 := cell_later hb1w P_1
    have hP2 := cell_later hb1w P_2
    have hQ0 := cell_later hb1w Q_0
    have hQ1 := cell_later hb1w Q_1
    have hQ2 := cell_later hb1w Q_2
    clear P_0 P_1 P_2 Q_0 Q_1 Q_2
    by_cases hlt : j < qn
    · have hlt' : (j : Int) < (qn : Int) := by omega
      have hjl : j < q.length := by have := H_h.out.qlen; omega
      obtain ⟨b1, o1, rfl, _, _, hcell⟩ := (H_h.out.later hbw).qs.waits (by omega)
      obtain ⟨c0, c1⟩ := hcell j hjl
      obtain ⟨b2, o2, rfl, _, _, hcell2⟩ := (H_k.out.later hbw).qs.waits (by omega)
      obtain ⟨d0, d1⟩ := hcell2 j hjl
      clear hcell hcell2
      go_wp2_with fail
      go_quiet (fail)
      go_wp2_with fail
      go_roundw
      case rel =>
        refine ⟨j + 1, by omega, by go_num, ?_, ?_⟩
        · repeat' (first | with_reducible exact hbw | with_reducible refine Below.drew ?_ | with_reducible refine below_drewN ?_ _)
        · repeat' (first | with_reducible exact hb1w | with_reducible refine Below.drew ?_ | with_reducible refine below_drewN ?_ _)
      case measure => simp [intOf]; omega
    · have hge : (qn : Int) ≤ (j : Int) := by omega
      go_wp2_with fail
      go_ret
      exact ⟨rfl, hbw⟩

end Go.Proofs.Ytnkbbfeaodppgaa
