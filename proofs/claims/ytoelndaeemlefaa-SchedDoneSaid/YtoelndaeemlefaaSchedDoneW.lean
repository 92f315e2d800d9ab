/- The law SchedDone. -/
import Derived.Test.YtoelndaeemlefaaSchedPartsH
import Derived.Test.YtoelndaeemlefaaSchedDoneP
namespace Go.Proofs.Ytoelndaeemlefaa
set_option linter.unusedSimpArgs false
set_option linter.unusedVariables false
set_option linter.unnecessarySimpa false
open Go.RowKit

/-- What is known of a round. -/
structure Done (l a : List Int) (N : Nat) (S : Int) (r L D : List Int) : Prop where
  rounds : tkRounds l a N = (r, 0)
  run : tkRun l a r = ((L, a), D, 0)
  fair : tkFair l a r (2 * (l.length : Int)) = (true, 0)
  did : D.length = r.length
  min : (r.length : Int) = min (N : Int) S
  len : L.length = l.length
  tv : TV L a
  sum : sumTo L L.length = S - r.length
  le : r.length ≤ 300
theorem done_of {l a : List Int} {N : Nat} {S : Int} (h : tErr l a = 0) (hS : sumTo l l.length = S) (hN : N ≤ 300) :
    Done l a N S (rr a N l 0) (runAt a (rr a N l 0) l (rr a N l 0).length).1 (runAt a (rr a N l 0) l (rr a N l 0).length).2 := by
  obtain ⟨q1, q2, q3, _⟩ := tErr_ok h
  have htv := TV.of h
  obtain ⟨r1, r2, r3⟩ := rr_done N l 0 htv q1
  have rl := rr_len a N l 0
  have hpk : pkErr l a (rr a N l 0) = 0 := pkErr_zero h (by omega) r3
  have len := runAt_len a (rr a N l 0) l (rr a N l 0).length
  have hs := run_sum (a := a) r3 (rr a N l 0).length (Nat.le_refl _)
  refine ⟨?_, ?_, ?_, r2, by rw [r1, hS], len, runAt_TV htv r3 (Nat.le_refl _), by rw [len]; omega, by omega⟩
  · rw [tkRounds, if_pos h, if_neg (by omega), if_neg (by omega), Int.toNat_natCast]
  · rw [tkRun, if_pos hpk]
  · rw [tkFair, if_pos hpk, if_neg (by omega), show (2 * (l.length : Int)).toNat = 2 * l.length from by omega, rr_fair htv q1]

theorem sum_b (n : Nat) (xs : List Int) (v : Int) (a : Option Addr) (c : Nat) (w : World) (hn : n = xs.length) (hv : sumTo xs xs.length = v) (hx : CellsAt w a (xs.map (Value.int .i64))) (hxl : xs.length ≤ 12) (hb : ∀ j, j < xs.length → 0 ≤ g xs j ∧ g xs j ≤ 60) :
    Calls Try.prog 31 #[.slice a n c] w fun e w' =>
      e = .returned (.int .i64 v) ∧ Below w.heap.size w w' :=
  (sum_same n xs v a c w hn hv hx hxl hb).mono fun _ _ ⟨h, h2⟩ => ⟨h, h2 ▸ Below.refl _ _⟩

set_option maxRecDepth 100000 in
set_option maxHeartbeats 40000000 in
theorem done_walk (l a : List Int) (la aa : Option Addr) (lc ac : Nat) (n : Int) (w : World) (h0 : TkIn w l a la aa lc ac) (_ : (Lit.int .i64 n).wf = true) :
    Calls Try.prog 6 #[.agg #[.slice la l.length lc, .slice aa a.length ac], .int .i64 n] w fun e w' =>
      e = .returned (.bool true) ∧ Below w.heap.size w w' := by
  have hl := h0.left.cells
  have ha := h0.aft.cells
  have hml := h0.left.len
  clear h0
  rcases tErr_cases l a with h1 | h1
  · have hfit : decide (tErr l a = 0) = true := by simp [h1]
    obtain ⟨q1, q2, q3, q4⟩ := tErr_ok h1
    have hbdl : ∀ j, j < l.length → 0 ≤ g l j ∧ g l j ≤ 60 := fun j hj => ⟨(q4 j hj).1, (q4 j hj).2.1⟩
    have H_q3 := hid q3
    clear q4 q3
    obtain ⟨S, hS⟩ : ∃ S, sumTo l l.length = S := ⟨_, rfl⟩
    have hS0 := sumTo_nonneg (fun i hi => (hbdl i hi).1) l.length (Nat.le_refl _)
    rw [hS] at hS0
    by_cases i1 : 300 < S
    · skip
      have H_hfit := hid hfit
      have H_h1 := hid h1
      have H_hS := hid hS
      clear hfit h1 hS
      go_enter Try.func6, Try.ntmps6
      have hb0 := Below.refl w.heap.size w
      go_wp2_with fail
      refine (alive_any _).mono ?_
      rintro e w1 ⟨rfl, hc1⟩
      have hb1 : Below w.heap.size w w1 := bchain (by repeat' (first | exact hb0 | refine Below.drew ?_ | refine below_drewN ?_ _ | refine Below.alloc ?_ (by have := hb0.size; first | (simp; done) | (simp; omega) | omega) _ | refine Below.setCell ?_ (by first | (simp; done) | (simp; omega) | omega) _)) hc1
      have hst1 : Below w.heap.size w w1 := bchain (by repeat' (first | exact Below.refl _ _ | refine Below.drew ?_ | refine below_drewN ?_ _ | refine Below.alloc ?_ (by first | (simp; done) | (simp; omega) | omega) _ | refine Below.setCell ?_ (by first | (simp; done) | (simp; omega) | omega) _)) hc1
      have P_0 : w1.cell? ⟨w.heap.size, 0, none⟩ = some (.slice la l.length lc) := (hc1.cell (p := ⟨w.heap.size, 0, none⟩) (by first | (simp; done) | (simp; omega))).trans (by first | (simp; done) | go_simp)
      have P_1 : w1.cell? ⟨w.heap.size, 1, none⟩ = some (.slice aa a.length ac) := (hc1.cell (p := ⟨w.heap.size, 1, none⟩) (by first | (simp; done) | (simp; omega))).trans (by first | (simp; done) | go_simp)
      have P_l : w.heap.size < w1.heap.size := Nat.lt_of_lt_of_le (by first | (simp; done) | (simp; omega)) hc1.size
      replace hl := hl.later hst1
      replace ha := ha.later hst1
      clear hst1
      clear hc1 hb0
      go_wp2_with fail
      refine (fit_any l a la aa lc ac _ (by repeat' (first | with_reducible exact hl | with_reducible refine CellsAt.setFar ?_ ?_ _ | with_reducible refine CellsAt.alloc ?_ _ | with_reducible refine CellsAt.drew ?_ | with_reducible refine CellsAt.drewN ?_ _ | assumption | (simp; omega) | omega)) (by repeat' (first | with_reducible exact ha | with_reducible refine CellsAt.setFar ?_ ?_ _ | with_reducible refine CellsAt.alloc ?_ _ | with_reducible refine CellsAt.drew ?_ | with_reducible refine CellsAt.drewN ?_ _ | assumption | (simp; omega) | omega)) hml).mono ?_
      rintro e w2 ⟨rfl, hc2⟩
      have hb2 : Below w.heap.size w w2 := bchain (by repeat' (first | exact hb1 | refine Below.drew ?_ | refine below_drewN ?_ _ | refine Below.alloc ?_ (by have := hb1.size; first | (simp; done) | (simp; omega) | omega) _ | refine Below.setCell ?_ (by first | (simp; done) | (simp; omega) | omega) _)) hc2
      have hst2 : Below w1.heap.size w1 w2 := bchain (by repeat' (first | exact Below.refl _ _ | refine Below.drew ?_ | refine below_drewN ?_ _ | refine Below.alloc ?_ (by first | (simp; done) | (simp; omega) | omega) _ | refine Below.setCell ?_ (by first | (simp; done) | (simp; omega) | omega) _)) hc2
      replace P_0 := cell_later hst2 P_0
      replace P_1 := cell_later hst2 P_1
      replace P_l := Nat.lt_of_lt_of_le P_l hst2.size
      replace hl := hl.later hst2
      replace ha := ha.later hst2
      clear hst2
      clear hc2 hb1
      rw [H_hfit.out]
      go_wp2_with fail
      refine (sum_b l.length l S la lc _ rfl H_hS.out (by repeat' (first | with_reducible exact hl | with_reducible refine CellsAt.setFar ?_ ?_ _ | with_reducible refine CellsAt.alloc ?_ _ | with_reducible refine CellsAt.drew ?_ | with_reducible refine CellsAt.drewN ?_ _ | assumption | (simp; omega) | omega)) q2 hbdl).mono ?_
      rintro e w3 ⟨rfl, hc3⟩
      have hb3 : Below w.heap.size w w3 := bchain (by repeat' (first | exact hb2 | refine Below.drew ?_ | refine below_drewN ?_ _ | refine Below.alloc ?_ (by have := hb2.size; first | (simp; done) | (simp; omega) | omega) _ | refine Below.setCell ?_ (by first | (simp; done) | (simp; omega) | omega) _)) hc3
      have hst3 : Below w2.heap.size w2 w3 := bchain (by repeat' (first | exact Below.refl _ _ | refine Below.drew ?_ | refine below_drewN ?_ _ | refine Below.alloc ?_ (by first | (simp; done) | (simp; omega) | omega) _ | refine Below.setCell ?_ (by first | (simp; done) | (simp; omega) | omega) _)) hc3
      replace P_0 := cell_later hst3 P_0
      replace P_1 := cell_later hst3 P_1
      replace P_l := Nat.lt_of_lt_of_le P_l hst3.size
      replace hl := hl.later hst3
      replace ha := ha.later hst3
      clear hst3
      clear hc3 hb2
      go_wp2_with fail
      go_wp2_with fail
      go_ret
      exact ⟨rfl, by repeat' (first | exact hb3 | refine Below.drew ?_ | refine below_drewN ?_ _ | refine Below.alloc ?_ (by have := hb3.size; first | (simp; done) | (simp; omega) | omega) _ | refine Below.setCell ?_ (by first | (simp; done) | (simp; omega) | omega) _)⟩
    by_cases i2 : n < 0
    · skip
      have H_hfit := hid hfit
      have H_h1 := hid h1
      have H_hS := hid hS
      clear hfit h1 hS
      go_enter Try.func6, Try.ntmps6
      have hb0 := Below.refl w.heap.size w
      go_wp2_with fail
      refine (alive_any _).mono ?_
      rintro e w1 ⟨rfl, hc1⟩
      have hb1 : Below w.heap.size w w1 := bchain (by repeat' (first | exact hb0 | refine Below.drew ?_ | refine below_drewN ?_ _ | refine Below.alloc ?_ (by have := hb0.size; first | (simp; done) | (simp; omega) | omega) _ | refine Below.setCell ?_ (by first | (simp; done) | (simp; omega) | omega) _)) hc1
      have hst1 : Below w.heap.size w w1 := bchain (by repeat' (first | exact Below.refl _ _ | refine Below.drew ?_ | refine below_drewN ?_ _ | refine Below.alloc ?_ (by first | (simp; done) | (simp; omega) | omega) _ | refine Below.setCell ?_ (by first | (simp; done) | (simp; omega) | omega) _)) hc1
      have P_0 : w1.cell? ⟨w.heap.size, 0, none⟩ = some (.slice la l.length lc) := (hc1.cell (p := ⟨w.heap.size, 0, none⟩) (by first | (simp; done) | (simp; omega))).trans (by first | (simp; done) | go_simp)
      have P_1 : w1.cell? ⟨w.heap.size, 1, none⟩ = some (.slice aa a.length ac) := (hc1.cell (p := ⟨w.heap.size, 1, none⟩) (by first | (simp; done) | (simp; omega))).trans (by first | (simp; done) | go_simp)
      have P_l : w.heap.size < w1.heap.size := Nat.lt_of_lt_of_le (by first | (simp; done) | (simp; omega)) hc1.size
      replace hl := hl.later hst1
      replace ha := ha.later hst1
      clear hst1
      clear hc1 hb0
      go_wp2_with fail
      refine (fit_any l a la aa lc ac _ (by repeat' (first | with_reducible exact hl | with_reducible refine CellsAt.setFar ?_ ?_ _ | with_reducible refine CellsAt.alloc ?_ _ | with_reducible refine CellsAt.drew ?_ | with_reducible refine CellsAt.drewN ?_ _ | assumption | (simp; omega) | omega)) (by repeat' (first | with_reducible exact ha | with_reducible refine CellsAt.setFar ?_ ?_ _ | with_reducible refine CellsAt.alloc ?_ _ | with_reducible refine CellsAt.drew ?_ | with_reducible refine CellsAt.drewN ?_ _ | assumption | (simp; omega) | omega)) hml).mono ?_
      rintro e w2 ⟨rfl, hc2⟩
      have hb2 : Below w.heap.size w w2 := bchain (by repeat' (first | exact hb1 | refine Below.drew ?_ | refine below_drewN ?_ _ | refine Below.alloc ?_ (by have := hb1.size; first | (simp; done) | (simp; omega) | omega) _ | refine Below.setCell ?_ (by first | (simp; done) | (simp; omega) | omega) _)) hc2
      have hst2 : Below w1.heap.size w1 w2 := bchain (by repeat' (first | exact Below.refl _ _ | refine Below.drew ?_ | refine below_drewN ?_ _ | refine Below.alloc ?_ (by first | (simp; done) | (simp; omega) | omega) _ | refine Below.setCell ?_ (by first | (simp; done) | (simp; omega) | omega) _)) hc2
      replace P_0 := cell_later hst2 P_0
      replace P_1 := cell_later hst2 P_1
      replace P_l := Nat.lt_of_lt_of_le P_l hst2.size
      replace hl := hl.later hst2
      replace ha := ha.later hst2
      clear hst2
      clear hc2 hb1
      rw [H_hfit.out]
      go_wp2_with fail
      refine (sum_b l.length l S la lc _ rfl H_hS.out (by repeat' (first | with_reducible exact hl | with_reducible refine CellsAt.setFar ?_ ?_ _ | with_reducible refine CellsAt.alloc ?_ _ | with_reducible refine CellsAt.drew ?_ | with_reducible refine CellsAt.drewN ?_ _ | assumption | (simp; omega) | omega)) q2 hbdl).mono ?_
      rintro e w3 ⟨rfl, hc3⟩
      have hb3 : Below w.heap.size w w3 := bchain (by repeat' (first | exact hb2 | refine Below.drew ?_ | refine below_drewN ?_ _ | refine Below.alloc ?_ (by have := hb2.size; first | (simp; done) | (simp; omega) | omega) _ | refine Below.setCell ?_ (by first | (simp; done) | (simp; omega) | omega) _)) hc3
      have hst3 : Below w2.heap.size w2 w3 := bchain (by repeat' (first | exact Below.refl _ _ | refine Below.drew ?_ | refine below_drewN ?_ _ | refine Below.alloc ?_ (by first | (simp; done) | (simp; omega) | omega) _ | refine Below.setCell ?_ (by first | (simp; done) | (simp; omega) | omega) _)) hc3
      replace P_0 := cell_later hst3 P_0
      replace P_1 := cell_later hst3 P_1
      replace P_l := Nat.lt_of_lt_of_le P_l hst3.size
      replace hl := hl.later hst3
      replace ha := ha.later hst3
      clear hst3
      clear hc3 hb2
      go_wp2_with fail
      go_wp2_with fail
      go_ret
      exact ⟨rfl, by repeat' (first | exact hb3 | refine Below.drew ?_ | refine below_drewN ?_ _ | refine Below.alloc ?_ (by have := hb3.size; first | (simp; done) | (simp; omega) | omega) _ | refine Below.setCell ?_ (by first | (simp; done) | (simp; omega) | omega) _)⟩
    by_cases i3 : 300 < n
    · skip
      have H_hfit := hid hfit
      have H_h1 := hid h1
      have H_hS := hid hS
      clear hfit h1 hS
      go_enter Try.func6, Try.ntmps6
      have hb0 := Below.refl w.heap.size w
      go_wp2_with fail
      refine (alive_any _).mono ?_
      rintro e w1 ⟨rfl, hc1⟩
      have hb1 : Below w.heap.size w w1 := bchain (by repeat' (first | exact hb0 | refine Below.drew ?_ | refine below_drewN ?_ _ | refine Below.alloc ?_ (by have := hb0.size; first | (simp; done) | (simp; omega) | omega) _ | refine Below.setCell ?_ (by first | (simp; done) | (simp; omega) | omega) _)) hc1
      have hst1 : Below w.heap.size w w1 := bchain (by repeat' (first | exact Below.refl _ _ | refine Below.drew ?_ | refine below_drewN ?_ _ | refine Below.alloc ?_ (by first | (simp; done) | (simp; omega) | omega) _ | refine Below.setCell ?_ (by first | (simp; done) | (simp; omega) | omega) _)) hc1
      have P_0 : w1.cell? ⟨w.heap.size, 0, none⟩ = some (.slice la l.length lc) := (hc1.cell (p := ⟨w.heap.size, 0, none⟩) (by first | (simp; done) | (simp; omega))).trans (by first | (simp; done) | go_simp)
      have P_1 : w1.cell? ⟨w.heap.size, 1, none⟩ = some (.slice aa a.length ac) := (hc1.cell (p := ⟨w.heap.size, 1, none⟩) (by first | (simp; done) | (simp; omega))).trans (by first | (simp; done) | go_simp)
      have P_l : w.heap.size < w1.heap.size := Nat.lt_of_lt_of_le (by first | (simp; done) | (simp; omega)) hc1.size
      replace hl := hl.later hst1
      replace ha := ha.later hst1
      clear hst1
      clear hc1 hb0
      go_wp2_with fail
      refine (fit_any l a la aa lc ac _ (by repeat' (first | with_reducible exact hl | with_reducible refine CellsAt.setFar ?_ ?_ _ | with_reducible refine CellsAt.alloc ?_ _ | with_reducible refine CellsAt.drew ?_ | with_reducible refine CellsAt.drewN ?_ _ | assumption | (simp; omega) | omega)) (by repeat' (first | with_reducible exact ha | with_reducible refine CellsAt.setFar ?_ ?_ _ | with_reducible refine CellsAt.alloc ?_ _ | with_reducible refine CellsAt.drew ?_ | with_reducible refine CellsAt.drewN ?_ _ | assumption | (simp; omega) | omega)) hml).mono ?_
      rintro e w2 ⟨rfl, hc2⟩
      have hb2 : Below w.heap.size w w2 := bchain (by repeat' (first | exact hb1 | refine Below.drew ?_ | refine below_drewN ?_ _ | refine Below.alloc ?_ (by have := hb1.size; first | (simp; done) | (simp; omega) | omega) _ | refine Below.setCell ?_ (by first | (simp; done) | (simp; omega) | omega) _)) hc2
      have hst2 : Below w1.heap.size w1 w2 := bchain (by repeat' (first | exact Below.refl _ _ | refine Below.drew ?_ | refine below_drewN ?_ _ | refine Below.alloc ?_ (by first | (simp; done) | (simp; omega) | omega) _ | refine Below.setCell ?_ (by first | (simp; done) | (simp; omega) | omega) _)) hc2
      replace P_0 := cell_later hst2 P_0
      replace P_1 := cell_later hst2 P_1
      replace P_l := Nat.lt_of_lt_of_le P_l hst2.size
      replace hl := hl.later hst2
      replace ha := ha.later hst2
      clear hst2
      clear hc2 hb1
      rw [H_hfit.out]
      go_wp2_with fail
      refine (sum_b l.length l S la lc _ rfl H_hS.out (by repeat' (first | with_reducible exact hl | with_reducible refine CellsAt.setFar ?_ ?_ _ | with_reducible refine CellsAt.alloc ?_ _ | with_reducible refine CellsAt.drew ?_ | with_reducible refine CellsAt.drewN ?_ _ | assumption | (simp; omega) | omega)) q2 hbdl).mono ?_
      rintro e w3 ⟨rfl, hc3⟩
      have hb3 : Below w.heap.size w w3 := bchain (by repeat' (first | exact hb2 | refine Below.drew ?_ | refine below_drewN ?_ _ | refine Below.alloc ?_ (by have := hb2.size; first | (simp; done) | (simp; omega) | omega) _ | refine Below.setCell ?_ (by first | (simp; done) | (simp; omega) | omega) _)) hc3
      have hst3 : Below w2.heap.size w2 w3 := bchain (by repeat' (first | exact Below.refl _ _ | refine Below.drew ?_ | refine below_drewN ?_ _ | refine Below.alloc ?_ (by first | (simp; done) | (simp; omega) | omega) _ | refine Below.setCell ?_ (by first | (simp; done) | (simp; omega) | omega) _)) hc3
      replace P_0 := cell_later hst3 P_0
      replace P_1 := cell_later hst3 P_1
      replace P_l := Nat.lt_of_lt_of_le P_l hst3.size
      replace hl := hl.later hst3
      replace ha := ha.later hst3
      clear hst3
      clear hc3 hb2
      go_wp2_with fail
      go_wp2_with fail
      go_ret
      exact ⟨rfl, by repeat' (first | exact hb3 | refine Below.drew ?_ | refine below_drewN ?_ _ | refine Below.alloc ?_ (by have := hb3.size; first | (simp; done) | (simp; omega) | omega) _ | refine Below.setCell ?_ (by first | (simp; done) | (simp; omega) | omega) _)⟩
    obtain ⟨N, rfl⟩ : ∃ N : Nat, n = N := ⟨n.toNat, by omega⟩
    have hN : N ≤ 300 := by omega
    have hpt := done_of h1 hS hN
    generalize (runAt a (rr a N l 0) l (rr a N l 0).length).1 = L at hpt
    generalize (runAt a (rr a N l 0) l (rr a N l 0).length).2 = D at hpt
    generalize rr a N l 0 = r at hpt
    have Hp := hid hpt
    have len := hpt.len
    have did := hpt.did
    have hmin := hpt.min
    have hrl := hpt.le
    have hLv := hpt.tv
    have hbdL : ∀ j, j < L.length → 0 ≤ g L j ∧ g L j ≤ 60 := fun j hj => ⟨(hLv.nth j hj).1, (hLv.nth j hj).2.1⟩
    have hbmin : ((r.length : Int) != min (N : Int) S) = false := by rw [bne_eq_false_iff_eq]; exact hmin
    have hbdid : ((D.length : Int) != (r.length : Int)) = false := by rw [bne_eq_false_iff_eq]; omega
    have hL12 : L.length ≤ 12 := by omega
    have hsL : sumTo L L.length = S - (r.length : Int) := hpt.sum
    have hrS : (r.length : Int) ≤ S := by omega
    have heq : (S - (r.length : Int) == S - (r.length : Int)) = true := by simp
    have H_bdl := hid hbdl
    have H_bdL := hid hbdL
    clear hpt hLv hbmin hbdid hbdL
    have H_hfit := hid hfit
    have H_h1 := hid h1
    have H_hS := hid hS
    have H_len := hid len
    have H_did := hid did
    have H_hmin := hid hmin
    have H_hsL := hid hsL
    clear hfit h1 hS len did hmin hsL
    go_enter Try.func6, Try.ntmps6
    have hb0 := Below.refl w.heap.size w
    go_wp2_with fail
    refine (alive_any _).mono ?_
    rintro e w1 ⟨rfl, hc1⟩
    have hb1 : Below w.heap.size w w1 := bchain (by repeat' (first | exact hb0 | refine Below.drew ?_ | refine below_drewN ?_ _ | refine Below.alloc ?_ (by have := hb0.size; first | (simp; done) | (simp; omega) | omega) _ | refine Below.setCell ?_ (by first | (simp; done) | (simp; omega) | omega) _)) hc1
    have hst1 : Below w.heap.size w w1 := bchain (by repeat' (first | exact Below.refl _ _ | refine Below.drew ?_ | refine below_drewN ?_ _ | refine Below.alloc ?_ (by first | (simp; done) | (simp; omega) | omega) _ | refine Below.setCell ?_ (by first | (simp; done) | (simp; omega) | omega) _)) hc1
    have P_0 : w1.cell? ⟨w.heap.size, 0, none⟩ = some (.slice la l.length lc) := (hc1.cell (p := ⟨w.heap.size, 0, none⟩) (by first | (simp; done) | (simp; omega))).trans (by first | (simp; done) | go_simp)
    have P_1 : w1.cell? ⟨w.heap.size, 1, none⟩ = some (.slice aa a.length ac) := (hc1.cell (p := ⟨w.heap.size, 1, none⟩) (by first | (simp; done) | (simp; omega))).trans (by first | (simp; done) | go_simp)
    have P_l : w.heap.size < w1.heap.size := Nat.lt_of_lt_of_le (by first | (simp; done) | (simp; omega)) hc1.size
    replace hl := hl.later hst1
    replace ha := ha.later hst1
    clear hst1
    clear hc1 hb0
    go_wp2_with fail
    refine (fit_any l a la aa lc ac _ (by repeat' (first | with_reducible exact hl | with_reducible refine CellsAt.setFar ?_ ?_ _ | with_reducible refine CellsAt.alloc ?_ _ | with_reducible refine CellsAt.drew ?_ | with_reducible refine CellsAt.drewN ?_ _ | assumption | (simp; omega) | omega)) (by repeat' (first | with_reducible exact ha | with_reducible refine CellsAt.setFar ?_ ?_ _ | with_reducible refine CellsAt.alloc ?_ _ | with_reducible refine CellsAt.drew ?_ | with_reducible refine CellsAt.drewN ?_ _ | assumption | (simp; omega) | omega)) hml).mono ?_
    rintro e w2 ⟨rfl, hc2⟩
    have hb2 : Below w.heap.size w w2 := bchain (by repeat' (first | exact hb1 | refine Below.drew ?_ | refine below_drewN ?_ _ | refine Below.alloc ?_ (by have := hb1.size; first | (simp; done) | (simp; omega) | omega) _ | refine Below.setCell ?_ (by first | (simp; done) | (simp; omega) | omega) _)) hc2
    have hst2 : Below w1.heap.size w1 w2 := bchain (by repeat' (first | exact Below.refl _ _ | refine Below.drew ?_ | refine below_drewN ?_ _ | refine Below.alloc ?_ (by first | (simp; done) | (simp; omega) | omega) _ | refine Below.setCell ?_ (by first | (simp; done) | (simp; omega) | omega) _)) hc2
    replace P_0 := cell_later hst2 P_0
    replace P_1 := cell_later hst2 P_1
    replace P_l := Nat.lt_of_lt_of_le P_l hst2.size
    replace hl := hl.later hst2
    replace ha := ha.later hst2
    clear hst2
    clear hc2 hb1
    rw [H_hfit.out]
    go_wp2_with fail
    refine (sum_b l.length l S la lc _ rfl H_hS.out (by repeat' (first | with_reducible exact hl | with_reducible refine CellsAt.setFar ?_ ?_ _ | with_reducible refine CellsAt.alloc ?_ _ | with_reducible refine CellsAt.drew ?_ | with_reducible refine CellsAt.drewN ?_ _ | assumption | (simp; omega) | omega)) q2 hbdl).mono ?_
    rintro e w3 ⟨rfl, hc3⟩
    have hb3 : Below w.heap.size w w3 := bchain (by repeat' (first | exact hb2 | refine Below.drew ?_ | refine below_drewN ?_ _ | refine Below.alloc ?_ (by have := hb2.size; first | (simp; done) | (simp; omega) | omega) _ | refine Below.setCell ?_ (by first | (simp; done) | (simp; omega) | omega) _)) hc3
    have hst3 : Below w2.heap.size w2 w3 := bchain (by repeat' (first | exact Below.refl _ _ | refine Below.drew ?_ | refine below_drewN ?_ _ | refine Below.alloc ?_ (by first | (simp; done) | (simp; omega) | omega) _ | refine Below.setCell ?_ (by first | (simp; done) | (simp; omega) | omega) _)) hc3
    replace P_0 := cell_later hst3 P_0
    replace P_1 := cell_later hst3 P_1
    replace P_l := Nat.lt_of_lt_of_le P_l hst3.size
    replace hl := hl.later hst3
    replace ha := ha.later hst3
    clear hst3
    clear hc3 hb2
    go_wp2_with fail
    refine (rounds_r l a r 0 (N : Int) l.length a.length r.length la aa lc ac _ rfl rfl rfl (by repeat' (first | with_reducible exact hl | with_reducible refine CellsAt.setFar ?_ ?_ _ | with_reducible refine CellsAt.alloc ?_ _ | with_reducible refine CellsAt.drew ?_ | with_reducible refine CellsAt.drewN ?_ _ | assumption | (simp; omega) | omega)) (by repeat' (first | with_reducible exact ha | with_reducible refine CellsAt.setFar ?_ ?_ _ | with_reducible refine CellsAt.alloc ?_ _ | with_reducible refine CellsAt.drew ?_ | with_reducible refine CellsAt.drewN ?_ _ | assumption | (simp; omega) | omega)) hml Hp.out.rounds).mono ?_
    rintro e w4 ⟨⟨r1, e1, rfl, kr⟩, hc4⟩
    have hb4 : Below w.heap.size w w4 := bchain (by repeat' (first | exact hb3 | refine Below.drew ?_ | refine below_drewN ?_ _ | refine Below.alloc ?_ (by have := hb3.size; first | (simp; done) | (simp; omega) | omega) _ | refine Below.setCell ?_ (by first | (simp; done) | (simp; omega) | omega) _)) hc4
    have hst4 : Below w3.heap.size w3 w4 := bchain (by repeat' (first | exact Below.refl _ _ | refine Below.drew ?_ | refine below_drewN ?_ _ | refine Below.alloc ?_ (by first | (simp; done) | (simp; omega) | omega) _ | refine Below.setCell ?_ (by first | (simp; done) | (simp; omega) | omega) _)) hc4
    replace P_0 := cell_later hst4 P_0
    replace P_1 := cell_later hst4 P_1
    replace P_l := Nat.lt_of_lt_of_le P_l hst4.size
    replace hl := hl.later hst4
    replace ha := ha.later hst4
    clear hst4
    clear hc4 hb3
    go_wp2_with fail
    refine (run_f l a r L a D 0 l.length a.length r.length l.length a.length D.length la aa r1 lc ac e1 _ rfl rfl rfl H_len.out.symm rfl rfl Hp.out.run hml (by repeat' (first | with_reducible exact hl | with_reducible refine CellsAt.setFar ?_ ?_ _ | with_reducible refine CellsAt.alloc ?_ _ | with_reducible refine CellsAt.drew ?_ | with_reducible refine CellsAt.drewN ?_ _ | assumption | (simp; omega) | omega)) (by repeat' (first | with_reducible exact ha | with_reducible refine CellsAt.setFar ?_ ?_ _ | with_reducible refine CellsAt.alloc ?_ _ | with_reducible refine CellsAt.drew ?_ | with_reducible refine CellsAt.drewN ?_ _ | assumption | (simp; omega) | omega)) (by repeat' (first | with_reducible exact kr | with_reducible refine CellsAt.setFar ?_ ?_ _ | with_reducible refine CellsAt.alloc ?_ _ | with_reducible refine CellsAt.drew ?_ | with_reducible refine CellsAt.drewN ?_ _ | assumption | (simp; omega) | omega))).mono ?_
    rintro e w5 ⟨⟨l4, c4, a4, d4, s4, u4, rfl, k4, m4, n4, _, _, _⟩, hc5⟩
    have hb5 : Below w.heap.size w w5 := bchain (by repeat' (first | exact hb4 | refine Below.drew ?_ | refine below_drewN ?_ _ | refine Below.alloc ?_ (by have := hb4.size; first | (simp; done) | (simp; omega) | omega) _ | refine Below.setCell ?_ (by first | (simp; done) | (simp; omega) | omega) _)) hc5
    have hst5 : Below w4.heap.size w4 w5 := bchain (by repeat' (first | exact Below.refl _ _ | refine Below.drew ?_ | refine below_drewN ?_ _ | refine Below.alloc ?_ (by first | (simp; done) | (simp; omega) | omega) _ | refine Below.setCell ?_ (by first | (simp; done) | (simp; omega) | omega) _)) hc5
    replace P_0 := cell_later hst5 P_0
    replace P_1 := cell_later hst5 P_1
    replace P_l := Nat.lt_of_lt_of_le P_l hst5.size
    replace hl := hl.later hst5
    replace ha := ha.later hst5
    replace kr := kr.later hst5
    clear hst5
    clear hc5 hb4
    go_wp2_with fail
    refine (fair_r l a r (2 * (l.length : Int)) 0 true l.length a.length r.length la aa r1 lc ac e1 _ rfl rfl rfl (by repeat' (first | with_reducible exact hl | with_reducible refine CellsAt.setFar ?_ ?_ _ | with_reducible refine CellsAt.alloc ?_ _ | with_reducible refine CellsAt.drew ?_ | with_reducible refine CellsAt.drewN ?_ _ | assumption | (simp; omega) | omega)) (by repeat' (first | with_reducible exact ha | with_reducible refine CellsAt.setFar ?_ ?_ _ | with_reducible refine CellsAt.alloc ?_ _ | with_reducible refine CellsAt.drew ?_ | with_reducible refine CellsAt.drewN ?_ _ | assumption | (simp; omega) | omega)) (by repeat' (first | with_reducible exact kr | with_reducible refine CellsAt.setFar ?_ ?_ _ | with_reducible refine CellsAt.alloc ?_ _ | with_reducible refine CellsAt.drew ?_ | with_reducible refine CellsAt.drewN ?_ _ | assumption | (simp; omega) | omega)) hml Hp.out.fair).mono ?_
    rintro e w6 ⟨rfl, hc6⟩
    have hb6 : Below w.heap.size w w6 := bchain (by repeat' (first | exact hb5 | refine Below.drew ?_ | refine below_drewN ?_ _ | refine Below.alloc ?_ (by have := hb5.size; first | (simp; done) | (simp; omega) | omega) _ | refine Below.setCell ?_ (by first | (simp; done) | (simp; omega) | omega) _)) hc6
    have hst6 : Below w5.heap.size w5 w6 := bchain (by repeat' (first | exact Below.refl _ _ | refine Below.drew ?_ | refine below_drewN ?_ _ | refine Below.alloc ?_ (by first | (simp; done) | (simp; omega) | omega) _ | refine Below.setCell ?_ (by first | (simp; done) | (simp; omega) | omega) _)) hc6
    replace P_0 := cell_later hst6 P_0
    replace P_1 := cell_later hst6 P_1
    replace P_l := Nat.lt_of_lt_of_le P_l hst6.size
    have A_0 : w6.cell? ⟨w5.heap.size, 0, none⟩ = some (.slice l4 l.length c4) := (hc6.cell (p := ⟨w5.heap.size, 0, none⟩) (by first | (simp; done) | (simp; omega))).trans (by first | (simp; done) | go_simp)
    have A_1 : w6.cell? ⟨w5.heap.size, 1, none⟩ = some (.slice a4 a.length d4) := (hc6.cell (p := ⟨w5.heap.size, 1, none⟩) (by first | (simp; done) | (simp; omega))).trans (by first | (simp; done) | go_simp)
    have A_l : w5.heap.size < w6.heap.size := Nat.lt_of_lt_of_le (by first | (simp; done) | (simp; omega)) hc6.size
    replace hl := hl.later hst6
    replace ha := ha.later hst6
    replace kr := kr.later hst6
    replace k4 := k4.later hst6
    clear hst6
    clear hc6 hb5
    go_wp2_with fail
    refine (sum_b l.length l S la lc _ rfl H_hS.out (by repeat' (first | with_reducible exact hl | with_reducible refine CellsAt.setFar ?_ ?_ _ | with_reducible refine CellsAt.alloc ?_ _ | with_reducible refine CellsAt.drew ?_ | with_reducible refine CellsAt.drewN ?_ _ | assumption | (simp; omega) | omega)) q2 hbdl).mono ?_
    rintro e w7 ⟨rfl, hc7⟩
    have hb7 : Below w.heap.size w w7 := bchain (by repeat' (first | exact hb6 | refine Below.drew ?_ | refine below_drewN ?_ _ | refine Below.alloc ?_ (by have := hb6.size; first | (simp; done) | (simp; omega) | omega) _ | refine Below.setCell ?_ (by first | (simp; done) | (simp; omega) | omega) _)) hc7
    have hst7 : Below w6.heap.size w6 w7 := bchain (by repeat' (first | exact Below.refl _ _ | refine Below.drew ?_ | refine below_drewN ?_ _ | refine Below.alloc ?_ (by first | (simp; done) | (simp; omega) | omega) _ | refine Below.setCell ?_ (by first | (simp; done) | (simp; omega) | omega) _)) hc7
    replace P_0 := cell_later hst7 P_0
    replace P_1 := cell_later hst7 P_1
    replace P_l := Nat.lt_of_lt_of_le P_l hst7.size
    replace A_0 := cell_later hst7 A_0
    replace A_1 := cell_later hst7 A_1
    replace A_l := Nat.lt_of_lt_of_le A_l hst7.size
    replace hl := hl.later hst7
    replace ha := ha.later hst7
    replace kr := kr.later hst7
    replace k4 := k4.later hst7
    clear hst7
    clear hc7 hb6
    by_cases hSN : S < (N : Int)
    · have hr1 : (r.length : Int) = S := by have := H_hmin.out; omega
      have hr2 : (D.length : Int) = S := by have := H_did.out; omega
      go_wp2_with fail
      clear hr1 hr2
      go_quiet (first
        | (go_at_call 31; with_reducible refine Calls.quiet_of_same (sum_same l.length L (S - (r.length : Int)) l4 c4 _ H_len.out.symm H_hsL.out (k4.drewN _) hL12 H_bdL.out))
        | (go_at_call 31; with_reducible refine Calls.quiet_of_same (sum_same l.length l S la lc _ rfl H_hS.out (hl.drewN _) q2 H_bdl.out)))
      go_wp2_with fail
      go_ret
      refine ⟨?_, (by repeat' (first | exact hb7 | refine Below.drew ?_ | refine below_drewN ?_ _ | refine Below.alloc ?_ (by have := hb7.size; first | (simp; done) | (simp; omega) | omega) _ | refine Below.setCell ?_ (by first | (simp; done) | (simp; omega) | omega) _))⟩
      first
      | rfl
      | (apply ret_bool; simp [*]; done)
    · have hr1 : (r.length : Int) = (N : Int) := by have := H_hmin.out; omega
      have hr2 : (D.length : Int) = (N : Int) := by have := H_did.out; omega
      go_wp2_with fail
      clear hr1 hr2
      go_quiet (first
        | (go_at_call 31; with_reducible refine Calls.quiet_of_same (sum_same l.length L (S - (r.length : Int)) l4 c4 _ H_len.out.symm H_hsL.out (k4.drewN _) hL12 H_bdL.out))
        | (go_at_call 31; with_reducible refine Calls.quiet_of_same (sum_same l.length l S la lc _ rfl H_hS.out (hl.drewN _) q2 H_bdl.out)))
      go_wp2_with fail
      go_ret
      refine ⟨?_, (by repeat' (first | exact hb7 | refine Below.drew ?_ | refine below_drewN ?_ _ | refine Below.alloc ?_ (by have := hb7.size; first | (simp; done) | (simp; omega) | omega) _ | refine Below.setCell ?_ (by first | (simp; done) | (simp; omega) | omega) _))⟩
      first
      | rfl
      | (apply ret_bool; simp [*]; done)
  · have hfit : decide (tErr l a = 0) = false := by simp [h1]
    have H_hfit := hid hfit
    have H_h1 := hid h1
    clear hfit h1
    go_enter Try.func6, Try.ntmps6
    have hb0 := Below.refl w.heap.size w
    go_wp2_with fail
    refine (alive_any _).mono ?_
    rintro e w1 ⟨rfl, hc1⟩
    have hb1 : Below w.heap.size w w1 := bchain (by repeat' (first | exact hb0 | refine Below.drew ?_ | refine below_drewN ?_ _ | refine Below.alloc ?_ (by have := hb0.size; first | (simp; done) | (simp; omega) | omega) _ | refine Below.setCell ?_ (by first | (simp; done) | (simp; omega) | omega) _)) hc1
    have hst1 : Below w.heap.size w w1 := bchain (by repeat' (first | exact Below.refl _ _ | refine Below.drew ?_ | refine below_drewN ?_ _ | refine Below.alloc ?_ (by first | (simp; done) | (simp; omega) | omega) _ | refine Below.setCell ?_ (by first | (simp; done) | (simp; omega) | omega) _)) hc1
    have P_0 : w1.cell? ⟨w.heap.size, 0, none⟩ = some (.slice la l.length lc) := (hc1.cell (p := ⟨w.heap.size, 0, none⟩) (by first | (simp; done) | (simp; omega))).trans (by first | (simp; done) | go_simp)
    have P_1 : w1.cell? ⟨w.heap.size, 1, none⟩ = some (.slice aa a.length ac) := (hc1.cell (p := ⟨w.heap.size, 1, none⟩) (by first | (simp; done) | (simp; omega))).trans (by first | (simp; done) | go_simp)
    have P_l : w.heap.size < w1.heap.size := Nat.lt_of_lt_of_le (by first | (simp; done) | (simp; omega)) hc1.size
    replace hl := hl.later hst1
    replace ha := ha.later hst1
    clear hst1
    clear hc1 hb0
    go_wp2_with fail
    refine (fit_any l a la aa lc ac _ (by repeat' (first | with_reducible exact hl | with_reducible refine CellsAt.setFar ?_ ?_ _ | with_reducible refine CellsAt.alloc ?_ _ | with_reducible refine CellsAt.drew ?_ | with_reducible refine CellsAt.drewN ?_ _ | assumption | (simp; omega) | omega)) (by repeat' (first | with_reducible exact ha | with_reducible refine CellsAt.setFar ?_ ?_ _ | with_reducible refine CellsAt.alloc ?_ _ | with_reducible refine CellsAt.drew ?_ | with_reducible refine CellsAt.drewN ?_ _ | assumption | (simp; omega) | omega)) hml).mono ?_
    rintro e w2 ⟨rfl, hc2⟩
    have hb2 : Below w.heap.size w w2 := bchain (by repeat' (first | exact hb1 | refine Below.drew ?_ | refine below_drewN ?_ _ | refine Below.alloc ?_ (by have := hb1.size; first | (simp; done) | (simp; omega) | omega) _ | refine Below.setCell ?_ (by first | (simp; done) | (simp; omega) | omega) _)) hc2
    have hst2 : Below w1.heap.size w1 w2 := bchain (by repeat' (first | exact Below.refl _ _ | refine Below.drew ?_ | refine below_drewN ?_ _ | refine Below.alloc ?_ (by first | (simp; done) | (simp; omega) | omega) _ | refine Below.setCell ?_ (by first | (simp; done) | (simp; omega) | omega) _)) hc2
    replace P_0 := cell_later hst2 P_0
    replace P_1 := cell_later hst2 P_1
    replace P_l := Nat.lt_of_lt_of_le P_l hst2.size
    replace hl := hl.later hst2
    replace ha := ha.later hst2
    clear hst2
    clear hc2 hb1
    rw [H_hfit.out]
    go_wp2_with fail
    go_wp2_with fail
    go_ret
    exact ⟨rfl, by repeat' (first | exact hb2 | refine Below.drew ?_ | refine below_drewN ?_ _ | refine Below.alloc ?_ (by have := hb2.size; first | (simp; done) | (simp; omega) | omega) _ | refine Below.setCell ?_ (by first | (simp; done) | (simp; omega) | omega) _)⟩

end Go.Proofs.Ytoelndaeemlefaa
