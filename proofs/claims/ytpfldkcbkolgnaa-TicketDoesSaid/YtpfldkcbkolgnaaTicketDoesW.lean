/- The law TicketDoes: what the program's functions and the reference's return is the same. -/
import Derived.Test.YtpfldkcbkolgnaaTicketOpen
namespace Go.Proofs.Ytpfldkcbkolgnaa
set_option linter.unusedSimpArgs false
set_option linter.unusedVariables false
set_option linter.unnecessarySimpa false
open Go.RowKit

theorem dNew_len (n : Int) : (dNew n).1.hs.length ≤ 0 := by unfold dNew; split <;> simp [Dk.zero]
theorem dTake_len (d : Dk) : (dTake d).1.hs.length ≤ d.hs.length := by unfold dTake; (repeat' split) <;> simp [Dk.zero]
theorem dPut_len (d : Dk) (t x : Int) : (dPut d t x).1.hs.length ≤ d.hs.length + 1 := by unfold dPut; (repeat' split) <;> simp [Dk.zero, insD_len]
theorem dPop_len (d : Dk) : (dPop d).1.hs.length ≤ d.hs.length := by unfold dPop; (repeat' split) <;> simp [Dk.zero]
theorem dDrain_len (d : Dk) : (dDrain d).1.hs.length ≤ d.hs.length ∧ (dDrain d).2.1.length ≤ d.hs.length := by
  unfold dDrain
  split
  · simp; omega
  · simp [Dk.zero]

set_option maxRecDepth 100000 in
set_option maxHeartbeats 10000000 in
theorem does_walk (n g o r t x : Int) (hs : Slips) (a : Option Addr) (c : Nat) (w : World) (hc : CellsAt w a (cel hs)) (hml : hs.length ≤ maxLen) :
    Calls Try.prog 5 #[.int .i64 n, .agg #[.int .i64 g, .int .i64 o, .int .i64 r, .slice a hs.length c], .int .i64 t, .int .u64 x] w fun e w' =>
      e = .returned (.bool true) ∧ Below w.heap.size w w' := by
  have Hml := hid hml
  by_cases h1 : 100 < hs.length
  · have h1' : (100 : Int) < (hs.length : Int) := by omega
    clear hml
    go_enter Try.func5, Try.ntmps5
    have hb0 := Below.refl w.heap.size w
    go_wp2_with fail
    go_wp2_with fail
    go_ret
    exact ⟨rfl, by repeat' (first | with_reducible exact hb0 | with_reducible refine Below.drew ?_ | with_reducible refine below_drewN ?_ _ | with_reducible refine Below.alloc ?_ (by have := hb0.size; first | (simp; done) | (simp; omega) | omega) _ | with_reducible refine Below.setCell ?_ (by first | (simp; done) | (simp; omega) | omega) _)⟩
  have h1' : ¬ (100 : Int) < (hs.length : Int) := by omega
  have hb : hs.length ≤ 8796093022206 := by omega
  have x1 := dNew_len n
  have x2 := dTake_len ⟨g, o, r, hs⟩
  have x3 := dPut_len ⟨g, o, r, hs⟩ t x
  have x4 := dPop_len ⟨g, o, r, hs⟩
  have x5 := (dDrain_len ⟨g, o, r, hs⟩).1
  have x6 := (dDrain_len ⟨g, o, r, hs⟩).2
  simp only at x2 x3 x4 x5 x6
  obtain ⟨⟨⟨g1, o1, r1, hs1⟩, e1⟩, hR1⟩ : ∃ R, R = dNew n := ⟨_, rfl⟩
  obtain ⟨⟨⟨g2, o2, r2, hs2⟩, f2, e2⟩, hR2⟩ : ∃ R, R = dTake ⟨g, o, r, hs⟩ := ⟨_, rfl⟩
  obtain ⟨⟨⟨g3, o3, r3, hs3⟩, e3⟩, hR3⟩ : ∃ R, R = dPut ⟨g, o, r, hs⟩ t x := ⟨_, rfl⟩
  obtain ⟨⟨⟨g4, o4, r4, hs4⟩, ⟨p4, q4⟩, e4⟩, hR4⟩ : ∃ R, R = dPop ⟨g, o, r, hs⟩ := ⟨_, rfl⟩
  obtain ⟨⟨⟨g5, o5, r5, hs5⟩, l5, e5⟩, hR5⟩ : ∃ R, R = dDrain ⟨g, o, r, hs⟩ := ⟨_, rfl⟩
  rw [← hR1] at x1
  rw [← hR2] at x2
  rw [← hR3] at x3
  rw [← hR4] at x4
  rw [← hR5] at x5 x6
  simp only at x1 x2 x3 x4 x5 x6
  have y1 : hs1.length ≤ maxLen := by unfold maxLen; omega
  have y2 : hs2.length ≤ maxLen := by unfold maxLen; omega
  have y3 : hs3.length ≤ maxLen := by unfold maxLen; omega
  have y4 : hs4.length ≤ maxLen := by unfold maxLen; omega
  have y5 : hs5.length ≤ maxLen := by unfold maxLen; omega
  have y6 : l5.length ≤ maxLen := by unfold maxLen; omega
  have C1p := hid (show ∀ (w : World), Calls Try.prog 15 #[.int .i64 n] w fun e w' => (∃ a c, e = .returned (.tuple #[.agg #[.int .i64 g1, .int .i64 o1, .int .i64 r1, .slice a hs1.length c], .int .i64 e1]) ∧ CellsAt w' a (cel hs1) ∧ Fresh w.heap.size a) ∧ Below w.heap.size w w' from fun w => by
    have hh := dnew_any n w
    rw [← hR1] at hh
    exact hh)
  have C1r := hid (show ∀ (w : World), Calls Try.prog 16 #[.int .i64 n] w fun e w' => (∃ a c, e = .returned (.tuple #[.agg #[.int .i64 g1, .int .i64 o1, .int .i64 r1, .slice a hs1.length c], .int .i64 e1]) ∧ CellsAt w' a (cel hs1) ∧ Fresh w.heap.size a) ∧ Below w.heap.size w w' from fun w => by
    have hh := rdnew_any n w
    rw [← hR1] at hh
    exact hh)
  have C2p := hid (show ∀ (a : Option Addr) (c : Nat) (w : World) (h : CellsAt w a (cel hs)), Calls Try.prog 17 #[.agg #[.int .i64 g, .int .i64 o, .int .i64 r, .slice a hs.length c]] w fun e w' => (∃ a c, e = .returned (.tuple #[.agg #[.int .i64 g2, .int .i64 o2, .int .i64 r2, .slice a hs2.length c], .int .i64 f2, .int .i64 e2]) ∧ CellsAt w' a (cel hs2) ∧ Fresh w.heap.size a) ∧ Below w.heap.size w w' from fun a c w h => by
    have hh := dtake_any g o r hs a c w h hb
    rw [← hR2] at hh
    exact hh)
  have C2r := hid (show ∀ (a : Option Addr) (c : Nat) (w : World) (h : CellsAt w a (cel hs)), Calls Try.prog 18 #[.agg #[.int .i64 g, .int .i64 o, .int .i64 r, .slice a hs.length c]] w fun e w' => (∃ a c, e = .returned (.tuple #[.agg #[.int .i64 g2, .int .i64 o2, .int .i64 r2, .slice a hs2.length c], .int .i64 f2, .int .i64 e2]) ∧ CellsAt w' a (cel hs2) ∧ Fresh w.heap.size a) ∧ Below w.heap.size w w' from fun a c w h => by
    have hh := rdtake_any g o r hs a c w h hb
    rw [← hR2] at hh
    exact hh)
  have C3p := hid (show ∀ (a : Option Addr) (c : Nat) (w : World) (h : CellsAt w a (cel hs)), Calls Try.prog 10 #[.agg #[.int .i64 g, .int .i64 o, .int .i64 r, .slice a hs.length c], .int .i64 t, .int .u64 x] w fun e w' => (∃ a c, e = .returned (.tuple #[.agg #[.int .i64 g3, .int .i64 o3, .int .i64 r3, .slice a hs3.length c], .int .i64 e3]) ∧ CellsAt w' a (cel hs3) ∧ Fresh w.heap.size a) ∧ Below w.heap.size w w' from fun a c w h => by
    have hh := dput_any g o r t x hs a c w h hb
    rw [← hR3] at hh
    exact hh)
  have C3r := hid (show ∀ (a : Option Addr) (c : Nat) (w : World) (h : CellsAt w a (cel hs)), Calls Try.prog 19 #[.agg #[.int .i64 g, .int .i64 o, .int .i64 r, .slice a hs.length c], .int .i64 t, .int .u64 x] w fun e w' => (∃ a c, e = .returned (.tuple #[.agg #[.int .i64 g3, .int .i64 o3, .int .i64 r3, .slice a hs3.length c], .int .i64 e3]) ∧ CellsAt w' a (cel hs3) ∧ Fresh w.heap.size a) ∧ Below w.heap.size w w' from fun a c w h => by
    have hh := rdput_any g o r t x hs a c w h hb
    rw [← hR3] at hh
    exact hh)
  have C4p := hid (show ∀ (a : Option Addr) (c : Nat) (w : World) (h : CellsAt w a (cel hs)), Calls Try.prog 21 #[.agg #[.int .i64 g, .int .i64 o, .int .i64 r, .slice a hs.length c]] w fun e w' => (∃ a c, e = .returned (.tuple #[.agg #[.int .i64 g4, .int .i64 o4, .int .i64 r4, .slice a hs4.length c], .agg #[.int .i64 p4, .int .u64 q4], .int .i64 e4]) ∧ CellsAt w' a (cel hs4) ∧ Fresh w.heap.size a) ∧ Below w.heap.size w w' from fun a c w h => by
    have hh := dpop_any g o r hs a c w h hb
    rw [← hR4] at hh
    exact hh)
  have C4r := hid (show ∀ (a : Option Addr) (c : Nat) (w : World) (h : CellsAt w a (cel hs)), Calls Try.prog 22 #[.agg #[.int .i64 g, .int .i64 o, .int .i64 r, .slice a hs.length c]] w fun e w' => (∃ a c, e = .returned (.tuple #[.agg #[.int .i64 g4, .int .i64 o4, .int .i64 r4, .slice a hs4.length c], .agg #[.int .i64 p4, .int .u64 q4], .int .i64 e4]) ∧ CellsAt w' a (cel hs4) ∧ Fresh w.heap.size a) ∧ Below w.heap.size w w' from fun a c w h => by
    have hh := rdpop_any g o r hs a c w h hb
    rw [← hR4] at hh
    exact hh)
  have C5p := hid (show ∀ (a : Option Addr) (c : Nat) (w : World) (h : CellsAt w a (cel hs)), Calls Try.prog 13 #[.agg #[.int .i64 g, .int .i64 o, .int .i64 r, .slice a hs.length c]] w fun e w' => (∃ a c b d, e = .returned (.tuple #[.agg #[.int .i64 g5, .int .i64 o5, .int .i64 r5, .slice a hs5.length c], .slice b l5.length d, .int .i64 e5]) ∧ CellsAt w' a (cel hs5) ∧ CellsAt w' b (cel l5) ∧ Fresh w.heap.size a ∧ Fresh w.heap.size b) ∧ Below w.heap.size w w' from fun a c w h => by
    have hh := ddrain_any g o r hs a c w h hb
    rw [← hR5] at hh
    exact hh)
  have C5r := hid (show ∀ (a : Option Addr) (c : Nat) (w : World) (h : CellsAt w a (cel hs)), Calls Try.prog 23 #[.agg #[.int .i64 g, .int .i64 o, .int .i64 r, .slice a hs.length c]] w fun e w' => (∃ a c b d, e = .returned (.tuple #[.agg #[.int .i64 g5, .int .i64 o5, .int .i64 r5, .slice a hs5.length c], .slice b l5.length d, .int .i64 e5]) ∧ CellsAt w' a (cel hs5) ∧ CellsAt w' b (cel l5) ∧ Fresh w.heap.size a ∧ Fresh w.heap.size b) ∧ Below w.heap.size w w' from fun a c w h => by
    have hh := rddrain_any g o r hs a c w h hb
    rw [← hR5] at hh
    exact hh)
  have H_y1 := hid y1
  have H_y2 := hid y2
  have H_y3 := hid y3
  have H_y4 := hid y4
  have H_y5 := hid y5
  have H_y6 := hid y6
  have H_hb := hid hb
  clear y1 y2 y3 y4 y5 y6 hb
  clear x1 x2 x3 x4 x5 x6 h1 hml hR1 hR2 hR3 hR4 hR5
  go_enter Try.func5, Try.ntmps5
  have hb0 := Below.refl w.heap.size w
  go_wp2_with fail
  with_reducible refine (rdtwin_any g o r hs a c _ (by repeat' (first | with_reducible exact hc | with_reducible refine CellsAt.setFar ?_ ?_ _ | with_reducible refine CellsAt.alloc ?_ _ | with_reducible refine CellsAt.drew ?_ | with_reducible refine CellsAt.drewN ?_ _ | assumption | (simp; omega) | omega)) (by have := H_hb.out; omega)).mono ?_
  rintro e w1 ⟨a0, c0, rfl, o0, hc1⟩
  have hb1 : Below w.heap.size w w1 := bchain (by repeat' (first | with_reducible exact hb0 | with_reducible refine Below.drew ?_ | with_reducible refine below_drewN ?_ _ | with_reducible refine Below.alloc ?_ (by have := hb0.size; first | (simp; done) | (simp; omega) | omega) _ | with_reducible refine Below.setCell ?_ (by first | (simp; done) | (simp; omega) | omega) _)) hc1
  have hst1 : Below w.heap.size w w1 := bchain (by repeat' (first | with_reducible exact Below.refl _ _ | with_reducible refine Below.drew ?_ | with_reducible refine below_drewN ?_ _ | with_reducible refine Below.alloc ?_ (by first | (simp; done) | (simp; omega) | omega) _ | with_reducible refine Below.setCell ?_ (by first | (simp; done) | (simp; omega) | omega) _)) hc1
  have P_0 : w1.cell? ⟨w.heap.size, 0, none⟩ = some (.int .i64 g) := (hc1.cell (p := ⟨w.heap.size, 0, none⟩) (by first | (simp; done) | (simp; omega))).trans (by first | (simp; done) | go_simp)
  have P_1 : w1.cell? ⟨w.heap.size, 1, none⟩ = some (.int .i64 o) := (hc1.cell (p := ⟨w.heap.size, 1, none⟩) (by first | (simp; done) | (simp; omega))).trans (by first | (simp; done) | go_simp)
  have P_2 : w1.cell? ⟨w.heap.size, 2, none⟩ = some (.int .i64 r) := (hc1.cell (p := ⟨w.heap.size, 2, none⟩) (by first | (simp; done) | (simp; omega))).trans (by first | (simp; done) | go_simp)
  have P_3 : w1.cell? ⟨w.heap.size, 3, none⟩ = some (.slice a hs.length c) := (hc1.cell (p := ⟨w.heap.size, 3, none⟩) (by first | (simp; done) | (simp; omega))).trans (by first | (simp; done) | go_simp)
  have P_l : w.heap.size < w1.heap.size := Nat.lt_of_lt_of_le (by first | (simp; done) | (simp; omega)) hc1.size
  replace hc := hc.later hst1
  clear hst1
  clear hc1 hb0
  trace "w1"
  have k0 := o0.cellsAt
  clear o0
  go_wp2_with fail
  with_reducible refine (C1p.out _).mono ?_
  rintro e w2 ⟨⟨a2, c2, rfl, k2, _⟩, hc2⟩
  have hb2 : Below w.heap.size w w2 := bchain (by repeat' (first | with_reducible exact hb1 | with_reducible refine Below.drew ?_ | with_reducible refine below_drewN ?_ _ | with_reducible refine Below.alloc ?_ (by have := hb1.size; first | (simp; done) | (simp; omega) | omega) _ | with_reducible refine Below.setCell ?_ (by first | (simp; done) | (simp; omega) | omega) _)) hc2
  have hst2 : Below w1.heap.size w1 w2 := bchain (by repeat' (first | with_reducible exact Below.refl _ _ | with_reducible refine Below.drew ?_ | with_reducible refine below_drewN ?_ _ | with_reducible refine Below.alloc ?_ (by first | (simp; done) | (simp; omega) | omega) _ | with_reducible refine Below.setCell ?_ (by first | (simp; done) | (simp; omega) | omega) _)) hc2
  replace P_0 := cell_later hst2 P_0
  replace P_1 := cell_later hst2 P_1
  replace P_2 := cell_later hst2 P_2
  replace P_3 := cell_later hst2 P_3
  replace P_l := Nat.lt_of_lt_of_le P_l hst2.size
  have Q_0 : w2.cell? ⟨w1.heap.size, 0, none⟩ = some (.int .i64 g) := (hc2.cell (p := ⟨w1.heap.size, 0, none⟩) (by first | (simp; done) | (simp; omega))).trans (by first | (simp; done) | go_simp)
  have Q_1 : w2.cell? ⟨w1.heap.size, 1, none⟩ = some (.int .i64 o) := (hc2.cell (p := ⟨w1.heap.size, 1, none⟩) (by first | (simp; done) | (simp; omega))).trans (by first | (simp; done) | go_simp)
  have Q_2 : w2.cell? ⟨w1.heap.size, 2, none⟩ = some (.int .i64 r) := (hc2.cell (p := ⟨w1.heap.size, 2, none⟩) (by first | (simp; done) | (simp; omega))).trans (by first | (simp; done) | go_simp)
  have Q_3 : w2.cell? ⟨w1.heap.size, 3, none⟩ = some (.slice a0 hs.length c0) := (hc2.cell (p := ⟨w1.heap.size, 3, none⟩) (by first | (simp; done) | (simp; omega))).trans (by first | (simp; done) | go_simp)
  have Q_l : w1.heap.size < w2.heap.size := Nat.lt_of_lt_of_le (by first | (simp; done) | (simp; omega)) hc2.size
  replace hc := hc.later hst2
  replace k0 := k0.later hst2
  clear hst2
  clear hc2 hb1
  trace "w2"
  go_wp2_with fail
  with_reducible refine (C1r.out _).mono ?_
  rintro e w3 ⟨⟨a3, c3, rfl, k3, _⟩, hc3⟩
  have hb3 : Below w.heap.size w w3 := bchain (by repeat' (first | with_reducible exact hb2 | with_reducible refine Below.drew ?_ | with_reducible refine below_drewN ?_ _ | with_reducible refine Below.alloc ?_ (by have := hb2.size; first | (simp; done) | (simp; omega) | omega) _ | with_reducible refine Below.setCell ?_ (by first | (simp; done) | (simp; omega) | omega) _)) hc3
  have hst3 : Below w2.heap.size w2 w3 := bchain (by repeat' (first | with_reducible exact Below.refl _ _ | with_reducible refine Below.drew ?_ | with_reducible refine below_drewN ?_ _ | with_reducible refine Below.alloc ?_ (by first | (simp; done) | (simp; omega) | omega) _ | with_reducible refine Below.setCell ?_ (by first | (simp; done) | (simp; omega) | omega) _)) hc3
  replace P_0 := cell_later hst3 P_0
  replace P_1 := cell_later hst3 P_1
  replace P_2 := cell_later hst3 P_2
  replace P_3 := cell_later hst3 P_3
  replace P_l := Nat.lt_of_lt_of_le P_l hst3.size
  replace Q_0 := cell_later hst3 Q_0
  replace Q_1 := cell_later hst3 Q_1
  replace Q_2 := cell_later hst3 Q_2
  replace Q_3 := cell_later hst3 Q_3
  replace Q_l := Nat.lt_of_lt_of_le Q_l hst3.size
  have A_0 : w3.cell? ⟨w2.heap.size, 0, none⟩ = some (.int .i64 g1) := (hc3.cell (p := ⟨w2.heap.size, 0, none⟩) (by first | (simp; done) | (simp; omega))).trans (by first | (simp; done) | go_simp)
  have A_1 : w3.cell? ⟨w2.heap.size, 1, none⟩ = some (.int .i64 o1) := (hc3.cell (p := ⟨w2.heap.size, 1, none⟩) (by first | (simp; done) | (simp; omega))).trans (by first | (simp; done) | go_simp)
  have A_2 : w3.cell? ⟨w2.heap.size, 2, none⟩ = some (.int .i64 r1) := (hc3.cell (p := ⟨w2.heap.size, 2, none⟩) (by first | (simp; done) | (simp; omega))).trans (by first | (simp; done) | go_simp)
  have A_3 : w3.cell? ⟨w2.heap.size, 3, none⟩ = some (.slice a2 hs1.length c2) := (hc3.cell (p := ⟨w2.heap.size, 3, none⟩) (by first | (simp; done) | (simp; omega))).trans (by first | (simp; done) | go_simp)
  have A_l : w2.heap.size < w3.heap.size := Nat.lt_of_lt_of_le (by first | (simp; done) | (simp; omega)) hc3.size
  replace hc := hc.later hst3
  replace k0 := k0.later hst3
  replace k2 := k2.later hst3
  clear hst3
  clear hc3 hb2
  trace "w3"
  go_wp2_with fail
  with_reducible refine (C2p.out a0 c0 _ (by repeat' (first | with_reducible exact k0 | with_reducible refine CellsAt.setFar ?_ ?_ _ | with_reducible refine CellsAt.alloc ?_ _ | with_reducible refine CellsAt.drew ?_ | with_reducible refine CellsAt.drewN ?_ _ | assumption | (simp; omega) | omega))).mono ?_
  rintro e w4 ⟨⟨a4, c4, rfl, k4, _⟩, hc4⟩
  have hb4 : Below w.heap.size w w4 := bchain (by repeat' (first | with_reducible exact hb3 | with_reducible refine Below.drew ?_ | with_reducible refine below_drewN ?_ _ | with_reducible refine Below.alloc ?_ (by have := hb3.size; first | (simp; done) | (simp; omega) | omega) _ | with_reducible refine Below.setCell ?_ (by first | (simp; done) | (simp; omega) | omega) _)) hc4
  have hst4 : Below w3.heap.size w3 w4 := bchain (by repeat' (first | with_reducible exact Below.refl _ _ | with_reducible refine Below.drew ?_ | with_reducible refine below_drewN ?_ _ | with_reducible refine Below.alloc ?_ (by first | (simp; done) | (simp; omega) | omega) _ | with_reducible refine Below.setCell ?_ (by first | (simp; done) | (simp; omega) | omega) _)) hc4
  replace P_0 := cell_later hst4 P_0
  replace P_1 := cell_later hst4 P_1
  replace P_2 := cell_later hst4 P_2
  replace P_3 := cell_later hst4 P_3
  replace P_l := Nat.lt_of_lt_of_le P_l hst4.size
  replace Q_0 := cell_later hst4 Q_0
  replace Q_1 := cell_later hst4 Q_1
  replace Q_2 := cell_later hst4 Q_2
  replace Q_3 := cell_later hst4 Q_3
  replace Q_l := Nat.lt_of_lt_of_le Q_l hst4.size
  replace A_0 := cell_later hst4 A_0
  replace A_1 := cell_later hst4 A_1
  replace A_2 := cell_later hst4 A_2
  replace A_3 := cell_later hst4 A_3
  replace A_l := Nat.lt_of_lt_of_le A_l hst4.size
  have B_0 : w4.cell? ⟨w3.heap.size, 0, none⟩ = some (.int .i64 g1) := (hc4.cell (p := ⟨w3.heap.size, 0, none⟩) (by first | (simp; done) | (simp; omega))).trans (by first | (simp; done) | go_simp)
  have B_1 : w4.cell? ⟨w3.heap.size, 1, none⟩ = some (.int .i64 o1) := (hc4.cell (p := ⟨w3.heap.size, 1, none⟩) (by first | (simp; done) | (simp; omega))).trans (by first | (simp; done) | go_simp)
  have B_2 : w4.cell? ⟨w3.heap.size, 2, none⟩ = some (.int .i64 r1) := (hc4.cell (p := ⟨w3.heap.size, 2, none⟩) (by first | (simp; done) | (simp; omega))).trans (by first | (simp; done) | go_simp)
  have B_3 : w4.cell? ⟨w3.heap.size, 3, none⟩ = some (.slice a3 hs1.length c3) := (hc4.cell (p := ⟨w3.heap.size, 3, none⟩) (by first | (simp; done) | (simp; omega))).trans (by first | (simp; done) | go_simp)
  have B_l : w3.heap.size < w4.heap.size := Nat.lt_of_lt_of_le (by first | (simp; done) | (simp; omega)) hc4.size
  replace hc := hc.later hst4
  replace k0 := k0.later hst4
  replace k2 := k2.later hst4
  replace k3 := k3.later hst4
  clear hst4
  clear hc4 hb3
  trace "w4"
  go_wp2_with fail
  with_reducible refine (C2r.out a c _ (by repeat' (first | with_reducible exact hc | with_reducible refine CellsAt.setFar ?_ ?_ _ | with_reducible refine CellsAt.alloc ?_ _ | with_reducible refine CellsAt.drew ?_ | with_reducible refine CellsAt.drewN ?_ _ | assumption | (simp; omega) | omega))).mono ?_
  rintro e w5 ⟨⟨a5, c5, rfl, k5, _⟩, hc5⟩
  have hb5 : Below w.heap.size w w5 := bchain (by repeat' (first | with_reducible exact hb4 | with_reducible refine Below.drew ?_ | with_reducible refine below_drewN ?_ _ | with_reducible refine Below.alloc ?_ (by have := hb4.size; first | (simp; done) | (simp; omega) | omega) _ | with_reducible refine Below.setCell ?_ (by first | (simp; done) | (simp; omega) | omega) _)) hc5
  have hst5 : Below w4.heap.size w4 w5 := bchain (by repeat' (first | with_reducible exact Below.refl _ _ | with_reducible refine Below.drew ?_ | with_reducible refine below_drewN ?_ _ | with_reducible refine Below.alloc ?_ (by first | (simp; done) | (simp; omega) | omega) _ | with_reducible refine Below.setCell ?_ (by first | (simp; done) | (simp; omega) | omega) _)) hc5
  replace P_0 := cell_later hst5 P_0
  replace P_1 := cell_later hst5 P_1
  replace P_2 := cell_later hst5 P_2
  replace P_3 := cell_later hst5 P_3
  replace P_l := Nat.lt_of_lt_of_le P_l hst5.size
  replace Q_0 := cell_later hst5 Q_0
  replace Q_1 := cell_later hst5 Q_1
  replace Q_2 := cell_later hst5 Q_2
  replace Q_3 := cell_later hst5 Q_3
  replace Q_l := Nat.lt_of_lt_of_le Q_l hst5.size
  replace A_0 := cell_later hst5 A_0
  replace A_1 := cell_later hst5 A_1
  replace A_2 := cell_later hst5 A_2
  replace A_3 := cell_later hst5 A_3
  replace A_l := Nat.lt_of_lt_of_le A_l hst5.size
  replace B_0 := cell_later hst5 B_0
  replace B_1 := cell_later hst5 B_1
  replace B_2 := cell_later hst5 B_2
  replace B_3 := cell_later hst5 B_3
  replace B_l := Nat.lt_of_lt_of_le B_l hst5.size
  have C_0 : w5.cell? ⟨w4.heap.size, 0, none⟩ = some (.int .i64 g2) := (hc5.cell (p := ⟨w4.heap.size, 0, none⟩) (by first | (simp; done) | (simp; omega))).trans (by first | (simp; done) | go_simp)
  have C_1 : w5.cell? ⟨w4.heap.size, 1, none⟩ = some (.int .i64 o2) := (hc5.cell (p := ⟨w4.heap.size, 1, none⟩) (by first | (simp; done) | (simp; omega))).trans (by first | (simp; done) | go_simp)
  have C_2 : w5.cell? ⟨w4.heap.size, 2, none⟩ = some (.int .i64 r2) := (hc5.cell (p := ⟨w4.heap.size, 2, none⟩) (by first | (simp; done) | (simp; omega))).trans (by first | (simp; done) | go_simp)
  have C_3 : w5.cell? ⟨w4.heap.size, 3, none⟩ = some (.slice a4 hs2.length c4) := (hc5.cell (p := ⟨w4.heap.size, 3, none⟩) (by first | (simp; done) | (simp; omega))).trans (by first | (simp; done) | go_simp)
  have C_l : w4.heap.size < w5.heap.size := Nat.lt_of_lt_of_le (by first | (simp; done) | (simp; omega)) hc5.size
  replace hc := hc.later hst5
  replace k0 := k0.later hst5
  replace k2 := k2.later hst5
  replace k3 := k3.later hst5
  replace k4 := k4.later hst5
  clear hst5
  clear hc5 hb4
  trace "w5"
  go_wp2_with fail
  with_reducible refine (C3p.out a0 c0 _ (by repeat' (first | with_reducible exact k0 | with_reducible refine CellsAt.setFar ?_ ?_ _ | with_reducible refine CellsAt.alloc ?_ _ | with_reducible refine CellsAt.drew ?_ | with_reducible refine CellsAt.drewN ?_ _ | assumption | (simp; omega) | omega))).mono ?_
  rintro e w6 ⟨⟨a6, c6, rfl, k6, _⟩, hc6⟩
  have hb6 : Below w.heap.size w w6 := bchain (by repeat' (first | with_reducible exact hb5 | with_reducible refine Below.drew ?_ | with_reducible refine below_drewN ?_ _ | with_reducible refine Below.alloc ?_ (by have := hb5.size; first | (simp; done) | (simp; omega) | omega) _ | with_reducible refine Below.setCell ?_ (by first | (simp; done) | (simp; omega) | omega) _)) hc6
  have hst6 : Below w5.heap.size w5 w6 := bchain (by repeat' (first | with_reducible exact Below.refl _ _ | with_reducible refine Below.drew ?_ | with_reducible refine below_drewN ?_ _ | with_reducible refine Below.alloc ?_ (by first | (simp; done) | (simp; omega) | omega) _ | with_reducible refine Below.setCell ?_ (by first | (simp; done) | (simp; omega) | omega) _)) hc6
  replace P_0 := cell_later hst6 P_0
  replace P_1 := cell_later hst6 P_1
  replace P_2 := cell_later hst6 P_2
  replace P_3 := cell_later hst6 P_3
  replace P_l := Nat.lt_of_lt_of_le P_l hst6.size
  replace Q_0 := cell_later hst6 Q_0
  replace Q_1 := cell_later hst6 Q_1
  replace Q_2 := cell_later hst6 Q_2
  replace Q_3 := cell_later hst6 Q_3
  replace Q_l := Nat.lt_of_lt_of_le Q_l hst6.size
  replace A_0 := cell_later hst6 A_0
  replace A_1 := cell_later hst6 A_1
  replace A_2 := cell_later hst6 A_2
  replace A_3 := cell_later hst6 A_3
  replace A_l := Nat.lt_of_lt_of_le A_l hst6.size
  replace B_0 := cell_later hst6 B_0
  replace B_1 := cell_later hst6 B_1
  replace B_2 := cell_later hst6 B_2
  replace B_3 := cell_later hst6 B_3
  replace B_l := Nat.lt_of_lt_of_le B_l hst6.size
  replace C_0 := cell_later hst6 C_0
  replace C_1 := cell_later hst6 C_1
  replace C_2 := cell_later hst6 C_2
  replace C_3 := cell_later hst6 C_3
  replace C_l := Nat.lt_of_lt_of_le C_l hst6.size
  have F_0 : w6.cell? ⟨w5.heap.size, 0, none⟩ = some (.int .i64 g2) := (hc6.cell (p := ⟨w5.heap.size, 0, none⟩) (by first | (simp; done) | (simp; omega))).trans (by first | (simp; done) | go_simp)
  have F_1 : w6.cell? ⟨w5.heap.size, 1, none⟩ = some (.int .i64 o2) := (hc6.cell (p := ⟨w5.heap.size, 1, none⟩) (by first | (simp; done) | (simp; omega))).trans (by first | (simp; done) | go_simp)
  have F_2 : w6.cell? ⟨w5.heap.size, 2, none⟩ = some (.int .i64 r2) := (hc6.cell (p := ⟨w5.heap.size, 2, none⟩) (by first | (simp; done) | (simp; omega))).trans (by first | (simp; done) | go_simp)
  have F_3 : w6.cell? ⟨w5.heap.size, 3, none⟩ = some (.slice a5 hs2.length c5) := (hc6.cell (p := ⟨w5.heap.size, 3, none⟩) (by first | (simp; done) | (simp; omega))).trans (by first | (simp; done) | go_simp)
  have F_l : w5.heap.size < w6.heap.size := Nat.lt_of_lt_of_le (by first | (simp; done) | (simp; omega)) hc6.size
  replace hc := hc.later hst6
  replace k0 := k0.later hst6
  replace k2 := k2.later hst6
  replace k3 := k3.later hst6
  replace k4 := k4.later hst6
  replace k5 := k5.later hst6
  clear hst6
  clear hc6 hb5
  trace "w6"
  go_wp2_with fail
  with_reducible refine (C3r.out a c _ (by repeat' (first | with_reducible exact hc | with_reducible refine CellsAt.setFar ?_ ?_ _ | with_reducible refine CellsAt.alloc ?_ _ | with_reducible refine CellsAt.drew ?_ | with_reducible refine CellsAt.drewN ?_ _ | assumption | (simp; omega) | omega))).mono ?_
  rintro e w7 ⟨⟨a7, c7, rfl, k7, _⟩, hc7⟩
  have hb7 : Below w.heap.size w w7 := bchain (by repeat' (first | with_reducible exact hb6 | with_reducible refine Below.drew ?_ | with_reducible refine below_drewN ?_ _ | with_reducible refine Below.alloc ?_ (by have := hb6.size; first | (simp; done) | (simp; omega) | omega) _ | with_reducible refine Below.setCell ?_ (by first | (simp; done) | (simp; omega) | omega) _)) hc7
  have hst7 : Below w6.heap.size w6 w7 := bchain (by repeat' (first | with_reducible exact Below.refl _ _ | with_reducible refine Below.drew ?_ | with_reducible refine below_drewN ?_ _ | with_reducible refine Below.alloc ?_ (by first | (simp; done) | (simp; omega) | omega) _ | with_reducible refine Below.setCell ?_ (by first | (simp; done) | (simp; omega) | omega) _)) hc7
  replace P_0 := cell_later hst7 P_0
  replace P_1 := cell_later hst7 P_1
  replace P_2 := cell_later hst7 P_2
  replace P_3 := cell_later hst7 P_3
  replace P_l := Nat.lt_of_lt_of_le P_l hst7.size
  replace Q_0 := cell_later hst7 Q_0
  replace Q_1 := cell_later hst7 Q_1
  replace Q_2 := cell_later hst7 Q_2
  replace Q_3 := cell_later hst7 Q_3
  replace Q_l := Nat.lt_of_lt_of_le Q_l hst7.size
  replace A_0 := cell_later hst7 A_0
  replace A_1 := cell_later hst7 A_1
  replace A_2 := cell_later hst7 A_2
  replace A_3 := cell_later hst7 A_3
  replace A_l := Nat.lt_of_lt_of_le A_l hst7.size
  replace B_0 := cell_later hst7 B_0
  replace B_1 := cell_later hst7 B_1
  replace B_2 := cell_later hst7 B_2
  replace B_3 := cell_later hst7 B_3
  replace B_l := Nat.lt_of_lt_of_le B_l hst7.size
  replace C_0 := cell_later hst7 C_0
  replace C_1 := cell_later hst7 C_1
  replace C_2 := cell_later hst7 C_2
  replace C_3 := cell_later hst7 C_3
  replace C_l := Nat.lt_of_lt_of_le C_l hst7.size
  replace F_0 := cell_later hst7 F_0
  replace F_1 := cell_later hst7 F_1
  replace F_2 := cell_later hst7 F_2
  replace F_3 := cell_later hst7 F_3
  replace F_l := Nat.lt_of_lt_of_le F_l hst7.size
  have G_0 : w7.cell? ⟨w6.heap.size, 0, none⟩ = some (.int .i64 g3) := (hc7.cell (p := ⟨w6.heap.size, 0, none⟩) (by first | (simp; done) | (simp; omega))).trans (by first | (simp; done) | go_simp)
  have G_1 : w7.cell? ⟨w6.heap.size, 1, none⟩ = some (.int .i64 o3) := (hc7.cell (p := ⟨w6.heap.size, 1, none⟩) (by first | (simp; done) | (simp; omega))).trans (by first | (simp; done) | go_simp)
  have G_2 : w7.cell? ⟨w6.heap.size, 2, none⟩ = some (.int .i64 r3) := (hc7.cell (p := ⟨w6.heap.size, 2, none⟩) (by first | (simp; done) | (simp; omega))).trans (by first | (simp; done) | go_simp)
  have G_3 : w7.cell? ⟨w6.heap.size, 3, none⟩ = some (.slice a6 hs3.length c6) := (hc7.cell (p := ⟨w6.heap.size, 3, none⟩) (by first | (simp; done) | (simp; omega))).trans (by first | (simp; done) | go_simp)
  have G_l : w6.heap.size < w7.heap.size := Nat.lt_of_lt_of_le (by first | (simp; done) | (simp; omega)) hc7.size
  replace hc := hc.later hst7
  replace k0 := k0.later hst7
  replace k2 := k2.later hst7
  replace k3 := k3.later hst7
  replace k4 := k4.later hst7
  replace k5 := k5.later hst7
  replace k6 := k6.later hst7
  clear hst7
  clear hc7 hb6
  trace "w7"
  go_wp2_with fail
  with_reducible refine (dsame_self g1 o1 r1 hs1 a2 a3 c2 c3 _ (by repeat' (first | with_reducible exact k2 | with_reducible refine CellsAt.setFar ?_ ?_ _ | with_reducible refine CellsAt.alloc ?_ _ | with_reducible refine CellsAt.drew ?_ | with_reducible refine CellsAt.drewN ?_ _ | assumption | (simp; omega) | omega)) (by repeat' (first | with_reducible exact k3 | with_reducible refine CellsAt.setFar ?_ ?_ _ | with_reducible refine CellsAt.alloc ?_ _ | with_reducible refine CellsAt.drew ?_ | with_reducible refine CellsAt.drewN ?_ _ | assumption | (simp; omega) | omega)) H_y1.out).mono ?_
  rintro e w8 ⟨rfl, hc8⟩
  have hb8 : Below w.heap.size w w8 := bchain (by repeat' (first | with_reducible exact hb7 | with_reducible refine Below.drew ?_ | with_reducible refine below_drewN ?_ _ | with_reducible refine Below.alloc ?_ (by have := hb7.size; first | (simp; done) | (simp; omega) | omega) _ | with_reducible refine Below.setCell ?_ (by first | (simp; done) | (simp; omega) | omega) _)) hc8
  have hst8 : Below w7.heap.size w7 w8 := bchain (by repeat' (first | with_reducible exact Below.refl _ _ | with_reducible refine Below.drew ?_ | with_reducible refine below_drewN ?_ _ | with_reducible refine Below.alloc ?_ (by first | (simp; done) | (simp; omega) | omega) _ | with_reducible refine Below.setCell ?_ (by first | (simp; done) | (simp; omega) | omega) _)) hc8
  replace P_0 := cell_later hst8 P_0
  replace P_1 := cell_later hst8 P_1
  replace P_2 := cell_later hst8 P_2
  replace P_3 := cell_later hst8 P_3
  replace P_l := Nat.lt_of_lt_of_le P_l hst8.size
  replace Q_0 := cell_later hst8 Q_0
  replace Q_1 := cell_later hst8 Q_1
  replace Q_2 := cell_later hst8 Q_2
  replace Q_3 := cell_later hst8 Q_3
  replace Q_l := Nat.lt_of_lt_of_le Q_l hst8.size
  replace A_0 := cell_later hst8 A_0
  replace A_1 := cell_later hst8 A_1
  replace A_2 := cell_later hst8 A_2
  replace A_3 := cell_later hst8 A_3
  replace A_l := Nat.lt_of_lt_of_le A_l hst8.size
  replace B_0 := cell_later hst8 B_0
  replace B_1 := cell_later hst8 B_1
  replace B_2 := cell_later hst8 B_2
  replace B_3 := cell_later hst8 B_3
  replace B_l := Nat.lt_of_lt_of_le B_l hst8.size
  replace C_0 := cell_later hst8 C_0
  replace C_1 := cell_later hst8 C_1
  replace C_2 := cell_later hst8 C_2
  replace C_3 := cell_later hst8 C_3
  replace C_l := Nat.lt_of_lt_of_le C_l hst8.size
  replace F_0 := cell_later hst8 F_0
  replace F_1 := cell_later hst8 F_1
  replace F_2 := cell_later hst8 F_2
  replace F_3 := cell_later hst8 F_3
  replace F_l := Nat.lt_of_lt_of_le F_l hst8.size
  replace G_0 := cell_later hst8 G_0
  replace G_1 := cell_later hst8 G_1
  replace G_2 := cell_later hst8 G_2
  replace G_3 := cell_later hst8 G_3
  replace G_l := Nat.lt_of_lt_of_le G_l hst8.size
  have H_0 : w8.cell? ⟨w7.heap.size, 0, none⟩ = some (.int .i64 g3) := (hc8.cell (p := ⟨w7.heap.size, 0, none⟩) (by first | (simp; done) | (simp; omega))).trans (by first | (simp; done) | go_simp)
  have H_1 : w8.cell? ⟨w7.heap.size, 1, none⟩ = some (.int .i64 o3) := (hc8.cell (p := ⟨w7.heap.size, 1, none⟩) (by first | (simp; done) | (simp; omega))).trans (by first | (simp; done) | go_simp)
  have H_2 : w8.cell? ⟨w7.heap.size, 2, none⟩ = some (.int .i64 r3) := (hc8.cell (p := ⟨w7.heap.size, 2, none⟩) (by first | (simp; done) | (simp; omega))).trans (by first | (simp; done) | go_simp)
  have H_3 : w8.cell? ⟨w7.heap.size, 3, none⟩ = some (.slice a7 hs3.length c7) := (hc8.cell (p := ⟨w7.heap.size, 3, none⟩) (by first | (simp; done) | (simp; omega))).trans (by first | (simp; done) | go_simp)
  have H_l : w7.heap.size < w8.heap.size := Nat.lt_of_lt_of_le (by first | (simp; done) | (simp; omega)) hc8.size
  replace hc := hc.later hst8
  replace k0 := k0.later hst8
  replace k2 := k2.later hst8
  replace k3 := k3.later hst8
  replace k4 := k4.later hst8
  replace k5 := k5.later hst8
  replace k6 := k6.later hst8
  replace k7 := k7.later hst8
  clear hst8
  clear hc8 hb7
  trace "w8"
  clear A_0 A_1 A_2 A_3 A_l
  clear B_0 B_1 B_2 B_3 B_l
  clear k2
  clear k3
  go_wp2_with fail
  with_reducible refine (dsame_self g2 o2 r2 hs2 a4 a5 c4 c5 _ (by repeat' (first | with_reducible exact k4 | with_reducible refine CellsAt.setFar ?_ ?_ _ | with_reducible refine CellsAt.alloc ?_ _ | with_reducible refine CellsAt.drew ?_ | with_reducible refine CellsAt.drewN ?_ _ | assumption | (simp; omega) | omega)) (by repeat' (first | with_reducible exact k5 | with_reducible refine CellsAt.setFar ?_ ?_ _ | with_reducible refine CellsAt.alloc ?_ _ | with_reducible refine CellsAt.drew ?_ | with_reducible refine CellsAt.drewN ?_ _ | assumption | (simp; omega) | omega)) H_y2.out).mono ?_
  rintro e w9 ⟨rfl, hc9⟩
  have hb9 : Below w.heap.size w w9 := bchain (by repeat' (first | with_reducible exact hb8 | with_reducible refine Below.drew ?_ | with_reducible refine below_drewN ?_ _ | with_reducible refine Below.alloc ?_ (by have := hb8.size; first | (simp; done) | (simp; omega) | omega) _ | with_reducible refine Below.setCell ?_ (by first | (simp; done) | (simp; omega) | omega) _)) hc9
  have hst9 : Below w8.heap.size w8 w9 := bchain (by repeat' (first | with_reducible exact Below.refl _ _ | with_reducible refine Below.drew ?_ | with_reducible refine below_drewN ?_ _ | with_reducible refine Below.alloc ?_ (by first | (simp; done) | (simp; omega) | omega) _ | with_reducible refine Below.setCell ?_ (by first | (simp; done) | (simp; omega) | omega) _)) hc9
  replace P_0 := cell_later hst9 P_0
  replace P_1 := cell_later hst9 P_1
  replace P_2 := cell_later hst9 P_2
  replace P_3 := cell_later hst9 P_3
  replace P_l := Nat.lt_of_lt_of_le P_l hst9.size
  replace Q_0 := cell_later hst9 Q_0
  replace Q_1 := cell_later hst9 Q_1
  replace Q_2 := cell_later hst9 Q_2
  replace Q_3 := cell_later hst9 Q_3
  replace Q_l := Nat.lt_of_lt_of_le Q_l hst9.size
  replace C_0 := cell_later hst9 C_0
  replace C_1 := cell_later hst9 C_1
  replace C_2 := cell_later hst9 C_2
  replace C_3 := cell_later hst9 C_3
  replace C_l := Nat.lt_of_lt_of_le C_l hst9.size
  replace F_0 := cell_later hst9 F_0
  replace F_1 := cell_later hst9 F_1
  replace F_2 := cell_later hst9 F_2
  replace F_3 := cell_later hst9 F_3
  replace F_l := Nat.lt_of_lt_of_le F_l hst9.size
  replace G_0 := cell_later hst9 G_0
  replace G_1 := cell_later hst9 G_1
  replace G_2 := cell_later hst9 G_2
  replace G_3 := cell_later hst9 G_3
  replace G_l := Nat.lt_of_lt_of_le G_l hst9.size
  replace H_0 := cell_later hst9 H_0
  replace H_1 := cell_later hst9 H_1
  replace H_2 := cell_later hst9 H_2
  replace H_3 := cell_later hst9 H_3
  replace H_l := Nat.lt_of_lt_of_le H_l hst9.size
  replace hc := hc.later hst9
  replace k0 := k0.later hst9
  replace k4 := k4.later hst9
  replace k5 := k5.later hst9
  replace k6 := k6.later hst9
  replace k7 := k7.later hst9
  clear hst9
  clear hc9 hb8
  trace "w9"
  clear C_0 C_1 C_2 C_3 C_l
  clear F_0 F_1 F_2 F_3 F_l
  clear k4
  clear k5
  go_wp2_with fail
  with_reducible refine (dsame_self g3 o3 r3 hs3 a6 a7 c6 c7 _ (by repeat' (first | with_reducible exact k6 | with_reducible refine CellsAt.setFar ?_ ?_ _ | with_reducible refine CellsAt.alloc ?_ _ | with_reducible refine CellsAt.drew ?_ | with_reducible refine CellsAt.drewN ?_ _ | assumption | (simp; omega) | omega)) (by repeat' (first | with_reducible exact k7 | with_reducible refine CellsAt.setFar ?_ ?_ _ | with_reducible refine CellsAt.alloc ?_ _ | with_reducible refine CellsAt.drew ?_ | with_reducible refine CellsAt.drewN ?_ _ | assumption | (simp; omega) | omega)) H_y3.out).mono ?_
  rintro e w10 ⟨rfl, hc10⟩
  have hb10 : Below w.heap.size w w10 := bchain (by repeat' (first | with_reducible exact hb9 | with_reducible refine Below.drew ?_ | with_reducible refine below_drewN ?_ _ | with_reducible refine Below.alloc ?_ (by have := hb9.size; first | (simp; done) | (simp; omega) | omega) _ | with_reducible refine Below.setCell ?_ (by first | (simp; done) | (simp; omega) | omega) _)) hc10
  have hst10 : Below w9.heap.size w9 w10 := bchain (by repeat' (first | with_reducible exact Below.refl _ _ | with_reducible refine Below.drew ?_ | with_reducible refine below_drewN ?_ _ | with_reducible refine Below.alloc ?_ (by first | (simp; done) | (simp; omega) | omega) _ | with_reducible refine Below.setCell ?_ (by first | (simp; done) | (simp; omega) | omega) _)) hc10
  replace P_0 := cell_later hst10 P_0
  replace P_1 := cell_later hst10 P_1
  replace P_2 := cell_later hst10 P_2
  replace P_3 := cell_later hst10 P_3
  replace P_l := Nat.lt_of_lt_of_le P_l hst10.size
  replace Q_0 := cell_later hst10 Q_0
  replace Q_1 := cell_later hst10 Q_1
  replace Q_2 := cell_later hst10 Q_2
  replace Q_3 := cell_later hst10 Q_3
  replace Q_l := Nat.lt_of_lt_of_le Q_l hst10.size
  replace G_0 := cell_later hst10 G_0
  replace G_1 := cell_later hst10 G_1
  replace G_2 := cell_later hst10 G_2
  replace G_3 := cell_later hst10 G_3
  replace G_l := Nat.lt_of_lt_of_le G_l hst10.size
  replace H_0 := cell_later hst10 H_0
  replace H_1 := cell_later hst10 H_1
  replace H_2 := cell_later hst10 H_2
  replace H_3 := cell_later hst10 H_3
  replace H_l := Nat.lt_of_lt_of_le H_l hst10.size
  replace hc := hc.later hst10
  replace k0 := k0.later hst10
  replace k6 := k6.later hst10
  replace k7 := k7.later hst10
  clear hst10
  clear hc10 hb9
  trace "w10"
  clear G_0 G_1 G_2 G_3 G_l
  clear H_0 H_1 H_2 H_3 H_l
  clear k6
  clear k7
  go_wp2_with fail
  with_reducible refine (C4p.out a0 c0 _ (by repeat' (first | with_reducible exact k0 | with_reducible refine CellsAt.setFar ?_ ?_ _ | with_reducible refine CellsAt.alloc ?_ _ | with_reducible refine CellsAt.drew ?_ | with_reducible refine CellsAt.drewN ?_ _ | assumption | (simp; omega) | omega))).mono ?_
  rintro e w11 ⟨⟨a8, c8, rfl, k8, _⟩, hc11⟩
  have hb11 : Below w.heap.size w w11 := bchain (by repeat' (first | with_reducible exact hb10 | with_reducible refine Below.drew ?_ | with_reducible refine below_drewN ?_ _ | with_reducible refine Below.alloc ?_ (by have := hb10.size; first | (simp; done) | (simp; omega) | omega) _ | with_reducible refine Below.setCell ?_ (by first | (simp; done) | (simp; omega) | omega) _)) hc11
  have hst11 : Below w10.heap.size w10 w11 := bchain (by repeat' (first | with_reducible exact Below.refl _ _ | with_reducible refine Below.drew ?_ | with_reducible refine below_drewN ?_ _ | with_reducible refine Below.alloc ?_ (by first | (simp; done) | (simp; omega) | omega) _ | with_reducible refine Below.setCell ?_ (by first | (simp; done) | (simp; omega) | omega) _)) hc11
  replace P_0 := cell_later hst11 P_0
  replace P_1 := cell_later hst11 P_1
  replace P_2 := cell_later hst11 P_2
  replace P_3 := cell_later hst11 P_3
  replace P_l := Nat.lt_of_lt_of_le P_l hst11.size
  replace Q_0 := cell_later hst11 Q_0
  replace Q_1 := cell_later hst11 Q_1
  replace Q_2 := cell_later hst11 Q_2
  replace Q_3 := cell_later hst11 Q_3
  replace Q_l := Nat.lt_of_lt_of_le Q_l hst11.size
  replace hc := hc.later hst11
  replace k0 := k0.later hst11
  clear hst11
  clear hc11 hb10
  trace "w11"
  go_wp2_with fail
  with_reducible refine (C4r.out a c _ (by repeat' (first | with_reducible exact hc | with_reducible refine CellsAt.setFar ?_ ?_ _ | with_reducible refine CellsAt.alloc ?_ _ | with_reducible refine CellsAt.drew ?_ | with_reducible refine CellsAt.drewN ?_ _ | assumption | (simp; omega) | omega))).mono ?_
  rintro e w12 ⟨⟨a9, c9, rfl, k9, _⟩, hc12⟩
  have hb12 : Below w.heap.size w w12 := bchain (by repeat' (first | with_reducible exact hb11 | with_reducible refine Below.drew ?_ | with_reducible refine below_drewN ?_ _ | with_reducible refine Below.alloc ?_ (by have := hb11.size; first | (simp; done) | (simp; omega) | omega) _ | with_reducible refine Below.setCell ?_ (by first | (simp; done) | (simp; omega) | omega) _)) hc12
  have hst12 : Below w11.heap.size w11 w12 := bchain (by repeat' (first | with_reducible exact Below.refl _ _ | with_reducible refine Below.drew ?_ | with_reducible refine below_drewN ?_ _ | with_reducible refine Below.alloc ?_ (by first | (simp; done) | (simp; omega) | omega) _ | with_reducible refine Below.setCell ?_ (by first | (simp; done) | (simp; omega) | omega) _)) hc12
  replace P_0 := cell_later hst12 P_0
  replace P_1 := cell_later hst12 P_1
  replace P_2 := cell_later hst12 P_2
  replace P_3 := cell_later hst12 P_3
  replace P_l := Nat.lt_of_lt_of_le P_l hst12.size
  replace Q_0 := cell_later hst12 Q_0
  replace Q_1 := cell_later hst12 Q_1
  replace Q_2 := cell_later hst12 Q_2
  replace Q_3 := cell_later hst12 Q_3
  replace Q_l := Nat.lt_of_lt_of_le Q_l hst12.size
  have I_0 : w12.cell? ⟨w11.heap.size, 0, none⟩ = some (.int .i64 g4) := (hc12.cell (p := ⟨w11.heap.size, 0, none⟩) (by first | (simp; done) | (simp; omega))).trans (by first | (simp; done) | go_simp)
  have I_1 : w12.cell? ⟨w11.heap.size, 1, none⟩ = some (.int .i64 o4) := (hc12.cell (p := ⟨w11.heap.size, 1, none⟩) (by first | (simp; done) | (simp; omega))).trans (by first | (simp; done) | go_simp)
  have I_2 : w12.cell? ⟨w11.heap.size, 2, none⟩ = some (.int .i64 r4) := (hc12.cell (p := ⟨w11.heap.size, 2, none⟩) (by first | (simp; done) | (simp; omega))).trans (by first | (simp; done) | go_simp)
  have I_3 : w12.cell? ⟨w11.heap.size, 3, none⟩ = some (.slice a8 hs4.length c8) := (hc12.cell (p := ⟨w11.heap.size, 3, none⟩) (by first | (simp; done) | (simp; omega))).trans (by first | (simp; done) | go_simp)
  have I_l : w11.heap.size < w12.heap.size := Nat.lt_of_lt_of_le (by first | (simp; done) | (simp; omega)) hc12.size
  have I2_0 : w12.cell? ⟨w11.heap.size + 1, 0, none⟩ = some (.int .i64 p4) := (hc12.cell (p := ⟨w11.heap.size + 1, 0, none⟩) (by first | (simp; done) | (simp; omega))).trans (by first | (simp; done) | go_simp)
  have I2_1 : w12.cell? ⟨w11.heap.size + 1, 1, none⟩ = some (.int .u64 q4) := (hc12.cell (p := ⟨w11.heap.size + 1, 1, none⟩) (by first | (simp; done) | (simp; omega))).trans (by first | (simp; done) | go_simp)
  have I2_l : w11.heap.size + 1 < w12.heap.size := Nat.lt_of_lt_of_le (by first | (simp; done) | (simp; omega)) hc12.size
  replace hc := hc.later hst12
  replace k0 := k0.later hst12
  replace k8 := k8.later hst12
  clear hst12
  clear hc12 hb11
  trace "w12"
  go_wp2_with fail
  with_reducible refine (C5p.out a0 c0 _ (by repeat' (first | with_reducible exact k0 | with_reducible refine CellsAt.setFar ?_ ?_ _ | with_reducible refine CellsAt.alloc ?_ _ | with_reducible refine CellsAt.drew ?_ | with_reducible refine CellsAt.drewN ?_ _ | assumption | (simp; omega) | omega))).mono ?_
  rintro e w13 ⟨⟨a10, c10, b10, d10, rfl, k10, m10, _, _⟩, hc13⟩
  have hb13 : Below w.heap.size w w13 := bchain (by repeat' (first | with_reducible exact hb12 | with_reducible refine Below.drew ?_ | with_reducible refine below_drewN ?_ _ | with_reducible refine Below.alloc ?_ (by have := hb12.size; first | (simp; done) | (simp; omega) | omega) _ | with_reducible refine Below.setCell ?_ (by first | (simp; done) | (simp; omega) | omega) _)) hc13
  have hst13 : Below w12.heap.size w12 w13 := bchain (by repeat' (first | with_reducible exact Below.refl _ _ | with_reducible refine Below.drew ?_ | with_reducible refine below_drewN ?_ _ | with_reducible refine Below.alloc ?_ (by first | (simp; done) | (simp; omega) | omega) _ | with_reducible refine Below.setCell ?_ (by first | (simp; done) | (simp; omega) | omega) _)) hc13
  replace P_0 := cell_later hst13 P_0
  replace P_1 := cell_later hst13 P_1
  replace P_2 := cell_later hst13 P_2
  replace P_3 := cell_later hst13 P_3
  replace P_l := Nat.lt_of_lt_of_le P_l hst13.size
  replace Q_0 := cell_later hst13 Q_0
  replace Q_1 := cell_later hst13 Q_1
  replace Q_2 := cell_later hst13 Q_2
  replace Q_3 := cell_later hst13 Q_3
  replace Q_l := Nat.lt_of_lt_of_le Q_l hst13.size
  replace I_0 := cell_later hst13 I_0
  replace I_1 := cell_later hst13 I_1
  replace I_2 := cell_later hst13 I_2
  replace I_3 := cell_later hst13 I_3
  replace I_l := Nat.lt_of_lt_of_le I_l hst13.size
  replace I2_0 := cell_later hst13 I2_0
  replace I2_1 := cell_later hst13 I2_1
  replace I2_l := Nat.lt_of_lt_of_le I2_l hst13.size
  have J_0 : w13.cell? ⟨w12.heap.size, 0, none⟩ = some (.int .i64 g4) := (hc13.cell (p := ⟨w12.heap.size, 0, none⟩) (by first | (simp; done) | (simp; omega))).trans (by first | (simp; done) | go_simp)
  have J_1 : w13.cell? ⟨w12.heap.size, 1, none⟩ = some (.int .i64 o4) := (hc13.cell (p := ⟨w12.heap.size, 1, none⟩) (by first | (simp; done) | (simp; omega))).trans (by first | (simp; done) | go_simp)
  have J_2 : w13.cell? ⟨w12.heap.size, 2, none⟩ = some (.int .i64 r4) := (hc13.cell (p := ⟨w12.heap.size, 2, none⟩) (by first | (simp; done) | (simp; omega))).trans (by first | (simp; done) | go_simp)
  have J_3 : w13.cell? ⟨w12.heap.size, 3, none⟩ = some (.slice a9 hs4.length c9) := (hc13.cell (p := ⟨w12.heap.size, 3, none⟩) (by first | (simp; done) | (simp; omega))).trans (by first | (simp; done) | go_simp)
  have J_l : w12.heap.size < w13.heap.size := Nat.lt_of_lt_of_le (by first | (simp; done) | (simp; omega)) hc13.size
  have J2_0 : w13.cell? ⟨w12.heap.size + 1, 0, none⟩ = some (.int .i64 p4) := (hc13.cell (p := ⟨w12.heap.size + 1, 0, none⟩) (by first | (simp; done) | (simp; omega))).trans (by first | (simp; done) | go_simp)
  have J2_1 : w13.cell? ⟨w12.heap.size + 1, 1, none⟩ = some (.int .u64 q4) := (hc13.cell (p := ⟨w12.heap.size + 1, 1, none⟩) (by first | (simp; done) | (simp; omega))).trans (by first | (simp; done) | go_simp)
  have J2_l : w12.heap.size + 1 < w13.heap.size := Nat.lt_of_lt_of_le (by first | (simp; done) | (simp; omega)) hc13.size
  replace hc := hc.later hst13
  replace k0 := k0.later hst13
  replace k8 := k8.later hst13
  replace k9 := k9.later hst13
  clear hst13
  clear hc13 hb12
  trace "w13"
  go_wp2_with fail
  with_reducible refine (C5r.out a c _ (by repeat' (first | with_reducible exact hc | with_reducible refine CellsAt.setFar ?_ ?_ _ | with_reducible refine CellsAt.alloc ?_ _ | with_reducible refine CellsAt.drew ?_ | with_reducible refine CellsAt.drewN ?_ _ | assumption | (simp; omega) | omega))).mono ?_
  rintro e w14 ⟨⟨a11, c11, b11, d11, rfl, k11, m11, _, _⟩, hc14⟩
  have hb14 : Below w.heap.size w w14 := bchain (by repeat' (first | with_reducible exact hb13 | with_reducible refine Below.drew ?_ | with_reducible refine below_drewN ?_ _ | with_reducible refine Below.alloc ?_ (by have := hb13.size; first | (simp; done) | (simp; omega) | omega) _ | with_reducible refine Below.setCell ?_ (by first | (simp; done) | (simp; omega) | omega) _)) hc14
  have hst14 : Below w13.heap.size w13 w14 := bchain (by repeat' (first | with_reducible exact Below.refl _ _ | with_reducible refine Below.drew ?_ | with_reducible refine below_drewN ?_ _ | with_reducible refine Below.alloc ?_ (by first | (simp; done) | (simp; omega) | omega) _ | with_reducible refine Below.setCell ?_ (by first | (simp; done) | (simp; omega) | omega) _)) hc14
  replace P_0 := cell_later hst14 P_0
  replace P_1 := cell_later hst14 P_1
  replace P_2 := cell_later hst14 P_2
  replace P_3 := cell_later hst14 P_3
  replace P_l := Nat.lt_of_lt_of_le P_l hst14.size
  replace Q_0 := cell_later hst14 Q_0
  replace Q_1 := cell_later hst14 Q_1
  replace Q_2 := cell_later hst14 Q_2
  replace Q_3 := cell_later hst14 Q_3
  replace Q_l := Nat.lt_of_lt_of_le Q_l hst14.size
  replace I_0 := cell_later hst14 I_0
  replace I_1 := cell_later hst14 I_1
  replace I_2 := cell_later hst14 I_2
  replace I_3 := cell_later hst14 I_3
  replace I_l := Nat.lt_of_lt_of_le I_l hst14.size
  replace I2_0 := cell_later hst14 I2_0
  replace I2_1 := cell_later hst14 I2_1
  replace I2_l := Nat.lt_of_lt_of_le I2_l hst14.size
  replace J_0 := cell_later hst14 J_0
  replace J_1 := cell_later hst14 J_1
  replace J_2 := cell_later hst14 J_2
  replace J_3 := cell_later hst14 J_3
  replace J_l := Nat.lt_of_lt_of_le J_l hst14.size
  replace J2_0 := cell_later hst14 J2_0
  replace J2_1 := cell_later hst14 J2_1
  replace J2_l := Nat.lt_of_lt_of_le J2_l hst14.size
  have K_0 : w14.cell? ⟨w13.heap.size, 0, none⟩ = some (.int .i64 g5) := (hc14.cell (p := ⟨w13.heap.size, 0, none⟩) (by first | (simp; done) | (simp; omega))).trans (by first | (simp; done) | go_simp)
  have K_1 : w14.cell? ⟨w13.heap.size, 1, none⟩ = some (.int .i64 o5) := (hc14.cell (p := ⟨w13.heap.size, 1, none⟩) (by first | (simp; done) | (simp; omega))).trans (by first | (simp; done) | go_simp)
  have K_2 : w14.cell? ⟨w13.heap.size, 2, none⟩ = some (.int .i64 r5) := (hc14.cell (p := ⟨w13.heap.size, 2, none⟩) (by first | (simp; done) | (simp; omega))).trans (by first | (simp; done) | go_simp)
  have K_3 : w14.cell? ⟨w13.heap.size, 3, none⟩ = some (.slice a10 hs5.length c10) := (hc14.cell (p := ⟨w13.heap.size, 3, none⟩) (by first | (simp; done) | (simp; omega))).trans (by first | (simp; done) | go_simp)
  have K_l : w13.heap.size < w14.heap.size := Nat.lt_of_lt_of_le (by first | (simp; done) | (simp; omega)) hc14.size
  replace hc := hc.later hst14
  replace k0 := k0.later hst14
  replace k8 := k8.later hst14
  replace k9 := k9.later hst14
  replace k10 := k10.later hst14
  replace m10 := m10.later hst14
  clear hst14
  clear hc14 hb13
  trace "w14"
  go_wp2_with fail
  refine wp_gen fun w15 hc15 => ?_
  have hb15 : Below w.heap.size w w15 := bchain (by repeat' (first | with_reducible exact hb14 | with_reducible refine Below.drew ?_ | with_reducible refine below_drewN ?_ _ | with_reducible refine Below.alloc ?_ (by have := hb14.size; first | (simp; done) | (simp; omega) | omega) _ | with_reducible refine Below.setCell ?_ (by first | (simp; done) | (simp; omega) | omega) _)) hc15
  have hst15 : Below w14.heap.size w14 w15 := bchain (by repeat' (first | with_reducible exact Below.refl _ _ | with_reducible refine Below.drew ?_ | with_reducible refine below_drewN ?_ _ | with_reducible refine Below.alloc ?_ (by first | (simp; done) | (simp; omega) | omega) _ | with_reducible refine Below.setCell ?_ (by first | (simp; done) | (simp; omega) | omega) _)) hc15
  replace P_0 := cell_later hst15 P_0
  replace P_1 := cell_later hst15 P_1
  replace P_2 := cell_later hst15 P_2
  replace P_3 := cell_later hst15 P_3
  replace P_l := Nat.lt_of_lt_of_le P_l hst15.size
  replace Q_0 := cell_later hst15 Q_0
  replace Q_1 := cell_later hst15 Q_1
  replace Q_2 := cell_later hst15 Q_2
  replace Q_3 := cell_later hst15 Q_3
  replace Q_l := Nat.lt_of_lt_of_le Q_l hst15.size
  replace I_0 := cell_later hst15 I_0
  replace I_1 := cell_later hst15 I_1
  replace I_2 := cell_later hst15 I_2
  replace I_3 := cell_later hst15 I_3
  replace I_l := Nat.lt_of_lt_of_le I_l hst15.size
  replace I2_0 := cell_later hst15 I2_0
  replace I2_1 := cell_later hst15 I2_1
  replace I2_l := Nat.lt_of_lt_of_le I2_l hst15.size
  replace J_0 := cell_later hst15 J_0
  replace J_1 := cell_later hst15 J_1
  replace J_2 := cell_later hst15 J_2
  replace J_3 := cell_later hst15 J_3
  replace J_l := Nat.lt_of_lt_of_le J_l hst15.size
  replace J2_0 := cell_later hst15 J2_0
  replace J2_1 := cell_later hst15 J2_1
  replace J2_l := Nat.lt_of_lt_of_le J2_l hst15.size
  replace K_0 := cell_later hst15 K_0
  replace K_1 := cell_later hst15 K_1
  replace K_2 := cell_later hst15 K_2
  replace K_3 := cell_later hst15 K_3
  replace K_l := Nat.lt_of_lt_of_le K_l hst15.size
  have L_0 : w15.cell? ⟨w14.heap.size, 0, none⟩ = some (.int .i64 g5) := (hc15.cell (p := ⟨w14.heap.size, 0, none⟩) (by first | (simp; done) | (simp; omega))).trans (by first | (simp; done) | go_simp)
  have L_1 : w15.cell? ⟨w14.heap.size, 1, none⟩ = some (.int .i64 o5) := (hc15.cell (p := ⟨w14.heap.size, 1, none⟩) (by first | (simp; done) | (simp; omega))).trans (by first | (simp; done) | go_simp)
  have L_2 : w15.cell? ⟨w14.heap.size, 2, none⟩ = some (.int .i64 r5) := (hc15.cell (p := ⟨w14.heap.size, 2, none⟩) (by first | (simp; done) | (simp; omega))).trans (by first | (simp; done) | go_simp)
  have L_3 : w15.cell? ⟨w14.heap.size, 3, none⟩ = some (.slice a11 hs5.length c11) := (hc15.cell (p := ⟨w14.heap.size, 3, none⟩) (by first | (simp; done) | (simp; omega))).trans (by first | (simp; done) | go_simp)
  have L_l : w14.heap.size < w15.heap.size := Nat.lt_of_lt_of_le (by first | (simp; done) | (simp; omega)) hc15.size
  replace hc := hc.later hst15
  replace k0 := k0.later hst15
  replace k8 := k8.later hst15
  replace k9 := k9.later hst15
  replace k10 := k10.later hst15
  replace m10 := m10.later hst15
  replace k11 := k11.later hst15
  replace m11 := m11.later hst15
  clear hst15
  trace "w15"
  have KP_0 := cell_on P_0
  have KP_1 := cell_on P_1
  have KP_2 := cell_on P_2
  have KP_3 := cell_on P_3
  have KQ_0 := cell_on Q_0
  have KQ_1 := cell_on Q_1
  have KQ_2 := cell_on Q_2
  have KQ_3 := cell_on Q_3
  have KI_0 := cell_on I_0
  have KI_1 := cell_on I_1
  have KI_2 := cell_on I_2
  have KI_3 := cell_on I_3
  have KI2_0 := cell_on I2_0
  have KI2_1 := cell_on I2_1
  have KJ_0 := cell_on J_0
  have KJ_1 := cell_on J_1
  have KJ_2 := cell_on J_2
  have KJ_3 := cell_on J_3
  have KJ2_0 := cell_on J2_0
  have KJ2_1 := cell_on J2_1
  have KK_0 := cell_on K_0
  have KK_1 := cell_on K_1
  have KK_2 := cell_on K_2
  have KK_3 := cell_on K_3
  have KL_0 := cell_on L_0
  have KL_1 := cell_on L_1
  have KL_2 := cell_on L_2
  have KL_3 := cell_on L_3
  refine wp_region_on (by kernel_rfl) (by kernel_rfl) ?_
  repeat (trace "s"; go_big_quiet_step ((first | (go_at_call 24; with_reducible exact calls_on (dcheck_any g o r hs a0 c0 _ (k0.on _) Hml.out)) | (go_at_call 12; with_reducible exact calls_on (rdcheck_any g o r hs a c _ (hc.on _) Hml.out)) | (go_at_call 20; with_reducible exact calls_on (dsame_self g4 o4 r4 hs4 a8 a9 c8 c9 _ (k8.on _) (k9.on _) H_y4.out)) | (go_at_call 20; with_reducible exact calls_on (dsame_self g5 o5 r5 hs5 a10 a11 c10 c11 _ (k10.on _) (k11.on _) H_y5.out)) | (go_at_call 25; with_reducible exact calls_on (sameSlips_self l5 b10 b11 d10 d11 _ (m10.on _) (m11.on _) H_y6.out)) | (go_at_call 20; with_reducible exact calls_on (dsame_self g o r hs a0 a c0 c _ (k0.on _) (hc.on _) Hml.out)))))
  refine wpQuiet_nil ?_
  intro w16 hc16
  clear KP_0 KP_1 KP_2 KP_3 KQ_0 KQ_1 KQ_2 KQ_3 KI_0 KI_1 KI_2 KI_3 KI2_0 KI2_1 KJ_0 KJ_1 KJ_2 KJ_3 KJ2_0 KJ2_1 KK_0 KK_1 KK_2 KK_3 KL_0 KL_1 KL_2 KL_3
  have hb16 : Below w.heap.size w w16 := bchain (by repeat' (first | with_reducible exact hb15 | with_reducible refine Below.drew ?_ | with_reducible refine below_drewN ?_ _ | with_reducible refine Below.alloc ?_ (by have := hb15.size; first | (simp; done) | (simp; omega) | omega) _ | with_reducible refine Below.setCell ?_ (by first | (simp; done) | (simp; omega) | omega) _)) hc16
  have hst16 : Below w15.heap.size w15 w16 := bchain (by repeat' (first | with_reducible exact Below.refl _ _ | with_reducible refine Below.drew ?_ | with_reducible refine below_drewN ?_ _ | with_reducible refine Below.alloc ?_ (by first | (simp; done) | (simp; omega) | omega) _ | with_reducible refine Below.setCell ?_ (by first | (simp; done) | (simp; omega) | omega) _)) hc16
  replace P_0 := cell_later hst16 P_0
  replace P_1 := cell_later hst16 P_1
  replace P_2 := cell_later hst16 P_2
  replace P_3 := cell_later hst16 P_3
  replace P_l := Nat.lt_of_lt_of_le P_l hst16.size
  replace Q_0 := cell_later hst16 Q_0
  replace Q_1 := cell_later hst16 Q_1
  replace Q_2 := cell_later hst16 Q_2
  replace Q_3 := cell_later hst16 Q_3
  replace Q_l := Nat.lt_of_lt_of_le Q_l hst16.size
  replace I_0 := cell_later hst16 I_0
  replace I_1 := cell_later hst16 I_1
  replace I_2 := cell_later hst16 I_2
  replace I_3 := cell_later hst16 I_3
  replace I_l := Nat.lt_of_lt_of_le I_l hst16.size
  replace I2_0 := cell_later hst16 I2_0
  replace I2_1 := cell_later hst16 I2_1
  replace I2_l := Nat.lt_of_lt_of_le I2_l hst16.size
  replace J_0 := cell_later hst16 J_0
  replace J_1 := cell_later hst16 J_1
  replace J_2 := cell_later hst16 J_2
  replace J_3 := cell_later hst16 J_3
  replace J_l := Nat.lt_of_lt_of_le J_l hst16.size
  replace J2_0 := cell_later hst16 J2_0
  replace J2_1 := cell_later hst16 J2_1
  replace J2_l := Nat.lt_of_lt_of_le J2_l hst16.size
  replace K_0 := cell_later hst16 K_0
  replace K_1 := cell_later hst16 K_1
  replace K_2 := cell_later hst16 K_2
  replace K_3 := cell_later hst16 K_3
  replace K_l := Nat.lt_of_lt_of_le K_l hst16.size
  replace L_0 := cell_later hst16 L_0
  replace L_1 := cell_later hst16 L_1
  replace L_2 := cell_later hst16 L_2
  replace L_3 := cell_later hst16 L_3
  replace L_l := Nat.lt_of_lt_of_le L_l hst16.size
  replace hc := hc.later hst16
  replace k0 := k0.later hst16
  replace k8 := k8.later hst16
  replace k9 := k9.later hst16
  replace k10 := k10.later hst16
  replace m10 := m10.later hst16
  replace k11 := k11.later hst16
  replace m11 := m11.later hst16
  clear hst16
  trace "w16"
  go_wp2_with fail
  go_ret
  exact ⟨rfl, by repeat' (first | with_reducible exact hb16 | with_reducible refine Below.drew ?_ | with_reducible refine below_drewN ?_ _ | with_reducible refine Below.alloc ?_ (by have := hb16.size; first | (simp; done) | (simp; omega) | omega) _ | with_reducible refine Below.setCell ?_ (by first | (simp; done) | (simp; omega) | omega) _)⟩

theorem does_full (n g o r : Int) (hs : Slips) (a : Option Addr) (c : Nat) (t x : Int) (w : World) (h0 : (Lit.int .i64 n).wf = true) (h1 : DeskIn w g o r hs a) (h2 : (Lit.int .i64 t).wf = true) (h3 : (Lit.int .u64 x).wf = true) :
    Calls Try.prog 5 #[.int .i64 n, .agg #[.int .i64 g, .int .i64 o, .int .i64 r, .slice a hs.length c], .int .i64 t, .int .u64 x] w fun e w' =>
      e = .returned (.bool true) ∧ Below w.heap.size w w' :=
  does_walk n g o r t x hs a c w h1.cells h1.len

end Go.Proofs.Ytpfldkcbkolgnaa
