/- The laws on channels: ChannelDoes. -/
import Derived.Test.YteajfhodfpjplaaChannelOpen
namespace Go.Proofs.Yteajfhodfpjplaa
set_option linter.unusedSimpArgs false
set_option linter.unusedVariables false
set_option linter.unnecessarySimpa false
open Go.RowKit

theorem new_len (n : Int) : (chNew n).1.items.length ≤ maxLen := by
  unfold chNew; split <;> simp [ChS.zero, maxLen]
theorem send_len (c : ChS) (v : Int) (h : c.items.length ≤ 100) : (chSend c v).1.items.length ≤ maxLen := by
  unfold chSend; (repeat' split) <;> simp [ChS.zero, maxLen]; omega
theorem recv_len (c : ChS) (h : c.items.length ≤ 100) : (chRecv c).1.items.length ≤ maxLen := by
  obtain ⟨C, xs, cl⟩ := c
  unfold chRecv
  split
  · simp [ChS.zero, maxLen]
  · cases xs with
    | nil => simp only; split <;> simp [ChS.zero, maxLen]
    | cons x r => simp at h; simp [maxLen]; omega
theorem close_len (c : ChS) (h : c.items.length ≤ 100) : (chClose c).1.items.length ≤ maxLen := by
  unfold chClose; (repeat' split) <;> simp [ChS.zero, maxLen]; omega

/-- Two copies of one channel are the same. -/
theorem same_self (C : Int) (xs : List Int) (cl : Bool) (a b : Option Addr) (c d : Nat) (w : World) (hx : CellsAt w a (xs.map (Value.int .u64))) (hy : CellsAt w b (xs.map (Value.int .u64))) (hxl : xs.length ≤ maxLen) :
    Calls Try.prog 15 #[.agg #[.int .i64 C, .slice a xs.length c, .bool cl], .agg #[.int .i64 C, .slice b xs.length d, .bool cl]] w fun e w' =>
      e = .returned (.bool true) ∧ Below w.heap.size w w' := by
  have := same_any C C xs xs cl cl a b c d w hx hy hxl
  rwa [sameB_self] at this

set_option maxRecDepth 100000 in
set_option maxHeartbeats 4000000 in
theorem does_walk (n C : Int) (xs : List Int) (cl : Bool) (a : Option Addr) (cp : Nat) (v : Int) (w : World) (wn : (Lit.int .i64 n).wf = true) (hin : ChanIn w C xs a) (wv : (Lit.int .u64 v).wf = true) :
    Calls Try.prog 3 #[.int .i64 n, .agg #[.int .i64 C, .slice a xs.length cp, .bool cl], .int .u64 v] w fun e w' =>
      e = .returned (.bool true) ∧ Below w.heap.size w w' := by
  have hc := hin.cells
  clear wn wv hin
  by_cases h100 : 100 < xs.length
  · go_enter Try.func3, Try.ntmps3
    have hb0 := Below.refl w.heap.size w
    go_wp2_with fail
    go_ret
    exact ⟨rfl, by repeat' (first | exact hb0 | refine Below.drew ?_ | refine Below.alloc ?_ (by have := hb0.size; first | (simp; done) | (simp; omega) | omega) _ | refine Below.setCell ?_ (by first | (simp; done) | (simp; omega) | omega) _)⟩
  · have hlen : xs.length ≤ 100 := by omega
    have hl1 := new_len n
    have hl2 := send_len ⟨C, xs, cl⟩ v hlen
    have hl3 := recv_len ⟨C, xs, cl⟩ hlen
    have hl4 := close_len ⟨C, xs, cl⟩ hlen
    have hl5 : xs.length ≤ maxLen := by unfold maxLen; omega
    have H_hl1 := hid hl1
    have H_hl2 := hid hl2
    have H_hl3 := hid hl3
    have H_hl4 := hid hl4
    have H_hl5 := hid hl5
    clear hl1 hl2 hl3 hl4 hl5
    go_enter Try.func3, Try.ntmps3
    have hb0 := Below.refl w.heap.size w
    go_wp2_with fail
    refine (rtwin_any C xs cl a cp _ (by repeat' (first | with_reducible exact hc | with_reducible refine CellsAt.setFar ?_ ?_ _ | with_reducible refine CellsAt.alloc ?_ _ | with_reducible refine CellsAt.drew ?_ | assumption | (simp; omega) | omega)) (by omega)).mono ?_
    rintro e w1 ⟨a0, c0, rfl, hown, hc1⟩
    have hb1 : Below w.heap.size w w1 := bchain (by repeat' (first | exact hb0 | refine Below.drew ?_ | refine Below.alloc ?_ (by have := hb0.size; first | (simp; done) | (simp; omega) | omega) _ | refine Below.setCell ?_ (by first | (simp; done) | (simp; omega) | omega) _)) hc1
    have hst1 : Below w.heap.size w w1 := bchain (by repeat' (first | exact Below.refl _ _ | refine Below.drew ?_ | refine Below.alloc ?_ (by simp) _ | refine Below.alloc ?_ (by simp; omega) _ | refine Below.setCell ?_ (by first | (simp; done) | (simp; omega) | omega) _)) hc1
    have P_0 : w1.cell? ⟨w.heap.size, 0, none⟩ = some (.int .i64 C) := (hc1.cell (p := ⟨w.heap.size, 0, none⟩) (by first | (simp; done) | (simp; omega))).trans (by simp)
    have P_1 : w1.cell? ⟨w.heap.size, 1, none⟩ = some (.slice a xs.length cp) := (hc1.cell (p := ⟨w.heap.size, 1, none⟩) (by first | (simp; done) | (simp; omega))).trans (by simp)
    have P_2 : w1.cell? ⟨w.heap.size, 2, none⟩ = some (.bool cl) := (hc1.cell (p := ⟨w.heap.size, 2, none⟩) (by first | (simp; done) | (simp; omega))).trans (by simp)
    have P_l : w.heap.size < w1.heap.size := Nat.lt_of_lt_of_le (by first | (simp; done) | (simp; omega)) hc1.size
    replace hc := hc.later hst1
    clear hst1
    clear hc1 hb0
    have ko := hown.cellsAt
    clear hown
    go_wp2_with fail
    refine (new_any n _).mono ?_
    rintro e w2 ⟨⟨a1, c1, rfl, k1, _⟩, hc2⟩
    have hb2 : Below w.heap.size w w2 := bchain (by repeat' (first | exact hb1 | refine Below.drew ?_ | refine Below.alloc ?_ (by have := hb1.size; first | (simp; done) | (simp; omega) | omega) _ | refine Below.setCell ?_ (by first | (simp; done) | (simp; omega) | omega) _)) hc2
    have hst2 : Below w1.heap.size w1 w2 := bchain (by repeat' (first | exact Below.refl _ _ | refine Below.drew ?_ | refine Below.alloc ?_ (by simp) _ | refine Below.alloc ?_ (by simp; omega) _ | refine Below.setCell ?_ (by first | (simp; done) | (simp; omega) | omega) _)) hc2
    replace P_0 := cell_later hst2 P_0
    replace P_1 := cell_later hst2 P_1
    replace P_2 := cell_later hst2 P_2
    replace P_l := Nat.lt_of_lt_of_le P_l hst2.size
    have O_0 : w2.cell? ⟨w1.heap.size, 0, none⟩ = some (.int .i64 C) := (hc2.cell (p := ⟨w1.heap.size, 0, none⟩) (by first | (simp; done) | (simp; omega))).trans (by simp)
    have O_1 : w2.cell? ⟨w1.heap.size, 1, none⟩ = some (.slice a0 xs.length c0) := (hc2.cell (p := ⟨w1.heap.size, 1, none⟩) (by first | (simp; done) | (simp; omega))).trans (by simp)
    have O_2 : w2.cell? ⟨w1.heap.size, 2, none⟩ = some (.bool cl) := (hc2.cell (p := ⟨w1.heap.size, 2, none⟩) (by first | (simp; done) | (simp; omega))).trans (by simp)
    have O_l : w1.heap.size < w2.heap.size := Nat.lt_of_lt_of_le (by first | (simp; done) | (simp; omega)) hc2.size
    replace hc := hc.later hst2
    replace ko := ko.later hst2
    clear hst2
    clear hc2 hb1
    go_wp2_with fail
    refine (rnew_any n _).mono ?_
    rintro e w3 ⟨⟨a2, c2, rfl, k2, _⟩, hc3⟩
    have hb3 : Below w.heap.size w w3 := bchain (by repeat' (first | exact hb2 | refine Below.drew ?_ | refine Below.alloc ?_ (by have := hb2.size; first | (simp; done) | (simp; omega) | omega) _ | refine Below.setCell ?_ (by first | (simp; done) | (simp; omega) | omega) _)) hc3
    have hst3 : Below w2.heap.size w2 w3 := bchain (by repeat' (first | exact Below.refl _ _ | refine Below.drew ?_ | refine Below.alloc ?_ (by simp) _ | refine Below.alloc ?_ (by simp; omega) _ | refine Below.setCell ?_ (by first | (simp; done) | (simp; omega) | omega) _)) hc3
    replace P_0 := cell_later hst3 P_0
    replace P_1 := cell_later hst3 P_1
    replace P_2 := cell_later hst3 P_2
    replace P_l := Nat.lt_of_lt_of_le P_l hst3.size
    replace O_0 := cell_later hst3 O_0
    replace O_1 := cell_later hst3 O_1
    replace O_2 := cell_later hst3 O_2
    replace O_l := Nat.lt_of_lt_of_le O_l hst3.size
    have A_0 : w3.cell? ⟨w2.heap.size, 0, none⟩ = some (.int .i64 (chNew n).1.cap) := (hc3.cell (p := ⟨w2.heap.size, 0, none⟩) (by first | (simp; done) | (simp; omega))).trans (by simp)
    have A_1 : w3.cell? ⟨w2.heap.size, 1, none⟩ = some (.slice a1 (chNew n).1.items.length c1) := (hc3.cell (p := ⟨w2.heap.size, 1, none⟩) (by first | (simp; done) | (simp; omega))).trans (by simp)
    have A_2 : w3.cell? ⟨w2.heap.size, 2, none⟩ = some (.bool (chNew n).1.closed) := (hc3.cell (p := ⟨w2.heap.size, 2, none⟩) (by first | (simp; done) | (simp; omega))).trans (by simp)
    have A_l : w2.heap.size < w3.heap.size := Nat.lt_of_lt_of_le (by first | (simp; done) | (simp; omega)) hc3.size
    replace hc := hc.later hst3
    replace ko := ko.later hst3
    replace k1 := k1.later hst3
    clear hst3
    clear hc3 hb2
    go_wp2_with fail
    refine (send_any C xs cl a0 c0 v _ (by repeat' (first | with_reducible exact ko | with_reducible refine CellsAt.setFar ?_ ?_ _ | with_reducible refine CellsAt.alloc ?_ _ | with_reducible refine CellsAt.drew ?_ | assumption | (simp; omega) | omega))).mono ?_
    rintro e w4 ⟨⟨a3, c3, rfl, k3, _⟩, hc4⟩
    have hb4 : Below w.heap.size w w4 := bchain (by repeat' (first | exact hb3 | refine Below.drew ?_ | refine Below.alloc ?_ (by have := hb3.size; first | (simp; done) | (simp; omega) | omega) _ | refine Below.setCell ?_ (by first | (simp; done) | (simp; omega) | omega) _)) hc4
    have hst4 : Below w3.heap.size w3 w4 := bchain (by repeat' (first | exact Below.refl _ _ | refine Below.drew ?_ | refine Below.alloc ?_ (by simp) _ | refine Below.alloc ?_ (by simp; omega) _ | refine Below.setCell ?_ (by first | (simp; done) | (simp; omega) | omega) _)) hc4
    replace P_0 := cell_later hst4 P_0
    replace P_1 := cell_later hst4 P_1
    replace P_2 := cell_later hst4 P_2
    replace P_l := Nat.lt_of_lt_of_le P_l hst4.size
    replace O_0 := cell_later hst4 O_0
    replace O_1 := cell_later hst4 O_1
    replace O_2 := cell_later hst4 O_2
    replace O_l := Nat.lt_of_lt_of_le O_l hst4.size
    replace A_0 := cell_later hst4 A_0
    replace A_1 := cell_later hst4 A_1
    replace A_2 := cell_later hst4 A_2
    replace A_l := Nat.lt_of_lt_of_le A_l hst4.size
    have B_0 : w4.cell? ⟨w3.heap.size, 0, none⟩ = some (.int .i64 (chNew n).1.cap) := (hc4.cell (p := ⟨w3.heap.size, 0, none⟩) (by first | (simp; done) | (simp; omega))).trans (by simp)
    have B_1 : w4.cell? ⟨w3.heap.size, 1, none⟩ = some (.slice a2 (chNew n).1.items.length c2) := (hc4.cell (p := ⟨w3.heap.size, 1, none⟩) (by first | (simp; done) | (simp; omega))).trans (by simp)
    have B_2 : w4.cell? ⟨w3.heap.size, 2, none⟩ = some (.bool (chNew n).1.closed) := (hc4.cell (p := ⟨w3.heap.size, 2, none⟩) (by first | (simp; done) | (simp; omega))).trans (by simp)
    have B_l : w3.heap.size < w4.heap.size := Nat.lt_of_lt_of_le (by first | (simp; done) | (simp; omega)) hc4.size
    replace hc := hc.later hst4
    replace ko := ko.later hst4
    replace k1 := k1.later hst4
    replace k2 := k2.later hst4
    clear hst4
    clear hc4 hb3
    go_wp2_with fail
    refine (rsend_any C xs cl a cp v _ (by repeat' (first | with_reducible exact hc | with_reducible refine CellsAt.setFar ?_ ?_ _ | with_reducible refine CellsAt.alloc ?_ _ | with_reducible refine CellsAt.drew ?_ | assumption | (simp; omega) | omega))).mono ?_
    rintro e w5 ⟨⟨a4, c4, rfl, k4, _⟩, hc5⟩
    have hb5 : Below w.heap.size w w5 := bchain (by repeat' (first | exact hb4 | refine Below.drew ?_ | refine Below.alloc ?_ (by have := hb4.size; first | (simp; done) | (simp; omega) | omega) _ | refine Below.setCell ?_ (by first | (simp; done) | (simp; omega) | omega) _)) hc5
    have hst5 : Below w4.heap.size w4 w5 := bchain (by repeat' (first | exact Below.refl _ _ | refine Below.drew ?_ | refine Below.alloc ?_ (by simp) _ | refine Below.alloc ?_ (by simp; omega) _ | refine Below.setCell ?_ (by first | (simp; done) | (simp; omega) | omega) _)) hc5
    replace P_0 := cell_later hst5 P_0
    replace P_1 := cell_later hst5 P_1
    replace P_2 := cell_later hst5 P_2
    replace P_l := Nat.lt_of_lt_of_le P_l hst5.size
    replace O_0 := cell_later hst5 O_0
    replace O_1 := cell_later hst5 O_1
    replace O_2 := cell_later hst5 O_2
    replace O_l := Nat.lt_of_lt_of_le O_l hst5.size
    replace A_0 := cell_later hst5 A_0
    replace A_1 := cell_later hst5 A_1
    replace A_2 := cell_later hst5 A_2
    replace A_l := Nat.lt_of_lt_of_le A_l hst5.size
    replace B_0 := cell_later hst5 B_0
    replace B_1 := cell_later hst5 B_1
    replace B_2 := cell_later hst5 B_2
    replace B_l := Nat.lt_of_lt_of_le B_l hst5.size
    have X_0 : w5.cell? ⟨w4.heap.size, 0, none⟩ = some (.int .i64 (chSend ⟨C, xs, cl⟩ v).1.cap) := (hc5.cell (p := ⟨w4.heap.size, 0, none⟩) (by first | (simp; done) | (simp; omega))).trans (by simp)
    have X_1 : w5.cell? ⟨w4.heap.size, 1, none⟩ = some (.slice a3 (chSend ⟨C, xs, cl⟩ v).1.items.length c3) := (hc5.cell (p := ⟨w4.heap.size, 1, none⟩) (by first | (simp; done) | (simp; omega))).trans (by simp)
    have X_2 : w5.cell? ⟨w4.heap.size, 2, none⟩ = some (.bool (chSend ⟨C, xs, cl⟩ v).1.closed) := (hc5.cell (p := ⟨w4.heap.size, 2, none⟩) (by first | (simp; done) | (simp; omega))).trans (by simp)
    have X_l : w4.heap.size < w5.heap.size := Nat.lt_of_lt_of_le (by first | (simp; done) | (simp; omega)) hc5.size
    replace hc := hc.later hst5
    replace ko := ko.later hst5
    replace k1 := k1.later hst5
    replace k2 := k2.later hst5
    replace k3 := k3.later hst5
    clear hst5
    clear hc5 hb4
    go_wp2_with fail
    refine (recv_any C xs cl a0 c0 _ (by repeat' (first | with_reducible exact ko | with_reducible refine CellsAt.setFar ?_ ?_ _ | with_reducible refine CellsAt.alloc ?_ _ | with_reducible refine CellsAt.drew ?_ | assumption | (simp; omega) | omega))).mono ?_
    rintro e w6 ⟨⟨a5, c5, rfl, k5, _⟩, hc6⟩
    have hb6 : Below w.heap.size w w6 := bchain (by repeat' (first | exact hb5 | refine Below.drew ?_ | refine Below.alloc ?_ (by have := hb5.size; first | (simp; done) | (simp; omega) | omega) _ | refine Below.setCell ?_ (by first | (simp; done) | (simp; omega) | omega) _)) hc6
    have hst6 : Below w5.heap.size w5 w6 := bchain (by repeat' (first | exact Below.refl _ _ | refine Below.drew ?_ | refine Below.alloc ?_ (by simp) _ | refine Below.alloc ?_ (by simp; omega) _ | refine Below.setCell ?_ (by first | (simp; done) | (simp; omega) | omega) _)) hc6
    replace P_0 := cell_later hst6 P_0
    replace P_1 := cell_later hst6 P_1
    replace P_2 := cell_later hst6 P_2
    replace P_l := Nat.lt_of_lt_of_le P_l hst6.size
    replace O_0 := cell_later hst6 O_0
    replace O_1 := cell_later hst6 O_1
    replace O_2 := cell_later hst6 O_2
    replace O_l := Nat.lt_of_lt_of_le O_l hst6.size
    replace A_0 := cell_later hst6 A_0
    replace A_1 := cell_later hst6 A_1
    replace A_2 := cell_later hst6 A_2
    replace A_l := Nat.lt_of_lt_of_le A_l hst6.size
    replace B_0 := cell_later hst6 B_0
    replace B_1 := cell_later hst6 B_1
    replace B_2 := cell_later hst6 B_2
    replace B_l := Nat.lt_of_lt_of_le B_l hst6.size
    replace X_0 := cell_later hst6 X_0
    replace X_1 := cell_later hst6 X_1
    replace X_2 := cell_later hst6 X_2
    replace X_l := Nat.lt_of_lt_of_le X_l hst6.size
    have Y_0 : w6.cell? ⟨w5.heap.size, 0, none⟩ = some (.int .i64 (chSend ⟨C, xs, cl⟩ v).1.cap) := (hc6.cell (p := ⟨w5.heap.size, 0, none⟩) (by first | (simp; done) | (simp; omega))).trans (by simp)
    have Y_1 : w6.cell? ⟨w5.heap.size, 1, none⟩ = some (.slice a4 (chSend ⟨C, xs, cl⟩ v).1.items.length c4) := (hc6.cell (p := ⟨w5.heap.size, 1, none⟩) (by first | (simp; done) | (simp; omega))).trans (by simp)
    have Y_2 : w6.cell? ⟨w5.heap.size, 2, none⟩ = some (.bool (chSend ⟨C, xs, cl⟩ v).1.closed) := (hc6.cell (p := ⟨w5.heap.size, 2, none⟩) (by first | (simp; done) | (simp; omega))).trans (by simp)
    have Y_l : w5.heap.size < w6.heap.size := Nat.lt_of_lt_of_le (by first | (simp; done) | (simp; omega)) hc6.size
    replace hc := hc.later hst6
    replace ko := ko.later hst6
    replace k1 := k1.later hst6
    replace k2 := k2.later hst6
    replace k3 := k3.later hst6
    replace k4 := k4.later hst6
    clear hst6
    clear hc6 hb5
    go_wp2_with fail
    refine (rrecv_any C xs cl a cp _ (by repeat' (first | with_reducible exact hc | with_reducible refine CellsAt.setFar ?_ ?_ _ | with_reducible refine CellsAt.alloc ?_ _ | with_reducible refine CellsAt.drew ?_ | assumption | (simp; omega) | omega))).mono ?_
    rintro e w7 ⟨⟨a6, c6, rfl, k6, _⟩, hc7⟩
    have hb7 : Below w.heap.size w w7 := bchain (by repeat' (first | exact hb6 | refine Below.drew ?_ | refine Below.alloc ?_ (by have := hb6.size; first | (simp; done) | (simp; omega) | omega) _ | refine Below.setCell ?_ (by first | (simp; done) | (simp; omega) | omega) _)) hc7
    have hst7 : Below w6.heap.size w6 w7 := bchain (by repeat' (first | exact Below.refl _ _ | refine Below.drew ?_ | refine Below.alloc ?_ (by simp) _ | refine Below.alloc ?_ (by simp; omega) _ | refine Below.setCell ?_ (by first | (simp; done) | (simp; omega) | omega) _)) hc7
    replace P_0 := cell_later hst7 P_0
    replace P_1 := cell_later hst7 P_1
    replace P_2 := cell_later hst7 P_2
    replace P_l := Nat.lt_of_lt_of_le P_l hst7.size
    replace O_0 := cell_later hst7 O_0
    replace O_1 := cell_later hst7 O_1
    replace O_2 := cell_later hst7 O_2
    replace O_l := Nat.lt_of_lt_of_le O_l hst7.size
    replace A_0 := cell_later hst7 A_0
    replace A_1 := cell_later hst7 A_1
    replace A_2 := cell_later hst7 A_2
    replace A_l := Nat.lt_of_lt_of_le A_l hst7.size
    replace B_0 := cell_later hst7 B_0
    replace B_1 := cell_later hst7 B_1
    replace B_2 := cell_later hst7 B_2
    replace B_l := Nat.lt_of_lt_of_le B_l hst7.size
    replace X_0 := cell_later hst7 X_0
    replace X_1 := cell_later hst7 X_1
    replace X_2 := cell_later hst7 X_2
    replace X_l := Nat.lt_of_lt_of_le X_l hst7.size
    replace Y_0 := cell_later hst7 Y_0
    replace Y_1 := cell_later hst7 Y_1
    replace Y_2 := cell_later hst7 Y_2
    replace Y_l := Nat.lt_of_lt_of_le Y_l hst7.size
    have R_0 : w7.cell? ⟨w6.heap.size, 0, none⟩ = some (.int .i64 (chRecv ⟨C, xs, cl⟩).1.cap) := (hc7.cell (p := ⟨w6.heap.size, 0, none⟩) (by first | (simp; done) | (simp; omega))).trans (by simp)
    have R_1 : w7.cell? ⟨w6.heap.size, 1, none⟩ = some (.slice a5 (chRecv ⟨C, xs, cl⟩).1.items.length c5) := (hc7.cell (p := ⟨w6.heap.size, 1, none⟩) (by first | (simp; done) | (simp; omega))).trans (by simp)
    have R_2 : w7.cell? ⟨w6.heap.size, 2, none⟩ = some (.bool (chRecv ⟨C, xs, cl⟩).1.closed) := (hc7.cell (p := ⟨w6.heap.size, 2, none⟩) (by first | (simp; done) | (simp; omega))).trans (by simp)
    have R_l : w6.heap.size < w7.heap.size := Nat.lt_of_lt_of_le (by first | (simp; done) | (simp; omega)) hc7.size
    replace hc := hc.later hst7
    replace ko := ko.later hst7
    replace k1 := k1.later hst7
    replace k2 := k2.later hst7
    replace k3 := k3.later hst7
    replace k4 := k4.later hst7
    replace k5 := k5.later hst7
    clear hst7
    clear hc7 hb6
    go_wp2_with fail
    refine (same_any _ _ _ _ _ _ a1 a2 c1 c2 _ (by repeat' (first | with_reducible exact k1 | with_reducible refine CellsAt.setFar ?_ ?_ _ | with_reducible refine CellsAt.alloc ?_ _ | with_reducible refine CellsAt.drew ?_ | assumption | (simp; omega) | omega)) (by repeat' (first | with_reducible exact k2 | with_reducible refine CellsAt.setFar ?_ ?_ _ | with_reducible refine CellsAt.alloc ?_ _ | with_reducible refine CellsAt.drew ?_ | assumption | (simp; omega) | omega)) H_hl1.out).mono ?_
    rintro e w8 ⟨rfl, hc8⟩
    have hb8 : Below w.heap.size w w8 := bchain (by repeat' (first | exact hb7 | refine Below.drew ?_ | refine Below.alloc ?_ (by have := hb7.size; first | (simp; done) | (simp; omega) | omega) _ | refine Below.setCell ?_ (by first | (simp; done) | (simp; omega) | omega) _)) hc8
    have hst8 : Below w7.heap.size w7 w8 := bchain (by repeat' (first | exact Below.refl _ _ | refine Below.drew ?_ | refine Below.alloc ?_ (by simp) _ | refine Below.alloc ?_ (by simp; omega) _ | refine Below.setCell ?_ (by first | (simp; done) | (simp; omega) | omega) _)) hc8
    replace P_0 := cell_later hst8 P_0
    replace P_1 := cell_later hst8 P_1
    replace P_2 := cell_later hst8 P_2
    replace P_l := Nat.lt_of_lt_of_le P_l hst8.size
    replace O_0 := cell_later hst8 O_0
    replace O_1 := cell_later hst8 O_1
    replace O_2 := cell_later hst8 O_2
    replace O_l := Nat.lt_of_lt_of_le O_l hst8.size
    replace A_0 := cell_later hst8 A_0
    replace A_1 := cell_later hst8 A_1
    replace A_2 := cell_later hst8 A_2
    replace A_l := Nat.lt_of_lt_of_le A_l hst8.size
    replace B_0 := cell_later hst8 B_0
    replace B_1 := cell_later hst8 B_1
    replace B_2 := cell_later hst8 B_2
    replace B_l := Nat.lt_of_lt_of_le B_l hst8.size
    replace X_0 := cell_later hst8 X_0
    replace X_1 := cell_later hst8 X_1
    replace X_2 := cell_later hst8 X_2
    replace X_l := Nat.lt_of_lt_of_le X_l hst8.size
    replace Y_0 := cell_later hst8 Y_0
    replace Y_1 := cell_later hst8 Y_1
    replace Y_2 := cell_later hst8 Y_2
    replace Y_l := Nat.lt_of_lt_of_le Y_l hst8.size
    replace R_0 := cell_later hst8 R_0
    replace R_1 := cell_later hst8 R_1
    replace R_2 := cell_later hst8 R_2
    replace R_l := Nat.lt_of_lt_of_le R_l hst8.size
    have S_0 : w8.cell? ⟨w7.heap.size, 0, none⟩ = some (.int .i64 (chRecv ⟨C, xs, cl⟩).1.cap) := (hc8.cell (p := ⟨w7.heap.size, 0, none⟩) (by first | (simp; done) | (simp; omega))).trans (by simp)
    have S_1 : w8.cell? ⟨w7.heap.size, 1, none⟩ = some (.slice a6 (chRecv ⟨C, xs, cl⟩).1.items.length c6) := (hc8.cell (p := ⟨w7.heap.size, 1, none⟩) (by first | (simp; done) | (simp; omega))).trans (by simp)
    have S_2 : w8.cell? ⟨w7.heap.size, 2, none⟩ = some (.bool (chRecv ⟨C, xs, cl⟩).1.closed) := (hc8.cell (p := ⟨w7.heap.size, 2, none⟩) (by first | (simp; done) | (simp; omega))).trans (by simp)
    have S_l : w7.heap.size < w8.heap.size := Nat.lt_of_lt_of_le (by first | (simp; done) | (simp; omega)) hc8.size
    replace hc := hc.later hst8
    replace ko := ko.later hst8
    replace k1 := k1.later hst8
    replace k2 := k2.later hst8
    replace k3 := k3.later hst8
    replace k4 := k4.later hst8
    replace k5 := k5.later hst8
    replace k6 := k6.later hst8
    clear hst8
    clear hc8 hb7
    rw [sameB_self]
    clear A_0 A_1 A_2 A_l
    clear B_0 B_1 B_2 B_l
    clear k1
    clear k2
    go_wp2_with fail
    refine (same_any _ _ _ _ _ _ a3 a4 c3 c4 _ (by repeat' (first | with_reducible exact k3 | with_reducible refine CellsAt.setFar ?_ ?_ _ | with_reducible refine CellsAt.alloc ?_ _ | with_reducible refine CellsAt.drew ?_ | assumption | (simp; omega) | omega)) (by repeat' (first | with_reducible exact k4 | with_reducible refine CellsAt.setFar ?_ ?_ _ | with_reducible refine CellsAt.alloc ?_ _ | with_reducible refine CellsAt.drew ?_ | assumption | (simp; omega) | omega)) H_hl2.out).mono ?_
    rintro e w9 ⟨rfl, hc9⟩
    have hb9 : Below w.heap.size w w9 := bchain (by repeat' (first | exact hb8 | refine Below.drew ?_ | refine Below.alloc ?_ (by have := hb8.size; first | (simp; done) | (simp; omega) | omega) _ | refine Below.setCell ?_ (by first | (simp; done) | (simp; omega) | omega) _)) hc9
    have hst9 : Below w8.heap.size w8 w9 := bchain (by repeat' (first | exact Below.refl _ _ | refine Below.drew ?_ | refine Below.alloc ?_ (by simp) _ | refine Below.alloc ?_ (by simp; omega) _ | refine Below.setCell ?_ (by first | (simp; done) | (simp; omega) | omega) _)) hc9
    replace P_0 := cell_later hst9 P_0
    replace P_1 := cell_later hst9 P_1
    replace P_2 := cell_later hst9 P_2
    replace P_l := Nat.lt_of_lt_of_le P_l hst9.size
    replace O_0 := cell_later hst9 O_0
    replace O_1 := cell_later hst9 O_1
    replace O_2 := cell_later hst9 O_2
    replace O_l := Nat.lt_of_lt_of_le O_l hst9.size
    replace X_0 := cell_later hst9 X_0
    replace X_1 := cell_later hst9 X_1
    replace X_2 := cell_later hst9 X_2
    replace X_l := Nat.lt_of_lt_of_le X_l hst9.size
    replace Y_0 := cell_later hst9 Y_0
    replace Y_1 := cell_later hst9 Y_1
    replace Y_2 := cell_later hst9 Y_2
    replace Y_l := Nat.lt_of_lt_of_le Y_l hst9.size
    replace R_0 := cell_later hst9 R_0
    replace R_1 := cell_later hst9 R_1
    replace R_2 := cell_later hst9 R_2
    replace R_l := Nat.lt_of_lt_of_le R_l hst9.size
    replace S_0 := cell_later hst9 S_0
    replace S_1 := cell_later hst9 S_1
    replace S_2 := cell_later hst9 S_2
    replace S_l := Nat.lt_of_lt_of_le S_l hst9.size
    replace hc := hc.later hst9
    replace ko := ko.later hst9
    replace k3 := k3.later hst9
    replace k4 := k4.later hst9
    replace k5 := k5.later hst9
    replace k6 := k6.later hst9
    clear hst9
    clear hc9 hb8
    rw [sameB_self]
    clear X_0 X_1 X_2 X_l
    clear Y_0 Y_1 Y_2 Y_l
    clear k3
    clear k4
    go_wp2_with fail
    refine (same_any _ _ _ _ _ _ a5 a6 c5 c6 _ (by repeat' (first | with_reducible exact k5 | with_reducible refine CellsAt.setFar ?_ ?_ _ | with_reducible refine CellsAt.alloc ?_ _ | with_reducible refine CellsAt.drew ?_ | assumption | (simp; omega) | omega)) (by repeat' (first | with_reducible exact k6 | with_reducible refine CellsAt.setFar ?_ ?_ _ | with_reducible refine CellsAt.alloc ?_ _ | with_reducible refine CellsAt.drew ?_ | assumption | (simp; omega) | omega)) H_hl3.out).mono ?_
    rintro e w10 ⟨rfl, hc10⟩
    have hb10 : Below w.heap.size w w10 := bchain (by repeat' (first | exact hb9 | refine Below.drew ?_ | refine Below.alloc ?_ (by have := hb9.size; first | (simp; done) | (simp; omega) | omega) _ | refine Below.setCell ?_ (by first | (simp; done) | (simp; omega) | omega) _)) hc10
    have hst10 : Below w9.heap.size w9 w10 := bchain (by repeat' (first | exact Below.refl _ _ | refine Below.drew ?_ | refine Below.alloc ?_ (by simp) _ | refine Below.alloc ?_ (by simp; omega) _ | refine Below.setCell ?_ (by first | (simp; done) | (simp; omega) | omega) _)) hc10
    replace P_0 := cell_later hst10 P_0
    replace P_1 := cell_later hst10 P_1
    replace P_2 := cell_later hst10 P_2
    replace P_l := Nat.lt_of_lt_of_le P_l hst10.size
    replace O_0 := cell_later hst10 O_0
    replace O_1 := cell_later hst10 O_1
    replace O_2 := cell_later hst10 O_2
    replace O_l := Nat.lt_of_lt_of_le O_l hst10.size
    replace R_0 := cell_later hst10 R_0
    replace R_1 := cell_later hst10 R_1
    replace R_2 := cell_later hst10 R_2
    replace R_l := Nat.lt_of_lt_of_le R_l hst10.size
    replace S_0 := cell_later hst10 S_0
    replace S_1 := cell_later hst10 S_1
    replace S_2 := cell_later hst10 S_2
    replace S_l := Nat.lt_of_lt_of_le S_l hst10.size
    replace hc := hc.later hst10
    replace ko := ko.later hst10
    replace k5 := k5.later hst10
    replace k6 := k6.later hst10
    clear hst10
    clear hc10 hb9
    rw [sameB_self]
    clear R_0 R_1 R_2 R_l
    clear S_0 S_1 S_2 S_l
    clear k5
    clear k6
    go_wp2_with fail
    refine (close_any C xs cl a0 c0 _ (by repeat' (first | with_reducible exact ko | with_reducible refine CellsAt.setFar ?_ ?_ _ | with_reducible refine CellsAt.alloc ?_ _ | with_reducible refine CellsAt.drew ?_ | assumption | (simp; omega) | omega))).mono ?_
    rintro e w11 ⟨⟨a7, c7, rfl, k7, _⟩, hc11⟩
    have hb11 : Below w.heap.size w w11 := bchain (by repeat' (first | exact hb10 | refine Below.drew ?_ | refine Below.alloc ?_ (by have := hb10.size; first | (simp; done) | (simp; omega) | omega) _ | refine Below.setCell ?_ (by first | (simp; done) | (simp; omega) | omega) _)) hc11
    have hst11 : Below w10.heap.size w10 w11 := bchain (by repeat' (first | exact Below.refl _ _ | refine Below.drew ?_ | refine Below.alloc ?_ (by simp) _ | refine Below.alloc ?_ (by simp; omega) _ | refine Below.setCell ?_ (by first | (simp; done) | (simp; omega) | omega) _)) hc11
    replace P_0 := cell_later hst11 P_0
    replace P_1 := cell_later hst11 P_1
    replace P_2 := cell_later hst11 P_2
    replace P_l := Nat.lt_of_lt_of_le P_l hst11.size
    replace O_0 := cell_later hst11 O_0
    replace O_1 := cell_later hst11 O_1
    replace O_2 := cell_later hst11 O_2
    replace O_l := Nat.lt_of_lt_of_le O_l hst11.size
    replace hc := hc.later hst11
    replace ko := ko.later hst11
    clear hst11
    clear hc11 hb10
    go_wp2_with fail
    refine (rclose_any C xs cl a cp _ (by repeat' (first | with_reducible exact hc | with_reducible refine CellsAt.setFar ?_ ?_ _ | with_reducible refine CellsAt.alloc ?_ _ | with_reducible refine CellsAt.drew ?_ | assumption | (simp; omega) | omega))).mono ?_
    rintro e w12 ⟨⟨a8, c8, rfl, k8, _⟩, hc12⟩
    have hb12 : Below w.heap.size w w12 := bchain (by repeat' (first | exact hb11 | refine Below.drew ?_ | refine Below.alloc ?_ (by have := hb11.size; first | (simp; done) | (simp; omega) | omega) _ | refine Below.setCell ?_ (by first | (simp; done) | (simp; omega) | omega) _)) hc12
    have hst12 : Below w11.heap.size w11 w12 := bchain (by repeat' (first | exact Below.refl _ _ | refine Below.drew ?_ | refine Below.alloc ?_ (by simp) _ | refine Below.alloc ?_ (by simp; omega) _ | refine Below.setCell ?_ (by first | (simp; done) | (simp; omega) | omega) _)) hc12
    replace P_0 := cell_later hst12 P_0
    replace P_1 := cell_later hst12 P_1
    replace P_2 := cell_later hst12 P_2
    replace P_l := Nat.lt_of_lt_of_le P_l hst12.size
    replace O_0 := cell_later hst12 O_0
    replace O_1 := cell_later hst12 O_1
    replace O_2 := cell_later hst12 O_2
    replace O_l := Nat.lt_of_lt_of_le O_l hst12.size
    have U_0 : w12.cell? ⟨w11.heap.size, 0, none⟩ = some (.int .i64 (chClose ⟨C, xs, cl⟩).1.cap) := (hc12.cell (p := ⟨w11.heap.size, 0, none⟩) (by first | (simp; done) | (simp; omega))).trans (by simp)
    have U_1 : w12.cell? ⟨w11.heap.size, 1, none⟩ = some (.slice a7 (chClose ⟨C, xs, cl⟩).1.items.length c7) := (hc12.cell (p := ⟨w11.heap.size, 1, none⟩) (by first | (simp; done) | (simp; omega))).trans (by simp)
    have U_2 : w12.cell? ⟨w11.heap.size, 2, none⟩ = some (.bool (chClose ⟨C, xs, cl⟩).1.closed) := (hc12.cell (p := ⟨w11.heap.size, 2, none⟩) (by first | (simp; done) | (simp; omega))).trans (by simp)
    have U_l : w11.heap.size < w12.heap.size := Nat.lt_of_lt_of_le (by first | (simp; done) | (simp; omega)) hc12.size
    replace hc := hc.later hst12
    replace ko := ko.later hst12
    replace k7 := k7.later hst12
    clear hst12
    clear hc12 hb11
    go_wp2_with fail
    refine (room_any C xs cl a0 c0 _).mono ?_
    rintro e w13 ⟨rfl, hc13⟩
    have hb13 : Below w.heap.size w w13 := bchain (by repeat' (first | exact hb12 | refine Below.drew ?_ | refine Below.alloc ?_ (by have := hb12.size; first | (simp; done) | (simp; omega) | omega) _ | refine Below.setCell ?_ (by first | (simp; done) | (simp; omega) | omega) _)) hc13
    have hst13 : Below w12.heap.size w12 w13 := bchain (by repeat' (first | exact Below.refl _ _ | refine Below.drew ?_ | refine Below.alloc ?_ (by simp) _ | refine Below.alloc ?_ (by simp; omega) _ | refine Below.setCell ?_ (by first | (simp; done) | (simp; omega) | omega) _)) hc13
    replace P_0 := cell_later hst13 P_0
    replace P_1 := cell_later hst13 P_1
    replace P_2 := cell_later hst13 P_2
    replace P_l := Nat.lt_of_lt_of_le P_l hst13.size
    replace O_0 := cell_later hst13 O_0
    replace O_1 := cell_later hst13 O_1
    replace O_2 := cell_later hst13 O_2
    replace O_l := Nat.lt_of_lt_of_le O_l hst13.size
    replace U_0 := cell_later hst13 U_0
    replace U_1 := cell_later hst13 U_1
    replace U_2 := cell_later hst13 U_2
    replace U_l := Nat.lt_of_lt_of_le U_l hst13.size
    have V_0 : w13.cell? ⟨w12.heap.size, 0, none⟩ = some (.int .i64 (chClose ⟨C, xs, cl⟩).1.cap) := (hc13.cell (p := ⟨w12.heap.size, 0, none⟩) (by first | (simp; done) | (simp; omega))).trans (by simp)
    have V_1 : w13.cell? ⟨w12.heap.size, 1, none⟩ = some (.slice a8 (chClose ⟨C, xs, cl⟩).1.items.length c8) := (hc13.cell (p := ⟨w12.heap.size, 1, none⟩) (by first | (simp; done) | (simp; omega))).trans (by simp)
    have V_2 : w13.cell? ⟨w12.heap.size, 2, none⟩ = some (.bool (chClose ⟨C, xs, cl⟩).1.closed) := (hc13.cell (p := ⟨w12.heap.size, 2, none⟩) (by first | (simp; done) | (simp; omega))).trans (by simp)
    have V_l : w12.heap.size < w13.heap.size := Nat.lt_of_lt_of_le (by first | (simp; done) | (simp; omega)) hc13.size
    replace hc := hc.later hst13
    replace ko := ko.later hst13
    replace k7 := k7.later hst13
    replace k8 := k8.later hst13
    clear hst13
    clear hc13 hb12
    go_wp2_with fail
    refine (rroom_any C xs cl a cp _).mono ?_
    rintro e w14 ⟨rfl, hc14⟩
    have hb14 : Below w.heap.size w w14 := bchain (by repeat' (first | exact hb13 | refine Below.drew ?_ | refine Below.alloc ?_ (by have := hb13.size; first | (simp; done) | (simp; omega) | omega) _ | refine Below.setCell ?_ (by first | (simp; done) | (simp; omega) | omega) _)) hc14
    have hst14 : Below w13.heap.size w13 w14 := bchain (by repeat' (first | exact Below.refl _ _ | refine Below.drew ?_ | refine Below.alloc ?_ (by simp) _ | refine Below.alloc ?_ (by simp; omega) _ | refine Below.setCell ?_ (by first | (simp; done) | (simp; omega) | omega) _)) hc14
    replace P_0 := cell_later hst14 P_0
    replace P_1 := cell_later hst14 P_1
    replace P_2 := cell_later hst14 P_2
    replace P_l := Nat.lt_of_lt_of_le P_l hst14.size
    replace O_0 := cell_later hst14 O_0
    replace O_1 := cell_later hst14 O_1
    replace O_2 := cell_later hst14 O_2
    replace O_l := Nat.lt_of_lt_of_le O_l hst14.size
    replace U_0 := cell_later hst14 U_0
    replace U_1 := cell_later hst14 U_1
    replace U_2 := cell_later hst14 U_2
    replace U_l := Nat.lt_of_lt_of_le U_l hst14.size
    replace V_0 := cell_later hst14 V_0
    replace V_1 := cell_later hst14 V_1
    replace V_2 := cell_later hst14 V_2
    replace V_l := Nat.lt_of_lt_of_le V_l hst14.size
    replace hc := hc.later hst14
    replace ko := ko.later hst14
    replace k7 := k7.later hst14
    replace k8 := k8.later hst14
    clear hst14
    clear hc14 hb13
    go_wp2_with fail
    go_region_held3 (fun w' => w'.cell? ⟨w11.heap.size, 0, none⟩ = some (.int .i64 (chClose ⟨C, xs, cl⟩).1.cap) ∧ w'.cell? ⟨w11.heap.size, 1, none⟩ = some (.slice a7 (chClose ⟨C, xs, cl⟩).1.items.length c7) ∧ w'.cell? ⟨w11.heap.size, 2, none⟩ = some (.bool (chClose ⟨C, xs, cl⟩).1.closed) ∧ w'.cell? ⟨w12.heap.size, 0, none⟩ = some (.int .i64 (chClose ⟨C, xs, cl⟩).1.cap) ∧ w'.cell? ⟨w12.heap.size, 1, none⟩ = some (.slice a8 (chClose ⟨C, xs, cl⟩).1.items.length c8) ∧ w'.cell? ⟨w12.heap.size, 2, none⟩ = some (.bool (chClose ⟨C, xs, cl⟩).1.closed) ∧ w'.cell? ⟨w1.heap.size, 0, none⟩ = some (.int .i64 C) ∧ w'.cell? ⟨w1.heap.size, 1, none⟩ = some (.slice a0 xs.length c0) ∧ w'.cell? ⟨w1.heap.size, 2, none⟩ = some (.bool cl) ∧ w'.cell? ⟨w.heap.size, 0, none⟩ = some (.int .i64 C) ∧ w'.cell? ⟨w.heap.size, 1, none⟩ = some (.slice a xs.length cp) ∧ w'.cell? ⟨w.heap.size, 2, none⟩ = some (.bool cl)) (first | exact ⟨U_0, U_1, U_2, V_0, V_1, V_2, O_0, O_1, O_2, P_0, P_1, P_2⟩ | go_keep) ((first | (go_at_call 20; with_reducible refine (check_any C xs cl a0 c0 _).mono ?_; rintro e w15 ⟨rfl, hc15⟩; (have hb15 : Below w.heap.size w w15 := bchain (by repeat' (first | exact hb14 | refine Below.drew ?_ | refine Below.alloc ?_ (by have := hb14.size; first | (simp; done) | (simp; omega) | omega) _ | refine Below.setCell ?_ (by first | (simp; done) | (simp; omega) | omega) _)) hc15); (have hst15 : Below w14.heap.size w14 w15 := bchain (by repeat' (first | exact Below.refl _ _ | refine Below.drew ?_ | refine Below.alloc ?_ (by simp) _ | refine Below.alloc ?_ (by simp; omega) _ | refine Below.setCell ?_ (by first | (simp; done) | (simp; omega) | omega) _)) hc15); (replace P_0 := cell_later hst15 P_0); (replace P_1 := cell_later hst15 P_1); (replace P_2 := cell_later hst15 P_2); (replace P_l := Nat.lt_of_lt_of_le P_l hst15.size); (replace O_0 := cell_later hst15 O_0); (replace O_1 := cell_later hst15 O_1); (replace O_2 := cell_later hst15 O_2); (replace O_l := Nat.lt_of_lt_of_le O_l hst15.size); (replace U_0 := cell_later hst15 U_0); (replace U_1 := cell_later hst15 U_1); (replace U_2 := cell_later hst15 U_2); (replace U_l := Nat.lt_of_lt_of_le U_l hst15.size); (replace V_0 := cell_later hst15 V_0); (replace V_1 := cell_later hst15 V_1); (replace V_2 := cell_later hst15 V_2); (replace V_l := Nat.lt_of_lt_of_le V_l hst15.size); (replace hc := hc.later hst15); (replace ko := ko.later hst15); (replace k7 := k7.later hst15); (replace k8 := k8.later hst15); clear hst15; clear hc15 hb14) | (go_at_call 21; with_reducible refine (rcheck_any C xs cl a cp _).mono ?_; rintro e w16 ⟨rfl, hc16⟩; (have hb16 : Below w.heap.size w w16 := bchain (by repeat' (first | exact hb15 | refine Below.drew ?_ | refine Below.alloc ?_ (by have := hb15.size; first | (simp; done) | (simp; omega) | omega) _ | refine Below.setCell ?_ (by first | (simp; done) | (simp; omega) | omega) _)) hc16); (have hst16 : Below w15.heap.size w15 w16 := bchain (by repeat' (first | exact Below.refl _ _ | refine Below.drew ?_ | refine Below.alloc ?_ (by simp) _ | refine Below.alloc ?_ (by simp; omega) _ | refine Below.setCell ?_ (by first | (simp; done) | (simp; omega) | omega) _)) hc16); (replace P_0 := cell_later hst16 P_0); (replace P_1 := cell_later hst16 P_1); (replace P_2 := cell_later hst16 P_2); (replace P_l := Nat.lt_of_lt_of_le P_l hst16.size); (replace O_0 := cell_later hst16 O_0); (replace O_1 := cell_later hst16 O_1); (replace O_2 := cell_later hst16 O_2); (replace O_l := Nat.lt_of_lt_of_le O_l hst16.size); (replace U_0 := cell_later hst16 U_0); (replace U_1 := cell_later hst16 U_1); (replace U_2 := cell_later hst16 U_2); (replace U_l := Nat.lt_of_lt_of_le U_l hst16.size); (replace V_0 := cell_later hst16 V_0); (replace V_1 := cell_later hst16 V_1); (replace V_2 := cell_later hst16 V_2); (replace V_l := Nat.lt_of_lt_of_le V_l hst16.size); (replace hc := hc.later hst16); (replace ko := ko.later hst16); (replace k7 := k7.later hst16); (replace k8 := k8.later hst16); clear hst16; clear hc16 hb15) | (go_at_call 15; with_reducible refine (same_self _ _ _ a7 a8 c7 c8 _ k7 k8 H_hl4.out).mono ?_; rintro e w17 ⟨rfl, hc17⟩; (have hb17 : Below w.heap.size w w17 := bchain (by repeat' (first | exact hb16 | refine Below.drew ?_ | refine Below.alloc ?_ (by have := hb16.size; first | (simp; done) | (simp; omega) | omega) _ | refine Below.setCell ?_ (by first | (simp; done) | (simp; omega) | omega) _)) hc17); (have hst17 : Below w16.heap.size w16 w17 := bchain (by repeat' (first | exact Below.refl _ _ | refine Below.drew ?_ | refine Below.alloc ?_ (by simp) _ | refine Below.alloc ?_ (by simp; omega) _ | refine Below.setCell ?_ (by first | (simp; done) | (simp; omega) | omega) _)) hc17); (replace P_0 := cell_later hst17 P_0); (replace P_1 := cell_later hst17 P_1); (replace P_2 := cell_later hst17 P_2); (replace P_l := Nat.lt_of_lt_of_le P_l hst17.size); (replace O_0 := cell_later hst17 O_0); (replace O_1 := cell_later hst17 O_1); (replace O_2 := cell_later hst17 O_2); (replace O_l := Nat.lt_of_lt_of_le O_l hst17.size); (replace U_0 := cell_later hst17 U_0); (replace U_1 := cell_later hst17 U_1); (replace U_2 := cell_later hst17 U_2); (replace U_l := Nat.lt_of_lt_of_le U_l hst17.size); (replace V_0 := cell_later hst17 V_0); (replace V_1 := cell_later hst17 V_1); (replace V_2 := cell_later hst17 V_2); (replace V_l := Nat.lt_of_lt_of_le V_l hst17.size); (replace hc := hc.later hst17); (replace ko := ko.later hst17); (replace k7 := k7.later hst17); (replace k8 := k8.later hst17); clear hst17; clear hc17 hb16) | (go_at_call 15; with_reducible refine (same_self C xs cl a0 a c0 cp _ ko hc H_hl5.out).mono ?_; rintro e w18 ⟨rfl, hc18⟩; (have hb18 : Below w.heap.size w w18 := bchain (by repeat' (first | exact hb17 | refine Below.drew ?_ | refine Below.alloc ?_ (by have := hb17.size; first | (simp; done) | (simp; omega) | omega) _ | refine Below.setCell ?_ (by first | (simp; done) | (simp; omega) | omega) _)) hc18); (have hst18 : Below w17.heap.size w17 w18 := bchain (by repeat' (first | exact Below.refl _ _ | refine Below.drew ?_ | refine Below.alloc ?_ (by simp) _ | refine Below.alloc ?_ (by simp; omega) _ | refine Below.setCell ?_ (by first | (simp; done) | (simp; omega) | omega) _)) hc18); (replace P_0 := cell_later hst18 P_0); (replace P_1 := cell_later hst18 P_1); (replace P_2 := cell_later hst18 P_2); (replace P_l := Nat.lt_of_lt_of_le P_l hst18.size); (replace O_0 := cell_later hst18 O_0); (replace O_1 := cell_later hst18 O_1); (replace O_2 := cell_later hst18 O_2); (replace O_l := Nat.lt_of_lt_of_le O_l hst18.size); (replace U_0 := cell_later hst18 U_0); (replace U_1 := cell_later hst18 U_1); (replace U_2 := cell_later hst18 U_2); (replace U_l := Nat.lt_of_lt_of_le U_l hst18.size); (replace V_0 := cell_later hst18 V_0); (replace V_1 := cell_later hst18 V_1); (replace V_2 := cell_later hst18 V_2); (replace V_l := Nat.lt_of_lt_of_le V_l hst18.size); (replace hc := hc.later hst18); (replace ko := ko.later hst18); (replace k7 := k7.later hst18); (replace k8 := k8.later hst18); clear hst18; clear hc18 hb17)))
    go_wp2_with fail
    go_ret
    exact ⟨rfl, by repeat' (first | exact hb18 | refine Below.drew ?_ | refine Below.alloc ?_ (by have := hb18.size; first | (simp; done) | (simp; omega) | omega) _ | refine Below.setCell ?_ (by first | (simp; done) | (simp; omega) | omega) _)⟩

end Go.Proofs.Yteajfhodfpjplaa
