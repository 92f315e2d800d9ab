/- The laws on channels: ChannelBack. -/
import Derived.Test.YteajfhodfpjplaaChannelLaws
namespace Go.Proofs.Yteajfhodfpjplaa
set_option linter.unusedSimpArgs false
set_option linter.unusedVariables false
set_option linter.unnecessarySimpa false
open Go.RowKit

set_option maxRecDepth 100000 in
set_option maxHeartbeats 4000000 in
theorem back_walk (C : Int) (xs : List Int) (cl : Bool) (a : Option Addr) (cp : Nat) (v : Int) (w : World) (hin : ChanIn w C xs a) (wv : (Lit.int .u64 v).wf = true) :
    Calls Try.prog 7 #[.agg #[.int .i64 C, .slice a xs.length cp, .bool cl], .int .u64 v] w fun e w' =>
      e = .returned (.bool true) ∧ Below w.heap.size w w' := by
  have hc := hin.cells
  have hl5 := hin.len
  clear wv hin
  rcases chErr_cases ⟨C, xs, cl⟩ with h8 | h8
  · obtain ⟨q1, q2, q3⟩ := chErr_ok h8
    simp only at q1 q2 q3
    cases cl with
    | true =>
      have e1 : chRoom ⟨C, xs, true⟩ = (0, 0) := by simp [chRoom, h8]
      have e2 : chSend ⟨C, xs, true⟩ v = (⟨0, [], false⟩, 36) := by simp [chSend, h8]; rfl
      have H_hl5 := hid hl5
      have H_h8 := hid h8
      have H_e1 := hid e1
      have H_e2 := hid e2
      clear hl5 h8 e1 e2
      go_enter Try.func7, Try.ntmps7
      have hb0 := Below.refl w.heap.size w
      go_wp2_with fail
      refine (alive_any _).mono ?_
      rintro e w1 ⟨rfl, hc1⟩
      have hb1 : Below w.heap.size w w1 := bchain (by repeat' (first | exact hb0 | refine Below.drew ?_ | refine Below.alloc ?_ (by have := hb0.size; first | (simp; done) | (simp; omega) | omega) _ | refine Below.setCell ?_ (by first | (simp; done) | (simp; omega) | omega) _)) hc1
      have hst1 : Below w.heap.size w w1 := bchain (by repeat' (first | exact Below.refl _ _ | refine Below.drew ?_ | refine Below.alloc ?_ (by simp) _ | refine Below.alloc ?_ (by simp; omega) _ | refine Below.setCell ?_ (by first | (simp; done) | (simp; omega) | omega) _)) hc1
      have P_0 : w1.cell? ⟨w.heap.size, 0, none⟩ = some (.int .i64 C) := (hc1.cell (p := ⟨w.heap.size, 0, none⟩) (by first | (simp; done) | (simp; omega))).trans (by simp)
      have P_1 : w1.cell? ⟨w.heap.size, 1, none⟩ = some (.slice a xs.length cp) := (hc1.cell (p := ⟨w.heap.size, 1, none⟩) (by first | (simp; done) | (simp; omega))).trans (by simp)
      have P_2 : w1.cell? ⟨w.heap.size, 2, none⟩ = some (.bool true) := (hc1.cell (p := ⟨w.heap.size, 2, none⟩) (by first | (simp; done) | (simp; omega))).trans (by simp)
      have P_l : w.heap.size < w1.heap.size := Nat.lt_of_lt_of_le (by first | (simp; done) | (simp; omega)) hc1.size
      replace hc := hc.later hst1
      clear hst1
      clear hc1 hb0
      go_wp2_with fail
      refine (rcheck_any C xs true a cp _).mono ?_
      rintro e w2 ⟨rfl, hc2⟩
      have hb2 : Below w.heap.size w w2 := bchain (by repeat' (first | exact hb1 | refine Below.drew ?_ | refine Below.alloc ?_ (by have := hb1.size; first | (simp; done) | (simp; omega) | omega) _ | refine Below.setCell ?_ (by first | (simp; done) | (simp; omega) | omega) _)) hc2
      have hst2 : Below w1.heap.size w1 w2 := bchain (by repeat' (first | exact Below.refl _ _ | refine Below.drew ?_ | refine Below.alloc ?_ (by simp) _ | refine Below.alloc ?_ (by simp; omega) _ | refine Below.setCell ?_ (by first | (simp; done) | (simp; omega) | omega) _)) hc2
      replace P_0 := cell_later hst2 P_0
      replace P_1 := cell_later hst2 P_1
      replace P_2 := cell_later hst2 P_2
      replace P_l := Nat.lt_of_lt_of_le P_l hst2.size
      replace hc := hc.later hst2
      clear hst2
      clear hc2 hb1
      rw [H_h8.out]
      go_wp2_with fail
      refine (room_r C xs true a _ cp _ rfl _ _ H_e1.out).mono ?_
      rintro e w3 ⟨rfl, hc3⟩
      have hb3 : Below w.heap.size w w3 := bchain (by repeat' (first | exact hb2 | refine Below.drew ?_ | refine Below.alloc ?_ (by have := hb2.size; first | (simp; done) | (simp; omega) | omega) _ | refine Below.setCell ?_ (by first | (simp; done) | (simp; omega) | omega) _)) hc3
      have hst3 : Below w2.heap.size w2 w3 := bchain (by repeat' (first | exact Below.refl _ _ | refine Below.drew ?_ | refine Below.alloc ?_ (by simp) _ | refine Below.alloc ?_ (by simp; omega) _ | refine Below.setCell ?_ (by first | (simp; done) | (simp; omega) | omega) _)) hc3
      replace P_0 := cell_later hst3 P_0
      replace P_1 := cell_later hst3 P_1
      replace P_2 := cell_later hst3 P_2
      replace P_l := Nat.lt_of_lt_of_le P_l hst3.size
      replace hc := hc.later hst3
      clear hst3
      clear hc3 hb2
      go_wp2_with fail
      refine (send_r C xs true a _ cp v _ rfl (by repeat' (first | with_reducible exact hc | with_reducible refine CellsAt.setFar ?_ ?_ _ | with_reducible refine CellsAt.alloc ?_ _ | with_reducible refine CellsAt.drew ?_ | assumption | (simp; omega) | omega)) _ _ _ _ H_e2.out).mono ?_
      rintro e w4 ⟨⟨a1, c1, rfl, k1⟩, hc4⟩
      have hb4 : Below w.heap.size w w4 := bchain (by repeat' (first | exact hb3 | refine Below.drew ?_ | refine Below.alloc ?_ (by have := hb3.size; first | (simp; done) | (simp; omega) | omega) _ | refine Below.setCell ?_ (by first | (simp; done) | (simp; omega) | omega) _)) hc4
      have hst4 : Below w3.heap.size w3 w4 := bchain (by repeat' (first | exact Below.refl _ _ | refine Below.drew ?_ | refine Below.alloc ?_ (by simp) _ | refine Below.alloc ?_ (by simp; omega) _ | refine Below.setCell ?_ (by first | (simp; done) | (simp; omega) | omega) _)) hc4
      replace P_0 := cell_later hst4 P_0
      replace P_1 := cell_later hst4 P_1
      replace P_2 := cell_later hst4 P_2
      replace P_l := Nat.lt_of_lt_of_le P_l hst4.size
      replace hc := hc.later hst4
      clear hst4
      clear hc4 hb3
      go_wp2_with fail
      go_ret
      exact ⟨rfl, by repeat' (first | exact hb4 | refine Below.drew ?_ | refine Below.alloc ?_ (by have := hb4.size; first | (simp; done) | (simp; omega) | omega) _ | refine Below.setCell ?_ (by first | (simp; done) | (simp; omega) | omega) _)⟩
    | false =>
      by_cases hfull : (xs.length : Int) = C
      · have e1 : chRoom ⟨C, xs, false⟩ = (0, 0) := by simp [chRoom, h8, hfull]
        have e2 : chSend ⟨C, xs, false⟩ v = (⟨0, [], false⟩, 38) := by simp [chSend, h8, hfull]; rfl
        have H_hl5 := hid hl5
        have H_h8 := hid h8
        have H_e1 := hid e1
        have H_e2 := hid e2
        have H_hfull := hid hfull
        clear hl5 h8 e1 e2 hfull
        go_enter Try.func7, Try.ntmps7
        have hb0 := Below.refl w.heap.size w
        go_wp2_with fail
        refine (alive_any _).mono ?_
        rintro e w1 ⟨rfl, hc1⟩
        have hb1 : Below w.heap.size w w1 := bchain (by repeat' (first | exact hb0 | refine Below.drew ?_ | refine Below.alloc ?_ (by have := hb0.size; first | (simp; done) | (simp; omega) | omega) _ | refine Below.setCell ?_ (by first | (simp; done) | (simp; omega) | omega) _)) hc1
        have hst1 : Below w.heap.size w w1 := bchain (by repeat' (first | exact Below.refl _ _ | refine Below.drew ?_ | refine Below.alloc ?_ (by simp) _ | refine Below.alloc ?_ (by simp; omega) _ | refine Below.setCell ?_ (by first | (simp; done) | (simp; omega) | omega) _)) hc1
        have P_0 : w1.cell? ⟨w.heap.size, 0, none⟩ = some (.int .i64 C) := (hc1.cell (p := ⟨w.heap.size, 0, none⟩) (by first | (simp; done) | (simp; omega))).trans (by simp)
        have P_1 : w1.cell? ⟨w.heap.size, 1, none⟩ = some (.slice a xs.length cp) := (hc1.cell (p := ⟨w.heap.size, 1, none⟩) (by first | (simp; done) | (simp; omega))).trans (by simp)
        have P_2 : w1.cell? ⟨w.heap.size, 2, none⟩ = some (.bool false) := (hc1.cell (p := ⟨w.heap.size, 2, none⟩) (by first | (simp; done) | (simp; omega))).trans (by simp)
        have P_l : w.heap.size < w1.heap.size := Nat.lt_of_lt_of_le (by first | (simp; done) | (simp; omega)) hc1.size
        replace hc := hc.later hst1
        clear hst1
        clear hc1 hb0
        go_wp2_with fail
        refine (rcheck_any C xs false a cp _).mono ?_
        rintro e w2 ⟨rfl, hc2⟩
        have hb2 : Below w.heap.size w w2 := bchain (by repeat' (first | exact hb1 | refine Below.drew ?_ | refine Below.alloc ?_ (by have := hb1.size; first | (simp; done) | (simp; omega) | omega) _ | refine Below.setCell ?_ (by first | (simp; done) | (simp; omega) | omega) _)) hc2
        have hst2 : Below w1.heap.size w1 w2 := bchain (by repeat' (first | exact Below.refl _ _ | refine Below.drew ?_ | refine Below.alloc ?_ (by simp) _ | refine Below.alloc ?_ (by simp; omega) _ | refine Below.setCell ?_ (by first | (simp; done) | (simp; omega) | omega) _)) hc2
        replace P_0 := cell_later hst2 P_0
        replace P_1 := cell_later hst2 P_1
        replace P_2 := cell_later hst2 P_2
        replace P_l := Nat.lt_of_lt_of_le P_l hst2.size
        replace hc := hc.later hst2
        clear hst2
        clear hc2 hb1
        rw [H_h8.out]
        go_wp2_with fail
        refine (room_r C xs false a _ cp _ rfl _ _ H_e1.out).mono ?_
        rintro e w3 ⟨rfl, hc3⟩
        have hb3 : Below w.heap.size w w3 := bchain (by repeat' (first | exact hb2 | refine Below.drew ?_ | refine Below.alloc ?_ (by have := hb2.size; first | (simp; done) | (simp; omega) | omega) _ | refine Below.setCell ?_ (by first | (simp; done) | (simp; omega) | omega) _)) hc3
        have hst3 : Below w2.heap.size w2 w3 := bchain (by repeat' (first | exact Below.refl _ _ | refine Below.drew ?_ | refine Below.alloc ?_ (by simp) _ | refine Below.alloc ?_ (by simp; omega) _ | refine Below.setCell ?_ (by first | (simp; done) | (simp; omega) | omega) _)) hc3
        replace P_0 := cell_later hst3 P_0
        replace P_1 := cell_later hst3 P_1
        replace P_2 := cell_later hst3 P_2
        replace P_l := Nat.lt_of_lt_of_le P_l hst3.size
        replace hc := hc.later hst3
        clear hst3
        clear hc3 hb2
        go_wp2_with fail
        refine (send_r C xs false a _ cp v _ rfl (by repeat' (first | with_reducible exact hc | with_reducible refine CellsAt.setFar ?_ ?_ _ | with_reducible refine CellsAt.alloc ?_ _ | with_reducible refine CellsAt.drew ?_ | assumption | (simp; omega) | omega)) _ _ _ _ H_e2.out).mono ?_
        rintro e w4 ⟨⟨a1, c1, rfl, k1⟩, hc4⟩
        have hb4 : Below w.heap.size w w4 := bchain (by repeat' (first | exact hb3 | refine Below.drew ?_ | refine Below.alloc ?_ (by have := hb3.size; first | (simp; done) | (simp; omega) | omega) _ | refine Below.setCell ?_ (by first | (simp; done) | (simp; omega) | omega) _)) hc4
        have hst4 : Below w3.heap.size w3 w4 := bchain (by repeat' (first | exact Below.refl _ _ | refine Below.drew ?_ | refine Below.alloc ?_ (by simp) _ | refine Below.alloc ?_ (by simp; omega) _ | refine Below.setCell ?_ (by first | (simp; done) | (simp; omega) | omega) _)) hc4
        replace P_0 := cell_later hst4 P_0
        replace P_1 := cell_later hst4 P_1
        replace P_2 := cell_later hst4 P_2
        replace P_l := Nat.lt_of_lt_of_le P_l hst4.size
        replace hc := hc.later hst4
        clear hst4
        clear hc4 hb3
        go_wp2_with fail
        go_ret
        exact ⟨rfl, by repeat' (first | exact hb4 | refine Below.drew ?_ | refine Below.alloc ?_ (by have := hb4.size; first | (simp; done) | (simp; omega) | omega) _ | refine Below.setCell ?_ (by first | (simp; done) | (simp; omega) | omega) _)⟩
      · have h9 : chErr ⟨C, xs ++ [v], false⟩ = 0 := by simp [chErr]; omega
        have e1 : chRoom ⟨C, xs, false⟩ = (C - xs.length, 0) := by simp [chRoom, h8]
        have e2 : chSend ⟨C, xs, false⟩ v = (⟨C, xs ++ [v], false⟩, 0) := by simp [chSend, h8, hfull]
        have e3 : chRoom ⟨C, xs ++ [v], false⟩ = (C - xs.length - 1, 0) := by simp [chRoom, h9]; omega
        have hpos : 0 < C - xs.length := by omega
        have hlt : (xs.length : Int) < C := by omega
        cases xs with
        | nil =>
          have e4 : chRecv ⟨C, [v], false⟩ = (⟨C, [], false⟩, v, true, 0) := by
            have h9' : chErr ⟨C, [v], false⟩ = 0 := h9
            simp [chRecv, h9']
          have hd : decide ((0 : Int) < C) = true := by simp; omega
          clear hpos hlt
          have H_hl5 := hid hl5
          have H_h8 := hid h8
          have H_h9 := hid h9
          have H_e1 := hid e1
          have H_e2 := hid e2
          have H_e3 := hid e3
          have H_e4 := hid e4
          have H_hfull := hid hfull
          clear hl5 h8 h9 e1 e2 e3 e4 hfull
          go_enter Try.func7, Try.ntmps7
          have hb0 := Below.refl w.heap.size w
          go_wp2_with fail
          refine (alive_any _).mono ?_
          rintro e w1 ⟨rfl, hc1⟩
          have hb1 : Below w.heap.size w w1 := bchain (by repeat' (first | exact hb0 | refine Below.drew ?_ | refine Below.alloc ?_ (by have := hb0.size; first | (simp; done) | (simp; omega) | omega) _ | refine Below.setCell ?_ (by first | (simp; done) | (simp; omega) | omega) _)) hc1
          have hst1 : Below w.heap.size w w1 := bchain (by repeat' (first | exact Below.refl _ _ | refine Below.drew ?_ | refine Below.alloc ?_ (by simp) _ | refine Below.alloc ?_ (by simp; omega) _ | refine Below.setCell ?_ (by first | (simp; done) | (simp; omega) | omega) _)) hc1
          have P_0 : w1.cell? ⟨w.heap.size, 0, none⟩ = some (.int .i64 C) := (hc1.cell (p := ⟨w.heap.size, 0, none⟩) (by first | (simp; done) | (simp; omega))).trans (by simp)
          have P_1 : w1.cell? ⟨w.heap.size, 1, none⟩ = some (.slice a 0 cp) := (hc1.cell (p := ⟨w.heap.size, 1, none⟩) (by first | (simp; done) | (simp; omega))).trans (by simp)
          have P_2 : w1.cell? ⟨w.heap.size, 2, none⟩ = some (.bool false) := (hc1.cell (p := ⟨w.heap.size, 2, none⟩) (by first | (simp; done) | (simp; omega))).trans (by simp)
          have P_l : w.heap.size < w1.heap.size := Nat.lt_of_lt_of_le (by first | (simp; done) | (simp; omega)) hc1.size
          replace hc := hc.later hst1
          clear hst1
          clear hc1 hb0
          go_wp2_with fail
          refine (rcheck_any C [] false a cp _).mono ?_
          rintro e w2 ⟨rfl, hc2⟩
          have hb2 : Below w.heap.size w w2 := bchain (by repeat' (first | exact hb1 | refine Below.drew ?_ | refine Below.alloc ?_ (by have := hb1.size; first | (simp; done) | (simp; omega) | omega) _ | refine Below.setCell ?_ (by first | (simp; done) | (simp; omega) | omega) _)) hc2
          have hst2 : Below w1.heap.size w1 w2 := bchain (by repeat' (first | exact Below.refl _ _ | refine Below.drew ?_ | refine Below.alloc ?_ (by simp) _ | refine Below.alloc ?_ (by simp; omega) _ | refine Below.setCell ?_ (by first | (simp; done) | (simp; omega) | omega) _)) hc2
          replace P_0 := cell_later hst2 P_0
          replace P_1 := cell_later hst2 P_1
          replace P_2 := cell_later hst2 P_2
          replace P_l := Nat.lt_of_lt_of_le P_l hst2.size
          replace hc := hc.later hst2
          clear hst2
          clear hc2 hb1
          rw [H_h8.out]
          go_wp2_with fail
          refine (room_r C [] false a _ cp _ rfl _ _ H_e1.out).mono ?_
          rintro e w3 ⟨rfl, hc3⟩
          have hb3 : Below w.heap.size w w3 := bchain (by repeat' (first | exact hb2 | refine Below.drew ?_ | refine Below.alloc ?_ (by have := hb2.size; first | (simp; done) | (simp; omega) | omega) _ | refine Below.setCell ?_ (by first | (simp; done) | (simp; omega) | omega) _)) hc3
          have hst3 : Below w2.heap.size w2 w3 := bchain (by repeat' (first | exact Below.refl _ _ | refine Below.drew ?_ | refine Below.alloc ?_ (by simp) _ | refine Below.alloc ?_ (by simp; omega) _ | refine Below.setCell ?_ (by first | (simp; done) | (simp; omega) | omega) _)) hc3
          replace P_0 := cell_later hst3 P_0
          replace P_1 := cell_later hst3 P_1
          replace P_2 := cell_later hst3 P_2
          replace P_l := Nat.lt_of_lt_of_le P_l hst3.size
          replace hc := hc.later hst3
          clear hst3
          clear hc3 hb2
          go_wp2_with fail
          refine (send_r C [] false a _ cp v _ rfl (by repeat' (first | with_reducible exact hc | with_reducible refine CellsAt.setFar ?_ ?_ _ | with_reducible refine CellsAt.alloc ?_ _ | with_reducible refine CellsAt.drew ?_ | assumption | (simp; omega) | omega)) _ _ _ _ H_e2.out).mono ?_
          rintro e w4 ⟨⟨a1, c1, rfl, k1⟩, hc4⟩
          have hb4 : Below w.heap.size w w4 := bchain (by repeat' (first | exact hb3 | refine Below.drew ?_ | refine Below.alloc ?_ (by have := hb3.size; first | (simp; done) | (simp; omega) | omega) _ | refine Below.setCell ?_ (by first | (simp; done) | (simp; omega) | omega) _)) hc4
          have hst4 : Below w3.heap.size w3 w4 := bchain (by repeat' (first | exact Below.refl _ _ | refine Below.drew ?_ | refine Below.alloc ?_ (by simp) _ | refine Below.alloc ?_ (by simp; omega) _ | refine Below.setCell ?_ (by first | (simp; done) | (simp; omega) | omega) _)) hc4
          replace P_0 := cell_later hst4 P_0
          replace P_1 := cell_later hst4 P_1
          replace P_2 := cell_later hst4 P_2
          replace P_l := Nat.lt_of_lt_of_le P_l hst4.size
          replace hc := hc.later hst4
          clear hst4
          clear hc4 hb3
          go_wp2_with fail
          refine (room_r C [v] false a1 _ c1 _ rfl _ _ H_e3.out).mono ?_
          rintro e w5 ⟨rfl, hc5⟩
          have hb5 : Below w.heap.size w w5 := bchain (by repeat' (first | exact hb4 | refine Below.drew ?_ | refine Below.alloc ?_ (by have := hb4.size; first | (simp; done) | (simp; omega) | omega) _ | refine Below.setCell ?_ (by first | (simp; done) | (simp; omega) | omega) _)) hc5
          have hst5 : Below w4.heap.size w4 w5 := bchain (by repeat' (first | exact Below.refl _ _ | refine Below.drew ?_ | refine Below.alloc ?_ (by simp) _ | refine Below.alloc ?_ (by simp; omega) _ | refine Below.setCell ?_ (by first | (simp; done) | (simp; omega) | omega) _)) hc5
          replace P_0 := cell_later hst5 P_0
          replace P_1 := cell_later hst5 P_1
          replace P_2 := cell_later hst5 P_2
          replace P_l := Nat.lt_of_lt_of_le P_l hst5.size
          have D_0 : w5.cell? ⟨w4.heap.size, 0, none⟩ = some (.int .i64 C) := (hc5.cell (p := ⟨w4.heap.size, 0, none⟩) (by first | (simp; done) | (simp; omega))).trans (by simp)
          have D_1 : w5.cell? ⟨w4.heap.size, 1, none⟩ = some (.slice a1 1 c1) := (hc5.cell (p := ⟨w4.heap.size, 1, none⟩) (by first | (simp; done) | (simp; omega))).trans (by simp)
          have D_2 : w5.cell? ⟨w4.heap.size, 2, none⟩ = some (.bool false) := (hc5.cell (p := ⟨w4.heap.size, 2, none⟩) (by first | (simp; done) | (simp; omega))).trans (by simp)
          have D_l : w4.heap.size < w5.heap.size := Nat.lt_of_lt_of_le (by first | (simp; done) | (simp; omega)) hc5.size
          replace hc := hc.later hst5
          replace k1 := k1.later hst5
          clear hst5
          clear hc5 hb4
          go_wp2_with fail
          refine (recv_r C [v] false a1 _ c1 _ rfl (by repeat' (first | with_reducible exact k1 | with_reducible refine CellsAt.setFar ?_ ?_ _ | with_reducible refine CellsAt.alloc ?_ _ | with_reducible refine CellsAt.drew ?_ | assumption | (simp; omega) | omega)) _ _ _ _ _ _ H_e4.out).mono ?_
          rintro e w6 ⟨⟨a2, c2, rfl, k2⟩, hc6⟩
          have hb6 : Below w.heap.size w w6 := bchain (by repeat' (first | exact hb5 | refine Below.drew ?_ | refine Below.alloc ?_ (by have := hb5.size; first | (simp; done) | (simp; omega) | omega) _ | refine Below.setCell ?_ (by first | (simp; done) | (simp; omega) | omega) _)) hc6
          have hst6 : Below w5.heap.size w5 w6 := bchain (by repeat' (first | exact Below.refl _ _ | refine Below.drew ?_ | refine Below.alloc ?_ (by simp) _ | refine Below.alloc ?_ (by simp; omega) _ | refine Below.setCell ?_ (by first | (simp; done) | (simp; omega) | omega) _)) hc6
          replace P_0 := cell_later hst6 P_0
          replace P_1 := cell_later hst6 P_1
          replace P_2 := cell_later hst6 P_2
          replace P_l := Nat.lt_of_lt_of_le P_l hst6.size
          replace D_0 := cell_later hst6 D_0
          replace D_1 := cell_later hst6 D_1
          replace D_2 := cell_later hst6 D_2
          replace D_l := Nat.lt_of_lt_of_le D_l hst6.size
          replace hc := hc.later hst6
          replace k1 := k1.later hst6
          clear hst6
          clear hc6 hb5
          go_wp2_with fail
          refine (same_self C [] false a2 a c2 cp _ (by repeat' (first | with_reducible exact k2 | with_reducible refine CellsAt.setFar ?_ ?_ _ | with_reducible refine CellsAt.alloc ?_ _ | with_reducible refine CellsAt.drew ?_ | assumption | (simp; omega) | omega)) (by repeat' (first | with_reducible exact hc | with_reducible refine CellsAt.setFar ?_ ?_ _ | with_reducible refine CellsAt.alloc ?_ _ | with_reducible refine CellsAt.drew ?_ | assumption | (simp; omega) | omega)) H_hl5.out).mono ?_
          rintro e w7 ⟨rfl, hc7⟩
          have hb7 : Below w.heap.size w w7 := bchain (by repeat' (first | exact hb6 | refine Below.drew ?_ | refine Below.alloc ?_ (by have := hb6.size; first | (simp; done) | (simp; omega) | omega) _ | refine Below.setCell ?_ (by first | (simp; done) | (simp; omega) | omega) _)) hc7
          have hst7 : Below w6.heap.size w6 w7 := bchain (by repeat' (first | exact Below.refl _ _ | refine Below.drew ?_ | refine Below.alloc ?_ (by simp) _ | refine Below.alloc ?_ (by simp; omega) _ | refine Below.setCell ?_ (by first | (simp; done) | (simp; omega) | omega) _)) hc7
          replace P_0 := cell_later hst7 P_0
          replace P_1 := cell_later hst7 P_1
          replace P_2 := cell_later hst7 P_2
          replace P_l := Nat.lt_of_lt_of_le P_l hst7.size
          replace D_0 := cell_later hst7 D_0
          replace D_1 := cell_later hst7 D_1
          replace D_2 := cell_later hst7 D_2
          replace D_l := Nat.lt_of_lt_of_le D_l hst7.size
          have X_0 : w7.cell? ⟨w6.heap.size, 0, none⟩ = some (.int .i64 C) := (hc7.cell (p := ⟨w6.heap.size, 0, none⟩) (by first | (simp; done) | (simp; omega))).trans (by simp)
          have X_1 : w7.cell? ⟨w6.heap.size, 1, none⟩ = some (.slice a2 0 c2) := (hc7.cell (p := ⟨w6.heap.size, 1, none⟩) (by first | (simp; done) | (simp; omega))).trans (by simp)
          have X_2 : w7.cell? ⟨w6.heap.size, 2, none⟩ = some (.bool false) := (hc7.cell (p := ⟨w6.heap.size, 2, none⟩) (by first | (simp; done) | (simp; omega))).trans (by simp)
          have X_l : w6.heap.size < w7.heap.size := Nat.lt_of_lt_of_le (by first | (simp; done) | (simp; omega)) hc7.size
          replace hc := hc.later hst7
          replace k1 := k1.later hst7
          replace k2 := k2.later hst7
          clear hst7
          clear hc7 hb6
          go_wp2_with fail
          go_ret
          exact ⟨rfl, by repeat' (first | exact hb7 | refine Below.drew ?_ | refine Below.alloc ?_ (by have := hb7.size; first | (simp; done) | (simp; omega) | omega) _ | refine Below.setCell ?_ (by first | (simp; done) | (simp; omega) | omega) _)⟩
        | cons x r =>
          have e4 : chRecv ⟨C, x :: (r ++ [v]), false⟩ = (⟨C, r ++ [v], false⟩, x, true, 0) := by
            have h9' : chErr ⟨C, x :: (r ++ [v]), false⟩ = 0 := h9
            simp [chRecv, h9']
          have hd : decide ((r.length : Int) + 1 < C) = true := by simp at hlt; simp; omega
          have hl6 : r.length + 1 ≤ 60 := by simp at hlt; omega
          clear hpos
          have H_hl5 := hid hl5
          have H_h8 := hid h8
          have H_h9 := hid h9
          have H_e1 := hid e1
          have H_e2 := hid e2
          have H_e3 := hid e3
          have H_e4 := hid e4
          have H_hfull := hid hfull
          clear hl5 h8 h9 e1 e2 e3 e4 hfull
          go_enter Try.func7, Try.ntmps7
          have hb0 := Below.refl w.heap.size w
          go_wp2_with fail
          refine (alive_any _).mono ?_
          rintro e w1 ⟨rfl, hc1⟩
          have hb1 : Below w.heap.size w w1 := bchain (by repeat' (first | exact hb0 | refine Below.drew ?_ | refine Below.alloc ?_ (by have := hb0.size; first | (simp; done) | (simp; omega) | omega) _ | refine Below.setCell ?_ (by first | (simp; done) | (simp; omega) | omega) _)) hc1
          have hst1 : Below w.heap.size w w1 := bchain (by repeat' (first | exact Below.refl _ _ | refine Below.drew ?_ | refine Below.alloc ?_ (by simp) _ | refine Below.alloc ?_ (by simp; omega) _ | refine Below.setCell ?_ (by first | (simp; done) | (simp; omega) | omega) _)) hc1
          have P_0 : w1.cell? ⟨w.heap.size, 0, none⟩ = some (.int .i64 C) := (hc1.cell (p := ⟨w.heap.size, 0, none⟩) (by first | (simp; done) | (simp; omega))).trans (by simp)
          have P_1 : w1.cell? ⟨w.heap.size, 1, none⟩ = some (.slice a (r.length + 1) cp) := (hc1.cell (p := ⟨w.heap.size, 1, none⟩) (by first | (simp; done) | (simp; omega))).trans (by simp)
          have P_2 : w1.cell? ⟨w.heap.size, 2, none⟩ = some (.bool false) := (hc1.cell (p := ⟨w.heap.size, 2, none⟩) (by first | (simp; done) | (simp; omega))).trans (by simp)
          have P_l : w.heap.size < w1.heap.size := Nat.lt_of_lt_of_le (by first | (simp; done) | (simp; omega)) hc1.size
          replace hc := hc.later hst1
          clear hst1
          clear hc1 hb0
          go_wp2_with fail
          refine (rcheck_any C (x :: r) false a cp _).mono ?_
          rintro e w2 ⟨rfl, hc2⟩
          have hb2 : Below w.heap.size w w2 := bchain (by repeat' (first | exact hb1 | refine Below.drew ?_ | refine Below.alloc ?_ (by have := hb1.size; first | (simp; done) | (simp; omega) | omega) _ | refine Below.setCell ?_ (by first | (simp; done) | (simp; omega) | omega) _)) hc2
          have hst2 : Below w1.heap.size w1 w2 := bchain (by repeat' (first | exact Below.refl _ _ | refine Below.drew ?_ | refine Below.alloc ?_ (by simp) _ | refine Below.alloc ?_ (by simp; omega) _ | refine Below.setCell ?_ (by first | (simp; done) | (simp; omega) | omega) _)) hc2
          replace P_0 := cell_later hst2 P_0
          replace P_1 := cell_later hst2 P_1
          replace P_2 := cell_later hst2 P_2
          replace P_l := Nat.lt_of_lt_of_le P_l hst2.size
          replace hc := hc.later hst2
          clear hst2
          clear hc2 hb1
          rw [H_h8.out]
          go_wp2_with fail
          refine (room_r C (x :: r) false a _ cp _ rfl _ _ H_e1.out).mono ?_
          rintro e w3 ⟨rfl, hc3⟩
          have hb3 : Below w.heap.size w w3 := bchain (by repeat' (first | exact hb2 | refine Below.drew ?_ | refine Below.alloc ?_ (by have := hb2.size; first | (simp; done) | (simp; omega) | omega) _ | refine Below.setCell ?_ (by first | (simp; done) | (simp; omega) | omega) _)) hc3
          have hst3 : Below w2.heap.size w2 w3 := bchain (by repeat' (first | exact Below.refl _ _ | refine Below.drew ?_ | refine Below.alloc ?_ (by simp) _ | refine Below.alloc ?_ (by simp; omega) _ | refine Below.setCell ?_ (by first | (simp; done) | (simp; omega) | omega) _)) hc3
          replace P_0 := cell_later hst3 P_0
          replace P_1 := cell_later hst3 P_1
          replace P_2 := cell_later hst3 P_2
          replace P_l := Nat.lt_of_lt_of_le P_l hst3.size
          replace hc := hc.later hst3
          clear hst3
          clear hc3 hb2
          go_wp2_with fail
          refine (send_r C (x :: r) false a _ cp v _ rfl (by repeat' (first | with_reducible exact hc | with_reducible refine CellsAt.setFar ?_ ?_ _ | with_reducible refine CellsAt.alloc ?_ _ | with_reducible refine CellsAt.drew ?_ | assumption | (simp; omega) | omega)) _ _ _ _ H_e2.out).mono ?_
          rintro e w4 ⟨⟨a1, c1, rfl, k1⟩, hc4⟩
          have hb4 : Below w.heap.size w w4 := bchain (by repeat' (first | exact hb3 | refine Below.drew ?_ | refine Below.alloc ?_ (by have := hb3.size; first | (simp; done) | (simp; omega) | omega) _ | refine Below.setCell ?_ (by first | (simp; done) | (simp; omega) | omega) _)) hc4
          have hst4 : Below w3.heap.size w3 w4 := bchain (by repeat' (first | exact Below.refl _ _ | refine Below.drew ?_ | refine Below.alloc ?_ (by simp) _ | refine Below.alloc ?_ (by simp; omega) _ | refine Below.setCell ?_ (by first | (simp; done) | (simp; omega) | omega) _)) hc4
          replace P_0 := cell_later hst4 P_0
          replace P_1 := cell_later hst4 P_1
          replace P_2 := cell_later hst4 P_2
          replace P_l := Nat.lt_of_lt_of_le P_l hst4.size
          replace hc := hc.later hst4
          clear hst4
          clear hc4 hb3
          go_wp2_with fail
          refine (room_r C (x :: (r ++ [v])) false a1 _ c1 _ (by simp) _ _ H_e3.out).mono ?_
          rintro e w5 ⟨rfl, hc5⟩
          have hb5 : Below w.heap.size w w5 := bchain (by repeat' (first | exact hb4 | refine Below.drew ?_ | refine Below.alloc ?_ (by have := hb4.size; first | (simp; done) | (simp; omega) | omega) _ | refine Below.setCell ?_ (by first | (simp; done) | (simp; omega) | omega) _)) hc5
          have hst5 : Below w4.heap.size w4 w5 := bchain (by repeat' (first | exact Below.refl _ _ | refine Below.drew ?_ | refine Below.alloc ?_ (by simp) _ | refine Below.alloc ?_ (by simp; omega) _ | refine Below.setCell ?_ (by first | (simp; done) | (simp; omega) | omega) _)) hc5
          replace P_0 := cell_later hst5 P_0
          replace P_1 := cell_later hst5 P_1
          replace P_2 := cell_later hst5 P_2
          replace P_l := Nat.lt_of_lt_of_le P_l hst5.size
          have D_0 : w5.cell? ⟨w4.heap.size, 0, none⟩ = some (.int .i64 C) := (hc5.cell (p := ⟨w4.heap.size, 0, none⟩) (by first | (simp; done) | (simp; omega))).trans (by simp)
          have D_1 : w5.cell? ⟨w4.heap.size, 1, none⟩ = some (.slice a1 (r.length + 1 + 1) c1) := (hc5.cell (p := ⟨w4.heap.size, 1, none⟩) (by first | (simp; done) | (simp; omega))).trans (by simp)
          have D_2 : w5.cell? ⟨w4.heap.size, 2, none⟩ = some (.bool false) := (hc5.cell (p := ⟨w4.heap.size, 2, none⟩) (by first | (simp; done) | (simp; omega))).trans (by simp)
          have D_l : w4.heap.size < w5.heap.size := Nat.lt_of_lt_of_le (by first | (simp; done) | (simp; omega)) hc5.size
          replace hc := hc.later hst5
          replace k1 := k1.later hst5
          clear hst5
          clear hc5 hb4
          go_wp2_with fail
          refine (recv_r C (x :: (r ++ [v])) false a1 _ c1 _ (by simp) (by repeat' (first | with_reducible exact k1 | with_reducible refine CellsAt.setFar ?_ ?_ _ | with_reducible refine CellsAt.alloc ?_ _ | with_reducible refine CellsAt.drew ?_ | assumption | (simp; omega) | omega)) _ _ _ _ _ _ H_e4.out).mono ?_
          rintro e w6 ⟨⟨a2, c2, rfl, k2⟩, hc6⟩
          have hb6 : Below w.heap.size w w6 := bchain (by repeat' (first | exact hb5 | refine Below.drew ?_ | refine Below.alloc ?_ (by have := hb5.size; first | (simp; done) | (simp; omega) | omega) _ | refine Below.setCell ?_ (by first | (simp; done) | (simp; omega) | omega) _)) hc6
          have hst6 : Below w5.heap.size w5 w6 := bchain (by repeat' (first | exact Below.refl _ _ | refine Below.drew ?_ | refine Below.alloc ?_ (by simp) _ | refine Below.alloc ?_ (by simp; omega) _ | refine Below.setCell ?_ (by first | (simp; done) | (simp; omega) | omega) _)) hc6
          replace P_0 := cell_later hst6 P_0
          replace P_1 := cell_later hst6 P_1
          replace P_2 := cell_later hst6 P_2
          replace P_l := Nat.lt_of_lt_of_le P_l hst6.size
          replace D_0 := cell_later hst6 D_0
          replace D_1 := cell_later hst6 D_1
          replace D_2 := cell_later hst6 D_2
          replace D_l := Nat.lt_of_lt_of_le D_l hst6.size
          replace hc := hc.later hst6
          replace k1 := k1.later hst6
          clear hst6
          clear hc6 hb5
          obtain ⟨ba, oa, rfl, hA⟩ := hc.int (by simp)
          obtain ⟨f1, f2, f3⟩ := cell_at hA 0 x (by simp)
          obtain ⟨b2, o2, rfl, hB⟩ := k2.int (by simp)
          obtain ⟨g1, g2, g3⟩ := cell_at hB r.length v (by simp)
          clear hA hB
          simp only [Nat.add_zero] at f1
          go_wp2_with fail
          go_ret
          exact ⟨rfl, by repeat' (first | exact hb6 | refine Below.drew ?_ | refine Below.alloc ?_ (by have := hb6.size; first | (simp; done) | (simp; omega) | omega) _ | refine Below.setCell ?_ (by first | (simp; done) | (simp; omega) | omega) _)⟩
  · have H_hl5 := hid hl5
    have H_h8 := hid h8
    clear hl5 h8
    go_enter Try.func7, Try.ntmps7
    have hb0 := Below.refl w.heap.size w
    go_wp2_with fail
    refine (alive_any _).mono ?_
    rintro e w1 ⟨rfl, hc1⟩
    have hb1 : Below w.heap.size w w1 := bchain (by repeat' (first | exact hb0 | refine Below.drew ?_ | refine Below.alloc ?_ (by have := hb0.size; first | (simp; done) | (simp; omega) | omega) _ | refine Below.setCell ?_ (by first | (simp; done) | (simp; omega) | omega) _)) hc1
    have hst1 : Below w.heap.size w w1 := bchain (by repeat' (first | exact Below.refl _ _ | refine Below.drew ?_ | refine Below.alloc ?_ (by simp) _ | refine Below.alloc ?_ (by simp; omega) _ | refine Below.setCell ?_ (by first | (simp; done) | (simp; omega) | omega) _)) hc1
    have P_0 : w1.cell? ⟨w.heap.size, 0, none⟩ = some (.int .i64 C) := (hc1.cell (p := ⟨w.heap.size, 0, none⟩) (by first | (simp; done) | (simp; omega))).trans (by simp)
    have P_1 : w1.cell? ⟨w.heap.size, 1, none⟩ = some (.slice a xs.length cp) := (hc1.cell (p := ⟨w.heap.size, 1, none⟩) (by first | (simp; done) | (simp; omega))).trans (by simp)
    have P_2 : w1.cell? ⟨w.heap.size, 2, none⟩ = some (.bool cl) := (hc1.cell (p := ⟨w.heap.size, 2, none⟩) (by first | (simp; done) | (simp; omega))).trans (by simp)
    have P_l : w.heap.size < w1.heap.size := Nat.lt_of_lt_of_le (by first | (simp; done) | (simp; omega)) hc1.size
    clear hst1
    clear hc1 hb0
    go_wp2_with fail
    refine (rcheck_any C xs cl a cp _).mono ?_
    rintro e w2 ⟨rfl, hc2⟩
    have hb2 : Below w.heap.size w w2 := bchain (by repeat' (first | exact hb1 | refine Below.drew ?_ | refine Below.alloc ?_ (by have := hb1.size; first | (simp; done) | (simp; omega) | omega) _ | refine Below.setCell ?_ (by first | (simp; done) | (simp; omega) | omega) _)) hc2
    have hst2 : Below w1.heap.size w1 w2 := bchain (by repeat' (first | exact Below.refl _ _ | refine Below.drew ?_ | refine Below.alloc ?_ (by simp) _ | refine Below.alloc ?_ (by simp; omega) _ | refine Below.setCell ?_ (by first | (simp; done) | (simp; omega) | omega) _)) hc2
    replace P_0 := cell_later hst2 P_0
    replace P_1 := cell_later hst2 P_1
    replace P_2 := cell_later hst2 P_2
    replace P_l := Nat.lt_of_lt_of_le P_l hst2.size
    clear hst2
    clear hc2 hb1
    rw [H_h8.out]
    go_wp2_with fail
    go_ret
    exact ⟨rfl, by repeat' (first | exact hb2 | refine Below.drew ?_ | refine Below.alloc ?_ (by have := hb2.size; first | (simp; done) | (simp; omega) | omega) _ | refine Below.setCell ?_ (by first | (simp; done) | (simp; omega) | omega) _)⟩

end Go.Proofs.Yteajfhodfpjplaa
