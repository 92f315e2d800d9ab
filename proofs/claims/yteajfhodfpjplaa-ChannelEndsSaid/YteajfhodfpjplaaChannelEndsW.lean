/- The laws on channels: ChannelEnds. -/
import Derived.Test.YteajfhodfpjplaaChannelLaws
import Derived.Test.YteajfhodfpjplaaMem2
namespace Go.Proofs.Yteajfhodfpjplaa
set_option linter.unusedSimpArgs false
set_option linter.unusedVariables false
set_option linter.unnecessarySimpa false
open Go.RowKit

theorem drop_step {xs : List Int} {k : Nat} (h : k < xs.length) : xs.drop k = (xs[k]?.getD 0) :: xs.drop (k + 1) := by
  rw [List.drop_eq_getElem_cons h]; simp [List.getElem?_eq_getElem h]


set_option maxRecDepth 100000 in
set_option maxHeartbeats 4000000 in
theorem ends_walk (C : Int) (xs : List Int) (cl : Bool) (a : Option Addr) (cp : Nat) (w : World) (hin : ChanIn w C xs a) :
    Calls Try.prog 6 #[.agg #[.int .i64 C, .slice a xs.length cp, .bool cl]] w fun e w' =>
      e = .returned (.bool true) ∧ Below w.heap.size w w' := by
  have hc := hin.cells
  have hc0 := hin.cells
  have hl5 := hin.len
  clear hin
  rcases chErr_cases ⟨C, xs, cl⟩ with h8 | h8
  · obtain ⟨q1, q2, q3⟩ := chErr_ok h8
    simp only at q1 q2 q3
    have hxl : xs.length ≤ 60 := by omega
    have h8t : ∀ ys : List Int, ys.length ≤ xs.length → chErr ⟨C, ys, true⟩ = 0 := by intro ys hy; simp [chErr]; omega
    have e1 : chClose ⟨C, xs, true⟩ = (⟨0, [], false⟩, 34) := by simp [chClose, h8t xs (Nat.le_refl _)]; rfl
    have e2 : chSend ⟨C, xs, true⟩ 1 = (⟨0, [], false⟩, 36) := by simp [chSend, h8t xs (Nat.le_refl _)]; rfl
    have e3 : chRoom ⟨C, xs, true⟩ = (0, 0) := by simp [chRoom, h8t xs (Nat.le_refl _)]
    have e4 : chRecv ⟨C, [], true⟩ = (⟨C, [], true⟩, 0, false, 0) := by simp [chRecv, h8t [] (by simp)]
    have e5 : ∀ k, k < xs.length → chRecv ⟨C, xs.drop k, true⟩ = (⟨C, xs.drop (k + 1), true⟩, xs[k]?.getD 0, true, 0) := by
      intro k hk
      have := h8t (xs.drop k) (by simp)
      rw [drop_step hk] at this ⊢
      simp [chRecv, this]
    cases cl with
    | true =>
      have H_hl5 := hid hl5
      have H_h8 := hid h8
      have H_h8t := hid h8t
      have H_e1 := hid e1
      have H_e2 := hid e2
      have H_e3 := hid e3
      have H_e4 := hid e4
      have H_e5 := hid e5
      clear hl5 h8 h8t e1 e2 e3 e4 e5
      go_enter Try.func6, Try.ntmps6
      have hb0 := Below.refl w.heap.size w
      go_wp2_with fail
      refine (alive_any _).mono ?_
      rintro e w1 ⟨rfl, hc1⟩
      have hb1 : Below w.heap.size w w1 := bchain (by repeat' (first | exact hb0 | refine Below.drew ?_ | refine Below.alloc ?_ (by have := hb0.size; first | (simp; done) | (simp; omega) | omega) _ | refine Below.setCell ?_ (by first | (simp; done) | (simp; omega) | omega) _)) hc1
      have hst1 : Below w.heap.size w w1 := bchain (by repeat' (first | exact Below.refl _ _ | refine Below.drew ?_ | refine Below.alloc ?_ (by simp) _ | refine Below.alloc ?_ (by simp; omega) _ | refine Below.setCell ?_ (by first | (simp; done) | (simp; omega) | omega) _)) hc1
      have P_0 : w1.cell? ⟨w.heap.size, 0, none⟩ = some (.int .i64 C) := (hc1.cell (p := ⟨w.heap.size, 0, none⟩) (by first | (simp; done) | (simp; omega))).trans (by simp)
      have P_1 : w1.cell? ⟨w.heap.size, 1, none⟩ = some (.slice a xs.length cp) := (hc1.cell (p := ⟨w.heap.size, 1, none⟩) (by first | (simp; done) | (simp; omega))).trans (by simp)
      have P_2 : w1.cell? ⟨w.heap.size, 2, none⟩ = some (.bool true) := (hc1.cell (p := ⟨w.heap.size, 2, none⟩) (by first | (simp; done) | (simp; omega))).trans (by simp)
      have P_l : w.heap.size < w1.heap.size := Nat.lt_of_lt_of_le (by first | (simp; done) | (simp; omega)) hc1.size
      replace hc := hc.later hst1
      clear hst1
      clear hc1 hb0
      go_wp2_with fail
      refine (rcheck_any C xs true a cp _).mono ?_
      rintro e w2 ⟨rfl, hc2⟩
      have hb2 : Below w.heap.size w w2 := bchain (by repeat' (first | exact hb1 | refine Below.drew ?_ | refine Below.alloc ?_ (by have := hb1.size; first | (simp; done) | (simp; omega) | omega) _ | refine Below.setCell ?_ (by first | (simp; done) | (simp; omega) | omega) _)) hc2
      have hst2 : Below w1.heap.size w1 w2 := bchain (by repeat' (first | exact Below.refl _ _ | refine Below.drew ?_ | refine Below.alloc ?_ (by simp) _ | refine Below.alloc ?_ (by simp; omega) _ | refine Below.setCell ?_ (by first | (simp; done) | (simp; omega) | omega) _)) hc2
      replace P_0 := cell_later hst2 P_0
      replace P_1 := cell_later hst2 P_1
      replace P_2 := cell_later hst2 P_2
      replace P_l := Nat.lt_of_lt_of_le P_l hst2.size
      replace hc := hc.later hst2
      clear hst2
      clear hc2 hb1
      rw [H_h8.out]
      have hw2 : w.heap.size < w2.heap.size := P_l
      go_wp2_with fail
      refine (close_r C xs true a _ cp _ rfl (by repeat' (first | with_reducible exact hc | with_reducible refine CellsAt.setFar ?_ ?_ _ | with_reducible refine CellsAt.alloc ?_ _ | with_reducible refine CellsAt.drew ?_ | assumption | (simp; omega) | omega)) _ _ _ _ H_e1.out).mono ?_
      rintro e w3 ⟨⟨b1, d1, rfl, m1⟩, hc3⟩
      have hb3 : Below w.heap.size w w3 := bchain (by repeat' (first | exact hb2 | refine Below.drew ?_ | refine Below.alloc ?_ (by have := hb2.size; first | (simp; done) | (simp; omega) | omega) _ | refine Below.setCell ?_ (by first | (simp; done) | (simp; omega) | omega) _)) hc3
      have hst3 : Below w2.heap.size w2 w3 := bchain (by repeat' (first | exact Below.refl _ _ | refine Below.drew ?_ | refine Below.alloc ?_ (by simp) _ | refine Below.alloc ?_ (by simp; omega) _ | refine Below.setCell ?_ (by first | (simp; done) | (simp; omega) | omega) _)) hc3
      replace P_0 := cell_later hst3 P_0
      replace P_1 := cell_later hst3 P_1
      replace P_2 := cell_later hst3 P_2
      replace P_l := Nat.lt_of_lt_of_le P_l hst3.size
      have N_0 : w3.cell? ⟨w2.heap.size, 0, none⟩ = some (.int .i64 C) := (hc3.cell (p := ⟨w2.heap.size, 0, none⟩) (by first | (simp; done) | (simp; omega))).trans (by simp)
      have N_1 : w3.cell? ⟨w2.heap.size, 1, none⟩ = some (.slice a xs.length cp) := (hc3.cell (p := ⟨w2.heap.size, 1, none⟩) (by first | (simp; done) | (simp; omega))).trans (by simp)
      have N_2 : w3.cell? ⟨w2.heap.size, 2, none⟩ = some (.bool true) := (hc3.cell (p := ⟨w2.heap.size, 2, none⟩) (by first | (simp; done) | (simp; omega))).trans (by simp)
      have N_f0 : w3.frozen? ⟨w2.heap.size, 0, none⟩ = false := (hc3.frozen (p := ⟨w2.heap.size, 0, none⟩) (by first | (simp; done) | (simp; omega))).trans (by simp)
      have N_f1 : w3.frozen? ⟨w2.heap.size, 1, none⟩ = false := (hc3.frozen (p := ⟨w2.heap.size, 1, none⟩) (by first | (simp; done) | (simp; omega))).trans (by simp)
      have N_f2 : w3.frozen? ⟨w2.heap.size, 2, none⟩ = false := (hc3.frozen (p := ⟨w2.heap.size, 2, none⟩) (by first | (simp; done) | (simp; omega))).trans (by simp)
      have N_l : w2.heap.size < w3.heap.size := Nat.lt_of_lt_of_le (by first | (simp; done) | (simp; omega)) hc3.size
      replace hc := hc.later hst3
      clear hst3
      clear hc3 hb2
      go_wp2_with fail
      refine (send_r C xs true a _ cp 1 _ rfl (by repeat' (first | with_reducible exact hc | with_reducible refine CellsAt.setFar ?_ ?_ _ | with_reducible refine CellsAt.alloc ?_ _ | with_reducible refine CellsAt.drew ?_ | assumption | (simp; omega) | omega)) _ _ _ _ H_e2.out).mono ?_
      rintro e w4 ⟨⟨b2, d2, rfl, m2⟩, hc4⟩
      have hb4 : Below w.heap.size w w4 := bchain (by repeat' (first | exact hb3 | refine Below.drew ?_ | refine Below.alloc ?_ (by have := hb3.size; first | (simp; done) | (simp; omega) | omega) _ | refine Below.setCell ?_ (by first | (simp; done) | (simp; omega) | omega) _)) hc4
      have hst4 : Below w3.heap.size w3 w4 := bchain (by repeat' (first | exact Below.refl _ _ | refine Below.drew ?_ | refine Below.alloc ?_ (by simp) _ | refine Below.alloc ?_ (by simp; omega) _ | refine Below.setCell ?_ (by first | (simp; done) | (simp; omega) | omega) _)) hc4
      replace P_0 := cell_later hst4 P_0
      replace P_1 := cell_later hst4 P_1
      replace P_2 := cell_later hst4 P_2
      replace P_l := Nat.lt_of_lt_of_le P_l hst4.size
      replace N_0 := cell_later hst4 N_0
      replace N_1 := cell_later hst4 N_1
      replace N_2 := cell_later hst4 N_2
      replace N_f0 := frozen_later hst4 N_l N_f0
      replace N_f1 := frozen_later hst4 N_l N_f1
      replace N_f2 := frozen_later hst4 N_l N_f2
      replace N_l := Nat.lt_of_lt_of_le N_l hst4.size
      replace hc := hc.later hst4
      clear hst4
      clear hc4 hb3
      go_wp2_with fail
      refine (room_r C xs true a _ cp _ rfl _ _ H_e3.out).mono ?_
      rintro e w5 ⟨rfl, hc5⟩
      have hb5 : Below w.heap.size w w5 := bchain (by repeat' (first | exact hb4 | refine Below.drew ?_ | refine Below.alloc ?_ (by have := hb4.size; first | (simp; done) | (simp; omega) | omega) _ | refine Below.setCell ?_ (by first | (simp; done) | (simp; omega) | omega) _)) hc5
      have hst5 : Below w4.heap.size w4 w5 := bchain (by repeat' (first | exact Below.refl _ _ | refine Below.drew ?_ | refine Below.alloc ?_ (by simp) _ | refine Below.alloc ?_ (by simp; omega) _ | refine Below.setCell ?_ (by first | (simp; done) | (simp; omega) | omega) _)) hc5
      replace P_0 := cell_later hst5 P_0
      replace P_1 := cell_later hst5 P_1
      replace P_2 := cell_later hst5 P_2
      replace P_l := Nat.lt_of_lt_of_le P_l hst5.size
      replace N_0 := cell_later hst5 N_0
      replace N_1 := cell_later hst5 N_1
      replace N_2 := cell_later hst5 N_2
      replace N_f0 := frozen_later hst5 N_l N_f0
      replace N_f1 := frozen_later hst5 N_l N_f1
      replace N_f2 := frozen_later hst5 N_l N_f2
      replace N_l := Nat.lt_of_lt_of_le N_l hst5.size
      replace hc := hc.later hst5
      clear hst5
      clear hc5 hb4
      go_wp2_with fail
      have hbe : w.heap.size < w2.heap.size := by exact hw2
      go_loopw [13] (fun i wr => ∃ (k : Nat) (a' : Option Addr) (c' : Nat), k ≤ xs.length ∧ i = .int .i64 k ∧ Below w.heap.size w wr ∧ (wr.cell? ⟨w.heap.size, 0, none⟩ = some (.int .i64 C) ∧ wr.cell? ⟨w.heap.size, 1, none⟩ = some (.slice a xs.length cp) ∧ wr.cell? ⟨w.heap.size, 2, none⟩ = some (.bool true) ∧ w.heap.size < wr.heap.size) ∧ (wr.cell? ⟨w2.heap.size, 0, none⟩ = some (.int .i64 C) ∧ wr.cell? ⟨w2.heap.size, 1, none⟩ = some (.slice a' (xs.length - k) c') ∧ wr.cell? ⟨w2.heap.size, 2, none⟩ = some (.bool true)) ∧ (wr.frozen? ⟨w2.heap.size, 0, none⟩ = false ∧ wr.frozen? ⟨w2.heap.size, 1, none⟩ = false ∧ wr.frozen? ⟨w2.heap.size, 2, none⟩ = false ∧ w2.heap.size < wr.heap.size) ∧ CellsAt wr a' ((xs.drop k).map (Value.int .u64))) (fun i _ => xs.length - (intOf i).toNat)
      case atStart => exact ⟨0, a, cp, Nat.zero_le _, rfl, (by repeat' (first | exact hb5 | refine Below.drew ?_ | refine Below.alloc ?_ (by have := hb5.size; first | (simp; done) | (simp; omega) | omega) _ | refine Below.setCell ?_ (by first | (simp; done) | (simp; omega) | omega) _)), ⟨P_0, P_1, P_2, P_l⟩, ⟨N_0, by rw [Nat.sub_zero]; exact N_1, N_2⟩, ⟨N_f0, N_f1, N_f2, N_l⟩, hc⟩
      case round =>
        have hbN := hbe
        clear P_0 P_1 P_2 P_l N_0 N_1 N_2 N_f0 N_f1 N_f2 N_l hc
        obtain ⟨k, a', c', hk, rfl, hbw, ⟨P_0, P_1, P_2, P_l⟩, ⟨N_0, N_1, N_2⟩, ⟨N_f0, N_f1, N_f2, N_l⟩, kk⟩ := hrel
        have hcw := hc0.later hbw
        by_cases hlt : k < xs.length
        · have hlt' : (k : Int) < (xs.length : Int) := by omega
          have nl0 := N_l
          have pl0 := P_l
          go_wp2_with fail
          refine (recv_f C (xs.drop k) true a' _ c' _ (by simp) (by repeat' (first | with_reducible exact kk | with_reducible refine CellsAt.setFar ?_ ?_ _ | with_reducible refine CellsAt.alloc ?_ _ | with_reducible refine CellsAt.drew ?_ | assumption | (simp; omega) | omega)) _ _ _ _ _ _ (H_e5.out k hlt)).mono ?_
          rintro e w11 ⟨⟨a2, c2, rfl, k2, fr2⟩, hc11⟩
          have hb11 : Below w.heap.size w w11 := bchain (by repeat' (first | exact hbw | refine Below.drew ?_ | refine Below.alloc ?_ (by have := hbw.size; first | (simp; done) | (simp; omega) | omega) _ | refine Below.setCell ?_ (by first | (simp; done) | (simp; omega) | omega) _)) hc11
          have hst11 : Below wr.heap.size wr w11 := bchain (by repeat' (first | exact Below.refl _ _ | refine Below.drew ?_ | refine Below.alloc ?_ (by simp) _ | refine Below.alloc ?_ (by simp; omega) _ | refine Below.setCell ?_ (by first | (simp; done) | (simp; omega) | omega) _)) hc11
          replace P_0 := cell_later hst11 P_0
          replace P_1 := cell_later hst11 P_1
          replace P_2 := cell_later hst11 P_2
          replace P_l := Nat.lt_of_lt_of_le P_l hst11.size
          replace N_0 := cell_later hst11 N_0
          replace N_1 := cell_later hst11 N_1
          replace N_2 := cell_later hst11 N_2
          replace N_f0 := frozen_later hst11 N_l N_f0
          replace N_f1 := frozen_later hst11 N_l N_f1
          replace N_f2 := frozen_later hst11 N_l N_f2
          replace N_l := Nat.lt_of_lt_of_le N_l hst11.size
          replace kk := kk.later hst11
          replace hcw := hcw.later hst11
          clear hst11
          clear hc11 hbw
          obtain ⟨ba, oa, ha, hA⟩ := hcw.int (by omega)
          obtain ⟨f1, f2, f3⟩ := cell_at hA k (xs[k]) (by simp [hlt])
          clear hA
          subst ha
          have hA2 : ∀ ad, a2 = some ad → w2.heap.size < ad.block := fun ad had => by have := fr2 ad had; omega
          have hne : w.heap.size ≠ w2.heap.size := by have := hbN; omega
          clear fr2
          go_wp2_with fail
          go_roundw
          case rel =>
            refine ⟨k + 1, a2, c2, by omega, by go_num, (by repeat' (first | exact hb11 | refine Below.drew ?_ | refine Below.alloc ?_ (by have := hb11.size; first | (simp; done) | (simp; omega) | omega) _ | refine Below.setCell ?_ (by first | (simp; done) | (simp; omega) | omega) _)), ⟨by go_simp, by go_simp, by go_simp, by go_simp⟩, ⟨by go_simp, ?_, by go_simp⟩, ⟨by go_simp, by go_simp, by go_simp, by go_simp⟩, (by repeat' (first | with_reducible exact k2 | with_reducible refine CellsAt.setFarG ?_ ?_ _ | with_reducible refine CellsAt.alloc ?_ _ | with_reducible refine CellsAt.drew ?_ | (intro ad had; have hx := hA2 ad had; simp; omega)))⟩
            go_simp
          case measure => simp [intOf]; omega
        · obtain rfl : k = xs.length := by omega
          rw [Nat.sub_self] at N_1
          go_wp2_with fail
          refine (recv_r C [] true a' _ c' _ rfl (.inl rfl) _ _ _ _ _ _ H_e4.out).mono ?_
          rintro e w13 ⟨⟨a2, c2, rfl, k2⟩, hc13⟩
          have hb13 : Below w.heap.size w w13 := bchain (by repeat' (first | exact hbw | refine Below.drew ?_ | refine Below.alloc ?_ (by have := hbw.size; first | (simp; done) | (simp; omega) | omega) _ | refine Below.setCell ?_ (by first | (simp; done) | (simp; omega) | omega) _)) hc13
          have hst13 : Below wr.heap.size wr w13 := bchain (by repeat' (first | exact Below.refl _ _ | refine Below.drew ?_ | refine Below.alloc ?_ (by simp) _ | refine Below.alloc ?_ (by simp; omega) _ | refine Below.setCell ?_ (by first | (simp; done) | (simp; omega) | omega) _)) hc13
          replace N_0 := cell_later hst13 N_0
          replace N_1 := cell_later hst13 N_1
          replace N_2 := cell_later hst13 N_2
          replace N_l := Nat.lt_of_lt_of_le N_l hst13.size
          clear hst13
          clear hc13 hbw
          go_wp2_with fail
          refine (same_self C [] true a2 a' c2 c' _ (.inl rfl) (.inl rfl) (by simp [maxLen])).mono ?_
          rintro e w14 ⟨rfl, hc14⟩
          have hb14 : Below w.heap.size w w14 := bchain (by repeat' (first | exact hb13 | refine Below.drew ?_ | refine Below.alloc ?_ (by have := hb13.size; first | (simp; done) | (simp; omega) | omega) _ | refine Below.setCell ?_ (by first | (simp; done) | (simp; omega) | omega) _)) hc14
          have hst14 : Below w13.heap.size w13 w14 := bchain (by repeat' (first | exact Below.refl _ _ | refine Below.drew ?_ | refine Below.alloc ?_ (by simp) _ | refine Below.alloc ?_ (by simp; omega) _ | refine Below.setCell ?_ (by first | (simp; done) | (simp; omega) | omega) _)) hc14
          replace N_0 := cell_later hst14 N_0
          replace N_1 := cell_later hst14 N_1
          replace N_2 := cell_later hst14 N_2
          replace N_l := Nat.lt_of_lt_of_le N_l hst14.size
          have D_0 : w14.cell? ⟨w13.heap.size, 0, none⟩ = some (.int .i64 C) := (hc14.cell (p := ⟨w13.heap.size, 0, none⟩) (by first | (simp; done) | (simp; omega))).trans (by simp)
          have D_1 : w14.cell? ⟨w13.heap.size, 1, none⟩ = some (.slice a2 0 c2) := (hc14.cell (p := ⟨w13.heap.size, 1, none⟩) (by first | (simp; done) | (simp; omega))).trans (by simp)
          have D_2 : w14.cell? ⟨w13.heap.size, 2, none⟩ = some (.bool true) := (hc14.cell (p := ⟨w13.heap.size, 2, none⟩) (by first | (simp; done) | (simp; omega))).trans (by simp)
          have D_l : w13.heap.size < w14.heap.size := Nat.lt_of_lt_of_le (by first | (simp; done) | (simp; omega)) hc14.size
          clear hst14
          clear hc14 hb13
          go_wp2_with fail
          go_ret
          exact ⟨rfl, by repeat' (first | exact hb14 | refine Below.drew ?_ | refine Below.alloc ?_ (by have := hb14.size; first | (simp; done) | (simp; omega) | omega) _ | refine Below.setCell ?_ (by first | (simp; done) | (simp; omega) | omega) _)⟩
    | false =>
      have e0 : chClose ⟨C, xs, false⟩ = (⟨C, xs, true⟩, 0) := by simp [chClose, h8]
      have H_hl5 := hid hl5
      have H_h8 := hid h8
      have H_h8t := hid h8t
      have H_e0 := hid e0
      have H_e1 := hid e1
      have H_e2 := hid e2
      have H_e3 := hid e3
      have H_e4 := hid e4
      have H_e5 := hid e5
      clear hl5 h8 h8t e0 e1 e2 e3 e4 e5
      go_enter Try.func6, Try.ntmps6
      have hb0 := Below.refl w.heap.size w
      go_wp2_with fail
      refine (alive_any _).mono ?_
      rintro e w1 ⟨rfl, hc1⟩
      have hb1 : Below w.heap.size w w1 := bchain (by repeat' (first | exact hb0 | refine Below.drew ?_ | refine Below.alloc ?_ (by have := hb0.size; first | (simp; done) | (simp; omega) | omega) _ | refine Below.setCell ?_ (by first | (simp; done) | (simp; omega) | omega) _)) hc1
      have hst1 : Below w.heap.size w w1 := bchain (by repeat' (first | exact Below.refl _ _ | refine Below.drew ?_ | refine Below.alloc ?_ (by simp) _ | refine Below.alloc ?_ (by simp; omega) _ | refine Below.setCell ?_ (by first | (simp; done) | (simp; omega) | omega) _)) hc1
      have P_0 : w1.cell? ⟨w.heap.size, 0, none⟩ = some (.int .i64 C) := (hc1.cell (p := ⟨w.heap.size, 0, none⟩) (by first | (simp; done) | (simp; omega))).trans (by simp)
      have P_1 : w1.cell? ⟨w.heap.size, 1, none⟩ = some (.slice a xs.length cp) := (hc1.cell (p := ⟨w.heap.size, 1, none⟩) (by first | (simp; done) | (simp; omega))).trans (by simp)
      have P_2 : w1.cell? ⟨w.heap.size, 2, none⟩ = some (.bool false) := (hc1.cell (p := ⟨w.heap.size, 2, none⟩) (by first | (simp; done) | (simp; omega))).trans (by simp)
      have P_l : w.heap.size < w1.heap.size := Nat.lt_of_lt_of_le (by first | (simp; done) | (simp; omega)) hc1.size
      replace hc := hc.later hst1
      clear hst1
      clear hc1 hb0
      go_wp2_with fail
      refine (rcheck_any C xs false a cp _).mono ?_
      rintro e w2 ⟨rfl, hc2⟩
      have hb2 : Below w.heap.size w w2 := bchain (by repeat' (first | exact hb1 | refine Below.drew ?_ | refine Below.alloc ?_ (by have := hb1.size; first | (simp; done) | (simp; omega) | omega) _ | refine Below.setCell ?_ (by first | (simp; done) | (simp; omega) | omega) _)) hc2
      have hst2 : Below w1.heap.size w1 w2 := bchain (by repeat' (first | exact Below.refl _ _ | refine Below.drew ?_ | refine Below.alloc ?_ (by simp) _ | refine Below.alloc ?_ (by simp; omega) _ | refine Below.setCell ?_ (by first | (simp; done) | (simp; omega) | omega) _)) hc2
      replace P_0 := cell_later hst2 P_0
      replace P_1 := cell_later hst2 P_1
      replace P_2 := cell_later hst2 P_2
      replace P_l := Nat.lt_of_lt_of_le P_l hst2.size
      replace hc := hc.later hst2
      clear hst2
      clear hc2 hb1
      rw [H_h8.out]
      have hw2 : w.heap.size < w2.heap.size := P_l
      go_wp2_with fail
      refine (close_f C xs false a _ cp _ rfl (by repeat' (first | with_reducible exact hc | with_reducible refine CellsAt.setFar ?_ ?_ _ | with_reducible refine CellsAt.alloc ?_ _ | with_reducible refine CellsAt.drew ?_ | assumption | (simp; omega) | omega)) _ _ _ _ H_e0.out).mono ?_
      rintro e w3 ⟨⟨a1, c1, rfl, k1, fr1⟩, hc3⟩
      have hb3 : Below w.heap.size w w3 := bchain (by repeat' (first | exact hb2 | refine Below.drew ?_ | refine Below.alloc ?_ (by have := hb2.size; first | (simp; done) | (simp; omega) | omega) _ | refine Below.setCell ?_ (by first | (simp; done) | (simp; omega) | omega) _)) hc3
      have hst3 : Below w2.heap.size w2 w3 := bchain (by repeat' (first | exact Below.refl _ _ | refine Below.drew ?_ | refine Below.alloc ?_ (by simp) _ | refine Below.alloc ?_ (by simp; omega) _ | refine Below.setCell ?_ (by first | (simp; done) | (simp; omega) | omega) _)) hc3
      replace P_0 := cell_later hst3 P_0
      replace P_1 := cell_later hst3 P_1
      replace P_2 := cell_later hst3 P_2
      replace P_l := Nat.lt_of_lt_of_le P_l hst3.size
      have N_0 : w3.cell? ⟨w2.heap.size, 0, none⟩ = some (.int .i64 C) := (hc3.cell (p := ⟨w2.heap.size, 0, none⟩) (by first | (simp; done) | (simp; omega))).trans (by simp)
      have N_1 : w3.cell? ⟨w2.heap.size, 1, none⟩ = some (.slice a xs.length cp) := (hc3.cell (p := ⟨w2.heap.size, 1, none⟩) (by first | (simp; done) | (simp; omega))).trans (by simp)
      have N_2 : w3.cell? ⟨w2.heap.size, 2, none⟩ = some (.bool false) := (hc3.cell (p := ⟨w2.heap.size, 2, none⟩) (by first | (simp; done) | (simp; omega))).trans (by simp)
      have N_f0 : w3.frozen? ⟨w2.heap.size, 0, none⟩ = false := (hc3.frozen (p := ⟨w2.heap.size, 0, none⟩) (by first | (simp; done) | (simp; omega))).trans (by simp)
      have N_f1 : w3.frozen? ⟨w2.heap.size, 1, none⟩ = false := (hc3.frozen (p := ⟨w2.heap.size, 1, none⟩) (by first | (simp; done) | (simp; omega))).trans (by simp)
      have N_f2 : w3.frozen? ⟨w2.heap.size, 2, none⟩ = false := (hc3.frozen (p := ⟨w2.heap.size, 2, none⟩) (by first | (simp; done) | (simp; omega))).trans (by simp)
      have N_l : w2.heap.size < w3.heap.size := Nat.lt_of_lt_of_le (by first | (simp; done) | (simp; omega)) hc3.size
      replace hc := hc.later hst3
      clear hst3
      clear hc3 hb2
      clear hc
      have hA1 : ∀ ad, a1 = some ad → w2.heap.size < ad.block := fun ad had => by have := fr1 ad had; simp at this; omega
      clear fr1
      go_wp2_with fail
      refine (close_r C xs true a1 _ c1 _ rfl (by repeat' (first | with_reducible exact k1 | with_reducible refine CellsAt.setFarG ?_ ?_ _ | with_reducible refine CellsAt.alloc ?_ _ | with_reducible refine CellsAt.drew ?_ | (intro ad had; have hx := hA1 ad had; simp; omega))) _ _ _ _ H_e1.out).mono ?_
      rintro e w4 ⟨⟨b1, d1, rfl, m1⟩, hc4⟩
      have hb4 : Below w.heap.size w w4 := bchain (by repeat' (first | exact hb3 | refine Below.drew ?_ | refine Below.alloc ?_ (by have := hb3.size; first | (simp; done) | (simp; omega) | omega) _ | refine Below.setCell ?_ (by first | (simp; done) | (simp; omega) | omega) _)) hc4
      replace k1 := CellsAt.via k1 (fun kx => (by repeat' (first | with_reducible exact kx | with_reducible refine CellsAt.setFarG ?_ ?_ _ | with_reducible refine CellsAt.alloc ?_ _ | with_reducible refine CellsAt.drew ?_ | (intro ad had; have hx := hA1 ad had; simp; omega)))) hc4
      have P_0 : w4.cell? ⟨w.heap.size, 0, none⟩ = some (.int .i64 C) := (hc4.cell (p := ⟨w.heap.size, 0, none⟩) (by first | (simp; done) | (simp; omega))).trans (by first | (simp; done) | (simp [*]; done) | go_simp)
      have P_1 : w4.cell? ⟨w.heap.size, 1, none⟩ = some (.slice a xs.length cp) := (hc4.cell (p := ⟨w.heap.size, 1, none⟩) (by first | (simp; done) | (simp; omega))).trans (by first | (simp; done) | (simp [*]; done) | go_simp)
      have P_2 : w4.cell? ⟨w.heap.size, 2, none⟩ = some (.bool false) := (hc4.cell (p := ⟨w.heap.size, 2, none⟩) (by first | (simp; done) | (simp; omega))).trans (by first | (simp; done) | (simp [*]; done) | go_simp)
      have P_l : w.heap.size < w4.heap.size := Nat.lt_of_lt_of_le (by first | (simp; done) | (simp; omega)) hc4.size
      have N_0 : w4.cell? ⟨w2.heap.size, 0, none⟩ = some (.int .i64 C) := (hc4.cell (p := ⟨w2.heap.size, 0, none⟩) (by first | (simp; done) | (simp; omega))).trans (by first | (simp; done) | (simp [*]; done) | go_simp)
      have N_1 : w4.cell? ⟨w2.heap.size, 1, none⟩ = some (.slice a1 xs.length c1) := (hc4.cell (p := ⟨w2.heap.size, 1, none⟩) (by first | (simp; done) | (simp; omega))).trans (by first | (simp; done) | (simp [*]; done) | go_simp)
      have N_2 : w4.cell? ⟨w2.heap.size, 2, none⟩ = some (.bool true) := (hc4.cell (p := ⟨w2.heap.size, 2, none⟩) (by first | (simp; done) | (simp; omega))).trans (by first | (simp; done) | (simp [*]; done) | go_simp)
      have N_f0 : w4.frozen? ⟨w2.heap.size, 0, none⟩ = false := (hc4.frozen (p := ⟨w2.heap.size, 0, none⟩) (by first | (simp; done) | (simp; omega))).trans (by first | (simp; done) | (simp [*]; done) | go_simp)
      have N_f1 : w4.frozen? ⟨w2.heap.size, 1, none⟩ = false := (hc4.frozen (p := ⟨w2.heap.size, 1, none⟩) (by first | (simp; done) | (simp; omega))).trans (by first | (simp; done) | (simp [*]; done) | go_simp)
      have N_f2 : w4.frozen? ⟨w2.heap.size, 2, none⟩ = false := (hc4.frozen (p := ⟨w2.heap.size, 2, none⟩) (by first | (simp; done) | (simp; omega))).trans (by first | (simp; done) | (simp [*]; done) | go_simp)
      have N_l : w2.heap.size < w4.heap.size := Nat.lt_of_lt_of_le (by first | (simp; done) | (simp; omega)) hc4.size
      clear hc4 hb3
      go_wp2_with fail
      refine (send_r C xs true a1 _ c1 1 _ rfl (by repeat' (first | with_reducible exact k1 | with_reducible refine CellsAt.setFar ?_ ?_ _ | with_reducible refine CellsAt.alloc ?_ _ | with_reducible refine CellsAt.drew ?_ | assumption | (simp; omega) | omega)) _ _ _ _ H_e2.out).mono ?_
      rintro e w5 ⟨⟨b2, d2, rfl, m2⟩, hc5⟩
      have hb5 : Below w.heap.size w w5 := bchain (by repeat' (first | exact hb4 | refine Below.drew ?_ | refine Below.alloc ?_ (by have := hb4.size; first | (simp; done) | (simp; omega) | omega) _ | refine Below.setCell ?_ (by first | (simp; done) | (simp; omega) | omega) _)) hc5
      have hst5 : Below w4.heap.size w4 w5 := bchain (by repeat' (first | exact Below.refl _ _ | refine Below.drew ?_ | refine Below.alloc ?_ (by simp) _ | refine Below.alloc ?_ (by simp; omega) _ | refine Below.setCell ?_ (by first | (simp; done) | (simp; omega) | omega) _)) hc5
      replace P_0 := cell_later hst5 P_0
      replace P_1 := cell_later hst5 P_1
      replace P_2 := cell_later hst5 P_2
      replace P_l := Nat.lt_of_lt_of_le P_l hst5.size
      replace N_0 := cell_later hst5 N_0
      replace N_1 := cell_later hst5 N_1
      replace N_2 := cell_later hst5 N_2
      replace N_f0 := frozen_later hst5 N_l N_f0
      replace N_f1 := frozen_later hst5 N_l N_f1
      replace N_f2 := frozen_later hst5 N_l N_f2
      replace N_l := Nat.lt_of_lt_of_le N_l hst5.size
      replace k1 := k1.later hst5
      clear hst5
      clear hc5 hb4
      go_wp2_with fail
      refine (room_r C xs true a1 _ c1 _ rfl _ _ H_e3.out).mono ?_
      rintro e w6 ⟨rfl, hc6⟩
      have hb6 : Below w.heap.size w w6 := bchain (by repeat' (first | exact hb5 | refine Below.drew ?_ | refine Below.alloc ?_ (by have := hb5.size; first | (simp; done) | (simp; omega) | omega) _ | refine Below.setCell ?_ (by first | (simp; done) | (simp; omega) | omega) _)) hc6
      have hst6 : Below w5.heap.size w5 w6 := bchain (by repeat' (first | exact Below.refl _ _ | refine Below.drew ?_ | refine Below.alloc ?_ (by simp) _ | refine Below.alloc ?_ (by simp; omega) _ | refine Below.setCell ?_ (by first | (simp; done) | (simp; omega) | omega) _)) hc6
      replace P_0 := cell_later hst6 P_0
      replace P_1 := cell_later hst6 P_1
      replace P_2 := cell_later hst6 P_2
      replace P_l := Nat.lt_of_lt_of_le P_l hst6.size
      replace N_0 := cell_later hst6 N_0
      replace N_1 := cell_later hst6 N_1
      replace N_2 := cell_later hst6 N_2
      replace N_f0 := frozen_later hst6 N_l N_f0
      replace N_f1 := frozen_later hst6 N_l N_f1
      replace N_f2 := frozen_later hst6 N_l N_f2
      replace N_l := Nat.lt_of_lt_of_le N_l hst6.size
      replace k1 := k1.later hst6
      clear hst6
      clear hc6 hb5
      go_wp2_with fail
      have hbe : w.heap.size < w2.heap.size := by exact hw2
      go_loopw [13] (fun i wr => ∃ (k : Nat) (a' : Option Addr) (c' : Nat), k ≤ xs.length ∧ i = .int .i64 k ∧ Below w.heap.size w wr ∧ (wr.cell? ⟨w.heap.size, 0, none⟩ = some (.int .i64 C) ∧ wr.cell? ⟨w.heap.size, 1, none⟩ = some (.slice a xs.length cp) ∧ wr.cell? ⟨w.heap.size, 2, none⟩ = some (.bool false) ∧ w.heap.size < wr.heap.size) ∧ (wr.cell? ⟨w2.heap.size, 0, none⟩ = some (.int .i64 C) ∧ wr.cell? ⟨w2.heap.size, 1, none⟩ = some (.slice a' (xs.length - k) c') ∧ wr.cell? ⟨w2.heap.size, 2, none⟩ = some (.bool true)) ∧ (wr.frozen? ⟨w2.heap.size, 0, none⟩ = false ∧ wr.frozen? ⟨w2.heap.size, 1, none⟩ = false ∧ wr.frozen? ⟨w2.heap.size, 2, none⟩ = false ∧ w2.heap.size < wr.heap.size) ∧ CellsAt wr a' ((xs.drop k).map (Value.int .u64))) (fun i _ => xs.length - (intOf i).toNat)
      case atStart => exact ⟨0, a1, c1, Nat.zero_le _, rfl, (by repeat' (first | exact hb6 | refine Below.drew ?_ | refine Below.alloc ?_ (by have := hb6.size; first | (simp; done) | (simp; omega) | omega) _ | refine Below.setCell ?_ (by first | (simp; done) | (simp; omega) | omega) _)), ⟨P_0, P_1, P_2, P_l⟩, ⟨N_0, by rw [Nat.sub_zero]; exact N_1, N_2⟩, ⟨N_f0, N_f1, N_f2, N_l⟩, k1⟩
      case round =>
        have hbN := hbe
        clear P_0 P_1 P_2 P_l N_0 N_1 N_2 N_f0 N_f1 N_f2 N_l k1
        obtain ⟨k, a', c', hk, rfl, hbw, ⟨P_0, P_1, P_2, P_l⟩, ⟨N_0, N_1, N_2⟩, ⟨N_f0, N_f1, N_f2, N_l⟩, kk⟩ := hrel
        have hcw := hc0.later hbw
        by_cases hlt : k < xs.length
        · have hlt' : (k : Int) < (xs.length : Int) := by omega
          have nl0 := N_l
          have pl0 := P_l
          go_wp2_with fail
          refine (recv_f C (xs.drop k) true a' _ c' _ (by simp) (by repeat' (first | with_reducible exact kk | with_reducible refine CellsAt.setFar ?_ ?_ _ | with_reducible refine CellsAt.alloc ?_ _ | with_reducible refine CellsAt.drew ?_ | assumption | (simp; omega) | omega)) _ _ _ _ _ _ (H_e5.out k hlt)).mono ?_
          rintro e w11 ⟨⟨a2, c2, rfl, k2, fr2⟩, hc11⟩
          have hb11 : Below w.heap.size w w11 := bchain (by repeat' (first | exact hbw | refine Below.drew ?_ | refine Below.alloc ?_ (by have := hbw.size; first | (simp; done) | (simp; omega) | omega) _ | refine Below.setCell ?_ (by first | (simp; done) | (simp; omega) | omega) _)) hc11
          have hst11 : Below wr.heap.size wr w11 := bchain (by repeat' (first | exact Below.refl _ _ | refine Below.drew ?_ | refine Below.alloc ?_ (by simp) _ | refine Below.alloc ?_ (by simp; omega) _ | refine Below.setCell ?_ (by first | (simp; done) | (simp; omega) | omega) _)) hc11
          replace P_0 := cell_later hst11 P_0
          replace P_1 := cell_later hst11 P_1
          replace P_2 := cell_later hst11 P_2
          replace P_l := Nat.lt_of_lt_of_le P_l hst11.size
          replace N_0 := cell_later hst11 N_0
          replace N_1 := cell_later hst11 N_1
          replace N_2 := cell_later hst11 N_2
          replace N_f0 := frozen_later hst11 N_l N_f0
          replace N_f1 := frozen_later hst11 N_l N_f1
          replace N_f2 := frozen_later hst11 N_l N_f2
          replace N_l := Nat.lt_of_lt_of_le N_l hst11.size
          replace kk := kk.later hst11
          replace hcw := hcw.later hst11
          clear hst11
          clear hc11 hbw
          obtain ⟨ba, oa, ha, hA⟩ := hcw.int (by omega)
          obtain ⟨f1, f2, f3⟩ := cell_at hA k (xs[k]) (by simp [hlt])
          clear hA
          subst ha
          have hA2 : ∀ ad, a2 = some ad → w2.heap.size < ad.block := fun ad had => by have := fr2 ad had; omega
          have hne : w.heap.size ≠ w2.heap.size := by have := hbN; omega
          clear fr2
          go_wp2_with fail
          go_roundw
          case rel =>
            refine ⟨k + 1, a2, c2, by omega, by go_num, (by repeat' (first | exact hb11 | refine Below.drew ?_ | refine Below.alloc ?_ (by have := hb11.size; first | (simp; done) | (simp; omega) | omega) _ | refine Below.setCell ?_ (by first | (simp; done) | (simp; omega) | omega) _)), ⟨by go_simp, by go_simp, by go_simp, by go_simp⟩, ⟨by go_simp, ?_, by go_simp⟩, ⟨by go_simp, by go_simp, by go_simp, by go_simp⟩, (by repeat' (first | with_reducible exact k2 | with_reducible refine CellsAt.setFarG ?_ ?_ _ | with_reducible refine CellsAt.alloc ?_ _ | with_reducible refine CellsAt.drew ?_ | (intro ad had; have hx := hA2 ad had; simp; omega)))⟩
            go_simp
          case measure => simp [intOf]; omega
        · obtain rfl : k = xs.length := by omega
          rw [Nat.sub_self] at N_1
          go_wp2_with fail
          refine (recv_r C [] true a' _ c' _ rfl (.inl rfl) _ _ _ _ _ _ H_e4.out).mono ?_
          rintro e w13 ⟨⟨a2, c2, rfl, k2⟩, hc13⟩
          have hb13 : Below w.heap.size w w13 := bchain (by repeat' (first | exact hbw | refine Below.drew ?_ | refine Below.alloc ?_ (by have := hbw.size; first | (simp; done) | (simp; omega) | omega) _ | refine Below.setCell ?_ (by first | (simp; done) | (simp; omega) | omega) _)) hc13
          have hst13 : Below wr.heap.size wr w13 := bchain (by repeat' (first | exact Below.refl _ _ | refine Below.drew ?_ | refine Below.alloc ?_ (by simp) _ | refine Below.alloc ?_ (by simp; omega) _ | refine Below.setCell ?_ (by first | (simp; done) | (simp; omega) | omega) _)) hc13
          replace N_0 := cell_later hst13 N_0
          replace N_1 := cell_later hst13 N_1
          replace N_2 := cell_later hst13 N_2
          replace N_l := Nat.lt_of_lt_of_le N_l hst13.size
          clear hst13
          clear hc13 hbw
          go_wp2_with fail
          refine (same_self C [] true a2 a' c2 c' _ (.inl rfl) (.inl rfl) (by simp [maxLen])).mono ?_
          rintro e w14 ⟨rfl, hc14⟩
          have hb14 : Below w.heap.size w w14 := bchain (by repeat' (first | exact hb13 | refine Below.drew ?_ | refine Below.alloc ?_ (by have := hb13.size; first | (simp; done) | (simp; omega) | omega) _ | refine Below.setCell ?_ (by first | (simp; done) | (simp; omega) | omega) _)) hc14
          have hst14 : Below w13.heap.size w13 w14 := bchain (by repeat' (first | exact Below.refl _ _ | refine Below.drew ?_ | refine Below.alloc ?_ (by simp) _ | refine Below.alloc ?_ (by simp; omega) _ | refine Below.setCell ?_ (by first | (simp; done) | (simp; omega) | omega) _)) hc14
          replace N_0 := cell_later hst14 N_0
          replace N_1 := cell_later hst14 N_1
          replace N_2 := cell_later hst14 N_2
          replace N_l := Nat.lt_of_lt_of_le N_l hst14.size
          have D_0 : w14.cell? ⟨w13.heap.size, 0, none⟩ = some (.int .i64 C) := (hc14.cell (p := ⟨w13.heap.size, 0, none⟩) (by first | (simp; done) | (simp; omega))).trans (by simp)
          have D_1 : w14.cell? ⟨w13.heap.size, 1, none⟩ = some (.slice a2 0 c2) := (hc14.cell (p := ⟨w13.heap.size, 1, none⟩) (by first | (simp; done) | (simp; omega))).trans (by simp)
          have D_2 : w14.cell? ⟨w13.heap.size, 2, none⟩ = some (.bool true) := (hc14.cell (p := ⟨w13.heap.size, 2, none⟩) (by first | (simp; done) | (simp; omega))).trans (by simp)
          have D_l : w13.heap.size < w14.heap.size := Nat.lt_of_lt_of_le (by first | (simp; done) | (simp; omega)) hc14.size
          clear hst14
          clear hc14 hb13
          go_wp2_with fail
          go_ret
          exact ⟨rfl, by repeat' (first | exact hb14 | refine Below.drew ?_ | refine Below.alloc ?_ (by have := hb14.size; first | (simp; done) | (simp; omega) | omega) _ | refine Below.setCell ?_ (by first | (simp; done) | (simp; omega) | omega) _)⟩
  · have H_hl5 := hid hl5
    have H_h8 := hid h8
    clear hl5 h8
    go_enter Try.func6, Try.ntmps6
    have hb0 := Below.refl w.heap.size w
    go_wp2_with fail
    refine (alive_any _).mono ?_
    rintro e w1 ⟨rfl, hc1⟩
    have hb1 : Below w.heap.size w w1 := bchain (by repeat' (first | exact hb0 | refine Below.drew ?_ | refine Below.alloc ?_ (by have := hb0.size; first | (simp; done) | (simp; omega) | omega) _ | refine Below.setCell ?_ (by first | (simp; done) | (simp; omega) | omega) _)) hc1
    have P_0 : w1.cell? ⟨w.heap.size, 0, none⟩ = some (.int .i64 C) := (hc1.cell (p := ⟨w.heap.size, 0, none⟩) (by first | (simp; done) | (simp; omega))).trans (by simp)
    have P_1 : w1.cell? ⟨w.heap.size, 1, none⟩ = some (.slice a xs.length cp) := (hc1.cell (p := ⟨w.heap.size, 1, none⟩) (by first | (simp; done) | (simp; omega))).trans (by simp)
    have P_2 : w1.cell? ⟨w.heap.size, 2, none⟩ = some (.bool cl) := (hc1.cell (p := ⟨w.heap.size, 2, none⟩) (by first | (simp; done) | (simp; omega))).trans (by simp)
    have P_l : w.heap.size < w1.heap.size := Nat.lt_of_lt_of_le (by first | (simp; done) | (simp; omega)) hc1.size
    clear hc1 hb0
    go_wp2_with fail
    refine (rcheck_any C xs cl a cp _).mono ?_
    rintro e w2 ⟨rfl, hc2⟩
    have hb2 : Below w.heap.size w w2 := bchain (by repeat' (first | exact hb1 | refine Below.drew ?_ | refine Below.alloc ?_ (by have := hb1.size; first | (simp; done) | (simp; omega) | omega) _ | refine Below.setCell ?_ (by first | (simp; done) | (simp; omega) | omega) _)) hc2
    have hst2 : Below w1.heap.size w1 w2 := bchain (by repeat' (first | exact Below.refl _ _ | refine Below.drew ?_ | refine Below.alloc ?_ (by simp) _ | refine Below.alloc ?_ (by simp; omega) _ | refine Below.setCell ?_ (by first | (simp; done) | (simp; omega) | omega) _)) hc2
    replace P_0 := cell_later hst2 P_0
    replace P_1 := cell_later hst2 P_1
    replace P_2 := cell_later hst2 P_2
    replace P_l := Nat.lt_of_lt_of_le P_l hst2.size
    clear hst2
    clear hc2 hb1
    rw [H_h8.out]
    go_wp2_with fail
    go_ret
    exact ⟨rfl, by repeat' (first | exact hb2 | refine Below.drew ?_ | refine Below.alloc ?_ (by have := hb2.size; first | (simp; done) | (simp; omega) | omega) _ | refine Below.setCell ?_ (by first | (simp; done) | (simp; omega) | omega) _)⟩

end Go.Proofs.Yteajfhodfpjplaa
