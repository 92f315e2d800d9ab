/- The laws on channels: ChannelNames. -/
import Derived.Test.YteajfhodfpjplaaChannelLaws
import Derived.Test.YteajfhodfpjplaaMem2
import Derived.BigRegion
namespace Go.Proofs.Yteajfhodfpjplaa
set_option linter.unusedSimpArgs false
set_option linter.unusedVariables false
set_option linter.unnecessarySimpa false
open Go.RowKit

theorem mk1 (w : World) : (Instr.makeSlice 22 (.int .i64 1) (.int .i64 1)).run Try.prog w = .ok (.slice (some ⟨w.heap.size, 0, none⟩) 1 1) (w.alloc (.cells #[.int .u64 0] 25)) := by kernel_rfl
theorem mk2 (w : World) : (Instr.makeSlice 22 (.int .i64 2) (.int .i64 2)).run Try.prog w = .ok (.slice (some ⟨w.heap.size, 0, none⟩) 2 2) (w.alloc (.cells #[.int .u64 0, .int .u64 0] 25)) := by kernel_rfl
def zeros60 : Array Value := (List.replicate 60 (Value.int .u64 0)).toArray
theorem mk60 (w : World) : (Instr.makeSlice 22 (.int .i64 60) (.int .i64 60)).run Try.prog w = .ok (.slice (some ⟨w.heap.size, 0, none⟩) 60 60) (w.alloc (.cells zeros60 25)) := by kernel_rfl
theorem CellsAt.at {w : World} {b o : Nat} {cs : List Value} (h : CellsAt w (some ⟨b, o, none⟩) cs) {j : Nat} {u : Value} (hj : cs[j]? = some u) : w.cell? ⟨b, o + j, none⟩ = some u := by
  rcases h with h | ⟨b', o', ha, h⟩
  · subst h; simp at hj
  · cases ha; exact h j u hj
theorem cellsAt_new (w : World) (cur : Array Value) (e : TypeId) (cs : List Value) {b : Nat} (h : cur.toList = cs) (hb : b = w.heap.size) : CellsAt (w.alloc (.cells cur e)) (some ⟨b, 0, none⟩) cs := by
  subst h; subst hb
  refine .inr ⟨_, _, rfl, fun j u hj => ?_⟩
  unfold World.cell?
  rw [heap_alloc_new]
  simpa using hj
theorem cellsAt_oneI (w : World) (k : IntKind) (x : Int) (t : TypeId) : CellsAt (w.alloc (.cells #[.int k x] t)) (some ⟨w.heap.size, 0, none⟩) ([x].map (Value.int k)) := cellsAt_one _ _ _
def bads (p q : Nat) : List Value :=
  [.int .i64 0, .slice none 0 0, .bool false, .int .i64 61, .slice none 0 0, .bool false, .int .i64 (-1), .slice none 0 0, .bool false,
   .int .i64 1, .slice (some ⟨p, 0, none⟩) 2 2, .bool false, .int .i64 0, .slice (some ⟨q, 0, none⟩) 1 1, .bool true]



set_option maxRecDepth 100000 in
set_option maxHeartbeats 40000000 in
theorem names_walk (w : World) :
    Calls Try.prog 4 #[] w fun e w' =>
      e = .returned (.bool true) ∧ Below w.heap.size w w' := by
  have k1 := mk1
  have k2 := mk2
  go_enter Try.func4, Try.ntmps4
  have hb0 := Below.refl w.heap.size w
  go_wp2_with fail
  go_region
  · go_wp2_with fail
    clear k1 k2
    go_loopw [2] (fun i wr => ∃ k : Nat, k ≤ 5 ∧ i = .int .i64 k ∧ Below w.heap.size w wr ∧ CellsAt wr (some ⟨w.heap.size + 1 + 1, 0, none⟩) (bads (w.heap.size) (w.heap.size + 1)) ∧ CellsAt wr (some ⟨w.heap.size, 0, none⟩) [.int .u64 0, .int .u64 0] ∧ CellsAt wr (some ⟨w.heap.size + 1, 0, none⟩) [.int .u64 0]) (fun i _ => 5 - (intOf i).toNat)
    case atStart => exact ⟨0, by omega, rfl, (by repeat' (first | exact hb0 | refine Below.drew ?_ | refine Below.alloc ?_ (by have := hb0.size; first | (simp; done) | (simp; omega) | omega) _ | refine Below.setCell ?_ (by first | (simp; done) | (simp; omega) | omega) _)), (by first | (refine CellsAt.drew (cellsAt_new _ _ _ _ rfl ?_); simp; done) | (refine CellsAt.drew (CellsAt.alloc (cellsAt_new _ _ _ _ rfl ?_) _); simp; done) | (refine CellsAt.drew (CellsAt.alloc (CellsAt.alloc (cellsAt_new _ _ _ _ rfl ?_) _) _); with_reducible rfl)), (by first | (refine CellsAt.drew (cellsAt_new _ _ _ _ rfl ?_); simp; done) | (refine CellsAt.drew (CellsAt.alloc (cellsAt_new _ _ _ _ rfl ?_) _); simp; done) | (refine CellsAt.drew (CellsAt.alloc (CellsAt.alloc (cellsAt_new _ _ _ _ rfl ?_) _) _); with_reducible rfl)), (by first | (refine CellsAt.drew (cellsAt_new _ _ _ _ rfl ?_); simp; done) | (refine CellsAt.drew (CellsAt.alloc (cellsAt_new _ _ _ _ rfl ?_) _); simp; done) | (refine CellsAt.drew (CellsAt.alloc (CellsAt.alloc (cellsAt_new _ _ _ _ rfl ?_) _) _); with_reducible rfl))⟩
    case round =>
      obtain ⟨k, hk, rfl, hbw, hB, h4, h5⟩ := hrel
      by_cases hlt : k < 5
      · obtain rfl | rfl | rfl | rfl | rfl : k = 0 ∨ k = 1 ∨ k = 2 ∨ k = 3 ∨ k = 4 := by omega
        · skip
          have P_l : w.heap.size + 1 + 1 < wr.heap.size := World.block_lt_of_cell? _ _ (hB.at (j := 0) rfl)
          have P_0 : wr.cell? ⟨w.heap.size + 1 + 1, 0, none⟩ = some (.int .i64 0) := hB.at (j := 0) rfl
          have P_1 : wr.cell? ⟨w.heap.size + 1 + 1, 0 + 1, none⟩ = some (.slice none 0 0) := hB.at (j := 0 + 1) rfl
          have P_2 : wr.cell? ⟨w.heap.size + 1 + 1, 0 + 2, none⟩ = some (.bool false) := hB.at (j := 0 + 2) rfl
          go_wp2_with fail
          refine (send_r 0 [] false none _ 0 0 _ rfl (.inl rfl) 0 [] false 8 rfl).mono ?_
          rintro e w11 ⟨⟨a1, c1, rfl, _⟩, hc11⟩
          have hb11 : Below w.heap.size w w11 := bchain (by repeat' (first | exact hbw | refine Below.drew ?_ | refine Below.alloc ?_ (by have := hbw.size; first | (simp; done) | (simp; omega) | omega) _ | refine Below.setCell ?_ (by first | (simp; done) | (simp; omega) | omega) _)) hc11
          have hst11 : Below wr.heap.size wr w11 := bchain (by repeat' (first | exact Below.refl _ _ | refine Below.drew ?_ | refine Below.alloc ?_ (by first | (simp; done) | (simp; omega) | omega) _ | refine Below.setCell ?_ (by first | (simp; done) | (simp; omega) | omega) _)) hc11
          replace P_0 := cell_later hst11 P_0
          replace P_1 := cell_later hst11 P_1
          replace P_2 := cell_later hst11 P_2
          replace P_l := Nat.lt_of_lt_of_le P_l hst11.size
          replace hB := hB.later hst11
          replace h4 := h4.later hst11
          replace h5 := h5.later hst11
          clear hst11
          clear hc11 hbw
          go_wp2_with fail
          refine (recv_r 0 [] false none _ 0 _ rfl (.inl rfl) 0 [] false 0 false 8 rfl).mono ?_
          rintro e w12 ⟨⟨a2, c2, rfl, _⟩, hc12⟩
          have hb12 : Below w.heap.size w w12 := bchain (by repeat' (first | exact hb11 | refine Below.drew ?_ | refine Below.alloc ?_ (by have := hb11.size; first | (simp; done) | (simp; omega) | omega) _ | refine Below.setCell ?_ (by first | (simp; done) | (simp; omega) | omega) _)) hc12
          have hst12 : Below w11.heap.size w11 w12 := bchain (by repeat' (first | exact Below.refl _ _ | refine Below.drew ?_ | refine Below.alloc ?_ (by first | (simp; done) | (simp; omega) | omega) _ | refine Below.setCell ?_ (by first | (simp; done) | (simp; omega) | omega) _)) hc12
          replace P_0 := cell_later hst12 P_0
          replace P_1 := cell_later hst12 P_1
          replace P_2 := cell_later hst12 P_2
          replace P_l := Nat.lt_of_lt_of_le P_l hst12.size
          replace hB := hB.later hst12
          replace h4 := h4.later hst12
          replace h5 := h5.later hst12
          clear hst12
          clear hc12 hb11
          go_wp2_with fail
          refine (close_r 0 [] false none _ 0 _ rfl (.inl rfl) 0 [] false 8 rfl).mono ?_
          rintro e w13 ⟨⟨a3, c3, rfl, _⟩, hc13⟩
          have hb13 : Below w.heap.size w w13 := bchain (by repeat' (first | exact hb12 | refine Below.drew ?_ | refine Below.alloc ?_ (by have := hb12.size; first | (simp; done) | (simp; omega) | omega) _ | refine Below.setCell ?_ (by first | (simp; done) | (simp; omega) | omega) _)) hc13
          have hst13 : Below w12.heap.size w12 w13 := bchain (by repeat' (first | exact Below.refl _ _ | refine Below.drew ?_ | refine Below.alloc ?_ (by first | (simp; done) | (simp; omega) | omega) _ | refine Below.setCell ?_ (by first | (simp; done) | (simp; omega) | omega) _)) hc13
          replace P_0 := cell_later hst13 P_0
          replace P_1 := cell_later hst13 P_1
          replace P_2 := cell_later hst13 P_2
          replace P_l := Nat.lt_of_lt_of_le P_l hst13.size
          replace hB := hB.later hst13
          replace h4 := h4.later hst13
          replace h5 := h5.later hst13
          clear hst13
          clear hc13 hb12
          go_wp2_with fail
          refine (room_r 0 [] false none _ 0 _ rfl 0 8 rfl).mono ?_
          rintro e w14 ⟨rfl, hc14⟩
          have hb14 : Below w.heap.size w w14 := bchain (by repeat' (first | exact hb13 | refine Below.drew ?_ | refine Below.alloc ?_ (by have := hb13.size; first | (simp; done) | (simp; omega) | omega) _ | refine Below.setCell ?_ (by first | (simp; done) | (simp; omega) | omega) _)) hc14
          have hst14 : Below w13.heap.size w13 w14 := bchain (by repeat' (first | exact Below.refl _ _ | refine Below.drew ?_ | refine Below.alloc ?_ (by first | (simp; done) | (simp; omega) | omega) _ | refine Below.setCell ?_ (by first | (simp; done) | (simp; omega) | omega) _)) hc14
          replace P_0 := cell_later hst14 P_0
          replace P_1 := cell_later hst14 P_1
          replace P_2 := cell_later hst14 P_2
          replace P_l := Nat.lt_of_lt_of_le P_l hst14.size
          replace hB := hB.later hst14
          replace h4 := h4.later hst14
          replace h5 := h5.later hst14
          clear hst14
          clear hc14 hb13
          go_wp2_with fail
          refine (check_any 0 [] false none 0 _).mono ?_
          rintro e w15 ⟨rfl, hc15⟩
          have hb15 : Below w.heap.size w w15 := bchain (by repeat' (first | exact hb14 | refine Below.drew ?_ | refine Below.alloc ?_ (by have := hb14.size; first | (simp; done) | (simp; omega) | omega) _ | refine Below.setCell ?_ (by first | (simp; done) | (simp; omega) | omega) _)) hc15
          have hst15 : Below w14.heap.size w14 w15 := bchain (by repeat' (first | exact Below.refl _ _ | refine Below.drew ?_ | refine Below.alloc ?_ (by first | (simp; done) | (simp; omega) | omega) _ | refine Below.setCell ?_ (by first | (simp; done) | (simp; omega) | omega) _)) hc15
          replace P_0 := cell_later hst15 P_0
          replace P_1 := cell_later hst15 P_1
          replace P_2 := cell_later hst15 P_2
          replace P_l := Nat.lt_of_lt_of_le P_l hst15.size
          replace hB := hB.later hst15
          replace h4 := h4.later hst15
          replace h5 := h5.later hst15
          clear hst15
          clear hc15 hb14
          rw [show chErr ⟨0, [], false⟩ = 8 from rfl]
          go_wp2_with fail
          go_roundw
          case rel => exact ⟨1, by omega, by go_num, (by repeat' (first | exact hb15 | refine Below.drew ?_ | refine Below.alloc ?_ (by have := hb15.size; first | (simp; done) | (simp; omega) | omega) _ | refine Below.setCell ?_ (by first | (simp; done) | (simp; omega) | omega) _)), (by repeat' (first | with_reducible exact hB | with_reducible refine CellsAt.setFar ?_ ?_ _ | with_reducible refine CellsAt.alloc ?_ _ | with_reducible refine CellsAt.drew ?_ | assumption | (simp; omega) | omega)), (by repeat' (first | with_reducible exact h4 | with_reducible refine CellsAt.setFar ?_ ?_ _ | with_reducible refine CellsAt.alloc ?_ _ | with_reducible refine CellsAt.drew ?_ | assumption | (simp; omega) | omega)), (by repeat' (first | with_reducible exact h5 | with_reducible refine CellsAt.setFar ?_ ?_ _ | with_reducible refine CellsAt.alloc ?_ _ | with_reducible refine CellsAt.drew ?_ | assumption | (simp; omega) | omega))⟩
          case measure => simp [intOf]
        · skip
          have P_l : w.heap.size + 1 + 1 < wr.heap.size := World.block_lt_of_cell? _ _ (hB.at (j := 0) rfl)
          have P_0 : wr.cell? ⟨w.heap.size + 1 + 1, 3, none⟩ = some (.int .i64 61) := hB.at (j := 3) rfl
          have P_1 : wr.cell? ⟨w.heap.size + 1 + 1, 3 + 1, none⟩ = some (.slice none 0 0) := hB.at (j := 3 + 1) rfl
          have P_2 : wr.cell? ⟨w.heap.size + 1 + 1, 3 + 2, none⟩ = some (.bool false) := hB.at (j := 3 + 2) rfl
          go_wp2_with fail
          refine (send_r 61 [] false none _ 0 0 _ rfl (.inl rfl) 0 [] false 8 rfl).mono ?_
          rintro e w11 ⟨⟨a1, c1, rfl, _⟩, hc11⟩
          have hb11 : Below w.heap.size w w11 := bchain (by repeat' (first | exact hbw | refine Below.drew ?_ | refine Below.alloc ?_ (by have := hbw.size; first | (simp; done) | (simp; omega) | omega) _ | refine Below.setCell ?_ (by first | (simp; done) | (simp; omega) | omega) _)) hc11
          have hst11 : Below wr.heap.size wr w11 := bchain (by repeat' (first | exact Below.refl _ _ | refine Below.drew ?_ | refine Below.alloc ?_ (by first | (simp; done) | (simp; omega) | omega) _ | refine Below.setCell ?_ (by first | (simp; done) | (simp; omega) | omega) _)) hc11
          replace P_0 := cell_later hst11 P_0
          replace P_1 := cell_later hst11 P_1
          replace P_2 := cell_later hst11 P_2
          replace P_l := Nat.lt_of_lt_of_le P_l hst11.size
          replace hB := hB.later hst11
          replace h4 := h4.later hst11
          replace h5 := h5.later hst11
          clear hst11
          clear hc11 hbw
          go_wp2_with fail
          refine (recv_r 61 [] false none _ 0 _ rfl (.inl rfl) 0 [] false 0 false 8 rfl).mono ?_
          rintro e w12 ⟨⟨a2, c2, rfl, _⟩, hc12⟩
          have hb12 : Below w.heap.size w w12 := bchain (by repeat' (first | exact hb11 | refine Below.drew ?_ | refine Below.alloc ?_ (by have := hb11.size; first | (simp; done) | (simp; omega) | omega) _ | refine Below.setCell ?_ (by first | (simp; done) | (simp; omega) | omega) _)) hc12
          have hst12 : Below w11.heap.size w11 w12 := bchain (by repeat' (first | exact Below.refl _ _ | refine Below.drew ?_ | refine Below.alloc ?_ (by first | (simp; done) | (simp; omega) | omega) _ | refine Below.setCell ?_ (by first | (simp; done) | (simp; omega) | omega) _)) hc12
          replace P_0 := cell_later hst12 P_0
          replace P_1 := cell_later hst12 P_1
          replace P_2 := cell_later hst12 P_2
          replace P_l := Nat.lt_of_lt_of_le P_l hst12.size
          replace hB := hB.later hst12
          replace h4 := h4.later hst12
          replace h5 := h5.later hst12
          clear hst12
          clear hc12 hb11
          go_wp2_with fail
          refine (close_r 61 [] false none _ 0 _ rfl (.inl rfl) 0 [] false 8 rfl).mono ?_
          rintro e w13 ⟨⟨a3, c3, rfl, _⟩, hc13⟩
          have hb13 : Below w.heap.size w w13 := bchain (by repeat' (first | exact hb12 | refine Below.drew ?_ | refine Below.alloc ?_ (by have := hb12.size; first | (simp; done) | (simp; omega) | omega) _ | refine Below.setCell ?_ (by first | (simp; done) | (simp; omega) | omega) _)) hc13
          have hst13 : Below w12.heap.size w12 w13 := bchain (by repeat' (first | exact Below.refl _ _ | refine Below.drew ?_ | refine Below.alloc ?_ (by first | (simp; done) | (simp; omega) | omega) _ | refine Below.setCell ?_ (by first | (simp; done) | (simp; omega) | omega) _)) hc13
          replace P_0 := cell_later hst13 P_0
          replace P_1 := cell_later hst13 P_1
          replace P_2 := cell_later hst13 P_2
          replace P_l := Nat.lt_of_lt_of_le P_l hst13.size
          replace hB := hB.later hst13
          replace h4 := h4.later hst13
          replace h5 := h5.later hst13
          clear hst13
          clear hc13 hb12
          go_wp2_with fail
          refine (room_r 61 [] false none _ 0 _ rfl 0 8 rfl).mono ?_
          rintro e w14 ⟨rfl, hc14⟩
          have hb14 : Below w.heap.size w w14 := bchain (by repeat' (first | exact hb13 | refine Below.drew ?_ | refine Below.alloc ?_ (by have := hb13.size; first | (simp; done) | (simp; omega) | omega) _ | refine Below.setCell ?_ (by first | (simp; done) | (simp; omega) | omega) _)) hc14
          have hst14 : Below w13.heap.size w13 w14 := bchain (by repeat' (first | exact Below.refl _ _ | refine Below.drew ?_ | refine Below.alloc ?_ (by first | (simp; done) | (simp; omega) | omega) _ | refine Below.setCell ?_ (by first | (simp; done) | (simp; omega) | omega) _)) hc14
          replace P_0 := cell_later hst14 P_0
          replace P_1 := cell_later hst14 P_1
          replace P_2 := cell_later hst14 P_2
          replace P_l := Nat.lt_of_lt_of_le P_l hst14.size
          replace hB := hB.later hst14
          replace h4 := h4.later hst14
          replace h5 := h5.later hst14
          clear hst14
          clear hc14 hb13
          go_wp2_with fail
          refine (check_any 61 [] false none 0 _).mono ?_
          rintro e w15 ⟨rfl, hc15⟩
          have hb15 : Below w.heap.size w w15 := bchain (by repeat' (first | exact hb14 | refine Below.drew ?_ | refine Below.alloc ?_ (by have := hb14.size; first | (simp; done) | (simp; omega) | omega) _ | refine Below.setCell ?_ (by first | (simp; done) | (simp; omega) | omega) _)) hc15
          have hst15 : Below w14.heap.size w14 w15 := bchain (by repeat' (first | exact Below.refl _ _ | refine Below.drew ?_ | refine Below.alloc ?_ (by first | (simp; done) | (simp; omega) | omega) _ | refine Below.setCell ?_ (by first | (simp; done) | (simp; omega) | omega) _)) hc15
          replace P_0 := cell_later hst15 P_0
          replace P_1 := cell_later hst15 P_1
          replace P_2 := cell_later hst15 P_2
          replace P_l := Nat.lt_of_lt_of_le P_l hst15.size
          replace hB := hB.later hst15
          replace h4 := h4.later hst15
          replace h5 := h5.later hst15
          clear hst15
          clear hc15 hb14
          rw [show chErr ⟨61, [], false⟩ = 8 from rfl]
          go_wp2_with fail
          go_roundw
          case rel => exact ⟨2, by omega, by go_num, (by repeat' (first | exact hb15 | refine Below.drew ?_ | refine Below.alloc ?_ (by have := hb15.size; first | (simp; done) | (simp; omega) | omega) _ | refine Below.setCell ?_ (by first | (simp; done) | (simp; omega) | omega) _)), (by repeat' (first | with_reducible exact hB | with_reducible refine CellsAt.setFar ?_ ?_ _ | with_reducible refine CellsAt.alloc ?_ _ | with_reducible refine CellsAt.drew ?_ | assumption | (simp; omega) | omega)), (by repeat' (first | with_reducible exact h4 | with_reducible refine CellsAt.setFar ?_ ?_ _ | with_reducible refine CellsAt.alloc ?_ _ | with_reducible refine CellsAt.drew ?_ | assumption | (simp; omega) | omega)), (by repeat' (first | with_reducible exact h5 | with_reducible refine CellsAt.setFar ?_ ?_ _ | with_reducible refine CellsAt.alloc ?_ _ | with_reducible refine CellsAt.drew ?_ | assumption | (simp; omega) | omega))⟩
          case measure => simp [intOf]
        · skip
          have P_l : w.heap.size + 1 + 1 < wr.heap.size := World.block_lt_of_cell? _ _ (hB.at (j := 0) rfl)
          have P_0 : wr.cell? ⟨w.heap.size + 1 + 1, 6, none⟩ = some (.int .i64 (-1)) := hB.at (j := 6) rfl
          have P_1 : wr.cell? ⟨w.heap.size + 1 + 1, 6 + 1, none⟩ = some (.slice none 0 0) := hB.at (j := 6 + 1) rfl
          have P_2 : wr.cell? ⟨w.heap.size + 1 + 1, 6 + 2, none⟩ = some (.bool false) := hB.at (j := 6 + 2) rfl
          go_wp2_with fail
          refine (send_r (-1) [] false none _ 0 0 _ rfl (.inl rfl) 0 [] false 8 rfl).mono ?_
          rintro e w11 ⟨⟨a1, c1, rfl, _⟩, hc11⟩
          have hb11 : Below w.heap.size w w11 := bchain (by repeat' (first | exact hbw | refine Below.drew ?_ | refine Below.alloc ?_ (by have := hbw.size; first | (simp; done) | (simp; omega) | omega) _ | refine Below.setCell ?_ (by first | (simp; done) | (simp; omega) | omega) _)) hc11
          have hst11 : Below wr.heap.size wr w11 := bchain (by repeat' (first | exact Below.refl _ _ | refine Below.drew ?_ | refine Below.alloc ?_ (by first | (simp; done) | (simp; omega) | omega) _ | refine Below.setCell ?_ (by first | (simp; done) | (simp; omega) | omega) _)) hc11
          replace P_0 := cell_later hst11 P_0
          replace P_1 := cell_later hst11 P_1
          replace P_2 := cell_later hst11 P_2
          replace P_l := Nat.lt_of_lt_of_le P_l hst11.size
          replace hB := hB.later hst11
          replace h4 := h4.later hst11
          replace h5 := h5.later hst11
          clear hst11
          clear hc11 hbw
          go_wp2_with fail
          refine (recv_r (-1) [] false none _ 0 _ rfl (.inl rfl) 0 [] false 0 false 8 rfl).mono ?_
          rintro e w12 ⟨⟨a2, c2, rfl, _⟩, hc12⟩
          have hb12 : Below w.heap.size w w12 := bchain (by repeat' (first | exact hb11 | refine Below.drew ?_ | refine Below.alloc ?_ (by have := hb11.size; first | (simp; done) | (simp; omega) | omega) _ | refine Below.setCell ?_ (by first | (simp; done) | (simp; omega) | omega) _)) hc12
          have hst12 : Below w11.heap.size w11 w12 := bchain (by repeat' (first | exact Below.refl _ _ | refine Below.drew ?_ | refine Below.alloc ?_ (by first | (simp; done) | (simp; omega) | omega) _ | refine Below.setCell ?_ (by first | (simp; done) | (simp; omega) | omega) _)) hc12
          replace P_0 := cell_later hst12 P_0
          replace P_1 := cell_later hst12 P_1
          replace P_2 := cell_later hst12 P_2
          replace P_l := Nat.lt_of_lt_of_le P_l hst12.size
          replace hB := hB.later hst12
          replace h4 := h4.later hst12
          replace h5 := h5.later hst12
          clear hst12
          clear hc12 hb11
          go_wp2_with fail
          refine (close_r (-1) [] false none _ 0 _ rfl (.inl rfl) 0 [] false 8 rfl).mono ?_
          rintro e w13 ⟨⟨a3, c3, rfl, _⟩, hc13⟩
          have hb13 : Below w.heap.size w w13 := bchain (by repeat' (first | exact hb12 | refine Below.drew ?_ | refine Below.alloc ?_ (by have := hb12.size; first | (simp; done) | (simp; omega) | omega) _ | refine Below.setCell ?_ (by first | (simp; done) | (simp; omega) | omega) _)) hc13
          have hst13 : Below w12.heap.size w12 w13 := bchain (by repeat' (first | exact Below.refl _ _ | refine Below.drew ?_ | refine Below.alloc ?_ (by first | (simp; done) | (simp; omega) | omega) _ | refine Below.setCell ?_ (by first | (simp; done) | (simp; omega) | omega) _)) hc13
          replace P_0 := cell_later hst13 P_0
          replace P_1 := cell_later hst13 P_1
          replace P_2 := cell_later hst13 P_2
          replace P_l := Nat.lt_of_lt_of_le P_l hst13.size
          replace hB := hB.later hst13
          replace h4 := h4.later hst13
          replace h5 := h5.later hst13
          clear hst13
          clear hc13 hb12
          go_wp2_with fail
          refine (room_r (-1) [] false none _ 0 _ rfl 0 8 rfl).mono ?_
          rintro e w14 ⟨rfl, hc14⟩
          have hb14 : Below w.heap.size w w14 := bchain (by repeat' (first | exact hb13 | refine Below.drew ?_ | refine Below.alloc ?_ (by have := hb13.size; first | (simp; done) | (simp; omega) | omega) _ | refine Below.setCell ?_ (by first | (simp; done) | (simp; omega) | omega) _)) hc14
          have hst14 : Below w13.heap.size w13 w14 := bchain (by repeat' (first | exact Below.refl _ _ | refine Below.drew ?_ | refine Below.alloc ?_ (by first | (simp; done) | (simp; omega) | omega) _ | refine Below.setCell ?_ (by first | (simp; done) | (simp; omega) | omega) _)) hc14
          replace P_0 := cell_later hst14 P_0
          replace P_1 := cell_later hst14 P_1
          replace P_2 := cell_later hst14 P_2
          replace P_l := Nat.lt_of_lt_of_le P_l hst14.size
          replace hB := hB.later hst14
          replace h4 := h4.later hst14
          replace h5 := h5.later hst14
          clear hst14
          clear hc14 hb13
          go_wp2_with fail
          refine (check_any (-1) [] false none 0 _).mono ?_
          rintro e w15 ⟨rfl, hc15⟩
          have hb15 : Below w.heap.size w w15 := bchain (by repeat' (first | exact hb14 | refine Below.drew ?_ | refine Below.alloc ?_ (by have := hb14.size; first | (simp; done) | (simp; omega) | omega) _ | refine Below.setCell ?_ (by first | (simp; done) | (simp; omega) | omega) _)) hc15
          have hst15 : Below w14.heap.size w14 w15 := bchain (by repeat' (first | exact Below.refl _ _ | refine Below.drew ?_ | refine Below.alloc ?_ (by first | (simp; done) | (simp; omega) | omega) _ | refine Below.setCell ?_ (by first | (simp; done) | (simp; omega) | omega) _)) hc15
          replace P_0 := cell_later hst15 P_0
          replace P_1 := cell_later hst15 P_1
          replace P_2 := cell_later hst15 P_2
          replace P_l := Nat.lt_of_lt_of_le P_l hst15.size
          replace hB := hB.later hst15
          replace h4 := h4.later hst15
          replace h5 := h5.later hst15
          clear hst15
          clear hc15 hb14
          rw [show chErr ⟨(-1), [], false⟩ = 8 from rfl]
          go_wp2_with fail
          go_roundw
          case rel => exact ⟨3, by omega, by go_num, (by repeat' (first | exact hb15 | refine Below.drew ?_ | refine Below.alloc ?_ (by have := hb15.size; first | (simp; done) | (simp; omega) | omega) _ | refine Below.setCell ?_ (by first | (simp; done) | (simp; omega) | omega) _)), (by repeat' (first | with_reducible exact hB | with_reducible refine CellsAt.setFar ?_ ?_ _ | with_reducible refine CellsAt.alloc ?_ _ | with_reducible refine CellsAt.drew ?_ | assumption | (simp; omega) | omega)), (by repeat' (first | with_reducible exact h4 | with_reducible refine CellsAt.setFar ?_ ?_ _ | with_reducible refine CellsAt.alloc ?_ _ | with_reducible refine CellsAt.drew ?_ | assumption | (simp; omega) | omega)), (by repeat' (first | with_reducible exact h5 | with_reducible refine CellsAt.setFar ?_ ?_ _ | with_reducible refine CellsAt.alloc ?_ _ | with_reducible refine CellsAt.drew ?_ | assumption | (simp; omega) | omega))⟩
          case measure => simp [intOf]
        · skip
          have P_l : w.heap.size + 1 + 1 < wr.heap.size := World.block_lt_of_cell? _ _ (hB.at (j := 0) rfl)
          have P_0 : wr.cell? ⟨w.heap.size + 1 + 1, 9, none⟩ = some (.int .i64 1) := hB.at (j := 9) rfl
          have P_1 : wr.cell? ⟨w.heap.size + 1 + 1, 9 + 1, none⟩ = some (.slice (some ⟨w.heap.size, 0, none⟩) 2 2) := hB.at (j := 9 + 1) rfl
          have P_2 : wr.cell? ⟨w.heap.size + 1 + 1, 9 + 2, none⟩ = some (.bool false) := hB.at (j := 9 + 2) rfl
          go_wp2_with fail
          refine (send_r 1 [0, 0] false (some ⟨w.heap.size, 0, none⟩) _ 2 0 _ rfl (by repeat' (first | with_reducible exact h4 | with_reducible refine CellsAt.setFar ?_ ?_ _ | with_reducible refine CellsAt.alloc ?_ _ | with_reducible refine CellsAt.drew ?_ | assumption | (simp; omega) | omega)) 0 [] false 8 rfl).mono ?_
          rintro e w11 ⟨⟨a1, c1, rfl, _⟩, hc11⟩
          have hb11 : Below w.heap.size w w11 := bchain (by repeat' (first | exact hbw | refine Below.drew ?_ | refine Below.alloc ?_ (by have := hbw.size; first | (simp; done) | (simp; omega) | omega) _ | refine Below.setCell ?_ (by first | (simp; done) | (simp; omega) | omega) _)) hc11
          have hst11 : Below wr.heap.size wr w11 := bchain (by repeat' (first | exact Below.refl _ _ | refine Below.drew ?_ | refine Below.alloc ?_ (by first | (simp; done) | (simp; omega) | omega) _ | refine Below.setCell ?_ (by first | (simp; done) | (simp; omega) | omega) _)) hc11
          replace P_0 := cell_later hst11 P_0
          replace P_1 := cell_later hst11 P_1
          replace P_2 := cell_later hst11 P_2
          replace P_l := Nat.lt_of_lt_of_le P_l hst11.size
          replace hB := hB.later hst11
          replace h4 := h4.later hst11
          replace h5 := h5.later hst11
          clear hst11
          clear hc11 hbw
          go_wp2_with fail
          refine (recv_r 1 [0, 0] false (some ⟨w.heap.size, 0, none⟩) _ 2 _ rfl (by repeat' (first | with_reducible exact h4 | with_reducible refine CellsAt.setFar ?_ ?_ _ | with_reducible refine CellsAt.alloc ?_ _ | with_reducible refine CellsAt.drew ?_ | assumption | (simp; omega) | omega)) 0 [] false 0 false 8 rfl).mono ?_
          rintro e w12 ⟨⟨a2, c2, rfl, _⟩, hc12⟩
          have hb12 : Below w.heap.size w w12 := bchain (by repeat' (first | exact hb11 | refine Below.drew ?_ | refine Below.alloc ?_ (by have := hb11.size; first | (simp; done) | (simp; omega) | omega) _ | refine Below.setCell ?_ (by first | (simp; done) | (simp; omega) | omega) _)) hc12
          have hst12 : Below w11.heap.size w11 w12 := bchain (by repeat' (first | exact Below.refl _ _ | refine Below.drew ?_ | refine Below.alloc ?_ (by first | (simp; done) | (simp; omega) | omega) _ | refine Below.setCell ?_ (by first | (simp; done) | (simp; omega) | omega) _)) hc12
          replace P_0 := cell_later hst12 P_0
          replace P_1 := cell_later hst12 P_1
          replace P_2 := cell_later hst12 P_2
          replace P_l := Nat.lt_of_lt_of_le P_l hst12.size
          replace hB := hB.later hst12
          replace h4 := h4.later hst12
          replace h5 := h5.later hst12
          clear hst12
          clear hc12 hb11
          go_wp2_with fail
          refine (close_r 1 [0, 0] false (some ⟨w.heap.size, 0, none⟩) _ 2 _ rfl (by repeat' (first | with_reducible exact h4 | with_reducible refine CellsAt.setFar ?_ ?_ _ | with_reducible refine CellsAt.alloc ?_ _ | with_reducible refine CellsAt.drew ?_ | assumption | (simp; omega) | omega)) 0 [] false 8 rfl).mono ?_
          rintro e w13 ⟨⟨a3, c3, rfl, _⟩, hc13⟩
          have hb13 : Below w.heap.size w w13 := bchain (by repeat' (first | exact hb12 | refine Below.drew ?_ | refine Below.alloc ?_ (by have := hb12.size; first | (simp; done) | (simp; omega) | omega) _ | refine Below.setCell ?_ (by first | (simp; done) | (simp; omega) | omega) _)) hc13
          have hst13 : Below w12.heap.size w12 w13 := bchain (by repeat' (first | exact Below.refl _ _ | refine Below.drew ?_ | refine Below.alloc ?_ (by first | (simp; done) | (simp; omega) | omega) _ | refine Below.setCell ?_ (by first | (simp; done) | (simp; omega) | omega) _)) hc13
          replace P_0 := cell_later hst13 P_0
          replace P_1 := cell_later hst13 P_1
          replace P_2 := cell_later hst13 P_2
          replace P_l := Nat.lt_of_lt_of_le P_l hst13.size
          replace hB := hB.later hst13
          replace h4 := h4.later hst13
          replace h5 := h5.later hst13
          clear hst13
          clear hc13 hb12
          go_wp2_with fail
          refine (room_r 1 [0, 0] false (some ⟨w.heap.size, 0, none⟩) _ 2 _ rfl 0 8 rfl).mono ?_
          rintro e w14 ⟨rfl, hc14⟩
          have hb14 : Below w.heap.size w w14 := bchain (by repeat' (first | exact hb13 | refine Below.drew ?_ | refine Below.alloc ?_ (by have := hb13.size; first | (simp; done) | (simp; omega) | omega) _ | refine Below.setCell ?_ (by first | (simp; done) | (simp; omega) | omega) _)) hc14
          have hst14 : Below w13.heap.size w13 w14 := bchain (by repeat' (first | exact Below.refl _ _ | refine Below.drew ?_ | refine Below.alloc ?_ (by first | (simp; done) | (simp; omega) | omega) _ | refine Below.setCell ?_ (by first | (simp; done) | (simp; omega) | omega) _)) hc14
          replace P_0 := cell_later hst14 P_0
          replace P_1 := cell_later hst14 P_1
          replace P_2 := cell_later hst14 P_2
          replace P_l := Nat.lt_of_lt_of_le P_l hst14.size
          replace hB := hB.later hst14
          replace h4 := h4.later hst14
          replace h5 := h5.later hst14
          clear hst14
          clear hc14 hb13
          go_wp2_with fail
          refine (check_any 1 [0, 0] false (some ⟨w.heap.size, 0, none⟩) 2 _).mono ?_
          rintro e w15 ⟨rfl, hc15⟩
          have hb15 : Below w.heap.size w w15 := bchain (by repeat' (first | exact hb14 | refine Below.drew ?_ | refine Below.alloc ?_ (by have := hb14.size; first | (simp; done) | (simp; omega) | omega) _ | refine Below.setCell ?_ (by first | (simp; done) | (simp; omega) | omega) _)) hc15
          have hst15 : Below w14.heap.size w14 w15 := bchain (by repeat' (first | exact Below.refl _ _ | refine Below.drew ?_ | refine Below.alloc ?_ (by first | (simp; done) | (simp; omega) | omega) _ | refine Below.setCell ?_ (by first | (simp; done) | (simp; omega) | omega) _)) hc15
          replace P_0 := cell_later hst15 P_0
          replace P_1 := cell_later hst15 P_1
          replace P_2 := cell_later hst15 P_2
          replace P_l := Nat.lt_of_lt_of_le P_l hst15.size
          replace hB := hB.later hst15
          replace h4 := h4.later hst15
          replace h5 := h5.later hst15
          clear hst15
          clear hc15 hb14
          rw [show chErr ⟨1, [0, 0], false⟩ = 8 from rfl]
          go_wp2_with fail
          go_roundw
          case rel => exact ⟨4, by omega, by go_num, (by repeat' (first | exact hb15 | refine Below.drew ?_ | refine Below.alloc ?_ (by have := hb15.size; first | (simp; done) | (simp; omega) | omega) _ | refine Below.setCell ?_ (by first | (simp; done) | (simp; omega) | omega) _)), (by repeat' (first | with_reducible exact hB | with_reducible refine CellsAt.setFar ?_ ?_ _ | with_reducible refine CellsAt.alloc ?_ _ | with_reducible refine CellsAt.drew ?_ | assumption | (simp; omega) | omega)), (by repeat' (first | with_reducible exact h4 | with_reducible refine CellsAt.setFar ?_ ?_ _ | with_reducible refine CellsAt.alloc ?_ _ | with_reducible refine CellsAt.drew ?_ | assumption | (simp; omega) | omega)), (by repeat' (first | with_reducible exact h5 | with_reducible refine CellsAt.setFar ?_ ?_ _ | with_reducible refine CellsAt.alloc ?_ _ | with_reducible refine CellsAt.drew ?_ | assumption | (simp; omega) | omega))⟩
          case measure => simp [intOf]
        · skip
          have P_l : w.heap.size + 1 + 1 < wr.heap.size := World.block_lt_of_cell? _ _ (hB.at (j := 0) rfl)
          have P_0 : wr.cell? ⟨w.heap.size + 1 + 1, 12, none⟩ = some (.int .i64 0) := hB.at (j := 12) rfl
          have P_1 : wr.cell? ⟨w.heap.size + 1 + 1, 12 + 1, none⟩ = some (.slice (some ⟨w.heap.size + 1, 0, none⟩) 1 1) := hB.at (j := 12 + 1) rfl
          have P_2 : wr.cell? ⟨w.heap.size + 1 + 1, 12 + 2, none⟩ = some (.bool true) := hB.at (j := 12 + 2) rfl
          go_wp2_with fail
          refine (send_r 0 [0] true (some ⟨w.heap.size + 1, 0, none⟩) _ 1 0 _ rfl (by repeat' (first | with_reducible exact h5 | with_reducible refine CellsAt.setFar ?_ ?_ _ | with_reducible refine CellsAt.alloc ?_ _ | with_reducible refine CellsAt.drew ?_ | assumption | (simp; omega) | omega)) 0 [] false 8 rfl).mono ?_
          rintro e w11 ⟨⟨a1, c1, rfl, _⟩, hc11⟩
          have hb11 : Below w.heap.size w w11 := bchain (by repeat' (first | exact hbw | refine Below.drew ?_ | refine Below.alloc ?_ (by have := hbw.size; first | (simp; done) | (simp; omega) | omega) _ | refine Below.setCell ?_ (by first | (simp; done) | (simp; omega) | omega) _)) hc11
          have hst11 : Below wr.heap.size wr w11 := bchain (by repeat' (first | exact Below.refl _ _ | refine Below.drew ?_ | refine Below.alloc ?_ (by first | (simp; done) | (simp; omega) | omega) _ | refine Below.setCell ?_ (by first | (simp; done) | (simp; omega) | omega) _)) hc11
          replace P_0 := cell_later hst11 P_0
          replace P_1 := cell_later hst11 P_1
          replace P_2 := cell_later hst11 P_2
          replace P_l := Nat.lt_of_lt_of_le P_l hst11.size
          replace hB := hB.later hst11
          replace h4 := h4.later hst11
          replace h5 := h5.later hst11
          clear hst11
          clear hc11 hbw
          go_wp2_with fail
          refine (recv_r 0 [0] true (some ⟨w.heap.size + 1, 0, none⟩) _ 1 _ rfl (by repeat' (first | with_reducible exact h5 | with_reducible refine CellsAt.setFar ?_ ?_ _ | with_reducible refine CellsAt.alloc ?_ _ | with_reducible refine CellsAt.drew ?_ | assumption | (simp; omega) | omega)) 0 [] false 0 false 8 rfl).mono ?_
          rintro e w12 ⟨⟨a2, c2, rfl, _⟩, hc12⟩
          have hb12 : Below w.heap.size w w12 := bchain (by repeat' (first | exact hb11 | refine Below.drew ?_ | refine Below.alloc ?_ (by have := hb11.size; first | (simp; done) | (simp; omega) | omega) _ | refine Below.setCell ?_ (by first | (simp; done) | (simp; omega) | omega) _)) hc12
          have hst12 : Below w11.heap.size w11 w12 := bchain (by repeat' (first | exact Below.refl _ _ | refine Below.drew ?_ | refine Below.alloc ?_ (by first | (simp; done) | (simp; omega) | omega) _ | refine Below.setCell ?_ (by first | (simp; done) | (simp; omega) | omega) _)) hc12
          replace P_0 := cell_later hst12 P_0
          replace P_1 := cell_later hst12 P_1
          replace P_2 := cell_later hst12 P_2
          replace P_l := Nat.lt_of_lt_of_le P_l hst12.size
          replace hB := hB.later hst12
          replace h4 := h4.later hst12
          replace h5 := h5.later hst12
          clear hst12
          clear hc12 hb11
          go_wp2_with fail
          refine (close_r 0 [0] true (some ⟨w.heap.size + 1, 0, none⟩) _ 1 _ rfl (by repeat' (first | with_reducible exact h5 | with_reducible refine CellsAt.setFar ?_ ?_ _ | with_reducible refine CellsAt.alloc ?_ _ | with_reducible refine CellsAt.drew ?_ | assumption | (simp; omega) | omega)) 0 [] false 8 rfl).mono ?_
          rintro e w13 ⟨⟨a3, c3, rfl, _⟩, hc13⟩
          have hb13 : Below w.heap.size w w13 := bchain (by repeat' (first | exact hb12 | refine Below.drew ?_ | refine Below.alloc ?_ (by have := hb12.size; first | (simp; done) | (simp; omega) | omega) _ | refine Below.setCell ?_ (by first | (simp; done) | (simp; omega) | omega) _)) hc13
          have hst13 : Below w12.heap.size w12 w13 := bchain (by repeat' (first | exact Below.refl _ _ | refine Below.drew ?_ | refine Below.alloc ?_ (by first | (simp; done) | (simp; omega) | omega) _ | refine Below.setCell ?_ (by first | (simp; done) | (simp; omega) | omega) _)) hc13
          replace P_0 := cell_later hst13 P_0
          replace P_1 := cell_later hst13 P_1
          replace P_2 := cell_later hst13 P_2
          replace P_l := Nat.lt_of_lt_of_le P_l hst13.size
          replace hB := hB.later hst13
          replace h4 := h4.later hst13
          replace h5 := h5.later hst13
          clear hst13
          clear hc13 hb12
          go_wp2_with fail
          refine (room_r 0 [0] true (some ⟨w.heap.size + 1, 0, none⟩) _ 1 _ rfl 0 8 rfl).mono ?_
          rintro e w14 ⟨rfl, hc14⟩
          have hb14 : Below w.heap.size w w14 := bchain (by repeat' (first | exact hb13 | refine Below.drew ?_ | refine Below.alloc ?_ (by have := hb13.size; first | (simp; done) | (simp; omega) | omega) _ | refine Below.setCell ?_ (by first | (simp; done) | (simp; omega) | omega) _)) hc14
          have hst14 : Below w13.heap.size w13 w14 := bchain (by repeat' (first | exact Below.refl _ _ | refine Below.drew ?_ | refine Below.alloc ?_ (by first | (simp; done) | (simp; omega) | omega) _ | refine Below.setCell ?_ (by first | (simp; done) | (simp; omega) | omega) _)) hc14
          replace P_0 := cell_later hst14 P_0
          replace P_1 := cell_later hst14 P_1
          replace P_2 := cell_later hst14 P_2
          replace P_l := Nat.lt_of_lt_of_le P_l hst14.size
          replace hB := hB.later hst14
          replace h4 := h4.later hst14
          replace h5 := h5.later hst14
          clear hst14
          clear hc14 hb13
          go_wp2_with fail
          refine (check_any 0 [0] true (some ⟨w.heap.size + 1, 0, none⟩) 1 _).mono ?_
          rintro e w15 ⟨rfl, hc15⟩
          have hb15 : Below w.heap.size w w15 := bchain (by repeat' (first | exact hb14 | refine Below.drew ?_ | refine Below.alloc ?_ (by have := hb14.size; first | (simp; done) | (simp; omega) | omega) _ | refine Below.setCell ?_ (by first | (simp; done) | (simp; omega) | omega) _)) hc15
          have hst15 : Below w14.heap.size w14 w15 := bchain (by repeat' (first | exact Below.refl _ _ | refine Below.drew ?_ | refine Below.alloc ?_ (by first | (simp; done) | (simp; omega) | omega) _ | refine Below.setCell ?_ (by first | (simp; done) | (simp; omega) | omega) _)) hc15
          replace P_0 := cell_later hst15 P_0
          replace P_1 := cell_later hst15 P_1
          replace P_2 := cell_later hst15 P_2
          replace P_l := Nat.lt_of_lt_of_le P_l hst15.size
          replace hB := hB.later hst15
          replace h4 := h4.later hst15
          replace h5 := h5.later hst15
          clear hst15
          clear hc15 hb14
          rw [show chErr ⟨0, [0], true⟩ = 8 from rfl]
          go_wp2_with fail
          go_roundw
          case rel => exact ⟨5, by omega, by go_num, (by repeat' (first | exact hb15 | refine Below.drew ?_ | refine Below.alloc ?_ (by have := hb15.size; first | (simp; done) | (simp; omega) | omega) _ | refine Below.setCell ?_ (by first | (simp; done) | (simp; omega) | omega) _)), (by repeat' (first | with_reducible exact hB | with_reducible refine CellsAt.setFar ?_ ?_ _ | with_reducible refine CellsAt.alloc ?_ _ | with_reducible refine CellsAt.drew ?_ | assumption | (simp; omega) | omega)), (by repeat' (first | with_reducible exact h4 | with_reducible refine CellsAt.setFar ?_ ?_ _ | with_reducible refine CellsAt.alloc ?_ _ | with_reducible refine CellsAt.drew ?_ | assumption | (simp; omega) | omega)), (by repeat' (first | with_reducible exact h5 | with_reducible refine CellsAt.setFar ?_ ?_ _ | with_reducible refine CellsAt.alloc ?_ _ | with_reducible refine CellsAt.drew ?_ | assumption | (simp; omega) | omega))⟩
          case measure => simp [intOf]
      · obtain rfl : k = 5 := by omega
        clear hB h4 h5
        go_wp2_with fail
        refine (new_r 0 _ 0 [] false 2 rfl).mono ?_
        rintro e w11 ⟨⟨a1, c1, rfl, _⟩, hc11⟩
        have hb11 : Below w.heap.size w w11 := bchain (by repeat' (first | exact hbw | refine Below.drew ?_ | refine Below.alloc ?_ (by have := hbw.size; first | (simp; done) | (simp; omega) | omega) _ | refine Below.setCell ?_ (by first | (simp; done) | (simp; omega) | omega) _)) hc11
        clear hc11 hbw
        go_wp2_with fail
        refine (new_r 61 _ 0 [] false 2 rfl).mono ?_
        rintro e w12 ⟨⟨a2, c2, rfl, _⟩, hc12⟩
        have hb12 : Below w.heap.size w w12 := bchain (by repeat' (first | exact hb11 | refine Below.drew ?_ | refine Below.alloc ?_ (by have := hb11.size; first | (simp; done) | (simp; omega) | omega) _ | refine Below.setCell ?_ (by first | (simp; done) | (simp; omega) | omega) _)) hc12
        clear hc12 hb11
        go_wp2_with fail
        refine (new_r 60 _ 60 [] false 0 rfl).mono ?_
        rintro e w13 ⟨⟨a3, c3, rfl, m3⟩, hc13⟩
        have hb13 : Below w.heap.size w w13 := bchain (by repeat' (first | exact hb12 | refine Below.drew ?_ | refine Below.alloc ?_ (by have := hb12.size; first | (simp; done) | (simp; omega) | omega) _ | refine Below.setCell ?_ (by first | (simp; done) | (simp; omega) | omega) _)) hc13
        clear hc13 hb12
        go_wp2_with fail
        refine (room_r 60 [] false a3 _ c3 _ rfl 60 0 rfl).mono ?_
        rintro e w14 ⟨rfl, hc14⟩
        have hb14 : Below w.heap.size w w14 := bchain (by repeat' (first | exact hb13 | refine Below.drew ?_ | refine Below.alloc ?_ (by have := hb13.size; first | (simp; done) | (simp; omega) | omega) _ | refine Below.setCell ?_ (by first | (simp; done) | (simp; omega) | omega) _)) hc14
        have M_0 : w14.cell? ⟨w13.heap.size, 0, none⟩ = some (.int .i64 60) := (hc14.cell (p := ⟨w13.heap.size, 0, none⟩) (by first | (simp; done) | (simp; omega))).trans (by first | (simp; done) | go_simp)
        have M_1 : w14.cell? ⟨w13.heap.size, 1, none⟩ = some (.slice a3 0 c3) := (hc14.cell (p := ⟨w13.heap.size, 1, none⟩) (by first | (simp; done) | (simp; omega))).trans (by first | (simp; done) | go_simp)
        have M_2 : w14.cell? ⟨w13.heap.size, 2, none⟩ = some (.bool false) := (hc14.cell (p := ⟨w13.heap.size, 2, none⟩) (by first | (simp; done) | (simp; omega))).trans (by first | (simp; done) | go_simp)
        have M_l : w13.heap.size < w14.heap.size := Nat.lt_of_lt_of_le (by first | (simp; done) | (simp; omega)) hc14.size
        clear hc14 hb13
        go_wp2_with fail
        refine (recv_r 60 [] false a3 _ c3 _ rfl (.inl rfl) 0 [] false 0 false 38 rfl).mono ?_
        rintro e w15 ⟨⟨a5, c5, rfl, _⟩, hc15⟩
        have hb15 : Below w.heap.size w w15 := bchain (by repeat' (first | exact hb14 | refine Below.drew ?_ | refine Below.alloc ?_ (by have := hb14.size; first | (simp; done) | (simp; omega) | omega) _ | refine Below.setCell ?_ (by first | (simp; done) | (simp; omega) | omega) _)) hc15
        have hst15 : Below w14.heap.size w14 w15 := bchain (by repeat' (first | exact Below.refl _ _ | refine Below.drew ?_ | refine Below.alloc ?_ (by first | (simp; done) | (simp; omega) | omega) _ | refine Below.setCell ?_ (by first | (simp; done) | (simp; omega) | omega) _)) hc15
        replace M_0 := cell_later hst15 M_0
        replace M_1 := cell_later hst15 M_1
        replace M_2 := cell_later hst15 M_2
        replace M_l := Nat.lt_of_lt_of_le M_l hst15.size
        clear hst15
        clear hc15 hb14
        clear M_0 M_1 M_2 M_l
        have q60 := mk60
        go_wp2_with fail
        have z60 : CellsAt ((((w15.alloc (Obj.cells #[Value.int IntKind.i64 0, Value.slice a5 0 c5, Value.bool false] 24)).alloc (Obj.cells zeros60 25)).alloc (Obj.cells #[Value.int IntKind.i64 60, Value.slice (some { block := w15.heap.size + 1, off := 0 }) 60 60, Value.bool true] 24))) (some ⟨w15.heap.size + 1, 0, none⟩) ((List.replicate 60 0).map (Value.int .u64)) := by
          refine CellsAt.alloc (cellsAt_new _ _ _ _ rfl ?_) _
          simp
        go_wp2_with fail
        refine (send_r 60 (List.replicate 60 0) true (some ⟨w15.heap.size + 1, 0, none⟩) _ 60 1 _ rfl (by repeat' (first | with_reducible exact z60 | with_reducible refine CellsAt.setFar ?_ ?_ _ | with_reducible refine CellsAt.alloc ?_ _ | with_reducible refine CellsAt.drew ?_ | assumption | (simp; omega) | omega)) 0 [] false 36 rfl).mono ?_
        rintro e w16 ⟨⟨a6, c6, rfl, _⟩, hc16⟩
        have hb16 : Below w.heap.size w w16 := bchain (by repeat' (first | exact hb15 | refine Below.drew ?_ | refine Below.alloc ?_ (by have := hb15.size; first | (simp; done) | (simp; omega) | omega) _ | refine Below.setCell ?_ (by first | (simp; done) | (simp; omega) | omega) _)) hc16
        have F_0 : w16.cell? ⟨w15.heap.size + 1 + 1, 0, none⟩ = some (.int .i64 60) := (hc16.cell (p := ⟨w15.heap.size + 1 + 1, 0, none⟩) (by first | (simp; done) | (simp; omega))).trans (by first | (simp; done) | go_simp)
        have F_1 : w16.cell? ⟨w15.heap.size + 1 + 1, 1, none⟩ = some (.slice (some ⟨w15.heap.size + 1, 0, none⟩) 60 60) := (hc16.cell (p := ⟨w15.heap.size + 1 + 1, 1, none⟩) (by first | (simp; done) | (simp; omega))).trans (by first | (simp; done) | go_simp)
        have F_2 : w16.cell? ⟨w15.heap.size + 1 + 1, 2, none⟩ = some (.bool true) := (hc16.cell (p := ⟨w15.heap.size + 1 + 1, 2, none⟩) (by first | (simp; done) | (simp; omega))).trans (by first | (simp; done) | go_simp)
        have F_l : w15.heap.size + 1 + 1 < w16.heap.size := Nat.lt_of_lt_of_le (by first | (simp; done) | (simp; omega)) hc16.size
        obtain ⟨hcell16, hfroz16⟩ := bcell hc16
        have hz16 := hc16.size
        replace z60 := z60.later hc16
        clear hcell16 hfroz16
        go_wp2_with fail
        refine (close_r 60 (List.replicate 60 0) true (some ⟨w15.heap.size + 1, 0, none⟩) _ 60 _ rfl (by repeat' (first | with_reducible exact z60 | with_reducible refine CellsAt.setFar ?_ ?_ _ | with_reducible refine CellsAt.alloc ?_ _ | with_reducible refine CellsAt.drew ?_ | assumption | (simp; omega) | omega)) 0 [] false 34 rfl).mono ?_
        rintro e w17 ⟨⟨a7, c7, rfl, _⟩, hc17⟩
        have hb17 : Below w.heap.size w w17 := bchain (by repeat' (first | exact hb16 | refine Below.drew ?_ | refine Below.alloc ?_ (by have := hb16.size; first | (simp; done) | (simp; omega) | omega) _ | refine Below.setCell ?_ (by first | (simp; done) | (simp; omega) | omega) _)) hc17
        have hst17 : Below w16.heap.size w16 w17 := bchain (by repeat' (first | exact Below.refl _ _ | refine Below.drew ?_ | refine Below.alloc ?_ (by first | (simp; done) | (simp; omega) | omega) _ | refine Below.setCell ?_ (by first | (simp; done) | (simp; omega) | omega) _)) hc17
        replace F_0 := cell_later hst17 F_0
        replace F_1 := cell_later hst17 F_1
        replace F_2 := cell_later hst17 F_2
        replace F_l := Nat.lt_of_lt_of_le F_l hst17.size
        replace z60 := z60.later hst17
        clear hst17
        clear hc17 hb16
        go_wp2_with fail
        refine (room_r 60 (List.replicate 60 0) true (some ⟨w15.heap.size + 1, 0, none⟩) _ 60 _ rfl 0 0 rfl).mono ?_
        rintro e w18 ⟨rfl, hc18⟩
        have hb18 : Below w.heap.size w w18 := bchain (by repeat' (first | exact hb17 | refine Below.drew ?_ | refine Below.alloc ?_ (by have := hb17.size; first | (simp; done) | (simp; omega) | omega) _ | refine Below.setCell ?_ (by first | (simp; done) | (simp; omega) | omega) _)) hc18
        have hst18 : Below w17.heap.size w17 w18 := bchain (by repeat' (first | exact Below.refl _ _ | refine Below.drew ?_ | refine Below.alloc ?_ (by first | (simp; done) | (simp; omega) | omega) _ | refine Below.setCell ?_ (by first | (simp; done) | (simp; omega) | omega) _)) hc18
        replace F_0 := cell_later hst18 F_0
        replace F_1 := cell_later hst18 F_1
        replace F_2 := cell_later hst18 F_2
        replace F_l := Nat.lt_of_lt_of_le F_l hst18.size
        replace z60 := z60.later hst18
        clear hst18
        clear hc18 hb17
        clear F_0 F_1 F_2 F_l
        clear z60
        go_wp2_with fail
        refine (recv_r 1 [18446744073709551615] false (some ⟨w18.heap.size, 0, none⟩) _ 1 _ rfl (by repeat' (first | with_reducible exact cellsAt_oneI _ _ _ _ | with_reducible refine CellsAt.setFar ?_ ?_ _ | with_reducible refine CellsAt.alloc ?_ _ | with_reducible refine CellsAt.drew ?_ | assumption | (simp; omega) | omega)) 1 [] false 18446744073709551615 true 0 rfl).mono ?_
        rintro e w19 ⟨⟨a9, c9, rfl, _⟩, hc19⟩
        have hb19 : Below w.heap.size w w19 := bchain (by repeat' (first | exact hb18 | refine Below.drew ?_ | refine Below.alloc ?_ (by have := hb18.size; first | (simp; done) | (simp; omega) | omega) _ | refine Below.setCell ?_ (by first | (simp; done) | (simp; omega) | omega) _)) hc19
        clear hc19 hb18
        go_wp2_with fail
        refine (alive_any _).mono ?_
        rintro e w20 ⟨rfl, hc20⟩
        have hb20 : Below w.heap.size w w20 := bchain (by repeat' (first | exact hb19 | refine Below.drew ?_ | refine Below.alloc ?_ (by have := hb19.size; first | (simp; done) | (simp; omega) | omega) _ | refine Below.setCell ?_ (by first | (simp; done) | (simp; omega) | omega) _)) hc20
        clear hc20 hb19
        go_wp2_with fail
        go_ret
        exact ⟨rfl, by repeat' (first | exact hb20 | refine Below.drew ?_ | refine Below.alloc ?_ (by have := hb20.size; first | (simp; done) | (simp; omega) | omega) _ | refine Below.setCell ?_ (by first | (simp; done) | (simp; omega) | omega) _)⟩
  · go_wp2_with fail
    clear k1 k2
    go_loopw [2] (fun i wr => ∃ k : Nat, k ≤ 5 ∧ i = .int .i64 k ∧ Below w.heap.size w wr ∧ CellsAt wr (some ⟨w.heap.size + 1 + 1, 0, none⟩) (bads (w.heap.size + 1) (w.heap.size)) ∧ CellsAt wr (some ⟨w.heap.size + 1, 0, none⟩) [.int .u64 0, .int .u64 0] ∧ CellsAt wr (some ⟨w.heap.size, 0, none⟩) [.int .u64 0]) (fun i _ => 5 - (intOf i).toNat)
    case atStart => exact ⟨0, by omega, rfl, (by repeat' (first | exact hb0 | refine Below.drew ?_ | refine Below.alloc ?_ (by have := hb0.size; first | (simp; done) | (simp; omega) | omega) _ | refine Below.setCell ?_ (by first | (simp; done) | (simp; omega) | omega) _)), (by first | (refine CellsAt.drew (cellsAt_new _ _ _ _ rfl ?_); simp; done) | (refine CellsAt.drew (CellsAt.alloc (cellsAt_new _ _ _ _ rfl ?_) _); simp; done) | (refine CellsAt.drew (CellsAt.alloc (CellsAt.alloc (cellsAt_new _ _ _ _ rfl ?_) _) _); with_reducible rfl)), (by first | (refine CellsAt.drew (cellsAt_new _ _ _ _ rfl ?_); simp; done) | (refine CellsAt.drew (CellsAt.alloc (cellsAt_new _ _ _ _ rfl ?_) _); simp; done) | (refine CellsAt.drew (CellsAt.alloc (CellsAt.alloc (cellsAt_new _ _ _ _ rfl ?_) _) _); with_reducible rfl)), (by first | (refine CellsAt.drew (cellsAt_new _ _ _ _ rfl ?_); simp; done) | (refine CellsAt.drew (CellsAt.alloc (cellsAt_new _ _ _ _ rfl ?_) _); simp; done) | (refine CellsAt.drew (CellsAt.alloc (CellsAt.alloc (cellsAt_new _ _ _ _ rfl ?_) _) _); with_reducible rfl))⟩
    case round =>
      obtain ⟨k, hk, rfl, hbw, hB, h4, h5⟩ := hrel
      by_cases hlt : k < 5
      · obtain rfl | rfl | rfl | rfl | rfl : k = 0 ∨ k = 1 ∨ k = 2 ∨ k = 3 ∨ k = 4 := by omega
        · skip
          have P_l : w.heap.size + 1 + 1 < wr.heap.size := World.block_lt_of_cell? _ _ (hB.at (j := 0) rfl)
          have P_0 : wr.cell? ⟨w.heap.size + 1 + 1, 0, none⟩ = some (.int .i64 0) := hB.at (j := 0) rfl
          have P_1 : wr.cell? ⟨w.heap.size + 1 + 1, 0 + 1, none⟩ = some (.slice none 0 0) := hB.at (j := 0 + 1) rfl
          have P_2 : wr.cell? ⟨w.heap.size + 1 + 1, 0 + 2, none⟩ = some (.bool false) := hB.at (j := 0 + 2) rfl
          go_wp2_with fail
          refine (send_r 0 [] false none _ 0 0 _ rfl (.inl rfl) 0 [] false 8 rfl).mono ?_
          rintro e w11 ⟨⟨a1, c1, rfl, _⟩, hc11⟩
          have hb11 : Below w.heap.size w w11 := bchain (by repeat' (first | exact hbw | refine Below.drew ?_ | refine Below.alloc ?_ (by have := hbw.size; first | (simp; done) | (simp; omega) | omega) _ | refine Below.setCell ?_ (by first | (simp; done) | (simp; omega) | omega) _)) hc11
          have hst11 : Below wr.heap.size wr w11 := bchain (by repeat' (first | exact Below.refl _ _ | refine Below.drew ?_ | refine Below.alloc ?_ (by first | (simp; done) | (simp; omega) | omega) _ | refine Below.setCell ?_ (by first | (simp; done) | (simp; omega) | omega) _)) hc11
          replace P_0 := cell_later hst11 P_0
          replace P_1 := cell_later hst11 P_1
          replace P_2 := cell_later hst11 P_2
          replace P_l := Nat.lt_of_lt_of_le P_l hst11.size
          replace hB := hB.later hst11
          replace h4 := h4.later hst11
          replace h5 := h5.later hst11
          clear hst11
          clear hc11 hbw
          go_wp2_with fail
          refine (recv_r 0 [] false none _ 0 _ rfl (.inl rfl) 0 [] false 0 false 8 rfl).mono ?_
          rintro e w12 ⟨⟨a2, c2, rfl, _⟩, hc12⟩
          have hb12 : Below w.heap.size w w12 := bchain (by repeat' (first | exact hb11 | refine Below.drew ?_ | refine Below.alloc ?_ (by have := hb11.size; first | (simp; done) | (simp; omega) | omega) _ | refine Below.setCell ?_ (by first | (simp; done) | (simp; omega) | omega) _)) hc12
          have hst12 : Below w11.heap.size w11 w12 := bchain (by repeat' (first | exact Below.refl _ _ | refine Below.drew ?_ | refine Below.alloc ?_ (by first | (simp; done) | (simp; omega) | omega) _ | refine Below.setCell ?_ (by first | (simp; done) | (simp; omega) | omega) _)) hc12
          replace P_0 := cell_later hst12 P_0
          replace P_1 := cell_later hst12 P_1
          replace P_2 := cell_later hst12 P_2
          replace P_l := Nat.lt_of_lt_of_le P_l hst12.size
          replace hB := hB.later hst12
          replace h4 := h4.later hst12
          replace h5 := h5.later hst12
          clear hst12
          clear hc12 hb11
          go_wp2_with fail
          refine (close_r 0 [] false none _ 0 _ rfl (.inl rfl) 0 [] false 8 rfl).mono ?_
          rintro e w13 ⟨⟨a3, c3, rfl, _⟩, hc13⟩
          have hb13 : Below w.heap.size w w13 := bchain (by repeat' (first | exact hb12 | refine Below.drew ?_ | refine Below.alloc ?_ (by have := hb12.size; first | (simp; done) | (simp; omega) | omega) _ | refine Below.setCell ?_ (by first | (simp; done) | (simp; omega) | omega) _)) hc13
          have hst13 : Below w12.heap.size w12 w13 := bchain (by repeat' (first | exact Below.refl _ _ | refine Below.drew ?_ | refine Below.alloc ?_ (by first | (simp; done) | (simp; omega) | omega) _ | refine Below.setCell ?_ (by first | (simp; done) | (simp; omega) | omega) _)) hc13
          replace P_0 := cell_later hst13 P_0
          replace P_1 := cell_later hst13 P_1
          replace P_2 := cell_later hst13 P_2
          replace P_l := Nat.lt_of_lt_of_le P_l hst13.size
          replace hB := hB.later hst13
          replace h4 := h4.later hst13
          replace h5 := h5.later hst13
          clear hst13
          clear hc13 hb12
          go_wp2_with fail
          refine (room_r 0 [] false none _ 0 _ rfl 0 8 rfl).mono ?_
          rintro e w14 ⟨rfl, hc14⟩
          have hb14 : Below w.heap.size w w14 := bchain (by repeat' (first | exact hb13 | refine Below.drew ?_ | refine Below.alloc ?_ (by have := hb13.size; first | (simp; done) | (simp; omega) | omega) _ | refine Below.setCell ?_ (by first | (simp; done) | (simp; omega) | omega) _)) hc14
          have hst14 : Below w13.heap.size w13 w14 := bchain (by repeat' (first | exact Below.refl _ _ | refine Below.drew ?_ | refine Below.alloc ?_ (by first | (simp; done) | (simp; omega) | omega) _ | refine Below.setCell ?_ (by first | (simp; done) | (simp; omega) | omega) _)) hc14
          replace P_0 := cell_later hst14 P_0
          replace P_1 := cell_later hst14 P_1
          replace P_2 := cell_later hst14 P_2
          replace P_l := Nat.lt_of_lt_of_le P_l hst14.size
          replace hB := hB.later hst14
          replace h4 := h4.later hst14
          replace h5 := h5.later hst14
          clear hst14
          clear hc14 hb13
          go_wp2_with fail
          refine (check_any 0 [] false none 0 _).mono ?_
          rintro e w15 ⟨rfl, hc15⟩
          have hb15 : Below w.heap.size w w15 := bchain (by repeat' (first | exact hb14 | refine Below.drew ?_ | refine Below.alloc ?_ (by have := hb14.size; first | (simp; done) | (simp; omega) | omega) _ | refine Below.setCell ?_ (by first | (simp; done) | (simp; omega) | omega) _)) hc15
          have hst15 : Below w14.heap.size w14 w15 := bchain (by repeat' (first | exact Below.refl _ _ | refine Below.drew ?_ | refine Below.alloc ?_ (by first | (simp; done) | (simp; omega) | omega) _ | refine Below.setCell ?_ (by first | (simp; done) | (simp; omega) | omega) _)) hc15
          replace P_0 := cell_later hst15 P_0
          replace P_1 := cell_later hst15 P_1
          replace P_2 := cell_later hst15 P_2
          replace P_l := Nat.lt_of_lt_of_le P_l hst15.size
          replace hB := hB.later hst15
          replace h4 := h4.later hst15
          replace h5 := h5.later hst15
          clear hst15
          clear hc15 hb14
          rw [show chErr ⟨0, [], false⟩ = 8 from rfl]
          go_wp2_with fail
          go_roundw
          case rel => exact ⟨1, by omega, by go_num, (by repeat' (first | exact hb15 | refine Below.drew ?_ | refine Below.alloc ?_ (by have := hb15.size; first | (simp; done) | (simp; omega) | omega) _ | refine Below.setCell ?_ (by first | (simp; done) | (simp; omega) | omega) _)), (by repeat' (first | with_reducible exact hB | with_reducible refine CellsAt.setFar ?_ ?_ _ | with_reducible refine CellsAt.alloc ?_ _ | with_reducible refine CellsAt.drew ?_ | assumption | (simp; omega) | omega)), (by repeat' (first | with_reducible exact h4 | with_reducible refine CellsAt.setFar ?_ ?_ _ | with_reducible refine CellsAt.alloc ?_ _ | with_reducible refine CellsAt.drew ?_ | assumption | (simp; omega) | omega)), (by repeat' (first | with_reducible exact h5 | with_reducible refine CellsAt.setFar ?_ ?_ _ | with_reducible refine CellsAt.alloc ?_ _ | with_reducible refine CellsAt.drew ?_ | assumption | (simp; omega) | omega))⟩
          case measure => simp [intOf]
        · skip
          have P_l : w.heap.size + 1 + 1 < wr.heap.size := World.block_lt_of_cell? _ _ (hB.at (j := 0) rfl)
          have P_0 : wr.cell? ⟨w.heap.size + 1 + 1, 3, none⟩ = some (.int .i64 61) := hB.at (j := 3) rfl
          have P_1 : wr.cell? ⟨w.heap.size + 1 + 1, 3 + 1, none⟩ = some (.slice none 0 0) := hB.at (j := 3 + 1) rfl
          have P_2 : wr.cell? ⟨w.heap.size + 1 + 1, 3 + 2, none⟩ = some (.bool false) := hB.at (j := 3 + 2) rfl
          go_wp2_with fail
          refine (send_r 61 [] false none _ 0 0 _ rfl (.inl rfl) 0 [] false 8 rfl).mono ?_
          rintro e w11 ⟨⟨a1, c1, rfl, _⟩, hc11⟩
          have hb11 : Below w.heap.size w w11 := bchain (by repeat' (first | exact hbw | refine Below.drew ?_ | refine Below.alloc ?_ (by have := hbw.size; first | (simp; done) | (simp; omega) | omega) _ | refine Below.setCell ?_ (by first | (simp; done) | (simp; omega) | omega) _)) hc11
          have hst11 : Below wr.heap.size wr w11 := bchain (by repeat' (first | exact Below.refl _ _ | refine Below.drew ?_ | refine Below.alloc ?_ (by first | (simp; done) | (simp; omega) | omega) _ | refine Below.setCell ?_ (by first | (simp; done) | (simp; omega) | omega) _)) hc11
          replace P_0 := cell_later hst11 P_0
          replace P_1 := cell_later hst11 P_1
          replace P_2 := cell_later hst11 P_2
          replace P_l := Nat.lt_of_lt_of_le P_l hst11.size
          replace hB := hB.later hst11
          replace h4 := h4.later hst11
          replace h5 := h5.later hst11
          clear hst11
          clear hc11 hbw
          go_wp2_with fail
          refine (recv_r 61 [] false none _ 0 _ rfl (.inl rfl) 0 [] false 0 false 8 rfl).mono ?_
          rintro e w12 ⟨⟨a2, c2, rfl, _⟩, hc12⟩
          have hb12 : Below w.heap.size w w12 := bchain (by repeat' (first | exact hb11 | refine Below.drew ?_ | refine Below.alloc ?_ (by have := hb11.size; first | (simp; done) | (simp; omega) | omega) _ | refine Below.setCell ?_ (by first | (simp; done) | (simp; omega) | omega) _)) hc12
          have hst12 : Below w11.heap.size w11 w12 := bchain (by repeat' (first | exact Below.refl _ _ | refine Below.drew ?_ | refine Below.alloc ?_ (by first | (simp; done) | (simp; omega) | omega) _ | refine Below.setCell ?_ (by first | (simp; done) | (simp; omega) | omega) _)) hc12
          replace P_0 := cell_later hst12 P_0
          replace P_1 := cell_later hst12 P_1
          replace P_2 := cell_later hst12 P_2
          replace P_l := Nat.lt_of_lt_of_le P_l hst12.size
          replace hB := hB.later hst12
          replace h4 := h4.later hst12
          replace h5 := h5.later hst12
          clear hst12
          clear hc12 hb11
          go_wp2_with fail
          refine (close_r 61 [] false none _ 0 _ rfl (.inl rfl) 0 [] false 8 rfl).mono ?_
          rintro e w13 ⟨⟨a3, c3, rfl, _⟩, hc13⟩
          have hb13 : Below w.heap.size w w13 := bchain (by repeat' (first | exact hb12 | refine Below.drew ?_ | refine Below.alloc ?_ (by have := hb12.size; first | (simp; done) | (simp; omega) | omega) _ | refine Below.setCell ?_ (by first | (simp; done) | (simp; omega) | omega) _)) hc13
          have hst13 : Below w12.heap.size w12 w13 := bchain (by repeat' (first | exact Below.refl _ _ | refine Below.drew ?_ | refine Below.alloc ?_ (by first | (simp; done) | (simp; omega) | omega) _ | refine Below.setCell ?_ (by first | (simp; done) | (simp; omega) | omega) _)) hc13
          replace P_0 := cell_later hst13 P_0
          replace P_1 := cell_later hst13 P_1
          replace P_2 := cell_later hst13 P_2
          replace P_l := Nat.lt_of_lt_of_le P_l hst13.size
          replace hB := hB.later hst13
          replace h4 := h4.later hst13
          replace h5 := h5.later hst13
          clear hst13
          clear hc13 hb12
          go_wp2_with fail
          refine (room_r 61 [] false none _ 0 _ rfl 0 8 rfl).mono ?_
          rintro e w14 ⟨rfl, hc14⟩
          have hb14 : Below w.heap.size w w14 := bchain (by repeat' (first | exact hb13 | refine Below.drew ?_ | refine Below.alloc ?_ (by have := hb13.size; first | (simp; done) | (simp; omega) | omega) _ | refine Below.setCell ?_ (by first | (simp; done) | (simp; omega) | omega) _)) hc14
          have hst14 : Below w13.heap.size w13 w14 := bchain (by repeat' (first | exact Below.refl _ _ | refine Below.drew ?_ | refine Below.alloc ?_ (by first | (simp; done) | (simp; omega) | omega) _ | refine Below.setCell ?_ (by first | (simp; done) | (simp; omega) | omega) _)) hc14
          replace P_0 := cell_later hst14 P_0
          replace P_1 := cell_later hst14 P_1
          replace P_2 := cell_later hst14 P_2
          replace P_l := Nat.lt_of_lt_of_le P_l hst14.size
          replace hB := hB.later hst14
          replace h4 := h4.later hst14
          replace h5 := h5.later hst14
          clear hst14
          clear hc14 hb13
          go_wp2_with fail
          refine (check_any 61 [] false none 0 _).mono ?_
          rintro e w15 ⟨rfl, hc15⟩
          have hb15 : Below w.heap.size w w15 := bchain (by repeat' (first | exact hb14 | refine Below.drew ?_ | refine Below.alloc ?_ (by have := hb14.size; first | (simp; done) | (simp; omega) | omega) _ | refine Below.setCell ?_ (by first | (simp; done) | (simp; omega) | omega) _)) hc15
          have hst15 : Below w14.heap.size w14 w15 := bchain (by repeat' (first | exact Below.refl _ _ | refine Below.drew ?_ | refine Below.alloc ?_ (by first | (simp; done) | (simp; omega) | omega) _ | refine Below.setCell ?_ (by first | (simp; done) | (simp; omega) | omega) _)) hc15
          replace P_0 := cell_later hst15 P_0
          replace P_1 := cell_later hst15 P_1
          replace P_2 := cell_later hst15 P_2
          replace P_l := Nat.lt_of_lt_of_le P_l hst15.size
          replace hB := hB.later hst15
          replace h4 := h4.later hst15
          replace h5 := h5.later hst15
          clear hst15
          clear hc15 hb14
          rw [show chErr ⟨61, [], false⟩ = 8 from rfl]
          go_wp2_with fail
          go_roundw
          case rel => exact ⟨2, by omega, by go_num, (by repeat' (first | exact hb15 | refine Below.drew ?_ | refine Below.alloc ?_ (by have := hb15.size; first | (simp; done) | (simp; omega) | omega) _ | refine Below.setCell ?_ (by first | (simp; done) | (simp; omega) | omega) _)), (by repeat' (first | with_reducible exact hB | with_reducible refine CellsAt.setFar ?_ ?_ _ | with_reducible refine CellsAt.alloc ?_ _ | with_reducible refine CellsAt.drew ?_ | assumption | (simp; omega) | omega)), (by repeat' (first | with_reducible exact h4 | with_reducible refine CellsAt.setFar ?_ ?_ _ | with_reducible refine CellsAt.alloc ?_ _ | with_reducible refine CellsAt.drew ?_ | assumption | (simp; omega) | omega)), (by repeat' (first | with_reducible exact h5 | with_reducible refine CellsAt.setFar ?_ ?_ _ | with_reducible refine CellsAt.alloc ?_ _ | with_reducible refine CellsAt.drew ?_ | assumption | (simp; omega) | omega))⟩
          case measure => simp [intOf]
        · skip
          have P_l : w.heap.size + 1 + 1 < wr.heap.size := World.block_lt_of_cell? _ _ (hB.at (j := 0) rfl)
          have P_0 : wr.cell? ⟨w.heap.size + 1 + 1, 6, none⟩ = some (.int .i64 (-1)) := hB.at (j := 6) rfl
          have P_1 : wr.cell? ⟨w.heap.size + 1 + 1, 6 + 1, none⟩ = some (.slice none 0 0) := hB.at (j := 6 + 1) rfl
          have P_2 : wr.cell? ⟨w.heap.size + 1 + 1, 6 + 2, none⟩ = some (.bool false) := hB.at (j := 6 + 2) rfl
          go_wp2_with fail
          refine (send_r (-1) [] false none _ 0 0 _ rfl (.inl rfl) 0 [] false 8 rfl).mono ?_
          rintro e w11 ⟨⟨a1, c1, rfl, _⟩, hc11⟩
          have hb11 : Below w.heap.size w w11 := bchain (by repeat' (first | exact hbw | refine Below.drew ?_ | refine Below.alloc ?_ (by have := hbw.size; first | (simp; done) | (simp; omega) | omega) _ | refine Below.setCell ?_ (by first | (simp; done) | (simp; omega) | omega) _)) hc11
          have hst11 : Below wr.heap.size wr w11 := bchain (by repeat' (first | exact Below.refl _ _ | refine Below.drew ?_ | refine Below.alloc ?_ (by first | (simp; done) | (simp; omega) | omega) _ | refine Below.setCell ?_ (by first | (simp; done) | (simp; omega) | omega) _)) hc11
          replace P_0 := cell_later hst11 P_0
          replace P_1 := cell_later hst11 P_1
          replace P_2 := cell_later hst11 P_2
          replace P_l := Nat.lt_of_lt_of_le P_l hst11.size
          replace hB := hB.later hst11
          replace h4 := h4.later hst11
          replace h5 := h5.later hst11
          clear hst11
          clear hc11 hbw
          go_wp2_with fail
          refine (recv_r (-1) [] false none _ 0 _ rfl (.inl rfl) 0 [] false 0 false 8 rfl).mono ?_
          rintro e w12 ⟨⟨a2, c2, rfl, _⟩, hc12⟩
          have hb12 : Below w.heap.size w w12 := bchain (by repeat' (first | exact hb11 | refine Below.drew ?_ | refine Below.alloc ?_ (by have := hb11.size; first | (simp; done) | (simp; omega) | omega) _ | refine Below.setCell ?_ (by first | (simp; done) | (simp; omega) | omega) _)) hc12
          have hst12 : Below w11.heap.size w11 w12 := bchain (by repeat' (first | exact Below.refl _ _ | refine Below.drew ?_ | refine Below.alloc ?_ (by first | (simp; done) | (simp; omega) | omega) _ | refine Below.setCell ?_ (by first | (simp; done) | (simp; omega) | omega) _)) hc12
          replace P_0 := cell_later hst12 P_0
          replace P_1 := cell_later hst12 P_1
          replace P_2 := cell_later hst12 P_2
          replace P_l := Nat.lt_of_lt_of_le P_l hst12.size
          replace hB := hB.later hst12
          replace h4 := h4.later hst12
          replace h5 := h5.later hst12
          clear hst12
          clear hc12 hb11
          go_wp2_with fail
          refine (close_r (-1) [] false none _ 0 _ rfl (.inl rfl) 0 [] false 8 rfl).mono ?_
          rintro e w13 ⟨⟨a3, c3, rfl, _⟩, hc13⟩
          have hb13 : Below w.heap.size w w13 := bchain (by repeat' (first | exact hb12 | refine Below.drew ?_ | refine Below.alloc ?_ (by have := hb12.size; first | (simp; done) | (simp; omega) | omega) _ | refine Below.setCell ?_ (by first | (simp; done) | (simp; omega) | omega) _)) hc13
          have hst13 : Below w12.heap.size w12 w13 := bchain (by repeat' (first | exact Below.refl _ _ | refine Below.drew ?_ | refine Below.alloc ?_ (by first | (simp; done) | (simp; omega) | omega) _ | refine Below.setCell ?_ (by first | (simp; done) | (simp; omega) | omega) _)) hc13
          replace P_0 := cell_later hst13 P_0
          replace P_1 := cell_later hst13 P_1
          replace P_2 := cell_later hst13 P_2
          replace P_l := Nat.lt_of_lt_of_le P_l hst13.size
          replace hB := hB.later hst13
          replace h4 := h4.later hst13
          replace h5 := h5.later hst13
          clear hst13
          clear hc13 hb12
          go_wp2_with fail
          refine (room_r (-1) [] false none _ 0 _ rfl 0 8 rfl).mono ?_
          rintro e w14 ⟨rfl, hc14⟩
          have hb14 : Below w.heap.size w w14 := bchain (by repeat' (first | exact hb13 | refine Below.drew ?_ | refine Below.alloc ?_ (by have := hb13.size; first | (simp; done) | (simp; omega) | omega) _ | refine Below.setCell ?_ (by first | (simp; done) | (simp; omega) | omega) _)) hc14
          have hst14 : Below w13.heap.size w13 w14 := bchain (by repeat' (first | exact Below.refl _ _ | refine Below.drew ?_ | refine Below.alloc ?_ (by first | (simp; done) | (simp; omega) | omega) _ | refine Below.setCell ?_ (by first | (simp; done) | (simp; omega) | omega) _)) hc14
          replace P_0 := cell_later hst14 P_0
          replace P_1 := cell_later hst14 P_1
          replace P_2 := cell_later hst14 P_2
          replace P_l := Nat.lt_of_lt_of_le P_l hst14.size
          replace hB := hB.later hst14
          replace h4 := h4.later hst14
          replace h5 := h5.later hst14
          clear hst14
          clear hc14 hb13
          go_wp2_with fail
          refine (check_any (-1) [] false none 0 _).mono ?_
          rintro e w15 ⟨rfl, hc15⟩
          have hb15 : Below w.heap.size w w15 := bchain (by repeat' (first | exact hb14 | refine Below.drew ?_ | refine Below.alloc ?_ (by have := hb14.size; first | (simp; done) | (simp; omega) | omega) _ | refine Below.setCell ?_ (by first | (simp; done) | (simp; omega) | omega) _)) hc15
          have hst15 : Below w14.heap.size w14 w15 := bchain (by repeat' (first | exact Below.refl _ _ | refine Below.drew ?_ | refine Below.alloc ?_ (by first | (simp; done) | (simp; omega) | omega) _ | refine Below.setCell ?_ (by first | (simp; done) | (simp; omega) | omega) _)) hc15
          replace P_0 := cell_later hst15 P_0
          replace P_1 := cell_later hst15 P_1
          replace P_2 := cell_later hst15 P_2
          replace P_l := Nat.lt_of_lt_of_le P_l hst15.size
          replace hB := hB.later hst15
          replace h4 := h4.later hst15
          replace h5 := h5.later hst15
          clear hst15
          clear hc15 hb14
          rw [show chErr ⟨(-1), [], false⟩ = 8 from rfl]
          go_wp2_with fail
          go_roundw
          case rel => exact ⟨3, by omega, by go_num, (by repeat' (first | exact hb15 | refine Below.drew ?_ | refine Below.alloc ?_ (by have := hb15.size; first | (simp; done) | (simp; omega) | omega) _ | refine Below.setCell ?_ (by first | (simp; done) | (simp; omega) | omega) _)), (by repeat' (first | with_reducible exact hB | with_reducible refine CellsAt.setFar ?_ ?_ _ | with_reducible refine CellsAt.alloc ?_ _ | with_reducible refine CellsAt.drew ?_ | assumption | (simp; omega) | omega)), (by repeat' (first | with_reducible exact h4 | with_reducible refine CellsAt.setFar ?_ ?_ _ | with_reducible refine CellsAt.alloc ?_ _ | with_reducible refine CellsAt.drew ?_ | assumption | (simp; omega) | omega)), (by repeat' (first | with_reducible exact h5 | with_reducible refine CellsAt.setFar ?_ ?_ _ | with_reducible refine CellsAt.alloc ?_ _ | with_reducible refine CellsAt.drew ?_ | assumption | (simp; omega) | omega))⟩
          case measure => simp [intOf]
        · skip
          have P_l : w.heap.size + 1 + 1 < wr.heap.size := World.block_lt_of_cell? _ _ (hB.at (j := 0) rfl)
          have P_0 : wr.cell? ⟨w.heap.size + 1 + 1, 9, none⟩ = some (.int .i64 1) := hB.at (j := 9) rfl
          have P_1 : wr.cell? ⟨w.heap.size + 1 + 1, 9 + 1, none⟩ = some (.slice (some ⟨w.heap.size + 1, 0, none⟩) 2 2) := hB.at (j := 9 + 1) rfl
          have P_2 : wr.cell? ⟨w.heap.size + 1 + 1, 9 + 2, none⟩ = some (.bool false) := hB.at (j := 9 + 2) rfl
          go_wp2_with fail
          refine (send_r 1 [0, 0] false (some ⟨w.heap.size + 1, 0, none⟩) _ 2 0 _ rfl (by repeat' (first | with_reducible exact h4 | with_reducible refine CellsAt.setFar ?_ ?_ _ | with_reducible refine CellsAt.alloc ?_ _ | with_reducible refine CellsAt.drew ?_ | assumption | (simp; omega) | omega)) 0 [] false 8 rfl).mono ?_
          rintro e w11 ⟨⟨a1, c1, rfl, _⟩, hc11⟩
          have hb11 : Below w.heap.size w w11 := bchain (by repeat' (first | exact hbw | refine Below.drew ?_ | refine Below.alloc ?_ (by have := hbw.size; first | (simp; done) | (simp; omega) | omega) _ | refine Below.setCell ?_ (by first | (simp; done) | (simp; omega) | omega) _)) hc11
          have hst11 : Below wr.heap.size wr w11 := bchain (by repeat' (first | exact Below.refl _ _ | refine Below.drew ?_ | refine Below.alloc ?_ (by first | (simp; done) | (simp; omega) | omega) _ | refine Below.setCell ?_ (by first | (simp; done) | (simp; omega) | omega) _)) hc11
          replace P_0 := cell_later hst11 P_0
          replace P_1 := cell_later hst11 P_1
          replace P_2 := cell_later hst11 P_2
          replace P_l := Nat.lt_of_lt_of_le P_l hst11.size
          replace hB := hB.later hst11
          replace h4 := h4.later hst11
          replace h5 := h5.later hst11
          clear hst11
          clear hc11 hbw
          go_wp2_with fail
          refine (recv_r 1 [0, 0] false (some ⟨w.heap.size + 1, 0, none⟩) _ 2 _ rfl (by repeat' (first | with_reducible exact h4 | with_reducible refine CellsAt.setFar ?_ ?_ _ | with_reducible refine CellsAt.alloc ?_ _ | with_reducible refine CellsAt.drew ?_ | assumption | (simp; omega) | omega)) 0 [] false 0 false 8 rfl).mono ?_
          rintro e w12 ⟨⟨a2, c2, rfl, _⟩, hc12⟩
          have hb12 : Below w.heap.size w w12 := bchain (by repeat' (first | exact hb11 | refine Below.drew ?_ | refine Below.alloc ?_ (by have := hb11.size; first | (simp; done) | (simp; omega) | omega) _ | refine Below.setCell ?_ (by first | (simp; done) | (simp; omega) | omega) _)) hc12
          have hst12 : Below w11.heap.size w11 w12 := bchain (by repeat' (first | exact Below.refl _ _ | refine Below.drew ?_ | refine Below.alloc ?_ (by first | (simp; done) | (simp; omega) | omega) _ | refine Below.setCell ?_ (by first | (simp; done) | (simp; omega) | omega) _)) hc12
          replace P_0 := cell_later hst12 P_0
          replace P_1 := cell_later hst12 P_1
          replace P_2 := cell_later hst12 P_2
          replace P_l := Nat.lt_of_lt_of_le P_l hst12.size
          replace hB := hB.later hst12
          replace h4 := h4.later hst12
          replace h5 := h5.later hst12
          clear hst12
          clear hc12 hb11
          go_wp2_with fail
          refine (close_r 1 [0, 0] false (some ⟨w.heap.size + 1, 0, none⟩) _ 2 _ rfl (by repeat' (first | with_reducible exact h4 | with_reducible refine CellsAt.setFar ?_ ?_ _ | with_reducible refine CellsAt.alloc ?_ _ | with_reducible refine CellsAt.drew ?_ | assumption | (simp; omega) | omega)) 0 [] false 8 rfl).mono ?_
          rintro e w13 ⟨⟨a3, c3, rfl, _⟩, hc13⟩
          have hb13 : Below w.heap.size w w13 := bchain (by repeat' (first | exact hb12 | refine Below.drew ?_ | refine Below.alloc ?_ (by have := hb12.size; first | (simp; done) | (simp; omega) | omega) _ | refine Below.setCell ?_ (by first | (simp; done) | (simp; omega) | omega) _)) hc13
          have hst13 : Below w12.heap.size w12 w13 := bchain (by repeat' (first | exact Below.refl _ _ | refine Below.drew ?_ | refine Below.alloc ?_ (by first | (simp; done) | (simp; omega) | omega) _ | refine Below.setCell ?_ (by first | (simp; done) | (simp; omega) | omega) _)) hc13
          replace P_0 := cell_later hst13 P_0
          replace P_1 := cell_later hst13 P_1
          replace P_2 := cell_later hst13 P_2
          replace P_l := Nat.lt_of_lt_of_le P_l hst13.size
          replace hB := hB.later hst13
          replace h4 := h4.later hst13
          replace h5 := h5.later hst13
          clear hst13
          clear hc13 hb12
          go_wp2_with fail
          refine (room_r 1 [0, 0] false (some ⟨w.heap.size + 1, 0, none⟩) _ 2 _ rfl 0 8 rfl).mono ?_
          rintro e w14 ⟨rfl, hc14⟩
          have hb14 : Below w.heap.size w w14 := bchain (by repeat' (first | exact hb13 | refine Below.drew ?_ | refine Below.alloc ?_ (by have := hb13.size; first | (simp; done) | (simp; omega) | omega) _ | refine Below.setCell ?_ (by first | (simp; done) | (simp; omega) | omega) _)) hc14
          have hst14 : Below w13.heap.size w13 w14 := bchain (by repeat' (first | exact Below.refl _ _ | refine Below.drew ?_ | refine Below.alloc ?_ (by first | (simp; done) | (simp; omega) | omega) _ | refine Below.setCell ?_ (by first | (simp; done) | (simp; omega) | omega) _)) hc14
          replace P_0 := cell_later hst14 P_0
          replace P_1 := cell_later hst14 P_1
          replace P_2 := cell_later hst14 P_2
          replace P_l := Nat.lt_of_lt_of_le P_l hst14.size
          replace hB := hB.later hst14
          replace h4 := h4.later hst14
          replace h5 := h5.later hst14
          clear hst14
          clear hc14 hb13
          go_wp2_with fail
          refine (check_any 1 [0, 0] false (some ⟨w.heap.size + 1, 0, none⟩) 2 _).mono ?_
          rintro e w15 ⟨rfl, hc15⟩
          have hb15 : Below w.heap.size w w15 := bchain (by repeat' (first | exact hb14 | refine Below.drew ?_ | refine Below.alloc ?_ (by have := hb14.size; first | (simp; done) | (simp; omega) | omega) _ | refine Below.setCell ?_ (by first | (simp; done) | (simp; omega) | omega) _)) hc15
          have hst15 : Below w14.heap.size w14 w15 := bchain (by repeat' (first | exact Below.refl _ _ | refine Below.drew ?_ | refine Below.alloc ?_ (by first | (simp; done) | (simp; omega) | omega) _ | refine Below.setCell ?_ (by first | (simp; done) | (simp; omega) | omega) _)) hc15
          replace P_0 := cell_later hst15 P_0
          replace P_1 := cell_later hst15 P_1
          replace P_2 := cell_later hst15 P_2
          replace P_l := Nat.lt_of_lt_of_le P_l hst15.size
          replace hB := hB.later hst15
          replace h4 := h4.later hst15
          replace h5 := h5.later hst15
          clear hst15
          clear hc15 hb14
          rw [show chErr ⟨1, [0, 0], false⟩ = 8 from rfl]
          go_wp2_with fail
          go_roundw
          case rel => exact ⟨4, by omega, by go_num, (by repeat' (first | exact hb15 | refine Below.drew ?_ | refine Below.alloc ?_ (by have := hb15.size; first | (simp; done) | (simp; omega) | omega) _ | refine Below.setCell ?_ (by first | (simp; done) | (simp; omega) | omega) _)), (by repeat' (first | with_reducible exact hB | with_reducible refine CellsAt.setFar ?_ ?_ _ | with_reducible refine CellsAt.alloc ?_ _ | with_reducible refine CellsAt.drew ?_ | assumption | (simp; omega) | omega)), (by repeat' (first | with_reducible exact h4 | with_reducible refine CellsAt.setFar ?_ ?_ _ | with_reducible refine CellsAt.alloc ?_ _ | with_reducible refine CellsAt.drew ?_ | assumption | (simp; omega) | omega)), (by repeat' (first | with_reducible exact h5 | with_reducible refine CellsAt.setFar ?_ ?_ _ | with_reducible refine CellsAt.alloc ?_ _ | with_reducible refine CellsAt.drew ?_ | assumption | (simp; omega) | omega))⟩
          case measure => simp [intOf]
        · skip
          have P_l : w.heap.size + 1 + 1 < wr.heap.size := World.block_lt_of_cell? _ _ (hB.at (j := 0) rfl)
          have P_0 : wr.cell? ⟨w.heap.size + 1 + 1, 12, none⟩ = some (.int .i64 0) := hB.at (j := 12) rfl
          have P_1 : wr.cell? ⟨w.heap.size + 1 + 1, 12 + 1, none⟩ = some (.slice (some ⟨w.heap.size, 0, none⟩) 1 1) := hB.at (j := 12 + 1) rfl
          have P_2 : wr.cell? ⟨w.heap.size + 1 + 1, 12 + 2, none⟩ = some (.bool true) := hB.at (j := 12 + 2) rfl
          go_wp2_with fail
          refine (send_r 0 [0] true (some ⟨w.heap.size, 0, none⟩) _ 1 0 _ rfl (by repeat' (first | with_reducible exact h5 | with_reducible refine CellsAt.setFar ?_ ?_ _ | with_reducible refine CellsAt.alloc ?_ _ | with_reducible refine CellsAt.drew ?_ | assumption | (simp; omega) | omega)) 0 [] false 8 rfl).mono ?_
          rintro e w11 ⟨⟨a1, c1, rfl, _⟩, hc11⟩
          have hb11 : Below w.heap.size w w11 := bchain (by repeat' (first | exact hbw | refine Below.drew ?_ | refine Below.alloc ?_ (by have := hbw.size; first | (simp; done) | (simp; omega) | omega) _ | refine Below.setCell ?_ (by first | (simp; done) | (simp; omega) | omega) _)) hc11
          have hst11 : Below wr.heap.size wr w11 := bchain (by repeat' (first | exact Below.refl _ _ | refine Below.drew ?_ | refine Below.alloc ?_ (by first | (simp; done) | (simp; omega) | omega) _ | refine Below.setCell ?_ (by first | (simp; done) | (simp; omega) | omega) _)) hc11
          replace P_0 := cell_later hst11 P_0
          replace P_1 := cell_later hst11 P_1
          replace P_2 := cell_later hst11 P_2
          replace P_l := Nat.lt_of_lt_of_le P_l hst11.size
          replace hB := hB.later hst11
          replace h4 := h4.later hst11
          replace h5 := h5.later hst11
          clear hst11
          clear hc11 hbw
          go_wp2_with fail
          refine (recv_r 0 [0] true (some ⟨w.heap.size, 0, none⟩) _ 1 _ rfl (by repeat' (first | with_reducible exact h5 | with_reducible refine CellsAt.setFar ?_ ?_ _ | with_reducible refine CellsAt.alloc ?_ _ | with_reducible refine CellsAt.drew ?_ | assumption | (simp; omega) | omega)) 0 [] false 0 false 8 rfl).mono ?_
          rintro e w12 ⟨⟨a2, c2, rfl, _⟩, hc12⟩
          have hb12 : Below w.heap.size w w12 := bchain (by repeat' (first | exact hb11 | refine Below.drew ?_ | refine Below.alloc ?_ (by have := hb11.size; first | (simp; done) | (simp; omega) | omega) _ | refine Below.setCell ?_ (by first | (simp; done) | (simp; omega) | omega) _)) hc12
          have hst12 : Below w11.heap.size w11 w12 := bchain (by repeat' (first | exact Below.refl _ _ | refine Below.drew ?_ | refine Below.alloc ?_ (by first | (simp; done) | (simp; omega) | omega) _ | refine Below.setCell ?_ (by first | (simp; done) | (simp; omega) | omega) _)) hc12
          replace P_0 := cell_later hst12 P_0
          replace P_1 := cell_later hst12 P_1
          replace P_2 := cell_later hst12 P_2
          replace P_l := Nat.lt_of_lt_of_le P_l hst12.size
          replace hB := hB.later hst12
          replace h4 := h4.later hst12
          replace h5 := h5.later hst12
          clear hst12
          clear hc12 hb11
          go_wp2_with fail
          refine (close_r 0 [0] true (some ⟨w.heap.size, 0, none⟩) _ 1 _ rfl (by repeat' (first | with_reducible exact h5 | with_reducible refine CellsAt.setFar ?_ ?_ _ | with_reducible refine CellsAt.alloc ?_ _ | with_reducible refine CellsAt.drew ?_ | assumption | (simp; omega) | omega)) 0 [] false 8 rfl).mono ?_
          rintro e w13 ⟨⟨a3, c3, rfl, _⟩, hc13⟩
          have hb13 : Below w.heap.size w w13 := bchain (by repeat' (first | exact hb12 | refine Below.drew ?_ | refine Below.alloc ?_ (by have := hb12.size; first | (simp; done) | (simp; omega) | omega) _ | refine Below.setCell ?_ (by first | (simp; done) | (simp; omega) | omega) _)) hc13
          have hst13 : Below w12.heap.size w12 w13 := bchain (by repeat' (first | exact Below.refl _ _ | refine Below.drew ?_ | refine Below.alloc ?_ (by first | (simp; done) | (simp; omega) | omega) _ | refine Below.setCell ?_ (by first | (simp; done) | (simp; omega) | omega) _)) hc13
          replace P_0 := cell_later hst13 P_0
          replace P_1 := cell_later hst13 P_1
          replace P_2 := cell_later hst13 P_2
          replace P_l := Nat.lt_of_lt_of_le P_l hst13.size
          replace hB := hB.later hst13
          replace h4 := h4.later hst13
          replace h5 := h5.later hst13
          clear hst13
          clear hc13 hb12
          go_wp2_with fail
          refine (room_r 0 [0] true (some ⟨w.heap.size, 0, none⟩) _ 1 _ rfl 0 8 rfl).mono ?_
          rintro e w14 ⟨rfl, hc14⟩
          have hb14 : Below w.heap.size w w14 := bchain (by repeat' (first | exact hb13 | refine Below.drew ?_ | refine Below.alloc ?_ (by have := hb13.size; first | (simp; done) | (simp; omega) | omega) _ | refine Below.setCell ?_ (by first | (simp; done) | (simp; omega) | omega) _)) hc14
          have hst14 : Below w13.heap.size w13 w14 := bchain (by repeat' (first | exact Below.refl _ _ | refine Below.drew ?_ | refine Below.alloc ?_ (by first | (simp; done) | (simp; omega) | omega) _ | refine Below.setCell ?_ (by first | (simp; done) | (simp; omega) | omega) _)) hc14
          replace P_0 := cell_later hst14 P_0
          replace P_1 := cell_later hst14 P_1
          replace P_2 := cell_later hst14 P_2
          replace P_l := Nat.lt_of_lt_of_le P_l hst14.size
          replace hB := hB.later hst14
          replace h4 := h4.later hst14
          replace h5 := h5.later hst14
          clear hst14
          clear hc14 hb13
          go_wp2_with fail
          refine (check_any 0 [0] true (some ⟨w.heap.size, 0, none⟩) 1 _).mono ?_
          rintro e w15 ⟨rfl, hc15⟩
          have hb15 : Below w.heap.size w w15 := bchain (by repeat' (first | exact hb14 | refine Below.drew ?_ | refine Below.alloc ?_ (by have := hb14.size; first | (simp; done) | (simp; omega) | omega) _ | refine Below.setCell ?_ (by first | (simp; done) | (simp; omega) | omega) _)) hc15
          have hst15 : Below w14.heap.size w14 w15 := bchain (by repeat' (first | exact Below.refl _ _ | refine Below.drew ?_ | refine Below.alloc ?_ (by first | (simp; done) | (simp; omega) | omega) _ | refine Below.setCell ?_ (by first | (simp; done) | (simp; omega) | omega) _)) hc15
          replace P_0 := cell_later hst15 P_0
          replace P_1 := cell_later hst15 P_1
          replace P_2 := cell_later hst15 P_2
          replace P_l := Nat.lt_of_lt_of_le P_l hst15.size
          replace hB := hB.later hst15
          replace h4 := h4.later hst15
          replace h5 := h5.later hst15
          clear hst15
          clear hc15 hb14
          rw [show chErr ⟨0, [0], true⟩ = 8 from rfl]
          go_wp2_with fail
          go_roundw
          case rel => exact ⟨5, by omega, by go_num, (by repeat' (first | exact hb15 | refine Below.drew ?_ | refine Below.alloc ?_ (by have := hb15.size; first | (simp; done) | (simp; omega) | omega) _ | refine Below.setCell ?_ (by first | (simp; done) | (simp; omega) | omega) _)), (by repeat' (first | with_reducible exact hB | with_reducible refine CellsAt.setFar ?_ ?_ _ | with_reducible refine CellsAt.alloc ?_ _ | with_reducible refine CellsAt.drew ?_ | assumption | (simp; omega) | omega)), (by repeat' (first | with_reducible exact h4 | with_reducible refine CellsAt.setFar ?_ ?_ _ | with_reducible refine CellsAt.alloc ?_ _ | with_reducible refine CellsAt.drew ?_ | assumption | (simp; omega) | omega)), (by repeat' (first | with_reducible exact h5 | with_reducible refine CellsAt.setFar ?_ ?_ _ | with_reducible refine CellsAt.alloc ?_ _ | with_reducible refine CellsAt.drew ?_ | assumption | (simp; omega) | omega))⟩
          case measure => simp [intOf]
      · obtain rfl : k = 5 := by omega
        clear hB h4 h5
        go_wp2_with fail
        refine (new_r 0 _ 0 [] false 2 rfl).mono ?_
        rintro e w11 ⟨⟨a1, c1, rfl, _⟩, hc11⟩
        have hb11 : Below w.heap.size w w11 := bchain (by repeat' (first | exact hbw | refine Below.drew ?_ | refine Below.alloc ?_ (by have := hbw.size; first | (simp; done) | (simp; omega) | omega) _ | refine Below.setCell ?_ (by first | (simp; done) | (simp; omega) | omega) _)) hc11
        clear hc11 hbw
        go_wp2_with fail
        refine (new_r 61 _ 0 [] false 2 rfl).mono ?_
        rintro e w12 ⟨⟨a2, c2, rfl, _⟩, hc12⟩
        have hb12 : Below w.heap.size w w12 := bchain (by repeat' (first | exact hb11 | refine Below.drew ?_ | refine Below.alloc ?_ (by have := hb11.size; first | (simp; done) | (simp; omega) | omega) _ | refine Below.setCell ?_ (by first | (simp; done) | (simp; omega) | omega) _)) hc12
        clear hc12 hb11
        go_wp2_with fail
        refine (new_r 60 _ 60 [] false 0 rfl).mono ?_
        rintro e w13 ⟨⟨a3, c3, rfl, m3⟩, hc13⟩
        have hb13 : Below w.heap.size w w13 := bchain (by repeat' (first | exact hb12 | refine Below.drew ?_ | refine Below.alloc ?_ (by have := hb12.size; first | (simp; done) | (simp; omega) | omega) _ | refine Below.setCell ?_ (by first | (simp; done) | (simp; omega) | omega) _)) hc13
        clear hc13 hb12
        go_wp2_with fail
        refine (room_r 60 [] false a3 _ c3 _ rfl 60 0 rfl).mono ?_
        rintro e w14 ⟨rfl, hc14⟩
        have hb14 : Below w.heap.size w w14 := bchain (by repeat' (first | exact hb13 | refine Below.drew ?_ | refine Below.alloc ?_ (by have := hb13.size; first | (simp; done) | (simp; omega) | omega) _ | refine Below.setCell ?_ (by first | (simp; done) | (simp; omega) | omega) _)) hc14
        have M_0 : w14.cell? ⟨w13.heap.size, 0, none⟩ = some (.int .i64 60) := (hc14.cell (p := ⟨w13.heap.size, 0, none⟩) (by first | (simp; done) | (simp; omega))).trans (by first | (simp; done) | go_simp)
        have M_1 : w14.cell? ⟨w13.heap.size, 1, none⟩ = some (.slice a3 0 c3) := (hc14.cell (p := ⟨w13.heap.size, 1, none⟩) (by first | (simp; done) | (simp; omega))).trans (by first | (simp; done) | go_simp)
        have M_2 : w14.cell? ⟨w13.heap.size, 2, none⟩ = some (.bool false) := (hc14.cell (p := ⟨w13.heap.size, 2, none⟩) (by first | (simp; done) | (simp; omega))).trans (by first | (simp; done) | go_simp)
        have M_l : w13.heap.size < w14.heap.size := Nat.lt_of_lt_of_le (by first | (simp; done) | (simp; omega)) hc14.size
        clear hc14 hb13
        go_wp2_with fail
        refine (recv_r 60 [] false a3 _ c3 _ rfl (.inl rfl) 0 [] false 0 false 38 rfl).mono ?_
        rintro e w15 ⟨⟨a5, c5, rfl, _⟩, hc15⟩
        have hb15 : Below w.heap.size w w15 := bchain (by repeat' (first | exact hb14 | refine Below.drew ?_ | refine Below.alloc ?_ (by have := hb14.size; first | (simp; done) | (simp; omega) | omega) _ | refine Below.setCell ?_ (by first | (simp; done) | (simp; omega) | omega) _)) hc15
        have hst15 : Below w14.heap.size w14 w15 := bchain (by repeat' (first | exact Below.refl _ _ | refine Below.drew ?_ | refine Below.alloc ?_ (by first | (simp; done) | (simp; omega) | omega) _ | refine Below.setCell ?_ (by first | (simp; done) | (simp; omega) | omega) _)) hc15
        replace M_0 := cell_later hst15 M_0
        replace M_1 := cell_later hst15 M_1
        replace M_2 := cell_later hst15 M_2
        replace M_l := Nat.lt_of_lt_of_le M_l hst15.size
        clear hst15
        clear hc15 hb14
        clear M_0 M_1 M_2 M_l
        have q60 := mk60
        go_wp2_with fail
        have z60 : CellsAt ((((w15.alloc (Obj.cells #[Value.int IntKind.i64 0, Value.slice a5 0 c5, Value.bool false] 24)).alloc (Obj.cells zeros60 25)).alloc (Obj.cells #[Value.int IntKind.i64 60, Value.slice (some { block := w15.heap.size + 1, off := 0 }) 60 60, Value.bool true] 24))) (some ⟨w15.heap.size + 1, 0, none⟩) ((List.replicate 60 0).map (Value.int .u64)) := by
          refine CellsAt.alloc (cellsAt_new _ _ _ _ rfl ?_) _
          simp
        go_wp2_with fail
        refine (send_r 60 (List.replicate 60 0) true (some ⟨w15.heap.size + 1, 0, none⟩) _ 60 1 _ rfl (by repeat' (first | with_reducible exact z60 | with_reducible refine CellsAt.setFar ?_ ?_ _ | with_reducible refine CellsAt.alloc ?_ _ | with_reducible refine CellsAt.drew ?_ | assumption | (simp; omega) | omega)) 0 [] false 36 rfl).mono ?_
        rintro e w16 ⟨⟨a6, c6, rfl, _⟩, hc16⟩
        have hb16 : Below w.heap.size w w16 := bchain (by repeat' (first | exact hb15 | refine Below.drew ?_ | refine Below.alloc ?_ (by have := hb15.size; first | (simp; done) | (simp; omega) | omega) _ | refine Below.setCell ?_ (by first | (simp; done) | (simp; omega) | omega) _)) hc16
        have F_0 : w16.cell? ⟨w15.heap.size + 1 + 1, 0, none⟩ = some (.int .i64 60) := (hc16.cell (p := ⟨w15.heap.size + 1 + 1, 0, none⟩) (by first | (simp; done) | (simp; omega))).trans (by first | (simp; done) | go_simp)
        have F_1 : w16.cell? ⟨w15.heap.size + 1 + 1, 1, none⟩ = some (.slice (some ⟨w15.heap.size + 1, 0, none⟩) 60 60) := (hc16.cell (p := ⟨w15.heap.size + 1 + 1, 1, none⟩) (by first | (simp; done) | (simp; omega))).trans (by first | (simp; done) | go_simp)
        have F_2 : w16.cell? ⟨w15.heap.size + 1 + 1, 2, none⟩ = some (.bool true) := (hc16.cell (p := ⟨w15.heap.size + 1 + 1, 2, none⟩) (by first | (simp; done) | (simp; omega))).trans (by first | (simp; done) | go_simp)
        have F_l : w15.heap.size + 1 + 1 < w16.heap.size := Nat.lt_of_lt_of_le (by first | (simp; done) | (simp; omega)) hc16.size
        obtain ⟨hcell16, hfroz16⟩ := bcell hc16
        have hz16 := hc16.size
        replace z60 := z60.later hc16
        clear hcell16 hfroz16
        go_wp2_with fail
        refine (close_r 60 (List.replicate 60 0) true (some ⟨w15.heap.size + 1, 0, none⟩) _ 60 _ rfl (by repeat' (first | with_reducible exact z60 | with_reducible refine CellsAt.setFar ?_ ?_ _ | with_reducible refine CellsAt.alloc ?_ _ | with_reducible refine CellsAt.drew ?_ | assumption | (simp; omega) | omega)) 0 [] false 34 rfl).mono ?_
        rintro e w17 ⟨⟨a7, c7, rfl, _⟩, hc17⟩
        have hb17 : Below w.heap.size w w17 := bchain (by repeat' (first | exact hb16 | refine Below.drew ?_ | refine Below.alloc ?_ (by have := hb16.size; first | (simp; done) | (simp; omega) | omega) _ | refine Below.setCell ?_ (by first | (simp; done) | (simp; omega) | omega) _)) hc17
        have hst17 : Below w16.heap.size w16 w17 := bchain (by repeat' (first | exact Below.refl _ _ | refine Below.drew ?_ | refine Below.alloc ?_ (by first | (simp; done) | (simp; omega) | omega) _ | refine Below.setCell ?_ (by first | (simp; done) | (simp; omega) | omega) _)) hc17
        replace F_0 := cell_later hst17 F_0
        replace F_1 := cell_later hst17 F_1
        replace F_2 := cell_later hst17 F_2
        replace F_l := Nat.lt_of_lt_of_le F_l hst17.size
        replace z60 := z60.later hst17
        clear hst17
        clear hc17 hb16
        go_wp2_with fail
        refine (room_r 60 (List.replicate 60 0) true (some ⟨w15.heap.size + 1, 0, none⟩) _ 60 _ rfl 0 0 rfl).mono ?_
        rintro e w18 ⟨rfl, hc18⟩
        have hb18 : Below w.heap.size w w18 := bchain (by repeat' (first | exact hb17 | refine Below.drew ?_ | refine Below.alloc ?_ (by have := hb17.size; first | (simp; done) | (simp; omega) | omega) _ | refine Below.setCell ?_ (by first | (simp; done) | (simp; omega) | omega) _)) hc18
        have hst18 : Below w17.heap.size w17 w18 := bchain (by repeat' (first | exact Below.refl _ _ | refine Below.drew ?_ | refine Below.alloc ?_ (by first | (simp; done) | (simp; omega) | omega) _ | refine Below.setCell ?_ (by first | (simp; done) | (simp; omega) | omega) _)) hc18
        replace F_0 := cell_later hst18 F_0
        replace F_1 := cell_later hst18 F_1
        replace F_2 := cell_later hst18 F_2
        replace F_l := Nat.lt_of_lt_of_le F_l hst18.size
        replace z60 := z60.later hst18
        clear hst18
        clear hc18 hb17
        clear F_0 F_1 F_2 F_l
        clear z60
        go_wp2_with fail
        refine (recv_r 1 [18446744073709551615] false (some ⟨w18.heap.size, 0, none⟩) _ 1 _ rfl (by repeat' (first | with_reducible exact cellsAt_oneI _ _ _ _ | with_reducible refine CellsAt.setFar ?_ ?_ _ | with_reducible refine CellsAt.alloc ?_ _ | with_reducible refine CellsAt.drew ?_ | assumption | (simp; omega) | omega)) 1 [] false 18446744073709551615 true 0 rfl).mono ?_
        rintro e w19 ⟨⟨a9, c9, rfl, _⟩, hc19⟩
        have hb19 : Below w.heap.size w w19 := bchain (by repeat' (first | exact hb18 | refine Below.drew ?_ | refine Below.alloc ?_ (by have := hb18.size; first | (simp; done) | (simp; omega) | omega) _ | refine Below.setCell ?_ (by first | (simp; done) | (simp; omega) | omega) _)) hc19
        clear hc19 hb18
        go_wp2_with fail
        refine (alive_any _).mono ?_
        rintro e w20 ⟨rfl, hc20⟩
        have hb20 : Below w.heap.size w w20 := bchain (by repeat' (first | exact hb19 | refine Below.drew ?_ | refine Below.alloc ?_ (by have := hb19.size; first | (simp; done) | (simp; omega) | omega) _ | refine Below.setCell ?_ (by first | (simp; done) | (simp; omega) | omega) _)) hc20
        clear hc20 hb19
        go_wp2_with fail
        go_ret
        exact ⟨rfl, by repeat' (first | exact hb20 | refine Below.drew ?_ | refine Below.alloc ?_ (by have := hb20.size; first | (simp; done) | (simp; omega) | omega) _ | refine Below.setCell ?_ (by first | (simp; done) | (simp; omega) | omega) _)⟩

end Go.Proofs.Yteajfhodfpjplaa
