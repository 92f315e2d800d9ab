/- What the reference's Besides, Check and At return. -/
import Derived.Test.YtpfldkcbkolgnaaTicketChecks
namespace Go.Proofs.Ytpfldkcbkolgnaa
set_option linter.unusedSimpArgs false
set_option linter.unusedVariables false
set_option linter.unnecessarySimpa false
open Go.RowKit


theorem besides_take {o : Int} {hs : Slips} {k : Nat} (hk : k < hs.length) : besides o (hs.take (k + 1)) = besides o (hs.take k) + if tg hs k = o then 0 else 1 := by
  unfold besides
  rw [List.take_succ_eq_append_getElem hk, List.filter_append, List.length_append, hs_at hk]
  by_cases h : tg hs k = o
  · simp [h]
  · simp [h]
theorem besides_le (o : Int) (hs : Slips) (k : Nat) : besides o (hs.take k) ≤ k := by
  unfold besides
  exact Nat.le_trans (List.length_filter_le _ _) (by simp; omega)

set_option maxHeartbeats 1000000 in
theorem besides_any (g o r : Int) (hs : Slips) (a : Option Addr) (c : Nat) (w : World) (hc : CellsAt w a (cel hs)) (hml : hs.length ≤ maxLen) :
    Calls Try.prog 11 #[.agg #[.int .i64 g, .int .i64 o, .int .i64 r, .slice a hs.length c]] w fun e w' =>
      e = .returned (.int .i64 (besides o hs)) ∧ Below w.heap.size w w' := by
  unfold maxLen at hml
  go_enter Try.func11, Try.ntmps11
  have hb0 := Below.refl w.heap.size w
  go_wp2_with fail
  go_loopw [3, 4] (fun n i wr => ∃ k : Nat, k ≤ hs.length ∧ i = .int .i64 k ∧ n = .int .i64 (besides o (hs.take k)) ∧ Below w.heap.size w wr ∧ (wr.cell? ⟨w.heap.size, 1, none⟩ = some (.int .i64 o) ∧ wr.cell? ⟨w.heap.size, 3, none⟩ = some (.slice a hs.length c))) (fun _ i _ => hs.length - (intOf i).toNat)
  case atStart => exact ⟨0, Nat.zero_le _, rfl, rfl, (by repeat' (first | with_reducible exact hb0 | with_reducible refine Below.drew ?_ | with_reducible refine below_drewN ?_ _ | with_reducible refine Below.alloc ?_ (by have := hb0.size; first | (simp; done) | (simp; omega) | omega) _ | with_reducible refine Below.setCell ?_ (by first | (simp; done) | (simp; omega) | omega) _)), by go_simp, by go_simp⟩
  case round =>
    obtain ⟨k, hk, rfl, rfl, hbw, D_1, D_3⟩ := hrel
    have hle := besides_le o hs k
    by_cases hlt : k < hs.length
    · have hlt' : (k : Int) < (hs.length : Int) := by omega
      obtain ⟨b, oo, rfl, h1, h2, hcell⟩ := hc.slips (by omega)
      have c0 := cell_later hbw (hcell k hlt).1
      have ht := besides_take (o := o) hlt
      clear hcell hc
      have H_ht := hid ht
      clear ht
      by_cases hp : tg hs k = o
      · rw [hp] at c0
        go_wp2_with fail
        go_quiet (fail)
        go_wp2_with fail
        go_roundw
        case rel => exact ⟨k + 1, by omega, by go_num, by rw [H_ht.out, if_pos hp]; simp, (by repeat' (first | with_reducible exact hbw | with_reducible refine Below.drew ?_ | with_reducible refine below_drewN ?_ _ | with_reducible refine Below.alloc ?_ (by have := hbw.size; first | (simp; done) | (simp; omega) | omega) _ | with_reducible refine Below.setCell ?_ (by first | (simp; done) | (simp; omega) | omega) _)), by go_simp, by go_simp⟩
        case measure => simp [intOf]; omega
      · skip
        go_wp2_with fail
        go_quiet (fail)
        go_wp2_with fail
        go_roundw
        case rel => exact ⟨k + 1, by omega, by go_num, by rw [H_ht.out, if_neg hp]; go_num, (by repeat' (first | with_reducible exact hbw | with_reducible refine Below.drew ?_ | with_reducible refine below_drewN ?_ _ | with_reducible refine Below.alloc ?_ (by have := hbw.size; first | (simp; done) | (simp; omega) | omega) _ | with_reducible refine Below.setCell ?_ (by first | (simp; done) | (simp; omega) | omega) _)), by go_simp, by go_simp⟩
        case measure => simp [intOf]; omega
    · obtain rfl : k = hs.length := by omega
      have ht : besides o (hs.take hs.length) = besides o hs := by rw [List.take_length]
      have H_ht := hid ht
      clear ht
      go_wp2_with fail
      go_ret
      exact ⟨ret_int (by rw [H_ht.out]), (by repeat' (first | with_reducible exact hbw | with_reducible refine Below.drew ?_ | with_reducible refine below_drewN ?_ _ | with_reducible refine Below.alloc ?_ (by have := hbw.size; first | (simp; done) | (simp; omega) | omega) _ | with_reducible refine Below.setCell ?_ (by first | (simp; done) | (simp; omega) | omega) _))⟩

/-- The index of a ticket's slip, or -1. -/
def atI (t : Int) (hs : Slips) : Int := idxI (fun s => s.1 == t) hs
set_option maxHeartbeats 1000000 in
theorem at_any (g o r t : Int) (hs : Slips) (a : Option Addr) (c : Nat) (w : World) (hc : CellsAt w a (cel hs)) (hml : hs.length ≤ maxLen) :
    Calls Try.prog 26 #[.agg #[.int .i64 g, .int .i64 o, .int .i64 r, .slice a hs.length c], .int .i64 t] w fun e w' =>
      e = .returned (.int .i64 (atI t hs)) ∧ Below w.heap.size w w' := by
  unfold maxLen at hml
  go_enter Try.func26, Try.ntmps26
  have hb0 := Below.refl w.heap.size w
  go_wp2_with fail
  go_loopw [5] (fun i wr => ∃ k : Nat, k ≤ hs.length ∧ i = .int .i64 k ∧ Below w.heap.size w wr ∧ (wr.cell? ⟨w.heap.size, 3, none⟩ = some (.slice a hs.length c)) ∧ Hid (∀ j, j < k → ((tg hs j, wg hs j).1 == t) = false)) (fun i _ => hs.length - (intOf i).toNat)
  case atStart => exact ⟨0, Nat.zero_le _, rfl, (by repeat' (first | with_reducible exact hb0 | with_reducible refine Below.drew ?_ | with_reducible refine below_drewN ?_ _ | with_reducible refine Below.alloc ?_ (by have := hb0.size; first | (simp; done) | (simp; omega) | omega) _ | with_reducible refine Below.setCell ?_ (by first | (simp; done) | (simp; omega) | omega) _)), by go_simp, hid (fun j hj => by omega)⟩
  case round =>
    obtain ⟨k, hk, rfl, hbw, D_3, Hall⟩ := hrel
    by_cases hlt : k < hs.length
    · have hlt' : (k : Int) < (hs.length : Int) := by omega
      obtain ⟨b, oo, rfl, h1, h2, hcell⟩ := hc.slips (by omega)
      have c0 := cell_later hbw (hcell k hlt).1
      clear hcell hc
      by_cases hp : tg hs k = t
      · have he : atI t hs = k := idxI_at hlt (by simp [hp]) Hall.out
        rw [hp] at c0
        have H_he := hid he
        clear he
        go_wp2_with fail
        go_ret
        exact ⟨ret_int H_he.out.symm, (by repeat' (first | with_reducible exact hbw | with_reducible refine Below.drew ?_ | with_reducible refine below_drewN ?_ _ | with_reducible refine Below.alloc ?_ (by have := hbw.size; first | (simp; done) | (simp; omega) | omega) _ | with_reducible refine Below.setCell ?_ (by first | (simp; done) | (simp; omega) | omega) _))⟩
      · skip
        go_wp2_with fail
        go_roundw
        case rel => exact ⟨k + 1, by omega, by go_num, (by repeat' (first | with_reducible exact hbw | with_reducible refine Below.drew ?_ | with_reducible refine below_drewN ?_ _ | with_reducible refine Below.alloc ?_ (by have := hbw.size; first | (simp; done) | (simp; omega) | omega) _ | with_reducible refine Below.setCell ?_ (by first | (simp; done) | (simp; omega) | omega) _)), by go_simp, hid (fun j hj => by
          by_cases hjk : j < k
          · exact Hall.out j hjk
          · obtain rfl : j = k := by omega
            simp [hp])⟩
        case measure => simp [intOf]; omega
    · obtain rfl : k = hs.length := by omega
      have he : atI t hs = -1 := idxI_none Hall.out
      have H_he := hid he
      clear he
      go_wp2_with fail
      go_ret
      exact ⟨ret_int H_he.out.symm, (by repeat' (first | with_reducible exact hbw | with_reducible refine Below.drew ?_ | with_reducible refine below_drewN ?_ _ | with_reducible refine Below.alloc ?_ (by have := hbw.size; first | (simp; done) | (simp; omega) | omega) _ | with_reducible refine Below.setCell ?_ (by first | (simp; done) | (simp; omega) | omega) _))⟩

set_option maxHeartbeats 4000000 in
theorem rdcheck_any (g o r : Int) (hs : Slips) (a : Option Addr) (c : Nat) (w : World) (hc : CellsAt w a (cel hs)) (hml : hs.length ≤ maxLen) :
    Calls Try.prog 12 #[.agg #[.int .i64 g, .int .i64 o, .int .i64 r, .slice a hs.length c]] w fun e w' =>
      e = .returned (.int .i64 (dErr g o r hs)) ∧ Below w.heap.size w w' := by
  have hml' := hml
  unfold maxLen at hml'
  have Hml := hid hml
  have Hc := hid hc
  by_cases q1 : r < 1
  · skip
    have he : dErr g o r hs = 8 := dErr_bad (fun h => by have := h.r1; have := h.r2; have := h.o1; have := h.o2; have := h.g1; omega)
    have H_he := hid he
    clear he
    go_enter Try.func12, Try.ntmps12
    have hb0 := Below.refl w.heap.size w
    go_wp2_with fail
    go_quiet (fail)
    go_wp2_with fail
    go_ret
    exact ⟨ret_int H_he.out.symm, (by repeat' (first | with_reducible exact hb0 | with_reducible refine Below.drew ?_ | with_reducible refine below_drewN ?_ _ | with_reducible refine Below.alloc ?_ (by have := hb0.size; first | (simp; done) | (simp; omega) | omega) _ | with_reducible refine Below.setCell ?_ (by first | (simp; done) | (simp; omega) | omega) _))⟩
  by_cases q2 : 16 < r
  · skip
    have he : dErr g o r hs = 8 := dErr_bad (fun h => by have := h.r1; have := h.r2; have := h.o1; have := h.o2; have := h.g1; omega)
    have H_he := hid he
    clear he
    go_enter Try.func12, Try.ntmps12
    have hb0 := Below.refl w.heap.size w
    go_wp2_with fail
    go_quiet (fail)
    go_wp2_with fail
    go_ret
    exact ⟨ret_int H_he.out.symm, (by repeat' (first | with_reducible exact hb0 | with_reducible refine Below.drew ?_ | with_reducible refine below_drewN ?_ _ | with_reducible refine Below.alloc ?_ (by have := hb0.size; first | (simp; done) | (simp; omega) | omega) _ | with_reducible refine Below.setCell ?_ (by first | (simp; done) | (simp; omega) | omega) _))⟩
  by_cases q3 : o < 0
  · skip
    have he : dErr g o r hs = 8 := dErr_bad (fun h => by have := h.r1; have := h.r2; have := h.o1; have := h.o2; have := h.g1; omega)
    have H_he := hid he
    clear he
    go_enter Try.func12, Try.ntmps12
    have hb0 := Below.refl w.heap.size w
    go_wp2_with fail
    go_quiet (fail)
    go_wp2_with fail
    go_ret
    exact ⟨ret_int H_he.out.symm, (by repeat' (first | with_reducible exact hb0 | with_reducible refine Below.drew ?_ | with_reducible refine below_drewN ?_ _ | with_reducible refine Below.alloc ?_ (by have := hb0.size; first | (simp; done) | (simp; omega) | omega) _ | with_reducible refine Below.setCell ?_ (by first | (simp; done) | (simp; omega) | omega) _))⟩
  by_cases q4 : g < o
  · skip
    have he : dErr g o r hs = 8 := dErr_bad (fun h => by have := h.r1; have := h.r2; have := h.o1; have := h.o2; have := h.g1; omega)
    have H_he := hid he
    clear he
    go_enter Try.func12, Try.ntmps12
    have hb0 := Below.refl w.heap.size w
    go_wp2_with fail
    go_quiet (fail)
    go_wp2_with fail
    go_ret
    exact ⟨ret_int H_he.out.symm, (by repeat' (first | with_reducible exact hb0 | with_reducible refine Below.drew ?_ | with_reducible refine below_drewN ?_ _ | with_reducible refine Below.alloc ?_ (by have := hb0.size; first | (simp; done) | (simp; omega) | omega) _ | with_reducible refine Below.setCell ?_ (by first | (simp; done) | (simp; omega) | omega) _))⟩
  by_cases q5 : 1000000000 < g
  · skip
    have he : dErr g o r hs = 8 := dErr_bad (fun h => by have := h.r1; have := h.r2; have := h.o1; have := h.o2; have := h.g1; omega)
    have H_he := hid he
    clear he
    go_enter Try.func12, Try.ntmps12
    have hb0 := Below.refl w.heap.size w
    go_wp2_with fail
    go_quiet (fail)
    go_wp2_with fail
    go_ret
    exact ⟨ret_int H_he.out.symm, (by repeat' (first | with_reducible exact hb0 | with_reducible refine Below.drew ?_ | with_reducible refine below_drewN ?_ _ | with_reducible refine Below.alloc ?_ (by have := hb0.size; first | (simp; done) | (simp; omega) | omega) _ | with_reducible refine Below.setCell ?_ (by first | (simp; done) | (simp; omega) | omega) _))⟩
  by_cases hh : r < (besides o hs : Int)
  · have he : dErr g o r hs = 8 := dErr_bad (fun h => by
      have := h.room
      omega)
    have H_he := hid he
    clear he
    go_enter Try.func12, Try.ntmps12
    have hb0 := Below.refl w.heap.size w
    go_wp2_with fail
    refine wp_gen fun w1 hc1 => ?_
    have hb1 : Below w.heap.size w w1 := bchain (by repeat' (first | with_reducible exact hb0 | with_reducible refine Below.drew ?_ | with_reducible refine below_drewN ?_ _ | with_reducible refine Below.alloc ?_ (by have := hb0.size; first | (simp; done) | (simp; omega) | omega) _ | with_reducible refine Below.setCell ?_ (by first | (simp; done) | (simp; omega) | omega) _)) hc1
    have hst1 : Below w.heap.size w w1 := bchain (by repeat' (first | with_reducible exact Below.refl _ _ | with_reducible refine Below.drew ?_ | with_reducible refine below_drewN ?_ _ | with_reducible refine Below.alloc ?_ (by first | (simp; done) | (simp; omega) | omega) _ | with_reducible refine Below.setCell ?_ (by first | (simp; done) | (simp; omega) | omega) _)) hc1
    have D_0 : w1.cell? ⟨w.heap.size, 0, none⟩ = some (.int .i64 g) := (hc1.cell (p := ⟨w.heap.size, 0, none⟩) (by first | (simp; done) | (simp; omega))).trans (by first | (simp; done) | go_simp)
    have D_1 : w1.cell? ⟨w.heap.size, 1, none⟩ = some (.int .i64 o) := (hc1.cell (p := ⟨w.heap.size, 1, none⟩) (by first | (simp; done) | (simp; omega))).trans (by first | (simp; done) | go_simp)
    have D_2 : w1.cell? ⟨w.heap.size, 2, none⟩ = some (.int .i64 r) := (hc1.cell (p := ⟨w.heap.size, 2, none⟩) (by first | (simp; done) | (simp; omega))).trans (by first | (simp; done) | go_simp)
    have D_3 : w1.cell? ⟨w.heap.size, 3, none⟩ = some (.slice a hs.length c) := (hc1.cell (p := ⟨w.heap.size, 3, none⟩) (by first | (simp; done) | (simp; omega))).trans (by first | (simp; done) | go_simp)
    have D_l : w.heap.size < w1.heap.size := Nat.lt_of_lt_of_le (by first | (simp; done) | (simp; omega)) hc1.size
    replace hc := hc.later hst1
    clear hst1
    have KD_0 := cell_on D_0
    have KD_1 := cell_on D_1
    have KD_2 := cell_on D_2
    have KD_3 := cell_on D_3
    refine wp_region_on (by kernel_rfl) (by kernel_rfl) ?_
    repeat (first | go_big_quiet_step ((first | (go_at_call 11; exact calls_on (besides_any g o r hs a c _ (hc.on _) Hml.out)))) | quiet_step ((first | (go_at_call 11; exact calls_on (besides_any g o r hs a c _ (hc.on _) Hml.out)))))
    refine wpQuiet_nil ?_
    intro w2 hc2
    clear KD_0 KD_1 KD_2 KD_3
    have hb2 : Below w.heap.size w w2 := bchain (by repeat' (first | with_reducible exact hb1 | with_reducible refine Below.drew ?_ | with_reducible refine below_drewN ?_ _ | with_reducible refine Below.alloc ?_ (by have := hb1.size; first | (simp; done) | (simp; omega) | omega) _ | with_reducible refine Below.setCell ?_ (by first | (simp; done) | (simp; omega) | omega) _)) hc2
    have hst2 : Below w1.heap.size w1 w2 := bchain (by repeat' (first | with_reducible exact Below.refl _ _ | with_reducible refine Below.drew ?_ | with_reducible refine below_drewN ?_ _ | with_reducible refine Below.alloc ?_ (by first | (simp; done) | (simp; omega) | omega) _ | with_reducible refine Below.setCell ?_ (by first | (simp; done) | (simp; omega) | omega) _)) hc2
    replace D_0 := cell_later hst2 D_0
    replace D_1 := cell_later hst2 D_1
    replace D_2 := cell_later hst2 D_2
    replace D_3 := cell_later hst2 D_3
    replace D_l := Nat.lt_of_lt_of_le D_l hst2.size
    replace hc := hc.later hst2
    clear hst2
    go_wp2_with fail
    go_ret
    exact ⟨ret_int H_he.out.symm, (by repeat' (first | with_reducible exact hb2 | with_reducible refine Below.drew ?_ | with_reducible refine below_drewN ?_ _ | with_reducible refine Below.alloc ?_ (by have := hb2.size; first | (simp; done) | (simp; omega) | omega) _ | with_reducible refine Below.setCell ?_ (by first | (simp; done) | (simp; omega) | omega) _))⟩
  · skip
    go_enter Try.func12, Try.ntmps12
    have hb0 := Below.refl w.heap.size w
    go_wp2_with fail
    refine wp_gen fun w1 hc1 => ?_
    have hb1 : Below w.heap.size w w1 := bchain (by repeat' (first | with_reducible exact hb0 | with_reducible refine Below.drew ?_ | with_reducible refine below_drewN ?_ _ | with_reducible refine Below.alloc ?_ (by have := hb0.size; first | (simp; done) | (simp; omega) | omega) _ | with_reducible refine Below.setCell ?_ (by first | (simp; done) | (simp; omega) | omega) _)) hc1
    have hst1 : Below w.heap.size w w1 := bchain (by repeat' (first | with_reducible exact Below.refl _ _ | with_reducible refine Below.drew ?_ | with_reducible refine below_drewN ?_ _ | with_reducible refine Below.alloc ?_ (by first | (simp; done) | (simp; omega) | omega) _ | with_reducible refine Below.setCell ?_ (by first | (simp; done) | (simp; omega) | omega) _)) hc1
    have D_0 : w1.cell? ⟨w.heap.size, 0, none⟩ = some (.int .i64 g) := (hc1.cell (p := ⟨w.heap.size, 0, none⟩) (by first | (simp; done) | (simp; omega))).trans (by first | (simp; done) | go_simp)
    have D_1 : w1.cell? ⟨w.heap.size, 1, none⟩ = some (.int .i64 o) := (hc1.cell (p := ⟨w.heap.size, 1, none⟩) (by first | (simp; done) | (simp; omega))).trans (by first | (simp; done) | go_simp)
    have D_2 : w1.cell? ⟨w.heap.size, 2, none⟩ = some (.int .i64 r) := (hc1.cell (p := ⟨w.heap.size, 2, none⟩) (by first | (simp; done) | (simp; omega))).trans (by first | (simp; done) | go_simp)
    have D_3 : w1.cell? ⟨w.heap.size, 3, none⟩ = some (.slice a hs.length c) := (hc1.cell (p := ⟨w.heap.size, 3, none⟩) (by first | (simp; done) | (simp; omega))).trans (by first | (simp; done) | go_simp)
    have D_l : w.heap.size < w1.heap.size := Nat.lt_of_lt_of_le (by first | (simp; done) | (simp; omega)) hc1.size
    replace hc := hc.later hst1
    clear hst1
    have KD_0 := cell_on D_0
    have KD_1 := cell_on D_1
    have KD_2 := cell_on D_2
    have KD_3 := cell_on D_3
    refine wp_region_on (by kernel_rfl) (by kernel_rfl) ?_
    repeat (first | go_big_quiet_step ((first | (go_at_call 11; exact calls_on (besides_any g o r hs a c _ (hc.on _) Hml.out)))) | quiet_step ((first | (go_at_call 11; exact calls_on (besides_any g o r hs a c _ (hc.on _) Hml.out)))))
    refine wpQuiet_nil ?_
    intro w2 hc2
    clear KD_0 KD_1 KD_2 KD_3
    have hb2 : Below w.heap.size w w2 := bchain (by repeat' (first | with_reducible exact hb1 | with_reducible refine Below.drew ?_ | with_reducible refine below_drewN ?_ _ | with_reducible refine Below.alloc ?_ (by have := hb1.size; first | (simp; done) | (simp; omega) | omega) _ | with_reducible refine Below.setCell ?_ (by first | (simp; done) | (simp; omega) | omega) _)) hc2
    have hst2 : Below w1.heap.size w1 w2 := bchain (by repeat' (first | with_reducible exact Below.refl _ _ | with_reducible refine Below.drew ?_ | with_reducible refine below_drewN ?_ _ | with_reducible refine Below.alloc ?_ (by first | (simp; done) | (simp; omega) | omega) _ | with_reducible refine Below.setCell ?_ (by first | (simp; done) | (simp; omega) | omega) _)) hc2
    replace D_0 := cell_later hst2 D_0
    replace D_1 := cell_later hst2 D_1
    replace D_2 := cell_later hst2 D_2
    replace D_3 := cell_later hst2 D_3
    replace D_l := Nat.lt_of_lt_of_le D_l hst2.size
    replace hc := hc.later hst2
    clear hst2
    go_wp2_with fail
    clear hc
    go_loopw [3] (fun i wr => ∃ k : Nat, k ≤ hs.length ∧ i = .int .i64 k ∧ Below w.heap.size w wr ∧ (wr.cell? ⟨w.heap.size, 0, none⟩ = some (.int .i64 g) ∧ wr.cell? ⟨w.heap.size, 1, none⟩ = some (.int .i64 o) ∧ wr.cell? ⟨w.heap.size, 3, none⟩ = some (.slice a hs.length c)) ∧ Hid (∀ j, j < k → (o ≤ tg hs j ∧ tg hs j < g) ∧ (0 < j → tg hs (j - 1) < tg hs j))) (fun i _ => hs.length - (intOf i).toNat)
    case atStart => exact ⟨0, by omega, rfl, (by repeat' (first | with_reducible exact hb2 | with_reducible refine Below.drew ?_ | with_reducible refine below_drewN ?_ _ | with_reducible refine Below.alloc ?_ (by have := hb2.size; first | (simp; done) | (simp; omega) | omega) _ | with_reducible refine Below.setCell ?_ (by first | (simp; done) | (simp; omega) | omega) _)), ⟨D_0, D_1, D_3⟩, hid (fun j hj => by omega)⟩
    case round =>
      clear D_0 D_1 D_2 D_3 D_l
      obtain ⟨k, hk, rfl, hbw, ⟨D_0, D_1, D_3⟩, Hall⟩ := hrel
      by_cases hlt : k < hs.length
      · have hlt' : (k : Int) < (hs.length : Int) := by omega
        obtain ⟨b, oo, rfl, h1, h2, hcell⟩ := Hc.out.slips (by omega)
        have c1 := cell_later hbw (hcell k hlt).1
        by_cases s1 : tg hs k < o
        · skip
          have he : dErr g o r hs = 8 := dErr_bad (fun h => by have := (h.nth k hlt).1; omega)
          have H_he := hid he
          clear he
          go_wp2_with fail
          go_quiet (fail)
          go_wp2_with fail
          go_ret
          exact ⟨ret_int H_he.out.symm, (by repeat' (first | with_reducible exact hbw | with_reducible refine Below.drew ?_ | with_reducible refine below_drewN ?_ _ | with_reducible refine Below.alloc ?_ (by have := hbw.size; first | (simp; done) | (simp; omega) | omega) _ | with_reducible refine Below.setCell ?_ (by first | (simp; done) | (simp; omega) | omega) _))⟩
        have s1' : decide (tg hs k < o) = false := decide_eq_false s1
        by_cases s2 : g ≤ tg hs k
        · skip
          have he : dErr g o r hs = 8 := dErr_bad (fun h => by have := (h.nth k hlt).2; omega)
          have H_he := hid he
          clear he
          go_wp2_with fail
          go_quiet (fail)
          go_wp2_with fail
          go_ret
          exact ⟨ret_int H_he.out.symm, (by repeat' (first | with_reducible exact hbw | with_reducible refine Below.drew ?_ | with_reducible refine below_drewN ?_ _ | with_reducible refine Below.alloc ?_ (by have := hbw.size; first | (simp; done) | (simp; omega) | omega) _ | with_reducible refine Below.setCell ?_ (by first | (simp; done) | (simp; omega) | omega) _))⟩
        have s2' : decide (g ≤ tg hs k) = false := decide_eq_false s2
        rcases Nat.eq_zero_or_pos k with rfl | hk0
        · clear hcell
          simp only [Nat.zero_mul, Nat.add_zero] at c1
          go_wp2_with fail
          go_quiet (fail)
          go_wp2_with fail
          go_roundw
          case rel => exact ⟨1, by omega, by go_num, (by repeat' (first | with_reducible exact hbw | with_reducible refine Below.drew ?_ | with_reducible refine below_drewN ?_ _ | with_reducible refine Below.alloc ?_ (by have := hbw.size; first | (simp; done) | (simp; omega) | omega) _ | with_reducible refine Below.setCell ?_ (by first | (simp; done) | (simp; omega) | omega) _)), ⟨by go_simp, by go_simp, by go_simp⟩, hid (fun j hj => by
            obtain rfl : j = 0 := by omega
            exact ⟨by omega, by omega⟩)⟩
          case measure => simp [intOf]; omega
        · obtain ⟨m, rfl⟩ : ∃ m, k = m + 1 := ⟨k - 1, by omega⟩
          have c0 := cell_later hbw (hcell m (by omega)).1
          have e1 : ((m + 1 : Nat) : Int) - 1 = m := by omega
          have e2 : (m : Int) < (hs.length : Int) := by omega
          have e3 : (0 : Int) < ((m + 1 : Nat) : Int) := by omega
          clear hcell
          by_cases hp : tg hs m < tg hs (m + 1)
          · skip
            go_wp2_with fail
            go_quiet (fail)
            go_wp2_with fail
            go_roundw
            case rel => exact ⟨m + 1 + 1, by omega, by go_num, (by repeat' (first | with_reducible exact hbw | with_reducible refine Below.drew ?_ | with_reducible refine below_drewN ?_ _ | with_reducible refine Below.alloc ?_ (by have := hbw.size; first | (simp; done) | (simp; omega) | omega) _ | with_reducible refine Below.setCell ?_ (by first | (simp; done) | (simp; omega) | omega) _)), ⟨by go_simp, by go_simp, by go_simp⟩, hid (fun j hj => by
              by_cases hjk : j < m + 1
              · exact Hall.out j hjk
              · obtain rfl : j = m + 1 := by omega
                exact ⟨by omega, fun _ => hp⟩)⟩
            case measure => simp [intOf]; omega
          · skip
            have he : dErr g o r hs = 8 := dErr_bad (fun h => by exact hp (h.inc (m + 1) (by omega) hlt))
            have H_he := hid he
            clear he
            go_wp2_with fail
            go_quiet (fail)
            go_wp2_with fail
            go_ret
            exact ⟨ret_int H_he.out.symm, (by repeat' (first | with_reducible exact hbw | with_reducible refine Below.drew ?_ | with_reducible refine below_drewN ?_ _ | with_reducible refine Below.alloc ?_ (by have := hbw.size; first | (simp; done) | (simp; omega) | omega) _ | with_reducible refine Below.setCell ?_ (by first | (simp; done) | (simp; omega) | omega) _))⟩
      · obtain rfl : k = hs.length := by omega
        have he : dErr g o r hs = 0 := DV.err ⟨by omega, by omega, by omega, by omega, by omega, by omega, fun i hi => (Hall.out i hi).1, fun i h0 hi => (Hall.out i hi).2 h0⟩
        have H_he := hid he
        clear he
        go_wp2_with fail
        go_ret
        exact ⟨ret_int H_he.out.symm, (by repeat' (first | with_reducible exact hbw | with_reducible refine Below.drew ?_ | with_reducible refine below_drewN ?_ _ | with_reducible refine Below.alloc ?_ (by have := hbw.size; first | (simp; done) | (simp; omega) | omega) _ | with_reducible refine Below.setCell ?_ (by first | (simp; done) | (simp; omega) | omega) _))⟩

end Go.Proofs.Ytpfldkcbkolgnaa
