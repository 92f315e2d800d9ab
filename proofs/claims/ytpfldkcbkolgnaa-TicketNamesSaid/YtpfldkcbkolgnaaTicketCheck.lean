/- What Check returns. -/
import Derived.Test.YtpfldkcbkolgnaaTicketChecks
namespace Go.Proofs.Ytpfldkcbkolgnaa
set_option linter.unusedSimpArgs false
set_option linter.unusedVariables false
set_option linter.unnecessarySimpa false
open Go.RowKit

theorem contains_r (v : Bool) (g o : Int) (hs : Slips) (a : Option Addr) (c B : Nat) (w : World) (hv : hs.any (badP g o) = v) (hc : CellsAt w a (cel hs)) (hml : hs.length ≤ maxLen) (hB : B < w.heap.size) (hc0 : w.cell? ⟨B, 0, none⟩ = some (.int .i64 g)) (hc1 : w.cell? ⟨B, 1, none⟩ = some (.int .i64 o)) :
    Calls Try.prog 34 #[.slice a hs.length c, .func (.func 33) #[] #[.pointer (some ⟨B, 0, none⟩)]] w fun e w' =>
      e = .returned (.bool v) ∧ Below w.heap.size w w' := by
  rw [← hv]; exact contains_any g o hs a c B w hc hml hB hc0 hc1

theorem any_bad {g o : Int} {hs : Slips} : hs.any (badP g o) = false ↔ ∀ i, i < hs.length → o ≤ tg hs i ∧ tg hs i < g := by
  rw [List.any_eq_false]
  constructor
  · intro h i hi
    have := h hs[i] (List.getElem_mem hi)
    rw [hs_at hi] at this
    simp [badP] at this; omega
  · intro h x hx
    obtain ⟨i, hi, rfl⟩ := List.getElem_of_mem hx
    have := h i hi
    rw [hs_at hi]
    simp [badP]; omega


set_option maxHeartbeats 4000000 in
theorem dcheck_any (g o r : Int) (hs : Slips) (a : Option Addr) (c : Nat) (w : World) (hc : CellsAt w a (cel hs)) (hml : hs.length ≤ maxLen) :
    Calls Try.prog 24 #[.agg #[.int .i64 g, .int .i64 o, .int .i64 r, .slice a hs.length c]] w fun e w' =>
      e = .returned (.int .i64 (dErr g o r hs)) ∧ Below w.heap.size w w' := by
  have hml' := hml
  unfold maxLen at hml'
  have Hml := hid hml
  have Hc := hid hc
  by_cases q1 : r < 1
  · skip
    have he : dErr g o r hs = 8 := dErr_bad (fun h => by have := h.r1; have := h.r2; have := h.o1; have := h.o2; have := h.g1; omega)
    have H_he := hid he
    clear he
    go_enter Try.func24, Try.ntmps24
    have hb0 := Below.refl w.heap.size w
    go_wp2_with fail
    go_ret
    exact ⟨ret_int H_he.out.symm, (by repeat' (first | with_reducible exact hb0 | with_reducible refine Below.drew ?_ | with_reducible refine below_drewN ?_ _ | with_reducible refine Below.alloc ?_ (by have := hb0.size; first | (simp; done) | (simp; omega) | omega) _ | with_reducible refine Below.setCell ?_ (by first | (simp; done) | (simp; omega) | omega) _))⟩
  by_cases q2 : 16 < r
  · skip
    have he : dErr g o r hs = 8 := dErr_bad (fun h => by have := h.r1; have := h.r2; have := h.o1; have := h.o2; have := h.g1; omega)
    have H_he := hid he
    clear he
    go_enter Try.func24, Try.ntmps24
    have hb0 := Below.refl w.heap.size w
    go_wp2_with fail
    go_ret
    exact ⟨ret_int H_he.out.symm, (by repeat' (first | with_reducible exact hb0 | with_reducible refine Below.drew ?_ | with_reducible refine below_drewN ?_ _ | with_reducible refine Below.alloc ?_ (by have := hb0.size; first | (simp; done) | (simp; omega) | omega) _ | with_reducible refine Below.setCell ?_ (by first | (simp; done) | (simp; omega) | omega) _))⟩
  by_cases q3 : o < 0
  · skip
    have he : dErr g o r hs = 8 := dErr_bad (fun h => by have := h.r1; have := h.r2; have := h.o1; have := h.o2; have := h.g1; omega)
    have H_he := hid he
    clear he
    go_enter Try.func24, Try.ntmps24
    have hb0 := Below.refl w.heap.size w
    go_wp2_with fail
    go_ret
    exact ⟨ret_int H_he.out.symm, (by repeat' (first | with_reducible exact hb0 | with_reducible refine Below.drew ?_ | with_reducible refine below_drewN ?_ _ | with_reducible refine Below.alloc ?_ (by have := hb0.size; first | (simp; done) | (simp; omega) | omega) _ | with_reducible refine Below.setCell ?_ (by first | (simp; done) | (simp; omega) | omega) _))⟩
  by_cases q4 : g < o
  · skip
    have he : dErr g o r hs = 8 := dErr_bad (fun h => by have := h.r1; have := h.r2; have := h.o1; have := h.o2; have := h.g1; omega)
    have H_he := hid he
    clear he
    go_enter Try.func24, Try.ntmps24
    have hb0 := Below.refl w.heap.size w
    go_wp2_with fail
    go_ret
    exact ⟨ret_int H_he.out.symm, (by repeat' (first | with_reducible exact hb0 | with_reducible refine Below.drew ?_ | with_reducible refine below_drewN ?_ _ | with_reducible refine Below.alloc ?_ (by have := hb0.size; first | (simp; done) | (simp; omega) | omega) _ | with_reducible refine Below.setCell ?_ (by first | (simp; done) | (simp; omega) | omega) _))⟩
  by_cases q5 : 1000000000 < g
  · skip
    have he : dErr g o r hs = 8 := dErr_bad (fun h => by have := h.r1; have := h.r2; have := h.o1; have := h.o2; have := h.g1; omega)
    have H_he := hid he
    clear he
    go_enter Try.func24, Try.ntmps24
    have hb0 := Below.refl w.heap.size w
    go_wp2_with fail
    go_ret
    exact ⟨ret_int H_he.out.symm, (by repeat' (first | with_reducible exact hb0 | with_reducible refine Below.drew ?_ | with_reducible refine below_drewN ?_ _ | with_reducible refine Below.alloc ?_ (by have := hb0.size; first | (simp; done) | (simp; omega) | omega) _ | with_reducible refine Below.setCell ?_ (by first | (simp; done) | (simp; omega) | omega) _))⟩
  by_cases hany : hs.any (badP g o) = true
  · have he : dErr g o r hs = 8 := dErr_bad (fun h => by
      have h2 := any_bad.2 h.nth
      rw [hany] at h2; cases h2)
    have H_he := hid he
    have H_hany := hid hany
    clear he hany
    go_enter Try.func24, Try.ntmps24
    have hb0 := Below.refl w.heap.size w
    go_wp2_with fail
    refine wp_gen fun w1 hc1 => ?_
    have hb1 : Below w.heap.size w w1 := bchain (by repeat' (first | with_reducible exact hb0 | with_reducible refine Below.drew ?_ | with_reducible refine below_drewN ?_ _ | with_reducible refine Below.alloc ?_ (by have := hb0.size; first | (simp; done) | (simp; omega) | omega) _ | with_reducible refine Below.setCell ?_ (by first | (simp; done) | (simp; omega) | omega) _)) hc1
    have hst1 : Below w.heap.size w w1 := bchain (by repeat' (first | with_reducible exact Below.refl _ _ | with_reducible refine Below.drew ?_ | with_reducible refine below_drewN ?_ _ | with_reducible refine Below.alloc ?_ (by first | (simp; done) | (simp; omega) | omega) _ | with_reducible refine Below.setCell ?_ (by first | (simp; done) | (simp; omega) | omega) _)) hc1
    have D_0 : w1.cell? ⟨w.heap.size, 0, none⟩ = some (.int .i64 g) := (hc1.cell (p := ⟨w.heap.size, 0, none⟩) (by first | (simp; done) | (simp; omega))).trans (by first | (simp; done) | go_simp)
    have D_1 : w1.cell? ⟨w.heap.size, 1, none⟩ = some (.int .i64 o) := (hc1.cell (p := ⟨w.heap.size, 1, none⟩) (by first | (simp; done) | (simp; omega))).trans (by first | (simp; done) | go_simp)
    have D_2 : w1.cell? ⟨w.heap.size, 2, none⟩ = some (.int .i64 r) := (hc1.cell (p := ⟨w.heap.size, 2, none⟩) (by first | (simp; done) | (simp; omega))).trans (by first | (simp; done) | go_simp)
    have D_3 : w1.cell? ⟨w.heap.size, 3, none⟩ = some (.slice a hs.length c) := (hc1.cell (p := ⟨w.heap.size, 3, none⟩) (by first | (simp; done) | (simp; omega))).trans (by first | (simp; done) | go_simp)
    have D_l : w.heap.size < w1.heap.size := Nat.lt_of_lt_of_le (by first | (simp; done) | (simp; omega)) hc1.size
    replace hc := hc.later hst1
    clear hst1
    have KD_0 := cell_on D_0
    have KD_1 := cell_on D_1
    have KD_2 := cell_on D_2
    have KD_3 := cell_on D_3
    refine wp_region_on (by kernel_rfl) (by kernel_rfl) ?_
    repeat (go_big_quiet_step ((first | (go_at_call 34; with_reducible exact calls_on (contains_r true g o hs a c w.heap.size _ H_hany.out (hc.on _) Hml.out (Nat.lt_of_lt_of_le D_l (size_on _ _)) (cell_on D_0 _) (cell_on D_1 _))))))
    refine wpQuiet_nil ?_
    intro w2 hc2
    clear KD_0 KD_1 KD_2 KD_3
    have hb2 : Below w.heap.size w w2 := bchain (by repeat' (first | with_reducible exact hb1 | with_reducible refine Below.drew ?_ | with_reducible refine below_drewN ?_ _ | with_reducible refine Below.alloc ?_ (by have := hb1.size; first | (simp; done) | (simp; omega) | omega) _ | with_reducible refine Below.setCell ?_ (by first | (simp; done) | (simp; omega) | omega) _)) hc2
    have hst2 : Below w1.heap.size w1 w2 := bchain (by repeat' (first | with_reducible exact Below.refl _ _ | with_reducible refine Below.drew ?_ | with_reducible refine below_drewN ?_ _ | with_reducible refine Below.alloc ?_ (by first | (simp; done) | (simp; omega) | omega) _ | with_reducible refine Below.setCell ?_ (by first | (simp; done) | (simp; omega) | omega) _)) hc2
    replace D_0 := cell_later hst2 D_0
    replace D_1 := cell_later hst2 D_1
    replace D_2 := cell_later hst2 D_2
    replace D_3 := cell_later hst2 D_3
    replace D_l := Nat.lt_of_lt_of_le D_l hst2.size
    replace hc := hc.later hst2
    clear hst2
    go_wp2_with fail
    go_ret
    exact ⟨ret_int H_he.out.symm, (by repeat' (first | with_reducible exact hb2 | with_reducible refine Below.drew ?_ | with_reducible refine below_drewN ?_ _ | with_reducible refine Below.alloc ?_ (by have := hb2.size; first | (simp; done) | (simp; omega) | omega) _ | with_reducible refine Below.setCell ?_ (by first | (simp; done) | (simp; omega) | omega) _))⟩
  · have hany : hs.any (badP g o) = false := by simpa using hany
    have hnth := any_bad.1 hany
    have H_hany := hid hany
    have H_hnth := hid hnth
    clear hany hnth
    by_cases hh : r < (heldN o hs : Int)
    · have he : dErr g o r hs = 8 := dErr_bad (fun h => by
        have h2 := held_besides (fun i hi => (h.nth i hi).1) h.inc
        have := h.room
        omega)
      have H_he := hid he
      clear he
      go_enter Try.func24, Try.ntmps24
      have hb0 := Below.refl w.heap.size w
      go_wp2_with fail
      refine wp_gen fun w1 hc1 => ?_
      have hb1 : Below w.heap.size w w1 := bchain (by repeat' (first | with_reducible exact hb0 | with_reducible refine Below.drew ?_ | with_reducible refine below_drewN ?_ _ | with_reducible refine Below.alloc ?_ (by have := hb0.size; first | (simp; done) | (simp; omega) | omega) _ | with_reducible refine Below.setCell ?_ (by first | (simp; done) | (simp; omega) | omega) _)) hc1
      have hst1 : Below w.heap.size w w1 := bchain (by repeat' (first | with_reducible exact Below.refl _ _ | with_reducible refine Below.drew ?_ | with_reducible refine below_drewN ?_ _ | with_reducible refine Below.alloc ?_ (by first | (simp; done) | (simp; omega) | omega) _ | with_reducible refine Below.setCell ?_ (by first | (simp; done) | (simp; omega) | omega) _)) hc1
      have D_0 : w1.cell? ⟨w.heap.size, 0, none⟩ = some (.int .i64 g) := (hc1.cell (p := ⟨w.heap.size, 0, none⟩) (by first | (simp; done) | (simp; omega))).trans (by first | (simp; done) | go_simp)
      have D_1 : w1.cell? ⟨w.heap.size, 1, none⟩ = some (.int .i64 o) := (hc1.cell (p := ⟨w.heap.size, 1, none⟩) (by first | (simp; done) | (simp; omega))).trans (by first | (simp; done) | go_simp)
      have D_2 : w1.cell? ⟨w.heap.size, 2, none⟩ = some (.int .i64 r) := (hc1.cell (p := ⟨w.heap.size, 2, none⟩) (by first | (simp; done) | (simp; omega))).trans (by first | (simp; done) | go_simp)
      have D_3 : w1.cell? ⟨w.heap.size, 3, none⟩ = some (.slice a hs.length c) := (hc1.cell (p := ⟨w.heap.size, 3, none⟩) (by first | (simp; done) | (simp; omega))).trans (by first | (simp; done) | go_simp)
      have D_l : w.heap.size < w1.heap.size := Nat.lt_of_lt_of_le (by first | (simp; done) | (simp; omega)) hc1.size
      replace hc := hc.later hst1
      clear hst1
      have KD_0 := cell_on D_0
      have KD_1 := cell_on D_1
      have KD_2 := cell_on D_2
      have KD_3 := cell_on D_3
      refine wp_region_on (by kernel_rfl) (by kernel_rfl) ?_
      repeat (go_big_quiet_step ((first | (go_at_call 34; with_reducible exact calls_on (contains_r false g o hs a c w.heap.size _ H_hany.out (hc.on _) Hml.out (Nat.lt_of_lt_of_le D_l (size_on _ _)) (cell_on D_0 _) (cell_on D_1 _))) | (go_at_call 29; with_reducible exact calls_on (held_any g o r hs a c _ (hc.on _) Hml.out)))))
      refine wpQuiet_nil ?_
      intro w2 hc2
      clear KD_0 KD_1 KD_2 KD_3
      have hb2 : Below w.heap.size w w2 := bchain (by repeat' (first | with_reducible exact hb1 | with_reducible refine Below.drew ?_ | with_reducible refine below_drewN ?_ _ | with_reducible refine Below.alloc ?_ (by have := hb1.size; first | (simp; done) | (simp; omega) | omega) _ | with_reducible refine Below.setCell ?_ (by first | (simp; done) | (simp; omega) | omega) _)) hc2
      have hst2 : Below w1.heap.size w1 w2 := bchain (by repeat' (first | with_reducible exact Below.refl _ _ | with_reducible refine Below.drew ?_ | with_reducible refine below_drewN ?_ _ | with_reducible refine Below.alloc ?_ (by first | (simp; done) | (simp; omega) | omega) _ | with_reducible refine Below.setCell ?_ (by first | (simp; done) | (simp; omega) | omega) _)) hc2
      replace D_0 := cell_later hst2 D_0
      replace D_1 := cell_later hst2 D_1
      replace D_2 := cell_later hst2 D_2
      replace D_3 := cell_later hst2 D_3
      replace D_l := Nat.lt_of_lt_of_le D_l hst2.size
      replace hc := hc.later hst2
      clear hst2
      go_wp2_with fail
      go_ret
      exact ⟨ret_int H_he.out.symm, (by repeat' (first | with_reducible exact hb2 | with_reducible refine Below.drew ?_ | with_reducible refine below_drewN ?_ _ | with_reducible refine Below.alloc ?_ (by have := hb2.size; first | (simp; done) | (simp; omega) | omega) _ | with_reducible refine Below.setCell ?_ (by first | (simp; done) | (simp; omega) | omega) _))⟩
    · skip
      go_enter Try.func24, Try.ntmps24
      have hb0 := Below.refl w.heap.size w
      go_wp2_with fail
      refine wp_gen fun w1 hc1 => ?_
      have hb1 : Below w.heap.size w w1 := bchain (by repeat' (first | with_reducible exact hb0 | with_reducible refine Below.drew ?_ | with_reducible refine below_drewN ?_ _ | with_reducible refine Below.alloc ?_ (by have := hb0.size; first | (simp; done) | (simp; omega) | omega) _ | with_reducible refine Below.setCell ?_ (by first | (simp; done) | (simp; omega) | omega) _)) hc1
      have hst1 : Below w.heap.size w w1 := bchain (by repeat' (first | with_reducible exact Below.refl _ _ | with_reducible refine Below.drew ?_ | with_reducible refine below_drewN ?_ _ | with_reducible refine Below.alloc ?_ (by first | (simp; done) | (simp; omega) | omega) _ | with_reducible refine Below.setCell ?_ (by first | (simp; done) | (simp; omega) | omega) _)) hc1
      have D_0 : w1.cell? ⟨w.heap.size, 0, none⟩ = some (.int .i64 g) := (hc1.cell (p := ⟨w.heap.size, 0, none⟩) (by first | (simp; done) | (simp; omega))).trans (by first | (simp; done) | go_simp)
      have D_1 : w1.cell? ⟨w.heap.size, 1, none⟩ = some (.int .i64 o) := (hc1.cell (p := ⟨w.heap.size, 1, none⟩) (by first | (simp; done) | (simp; omega))).trans (by first | (simp; done) | go_simp)
      have D_2 : w1.cell? ⟨w.heap.size, 2, none⟩ = some (.int .i64 r) := (hc1.cell (p := ⟨w.heap.size, 2, none⟩) (by first | (simp; done) | (simp; omega))).trans (by first | (simp; done) | go_simp)
      have D_3 : w1.cell? ⟨w.heap.size, 3, none⟩ = some (.slice a hs.length c) := (hc1.cell (p := ⟨w.heap.size, 3, none⟩) (by first | (simp; done) | (simp; omega))).trans (by first | (simp; done) | go_simp)
      have D_l : w.heap.size < w1.heap.size := Nat.lt_of_lt_of_le (by first | (simp; done) | (simp; omega)) hc1.size
      replace hc := hc.later hst1
      clear hst1
      have KD_0 := cell_on D_0
      have KD_1 := cell_on D_1
      have KD_2 := cell_on D_2
      have KD_3 := cell_on D_3
      refine wp_region_on (by kernel_rfl) (by kernel_rfl) ?_
      repeat (go_big_quiet_step ((first | (go_at_call 34; with_reducible exact calls_on (contains_r false g o hs a c w.heap.size _ H_hany.out (hc.on _) Hml.out (Nat.lt_of_lt_of_le D_l (size_on _ _)) (cell_on D_0 _) (cell_on D_1 _))) | (go_at_call 29; with_reducible exact calls_on (held_any g o r hs a c _ (hc.on _) Hml.out)))))
      refine wpQuiet_nil ?_
      intro w2 hc2
      clear KD_0 KD_1 KD_2 KD_3
      have hb2 : Below w.heap.size w w2 := bchain (by repeat' (first | with_reducible exact hb1 | with_reducible refine Below.drew ?_ | with_reducible refine below_drewN ?_ _ | with_reducible refine Below.alloc ?_ (by have := hb1.size; first | (simp; done) | (simp; omega) | omega) _ | with_reducible refine Below.setCell ?_ (by first | (simp; done) | (simp; omega) | omega) _)) hc2
      have hst2 : Below w1.heap.size w1 w2 := bchain (by repeat' (first | with_reducible exact Below.refl _ _ | with_reducible refine Below.drew ?_ | with_reducible refine below_drewN ?_ _ | with_reducible refine Below.alloc ?_ (by first | (simp; done) | (simp; omega) | omega) _ | with_reducible refine Below.setCell ?_ (by first | (simp; done) | (simp; omega) | omega) _)) hc2
      replace D_0 := cell_later hst2 D_0
      replace D_1 := cell_later hst2 D_1
      replace D_2 := cell_later hst2 D_2
      replace D_3 := cell_later hst2 D_3
      replace D_l := Nat.lt_of_lt_of_le D_l hst2.size
      replace hc := hc.later hst2
      clear hst2
      go_wp2_with fail
      clear hc
      go_loopw [4] (fun i wr => ∃ k : Nat, 1 ≤ k ∧ k ≤ hs.length + 1 ∧ i = .int .i64 k ∧ Below w.heap.size w wr ∧ (wr.cell? ⟨w.heap.size, 3, none⟩ = some (.slice a hs.length c)) ∧ Hid (∀ j, 0 < j → j < k → j < hs.length → tg hs (j - 1) < tg hs j)) (fun i _ => hs.length - (intOf i).toNat)
      case atStart => exact ⟨1, by omega, by omega, rfl, (by repeat' (first | with_reducible exact hb2 | with_reducible refine Below.drew ?_ | with_reducible refine below_drewN ?_ _ | with_reducible refine Below.alloc ?_ (by have := hb2.size; first | (simp; done) | (simp; omega) | omega) _ | with_reducible refine Below.setCell ?_ (by first | (simp; done) | (simp; omega) | omega) _)), D_3, hid (fun j hj => by omega)⟩
      case round =>
        clear D_0 D_1 D_2 D_3 D_l
        obtain ⟨k, hk1, hk, rfl, hbw, D_3, Hall⟩ := hrel
        by_cases hlt : k < hs.length
        · have hlt' : (k : Int) < (hs.length : Int) := by omega
          obtain ⟨b, oo, rfl, h1, h2, hcell⟩ := Hc.out.slips (by omega)
          obtain ⟨m, rfl⟩ : ∃ m, k = m + 1 := ⟨k - 1, by omega⟩
          have c0 := (hcell m (by omega)).1
          have c1 := (hcell (m + 1) hlt).1
          clear hcell
          replace c0 := cell_later hbw c0
          replace c1 := cell_later hbw c1
          have e1 : ((m + 1 : Nat) : Int) - 1 = m := by omega
          have e2 : (m : Int) < (hs.length : Int) := by omega
          by_cases hp : tg hs m < tg hs (m + 1)
          · skip
            go_wp2_with fail
            go_quiet (fail)
            go_wp2_with fail
            go_roundw
            case rel => exact ⟨m + 1 + 1, by omega, by omega, by go_num, (by repeat' (first | with_reducible exact hbw | with_reducible refine Below.drew ?_ | with_reducible refine below_drewN ?_ _ | with_reducible refine Below.alloc ?_ (by have := hbw.size; first | (simp; done) | (simp; omega) | omega) _ | with_reducible refine Below.setCell ?_ (by first | (simp; done) | (simp; omega) | omega) _)), by go_simp, hid (fun j hj0 hj hj2 => by
              by_cases hjk : j < m + 1
              · exact Hall.out j hj0 hjk hj2
              · obtain rfl : j = m + 1 := by omega
                exact hp)⟩
            case measure => simp [intOf]; omega
          · have he : dErr g o r hs = 8 := dErr_bad (fun h => hp (h.inc (m + 1) (by omega) hlt))
            have H_he := hid he
            clear he
            go_wp2_with fail
            go_quiet (fail)
            go_wp2_with fail
            go_ret
            exact ⟨ret_int H_he.out.symm, (by repeat' (first | with_reducible exact hbw | with_reducible refine Below.drew ?_ | with_reducible refine below_drewN ?_ _ | with_reducible refine Below.alloc ?_ (by have := hbw.size; first | (simp; done) | (simp; omega) | omega) _ | with_reducible refine Below.setCell ?_ (by first | (simp; done) | (simp; omega) | omega) _))⟩
        · have he : dErr g o r hs = 0 := DV.err ⟨by omega, by omega, by omega, by omega, by omega, by
              rw [held_besides (fun i hi => (H_hnth.out i hi).1) (fun i h0 hi => Hall.out i h0 (by omega) hi)]; omega, H_hnth.out, fun i h0 hi => Hall.out i h0 (by omega) hi⟩
          have H_he := hid he
          clear he
          go_wp2_with fail
          go_ret
          exact ⟨ret_int H_he.out.symm, (by repeat' (first | with_reducible exact hbw | with_reducible refine Below.drew ?_ | with_reducible refine below_drewN ?_ _ | with_reducible refine Below.alloc ?_ (by have := hbw.size; first | (simp; done) | (simp; omega) | omega) _ | with_reducible refine Below.setCell ?_ (by first | (simp; done) | (simp; omega) | omega) _))⟩

end Go.Proofs.Ytpfldkcbkolgnaa
