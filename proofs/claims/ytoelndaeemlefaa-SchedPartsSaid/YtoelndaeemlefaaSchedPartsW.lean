/- The law SchedParts. -/
import Derived.Test.YtoelndaeemlefaaSchedPartsA
import Derived.Test.YtoelndaeemlefaaSchedPartsB
import Derived.Test.YtoelndaeemlefaaSchedPartsC
import Derived.Test.YtoelndaeemlefaaSchedPartsD
import Derived.Test.YtoelndaeemlefaaSchedPartsE
import Derived.Test.YtoelndaeemlefaaSchedPartsF
namespace Go.Proofs.Ytoelndaeemlefaa
set_option linter.unusedSimpArgs false
set_option linter.unusedVariables false
set_option linter.unnecessarySimpa false
open Go.RowKit


set_option maxRecDepth 100000 in
set_option maxHeartbeats 40000000 in
theorem parts_walk (l a : List Int) (la aa : Option Addr) (lc ac : Nat) (pa : Option Addr) (pc : Nat) (ps : List Int) (i : Int) (w : World) (h0 : TkIn w l a la aa lc ac) (h1 : RowIn w pa pc ps) (_ : (Lit.int .i64 i).wf = true) :
    Calls Try.prog 7 #[.agg #[.slice la l.length lc, .slice aa a.length ac], .slice pa ps.length pc, .int .i64 i] w fun e w' =>
      e = .returned (.bool true) ∧ Below w.heap.size w w' := by
  have hl := h0.left.cells
  have ha := h0.aft.cells
  have hp := h1.cells
  have hpc := h1.cap
  have hml := h0.left.len
  clear h0 h1
  rcases tErr_cases l a with h1 | h1
  · have hfit : decide (tErr l a = 0) = true := by simp [h1]
    rcases pkErr_cases l a ps with h8 | h8 | h8 | h8
    · by_cases i1 : i < 0
      · skip
        have H_hfit := hid hfit
        have H_h8 := hid h8
        have H_h1 := hid h1
        clear hfit h8 h1
        go_enter Try.func7, Try.ntmps7
        have hb0 := Below.refl w.heap.size w
        go_wp2_with fail
        refine (alive_any _).mono ?_
        rintro e w1 ⟨rfl, hc1⟩
        have hb1 : Below w.heap.size w w1 := bchain (by repeat' (first | exact hb0 | refine Below.drew ?_ | refine below_drewN ?_ _ | refine Below.alloc ?_ (by have := hb0.size; first | (simp; done) | (simp; omega) | omega) _ | refine Below.setCell ?_ (by first | (simp; done) | (simp; omega) | omega) _)) hc1
        have hst1 : Below w.heap.size w w1 := bchain (by repeat' (first | exact Below.refl _ _ | refine Below.drew ?_ | refine below_drewN ?_ _ | refine Below.alloc ?_ (by first | (simp; done) | (simp; omega) | omega) _ | refine Below.setCell ?_ (by first | (simp; done) | (simp; omega) | omega) _)) hc1
        have P_0 : w1.cell? ⟨w.heap.size, 0, none⟩ = some (.slice la l.length lc) := (hc1.cell (p := ⟨w.heap.size, 0, none⟩) (by first | (simp; done) | (simp; omega))).trans (by first | (simp; done) | go_simp)
        have P_1 : w1.cell? ⟨w.heap.size, 1, none⟩ = some (.slice aa a.length ac) := (hc1.cell (p := ⟨w.heap.size, 1, none⟩) (by first | (simp; done) | (simp; omega))).trans (by first | (simp; done) | go_simp)
        have P_l : w.heap.size < w1.heap.size := Nat.lt_of_lt_of_le (by first | (simp; done) | (simp; omega)) hc1.size
        replace hl := hl.later hst1
        replace ha := ha.later hst1
        replace hp := hp.later hst1
        clear hst1
        clear hc1 hb0
        go_wp2_with fail
        refine (fit_any l a la aa lc ac _ (by repeat' (first | with_reducible exact hl | with_reducible refine CellsAt.setFar ?_ ?_ _ | with_reducible refine CellsAt.alloc ?_ _ | with_reducible refine CellsAt.drew ?_ | with_reducible refine CellsAt.drewN ?_ _ | assumption | (simp; omega) | omega)) (by repeat' (first | with_reducible exact ha | with_reducible refine CellsAt.setFar ?_ ?_ _ | with_reducible refine CellsAt.alloc ?_ _ | with_reducible refine CellsAt.drew ?_ | with_reducible refine CellsAt.drewN ?_ _ | assumption | (simp; omega) | omega)) hml).mono ?_
        rintro e w2 ⟨rfl, hc2⟩
        have hb2 : Below w.heap.size w w2 := bchain (by repeat' (first | exact hb1 | refine Below.drew ?_ | refine below_drewN ?_ _ | refine Below.alloc ?_ (by have := hb1.size; first | (simp; done) | (simp; omega) | omega) _ | refine Below.setCell ?_ (by first | (simp; done) | (simp; omega) | omega) _)) hc2
        have hst2 : Below w1.heap.size w1 w2 := bchain (by repeat' (first | exact Below.refl _ _ | refine Below.drew ?_ | refine below_drewN ?_ _ | refine Below.alloc ?_ (by first | (simp; done) | (simp; omega) | omega) _ | refine Below.setCell ?_ (by first | (simp; done) | (simp; omega) | omega) _)) hc2
        replace P_0 := cell_later hst2 P_0
        replace P_1 := cell_later hst2 P_1
        replace P_l := Nat.lt_of_lt_of_le P_l hst2.size
        replace hl := hl.later hst2
        replace ha := ha.later hst2
        replace hp := hp.later hst2
        clear hst2
        clear hc2 hb1
        rw [H_hfit.out]
        go_wp2_with fail
        refine (rpicks_any l a ps la aa pa lc ac pc _ (by repeat' (first | with_reducible exact hl | with_reducible refine CellsAt.setFar ?_ ?_ _ | with_reducible refine CellsAt.alloc ?_ _ | with_reducible refine CellsAt.drew ?_ | with_reducible refine CellsAt.drewN ?_ _ | assumption | (simp; omega) | omega)) (by repeat' (first | with_reducible exact ha | with_reducible refine CellsAt.setFar ?_ ?_ _ | with_reducible refine CellsAt.alloc ?_ _ | with_reducible refine CellsAt.drew ?_ | with_reducible refine CellsAt.drewN ?_ _ | assumption | (simp; omega) | omega)) (by repeat' (first | with_reducible exact hp | with_reducible refine CellsAt.setFar ?_ ?_ _ | with_reducible refine CellsAt.alloc ?_ _ | with_reducible refine CellsAt.drew ?_ | with_reducible refine CellsAt.drewN ?_ _ | assumption | (simp; omega) | omega)) hml).mono ?_
        rintro e w3 ⟨rfl, hc3⟩
        have hb3 : Below w.heap.size w w3 := bchain (by repeat' (first | exact hb2 | refine Below.drew ?_ | refine below_drewN ?_ _ | refine Below.alloc ?_ (by have := hb2.size; first | (simp; done) | (simp; omega) | omega) _ | refine Below.setCell ?_ (by first | (simp; done) | (simp; omega) | omega) _)) hc3
        have hst3 : Below w2.heap.size w2 w3 := bchain (by repeat' (first | exact Below.refl _ _ | refine Below.drew ?_ | refine below_drewN ?_ _ | refine Below.alloc ?_ (by first | (simp; done) | (simp; omega) | omega) _ | refine Below.setCell ?_ (by first | (simp; done) | (simp; omega) | omega) _)) hc3
        replace P_0 := cell_later hst3 P_0
        replace P_1 := cell_later hst3 P_1
        replace P_l := Nat.lt_of_lt_of_le P_l hst3.size
        replace hl := hl.later hst3
        replace ha := ha.later hst3
        replace hp := hp.later hst3
        clear hst3
        clear hc3 hb2
        rw [H_h8.out]
        go_wp2_with fail
        go_wp2_with fail
        go_ret
        exact ⟨rfl, by repeat' (first | exact hb3 | refine Below.drew ?_ | refine below_drewN ?_ _ | refine Below.alloc ?_ (by have := hb3.size; first | (simp; done) | (simp; omega) | omega) _ | refine Below.setCell ?_ (by first | (simp; done) | (simp; omega) | omega) _)⟩
      by_cases i2 : (ps.length : Int) < i
      · skip
        have H_hfit := hid hfit
        have H_h8 := hid h8
        have H_h1 := hid h1
        clear hfit h8 h1
        go_enter Try.func7, Try.ntmps7
        have hb0 := Below.refl w.heap.size w
        go_wp2_with fail
        refine (alive_any _).mono ?_
        rintro e w1 ⟨rfl, hc1⟩
        have hb1 : Below w.heap.size w w1 := bchain (by repeat' (first | exact hb0 | refine Below.drew ?_ | refine below_drewN ?_ _ | refine Below.alloc ?_ (by have := hb0.size; first | (simp; done) | (simp; omega) | omega) _ | refine Below.setCell ?_ (by first | (simp; done) | (simp; omega) | omega) _)) hc1
        have hst1 : Below w.heap.size w w1 := bchain (by repeat' (first | exact Below.refl _ _ | refine Below.drew ?_ | refine below_drewN ?_ _ | refine Below.alloc ?_ (by first | (simp; done) | (simp; omega) | omega) _ | refine Below.setCell ?_ (by first | (simp; done) | (simp; omega) | omega) _)) hc1
        have P_0 : w1.cell? ⟨w.heap.size, 0, none⟩ = some (.slice la l.length lc) := (hc1.cell (p := ⟨w.heap.size, 0, none⟩) (by first | (simp; done) | (simp; omega))).trans (by first | (simp; done) | go_simp)
        have P_1 : w1.cell? ⟨w.heap.size, 1, none⟩ = some (.slice aa a.length ac) := (hc1.cell (p := ⟨w.heap.size, 1, none⟩) (by first | (simp; done) | (simp; omega))).trans (by first | (simp; done) | go_simp)
        have P_l : w.heap.size < w1.heap.size := Nat.lt_of_lt_of_le (by first | (simp; done) | (simp; omega)) hc1.size
        replace hl := hl.later hst1
        replace ha := ha.later hst1
        replace hp := hp.later hst1
        clear hst1
        clear hc1 hb0
        go_wp2_with fail
        refine (fit_any l a la aa lc ac _ (by repeat' (first | with_reducible exact hl | with_reducible refine CellsAt.setFar ?_ ?_ _ | with_reducible refine CellsAt.alloc ?_ _ | with_reducible refine CellsAt.drew ?_ | with_reducible refine CellsAt.drewN ?_ _ | assumption | (simp; omega) | omega)) (by repeat' (first | with_reducible exact ha | with_reducible refine CellsAt.setFar ?_ ?_ _ | with_reducible refine CellsAt.alloc ?_ _ | with_reducible refine CellsAt.drew ?_ | with_reducible refine CellsAt.drewN ?_ _ | assumption | (simp; omega) | omega)) hml).mono ?_
        rintro e w2 ⟨rfl, hc2⟩
        have hb2 : Below w.heap.size w w2 := bchain (by repeat' (first | exact hb1 | refine Below.drew ?_ | refine below_drewN ?_ _ | refine Below.alloc ?_ (by have := hb1.size; first | (simp; done) | (simp; omega) | omega) _ | refine Below.setCell ?_ (by first | (simp; done) | (simp; omega) | omega) _)) hc2
        have hst2 : Below w1.heap.size w1 w2 := bchain (by repeat' (first | exact Below.refl _ _ | refine Below.drew ?_ | refine below_drewN ?_ _ | refine Below.alloc ?_ (by first | (simp; done) | (simp; omega) | omega) _ | refine Below.setCell ?_ (by first | (simp; done) | (simp; omega) | omega) _)) hc2
        replace P_0 := cell_later hst2 P_0
        replace P_1 := cell_later hst2 P_1
        replace P_l := Nat.lt_of_lt_of_le P_l hst2.size
        replace hl := hl.later hst2
        replace ha := ha.later hst2
        replace hp := hp.later hst2
        clear hst2
        clear hc2 hb1
        rw [H_hfit.out]
        go_wp2_with fail
        refine (rpicks_any l a ps la aa pa lc ac pc _ (by repeat' (first | with_reducible exact hl | with_reducible refine CellsAt.setFar ?_ ?_ _ | with_reducible refine CellsAt.alloc ?_ _ | with_reducible refine CellsAt.drew ?_ | with_reducible refine CellsAt.drewN ?_ _ | assumption | (simp; omega) | omega)) (by repeat' (first | with_reducible exact ha | with_reducible refine CellsAt.setFar ?_ ?_ _ | with_reducible refine CellsAt.alloc ?_ _ | with_reducible refine CellsAt.drew ?_ | with_reducible refine CellsAt.drewN ?_ _ | assumption | (simp; omega) | omega)) (by repeat' (first | with_reducible exact hp | with_reducible refine CellsAt.setFar ?_ ?_ _ | with_reducible refine CellsAt.alloc ?_ _ | with_reducible refine CellsAt.drew ?_ | with_reducible refine CellsAt.drewN ?_ _ | assumption | (simp; omega) | omega)) hml).mono ?_
        rintro e w3 ⟨rfl, hc3⟩
        have hb3 : Below w.heap.size w w3 := bchain (by repeat' (first | exact hb2 | refine Below.drew ?_ | refine below_drewN ?_ _ | refine Below.alloc ?_ (by have := hb2.size; first | (simp; done) | (simp; omega) | omega) _ | refine Below.setCell ?_ (by first | (simp; done) | (simp; omega) | omega) _)) hc3
        have hst3 : Below w2.heap.size w2 w3 := bchain (by repeat' (first | exact Below.refl _ _ | refine Below.drew ?_ | refine below_drewN ?_ _ | refine Below.alloc ?_ (by first | (simp; done) | (simp; omega) | omega) _ | refine Below.setCell ?_ (by first | (simp; done) | (simp; omega) | omega) _)) hc3
        replace P_0 := cell_later hst3 P_0
        replace P_1 := cell_later hst3 P_1
        replace P_l := Nat.lt_of_lt_of_le P_l hst3.size
        replace hl := hl.later hst3
        replace ha := ha.later hst3
        replace hp := hp.later hst3
        clear hst3
        clear hc3 hb2
        rw [H_h8.out]
        go_wp2_with fail
        go_wp2_with fail
        go_ret
        exact ⟨rfl, by repeat' (first | exact hb3 | refine Below.drew ?_ | refine below_drewN ?_ _ | refine Below.alloc ?_ (by have := hb3.size; first | (simp; done) | (simp; omega) | omega) _ | refine Below.setCell ?_ (by first | (simp; done) | (simp; omega) | omega) _)⟩
      obtain ⟨k, rfl⟩ : ∃ k : Nat, i = k := ⟨i.toNat, by omega⟩
      have hk : k ≤ ps.length := by omega
      by_cases hps : 0 < ps.length
      · obtain ⟨b, o, hpa, -⟩ := hp.intG hps
        by_cases hkp : pc = k
        · subst hkp
          exact parts_B l a la aa lc ac pa ps pc w hl ha hp hpc hml h8 hk b o hpa hps
        · exact parts_A l a la aa lc ac pa pc ps k w hl ha hp hpc hml h8 hk b o hpa hps hkp
      · have hk0 : k = 0 := by omega
        by_cases hpc0 : pc = 0
        · obtain rfl : pc = k := by omega
          cases pa with
          | none => exact parts_D l a la aa lc ac none ps pc w hl ha hp hpc hml h8 hk rfl (by omega)
          | some ad => exact parts_F l a la aa lc ac (some ad) ps pc w hl ha hp hpc hml h8 hk ad rfl (by omega)
        · cases pa with
          | none => exact parts_C l a la aa lc ac none pc ps k w hl ha hp hpc hml h8 hk rfl (by omega) hpc0
          | some ad => exact parts_E l a la aa lc ac (some ad) pc ps k w hl ha hp hpc hml h8 hk ad rfl (by omega) hpc0
    · skip
      have H_hfit := hid hfit
      have H_h8 := hid h8
      have H_h1 := hid h1
      clear hfit h8 h1
      go_enter Try.func7, Try.ntmps7
      have hb0 := Below.refl w.heap.size w
      go_wp2_with fail
      refine (alive_any _).mono ?_
      rintro e w1 ⟨rfl, hc1⟩
      have hb1 : Below w.heap.size w w1 := bchain (by repeat' (first | exact hb0 | refine Below.drew ?_ | refine below_drewN ?_ _ | refine Below.alloc ?_ (by have := hb0.size; first | (simp; done) | (simp; omega) | omega) _ | refine Below.setCell ?_ (by first | (simp; done) | (simp; omega) | omega) _)) hc1
      have hst1 : Below w.heap.size w w1 := bchain (by repeat' (first | exact Below.refl _ _ | refine Below.drew ?_ | refine below_drewN ?_ _ | refine Below.alloc ?_ (by first | (simp; done) | (simp; omega) | omega) _ | refine Below.setCell ?_ (by first | (simp; done) | (simp; omega) | omega) _)) hc1
      have P_0 : w1.cell? ⟨w.heap.size, 0, none⟩ = some (.slice la l.length lc) := (hc1.cell (p := ⟨w.heap.size, 0, none⟩) (by first | (simp; done) | (simp; omega))).trans (by first | (simp; done) | go_simp)
      have P_1 : w1.cell? ⟨w.heap.size, 1, none⟩ = some (.slice aa a.length ac) := (hc1.cell (p := ⟨w.heap.size, 1, none⟩) (by first | (simp; done) | (simp; omega))).trans (by first | (simp; done) | go_simp)
      have P_l : w.heap.size < w1.heap.size := Nat.lt_of_lt_of_le (by first | (simp; done) | (simp; omega)) hc1.size
      replace hl := hl.later hst1
      replace ha := ha.later hst1
      replace hp := hp.later hst1
      clear hst1
      clear hc1 hb0
      go_wp2_with fail
      refine (fit_any l a la aa lc ac _ (by repeat' (first | with_reducible exact hl | with_reducible refine CellsAt.setFar ?_ ?_ _ | with_reducible refine CellsAt.alloc ?_ _ | with_reducible refine CellsAt.drew ?_ | with_reducible refine CellsAt.drewN ?_ _ | assumption | (simp; omega) | omega)) (by repeat' (first | with_reducible exact ha | with_reducible refine CellsAt.setFar ?_ ?_ _ | with_reducible refine CellsAt.alloc ?_ _ | with_reducible refine CellsAt.drew ?_ | with_reducible refine CellsAt.drewN ?_ _ | assumption | (simp; omega) | omega)) hml).mono ?_
      rintro e w2 ⟨rfl, hc2⟩
      have hb2 : Below w.heap.size w w2 := bchain (by repeat' (first | exact hb1 | refine Below.drew ?_ | refine below_drewN ?_ _ | refine Below.alloc ?_ (by have := hb1.size; first | (simp; done) | (simp; omega) | omega) _ | refine Below.setCell ?_ (by first | (simp; done) | (simp; omega) | omega) _)) hc2
      have hst2 : Below w1.heap.size w1 w2 := bchain (by repeat' (first | exact Below.refl _ _ | refine Below.drew ?_ | refine below_drewN ?_ _ | refine Below.alloc ?_ (by first | (simp; done) | (simp; omega) | omega) _ | refine Below.setCell ?_ (by first | (simp; done) | (simp; omega) | omega) _)) hc2
      replace P_0 := cell_later hst2 P_0
      replace P_1 := cell_later hst2 P_1
      replace P_l := Nat.lt_of_lt_of_le P_l hst2.size
      replace hl := hl.later hst2
      replace ha := ha.later hst2
      replace hp := hp.later hst2
      clear hst2
      clear hc2 hb1
      rw [H_hfit.out]
      go_wp2_with fail
      refine (rpicks_any l a ps la aa pa lc ac pc _ (by repeat' (first | with_reducible exact hl | with_reducible refine CellsAt.setFar ?_ ?_ _ | with_reducible refine CellsAt.alloc ?_ _ | with_reducible refine CellsAt.drew ?_ | with_reducible refine CellsAt.drewN ?_ _ | assumption | (simp; omega) | omega)) (by repeat' (first | with_reducible exact ha | with_reducible refine CellsAt.setFar ?_ ?_ _ | with_reducible refine CellsAt.alloc ?_ _ | with_reducible refine CellsAt.drew ?_ | with_reducible refine CellsAt.drewN ?_ _ | assumption | (simp; omega) | omega)) (by repeat' (first | with_reducible exact hp | with_reducible refine CellsAt.setFar ?_ ?_ _ | with_reducible refine CellsAt.alloc ?_ _ | with_reducible refine CellsAt.drew ?_ | with_reducible refine CellsAt.drewN ?_ _ | assumption | (simp; omega) | omega)) hml).mono ?_
      rintro e w3 ⟨rfl, hc3⟩
      have hb3 : Below w.heap.size w w3 := bchain (by repeat' (first | exact hb2 | refine Below.drew ?_ | refine below_drewN ?_ _ | refine Below.alloc ?_ (by have := hb2.size; first | (simp; done) | (simp; omega) | omega) _ | refine Below.setCell ?_ (by first | (simp; done) | (simp; omega) | omega) _)) hc3
      have hst3 : Below w2.heap.size w2 w3 := bchain (by repeat' (first | exact Below.refl _ _ | refine Below.drew ?_ | refine below_drewN ?_ _ | refine Below.alloc ?_ (by first | (simp; done) | (simp; omega) | omega) _ | refine Below.setCell ?_ (by first | (simp; done) | (simp; omega) | omega) _)) hc3
      replace P_0 := cell_later hst3 P_0
      replace P_1 := cell_later hst3 P_1
      replace P_l := Nat.lt_of_lt_of_le P_l hst3.size
      replace hl := hl.later hst3
      replace ha := ha.later hst3
      replace hp := hp.later hst3
      clear hst3
      clear hc3 hb2
      rw [H_h8.out]
      go_wp2_with fail
      go_wp2_with fail
      go_ret
      exact ⟨rfl, by repeat' (first | exact hb3 | refine Below.drew ?_ | refine below_drewN ?_ _ | refine Below.alloc ?_ (by have := hb3.size; first | (simp; done) | (simp; omega) | omega) _ | refine Below.setCell ?_ (by first | (simp; done) | (simp; omega) | omega) _)⟩
    · skip
      have H_hfit := hid hfit
      have H_h8 := hid h8
      have H_h1 := hid h1
      clear hfit h8 h1
      go_enter Try.func7, Try.ntmps7
      have hb0 := Below.refl w.heap.size w
      go_wp2_with fail
      refine (alive_any _).mono ?_
      rintro e w1 ⟨rfl, hc1⟩
      have hb1 : Below w.heap.size w w1 := bchain (by repeat' (first | exact hb0 | refine Below.drew ?_ | refine below_drewN ?_ _ | refine Below.alloc ?_ (by have := hb0.size; first | (simp; done) | (simp; omega) | omega) _ | refine Below.setCell ?_ (by first | (simp; done) | (simp; omega) | omega) _)) hc1
      have hst1 : Below w.heap.size w w1 := bchain (by repeat' (first | exact Below.refl _ _ | refine Below.drew ?_ | refine below_drewN ?_ _ | refine Below.alloc ?_ (by first | (simp; done) | (simp; omega) | omega) _ | refine Below.setCell ?_ (by first | (simp; done) | (simp; omega) | omega) _)) hc1
      have P_0 : w1.cell? ⟨w.heap.size, 0, none⟩ = some (.slice la l.length lc) := (hc1.cell (p := ⟨w.heap.size, 0, none⟩) (by first | (simp; done) | (simp; omega))).trans (by first | (simp; done) | go_simp)
      have P_1 : w1.cell? ⟨w.heap.size, 1, none⟩ = some (.slice aa a.length ac) := (hc1.cell (p := ⟨w.heap.size, 1, none⟩) (by first | (simp; done) | (simp; omega))).trans (by first | (simp; done) | go_simp)
      have P_l : w.heap.size < w1.heap.size := Nat.lt_of_lt_of_le (by first | (simp; done) | (simp; omega)) hc1.size
      replace hl := hl.later hst1
      replace ha := ha.later hst1
      replace hp := hp.later hst1
      clear hst1
      clear hc1 hb0
      go_wp2_with fail
      refine (fit_any l a la aa lc ac _ (by repeat' (first | with_reducible exact hl | with_reducible refine CellsAt.setFar ?_ ?_ _ | with_reducible refine CellsAt.alloc ?_ _ | with_reducible refine CellsAt.drew ?_ | with_reducible refine CellsAt.drewN ?_ _ | assumption | (simp; omega) | omega)) (by repeat' (first | with_reducible exact ha | with_reducible refine CellsAt.setFar ?_ ?_ _ | with_reducible refine CellsAt.alloc ?_ _ | with_reducible refine CellsAt.drew ?_ | with_reducible refine CellsAt.drewN ?_ _ | assumption | (simp; omega) | omega)) hml).mono ?_
      rintro e w2 ⟨rfl, hc2⟩
      have hb2 : Below w.heap.size w w2 := bchain (by repeat' (first | exact hb1 | refine Below.drew ?_ | refine below_drewN ?_ _ | refine Below.alloc ?_ (by have := hb1.size; first | (simp; done) | (simp; omega) | omega) _ | refine Below.setCell ?_ (by first | (simp; done) | (simp; omega) | omega) _)) hc2
      have hst2 : Below w1.heap.size w1 w2 := bchain (by repeat' (first | exact Below.refl _ _ | refine Below.drew ?_ | refine below_drewN ?_ _ | refine Below.alloc ?_ (by first | (simp; done) | (simp; omega) | omega) _ | refine Below.setCell ?_ (by first | (simp; done) | (simp; omega) | omega) _)) hc2
      replace P_0 := cell_later hst2 P_0
      replace P_1 := cell_later hst2 P_1
      replace P_l := Nat.lt_of_lt_of_le P_l hst2.size
      replace hl := hl.later hst2
      replace ha := ha.later hst2
      replace hp := hp.later hst2
      clear hst2
      clear hc2 hb1
      rw [H_hfit.out]
      go_wp2_with fail
      refine (rpicks_any l a ps la aa pa lc ac pc _ (by repeat' (first | with_reducible exact hl | with_reducible refine CellsAt.setFar ?_ ?_ _ | with_reducible refine CellsAt.alloc ?_ _ | with_reducible refine CellsAt.drew ?_ | with_reducible refine CellsAt.drewN ?_ _ | assumption | (simp; omega) | omega)) (by repeat' (first | with_reducible exact ha | with_reducible refine CellsAt.setFar ?_ ?_ _ | with_reducible refine CellsAt.alloc ?_ _ | with_reducible refine CellsAt.drew ?_ | with_reducible refine CellsAt.drewN ?_ _ | assumption | (simp; omega) | omega)) (by repeat' (first | with_reducible exact hp | with_reducible refine CellsAt.setFar ?_ ?_ _ | with_reducible refine CellsAt.alloc ?_ _ | with_reducible refine CellsAt.drew ?_ | with_reducible refine CellsAt.drewN ?_ _ | assumption | (simp; omega) | omega)) hml).mono ?_
      rintro e w3 ⟨rfl, hc3⟩
      have hb3 : Below w.heap.size w w3 := bchain (by repeat' (first | exact hb2 | refine Below.drew ?_ | refine below_drewN ?_ _ | refine Below.alloc ?_ (by have := hb2.size; first | (simp; done) | (simp; omega) | omega) _ | refine Below.setCell ?_ (by first | (simp; done) | (simp; omega) | omega) _)) hc3
      have hst3 : Below w2.heap.size w2 w3 := bchain (by repeat' (first | exact Below.refl _ _ | refine Below.drew ?_ | refine below_drewN ?_ _ | refine Below.alloc ?_ (by first | (simp; done) | (simp; omega) | omega) _ | refine Below.setCell ?_ (by first | (simp; done) | (simp; omega) | omega) _)) hc3
      replace P_0 := cell_later hst3 P_0
      replace P_1 := cell_later hst3 P_1
      replace P_l := Nat.lt_of_lt_of_le P_l hst3.size
      replace hl := hl.later hst3
      replace ha := ha.later hst3
      replace hp := hp.later hst3
      clear hst3
      clear hc3 hb2
      rw [H_h8.out]
      go_wp2_with fail
      go_wp2_with fail
      go_ret
      exact ⟨rfl, by repeat' (first | exact hb3 | refine Below.drew ?_ | refine below_drewN ?_ _ | refine Below.alloc ?_ (by have := hb3.size; first | (simp; done) | (simp; omega) | omega) _ | refine Below.setCell ?_ (by first | (simp; done) | (simp; omega) | omega) _)⟩
    · skip
      have H_hfit := hid hfit
      have H_h8 := hid h8
      have H_h1 := hid h1
      clear hfit h8 h1
      go_enter Try.func7, Try.ntmps7
      have hb0 := Below.refl w.heap.size w
      go_wp2_with fail
      refine (alive_any _).mono ?_
      rintro e w1 ⟨rfl, hc1⟩
      have hb1 : Below w.heap.size w w1 := bchain (by repeat' (first | exact hb0 | refine Below.drew ?_ | refine below_drewN ?_ _ | refine Below.alloc ?_ (by have := hb0.size; first | (simp; done) | (simp; omega) | omega) _ | refine Below.setCell ?_ (by first | (simp; done) | (simp; omega) | omega) _)) hc1
      have hst1 : Below w.heap.size w w1 := bchain (by repeat' (first | exact Below.refl _ _ | refine Below.drew ?_ | refine below_drewN ?_ _ | refine Below.alloc ?_ (by first | (simp; done) | (simp; omega) | omega) _ | refine Below.setCell ?_ (by first | (simp; done) | (simp; omega) | omega) _)) hc1
      have P_0 : w1.cell? ⟨w.heap.size, 0, none⟩ = some (.slice la l.length lc) := (hc1.cell (p := ⟨w.heap.size, 0, none⟩) (by first | (simp; done) | (simp; omega))).trans (by first | (simp; done) | go_simp)
      have P_1 : w1.cell? ⟨w.heap.size, 1, none⟩ = some (.slice aa a.length ac) := (hc1.cell (p := ⟨w.heap.size, 1, none⟩) (by first | (simp; done) | (simp; omega))).trans (by first | (simp; done) | go_simp)
      have P_l : w.heap.size < w1.heap.size := Nat.lt_of_lt_of_le (by first | (simp; done) | (simp; omega)) hc1.size
      replace hl := hl.later hst1
      replace ha := ha.later hst1
      replace hp := hp.later hst1
      clear hst1
      clear hc1 hb0
      go_wp2_with fail
      refine (fit_any l a la aa lc ac _ (by repeat' (first | with_reducible exact hl | with_reducible refine CellsAt.setFar ?_ ?_ _ | with_reducible refine CellsAt.alloc ?_ _ | with_reducible refine CellsAt.drew ?_ | with_reducible refine CellsAt.drewN ?_ _ | assumption | (simp; omega) | omega)) (by repeat' (first | with_reducible exact ha | with_reducible refine CellsAt.setFar ?_ ?_ _ | with_reducible refine CellsAt.alloc ?_ _ | with_reducible refine CellsAt.drew ?_ | with_reducible refine CellsAt.drewN ?_ _ | assumption | (simp; omega) | omega)) hml).mono ?_
      rintro e w2 ⟨rfl, hc2⟩
      have hb2 : Below w.heap.size w w2 := bchain (by repeat' (first | exact hb1 | refine Below.drew ?_ | refine below_drewN ?_ _ | refine Below.alloc ?_ (by have := hb1.size; first | (simp; done) | (simp; omega) | omega) _ | refine Below.setCell ?_ (by first | (simp; done) | (simp; omega) | omega) _)) hc2
      have hst2 : Below w1.heap.size w1 w2 := bchain (by repeat' (first | exact Below.refl _ _ | refine Below.drew ?_ | refine below_drewN ?_ _ | refine Below.alloc ?_ (by first | (simp; done) | (simp; omega) | omega) _ | refine Below.setCell ?_ (by first | (simp; done) | (simp; omega) | omega) _)) hc2
      replace P_0 := cell_later hst2 P_0
      replace P_1 := cell_later hst2 P_1
      replace P_l := Nat.lt_of_lt_of_le P_l hst2.size
      replace hl := hl.later hst2
      replace ha := ha.later hst2
      replace hp := hp.later hst2
      clear hst2
      clear hc2 hb1
      rw [H_hfit.out]
      go_wp2_with fail
      refine (rpicks_any l a ps la aa pa lc ac pc _ (by repeat' (first | with_reducible exact hl | with_reducible refine CellsAt.setFar ?_ ?_ _ | with_reducible refine CellsAt.alloc ?_ _ | with_reducible refine CellsAt.drew ?_ | with_reducible refine CellsAt.drewN ?_ _ | assumption | (simp; omega) | omega)) (by repeat' (first | with_reducible exact ha | with_reducible refine CellsAt.setFar ?_ ?_ _ | with_reducible refine CellsAt.alloc ?_ _ | with_reducible refine CellsAt.drew ?_ | with_reducible refine CellsAt.drewN ?_ _ | assumption | (simp; omega) | omega)) (by repeat' (first | with_reducible exact hp | with_reducible refine CellsAt.setFar ?_ ?_ _ | with_reducible refine CellsAt.alloc ?_ _ | with_reducible refine CellsAt.drew ?_ | with_reducible refine CellsAt.drewN ?_ _ | assumption | (simp; omega) | omega)) hml).mono ?_
      rintro e w3 ⟨rfl, hc3⟩
      have hb3 : Below w.heap.size w w3 := bchain (by repeat' (first | exact hb2 | refine Below.drew ?_ | refine below_drewN ?_ _ | refine Below.alloc ?_ (by have := hb2.size; first | (simp; done) | (simp; omega) | omega) _ | refine Below.setCell ?_ (by first | (simp; done) | (simp; omega) | omega) _)) hc3
      have hst3 : Below w2.heap.size w2 w3 := bchain (by repeat' (first | exact Below.refl _ _ | refine Below.drew ?_ | refine below_drewN ?_ _ | refine Below.alloc ?_ (by first | (simp; done) | (simp; omega) | omega) _ | refine Below.setCell ?_ (by first | (simp; done) | (simp; omega) | omega) _)) hc3
      replace P_0 := cell_later hst3 P_0
      replace P_1 := cell_later hst3 P_1
      replace P_l := Nat.lt_of_lt_of_le P_l hst3.size
      replace hl := hl.later hst3
      replace ha := ha.later hst3
      replace hp := hp.later hst3
      clear hst3
      clear hc3 hb2
      rw [H_h8.out]
      go_wp2_with fail
      go_wp2_with fail
      go_ret
      exact ⟨rfl, by repeat' (first | exact hb3 | refine Below.drew ?_ | refine below_drewN ?_ _ | refine Below.alloc ?_ (by have := hb3.size; first | (simp; done) | (simp; omega) | omega) _ | refine Below.setCell ?_ (by first | (simp; done) | (simp; omega) | omega) _)⟩
  · have hfit : decide (tErr l a = 0) = false := by simp [h1]
    have H_hfit := hid hfit
    have H_h1 := hid h1
    clear hfit h1
    go_enter Try.func7, Try.ntmps7
    have hb0 := Below.refl w.heap.size w
    go_wp2_with fail
    refine (alive_any _).mono ?_
    rintro e w1 ⟨rfl, hc1⟩
    have hb1 : Below w.heap.size w w1 := bchain (by repeat' (first | exact hb0 | refine Below.drew ?_ | refine below_drewN ?_ _ | refine Below.alloc ?_ (by have := hb0.size; first | (simp; done) | (simp; omega) | omega) _ | refine Below.setCell ?_ (by first | (simp; done) | (simp; omega) | omega) _)) hc1
    have hst1 : Below w.heap.size w w1 := bchain (by repeat' (first | exact Below.refl _ _ | refine Below.drew ?_ | refine below_drewN ?_ _ | refine Below.alloc ?_ (by first | (simp; done) | (simp; omega) | omega) _ | refine Below.setCell ?_ (by first | (simp; done) | (simp; omega) | omega) _)) hc1
    have P_0 : w1.cell? ⟨w.heap.size, 0, none⟩ = some (.slice la l.length lc) := (hc1.cell (p := ⟨w.heap.size, 0, none⟩) (by first | (simp; done) | (simp; omega))).trans (by first | (simp; done) | go_simp)
    have P_1 : w1.cell? ⟨w.heap.size, 1, none⟩ = some (.slice aa a.length ac) := (hc1.cell (p := ⟨w.heap.size, 1, none⟩) (by first | (simp; done) | (simp; omega))).trans (by first | (simp; done) | go_simp)
    have P_l : w.heap.size < w1.heap.size := Nat.lt_of_lt_of_le (by first | (simp; done) | (simp; omega)) hc1.size
    replace hl := hl.later hst1
    replace ha := ha.later hst1
    replace hp := hp.later hst1
    clear hst1
    clear hc1 hb0
    go_wp2_with fail
    refine (fit_any l a la aa lc ac _ (by repeat' (first | with_reducible exact hl | with_reducible refine CellsAt.setFar ?_ ?_ _ | with_reducible refine CellsAt.alloc ?_ _ | with_reducible refine CellsAt.drew ?_ | with_reducible refine CellsAt.drewN ?_ _ | assumption | (simp; omega) | omega)) (by repeat' (first | with_reducible exact ha | with_reducible refine CellsAt.setFar ?_ ?_ _ | with_reducible refine CellsAt.alloc ?_ _ | with_reducible refine CellsAt.drew ?_ | with_reducible refine CellsAt.drewN ?_ _ | assumption | (simp; omega) | omega)) hml).mono ?_
    rintro e w2 ⟨rfl, hc2⟩
    have hb2 : Below w.heap.size w w2 := bchain (by repeat' (first | exact hb1 | refine Below.drew ?_ | refine below_drewN ?_ _ | refine Below.alloc ?_ (by have := hb1.size; first | (simp; done) | (simp; omega) | omega) _ | refine Below.setCell ?_ (by first | (simp; done) | (simp; omega) | omega) _)) hc2
    have hst2 : Below w1.heap.size w1 w2 := bchain (by repeat' (first | exact Below.refl _ _ | refine Below.drew ?_ | refine below_drewN ?_ _ | refine Below.alloc ?_ (by first | (simp; done) | (simp; omega) | omega) _ | refine Below.setCell ?_ (by first | (simp; done) | (simp; omega) | omega) _)) hc2
    replace P_0 := cell_later hst2 P_0
    replace P_1 := cell_later hst2 P_1
    replace P_l := Nat.lt_of_lt_of_le P_l hst2.size
    replace hl := hl.later hst2
    replace ha := ha.later hst2
    replace hp := hp.later hst2
    clear hst2
    clear hc2 hb1
    rw [H_hfit.out]
    skip
    go_wp2_with fail
    go_wp2_with fail
    go_ret
    exact ⟨rfl, by repeat' (first | exact hb2 | refine Below.drew ?_ | refine below_drewN ?_ _ | refine Below.alloc ?_ (by have := hb2.size; first | (simp; done) | (simp; omega) | omega) _ | refine Below.setCell ?_ (by first | (simp; done) | (simp; omega) | omega) _)⟩

end Go.Proofs.Ytoelndaeemlefaa
