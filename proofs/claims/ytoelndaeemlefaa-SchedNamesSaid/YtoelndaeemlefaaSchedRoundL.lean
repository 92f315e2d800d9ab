/- The law SchedRounds. -/
import Derived.Test.YtoelndaeemlefaaSchedLaws
import Derived.Test.YtoelndaeemlefaaSchedFairR
namespace Go.Proofs.Ytoelndaeemlefaa
set_option linter.unusedSimpArgs false
set_option linter.unusedVariables false
set_option linter.unnecessarySimpa false
open Go.RowKit

theorem tkRounds_len (l a : List Int) (n : Int) : (tkRounds l a n).1.length ≤ 300 := by
  unfold tkRounds
  (repeat' split) <;> try simp
  have := rr_len a n.toNat l 0
  omega

set_option maxRecDepth 100000 in
set_option maxHeartbeats 40000000 in
theorem rounds_walk (l a : List Int) (la aa : Option Addr) (lc ac : Nat) (pa : Option Addr) (pc : Nat) (ps : List Int) (n win : Int) (w : World) (h0 : TkIn w l a la aa lc ac) (h1 : RowIn w pa pc ps) (_ : (Lit.int .i64 n).wf = true) (_ : (Lit.int .i64 win).wf = true) :
    Calls Try.prog 4 #[.agg #[.slice la l.length lc, .slice aa a.length ac], .slice pa ps.length pc, .int .i64 n, .int .i64 win] w fun e w' =>
      e = .returned (.bool true) ∧ Below w.heap.size w w' := by
  have hl := h0.left.cells
  have ha := h0.aft.cells
  have hp := h1.cells
  have hpc := h1.cap
  clear h0 h1
  by_cases h1 : 100 < l.length ∨ 100 < a.length
  · have he : decide (100 < l.length ∨ 100 < a.length) = true := by simpa using h1
    have H_he := hid he
    clear he
    clear h1
    go_enter Try.func4, Try.ntmps4
    have hb0 := Below.refl w.heap.size w
    go_wp2_with fail
    refine (great_any l a la aa lc ac _).mono ?_
    rintro e w1 ⟨rfl, hc1⟩
    have hb1 : Below w.heap.size w w1 := bchain (by repeat' (first | with_reducible exact hb0 | with_reducible refine Below.drew ?_ | with_reducible refine below_drewN ?_ _ | with_reducible refine Below.alloc ?_ (by have := hb0.size; first | (simp; done) | (simp; omega) | omega) _ | with_reducible refine Below.setCell ?_ (by first | (simp; done) | (simp; omega) | omega) _)) hc1
    clear hc1 hb0
    rw [H_he.out]
    go_wp2_with fail
    go_wp2_with fail
    go_ret
    exact ⟨rfl, by repeat' (first | with_reducible exact hb1 | with_reducible refine Below.drew ?_ | with_reducible refine below_drewN ?_ _ | with_reducible refine Below.alloc ?_ (by have := hb1.size; first | (simp; done) | (simp; omega) | omega) _ | with_reducible refine Below.setCell ?_ (by first | (simp; done) | (simp; omega) | omega) _)⟩
  have he : decide (100 < l.length ∨ 100 < a.length) = false := by simpa using h1
  by_cases h2 : 400 < ps.length
  · have h2' : (400 : Int) < (ps.length : Int) := by omega
    have H_he := hid he
    clear he
    clear h1
    go_enter Try.func4, Try.ntmps4
    have hb0 := Below.refl w.heap.size w
    go_wp2_with fail
    refine (great_any l a la aa lc ac _).mono ?_
    rintro e w1 ⟨rfl, hc1⟩
    have hb1 : Below w.heap.size w w1 := bchain (by repeat' (first | with_reducible exact hb0 | with_reducible refine Below.drew ?_ | with_reducible refine below_drewN ?_ _ | with_reducible refine Below.alloc ?_ (by have := hb0.size; first | (simp; done) | (simp; omega) | omega) _ | with_reducible refine Below.setCell ?_ (by first | (simp; done) | (simp; omega) | omega) _)) hc1
    clear hc1 hb0
    rw [H_he.out]
    go_wp2_with fail
    go_wp2_with fail
    go_ret
    exact ⟨rfl, by repeat' (first | with_reducible exact hb1 | with_reducible refine Below.drew ?_ | with_reducible refine below_drewN ?_ _ | with_reducible refine Below.alloc ?_ (by have := hb1.size; first | (simp; done) | (simp; omega) | omega) _ | with_reducible refine Below.setCell ?_ (by first | (simp; done) | (simp; omega) | omega) _)⟩
  have h2' : ¬ (400 : Int) < (ps.length : Int) := by omega
  have y9 : l.length ≤ maxLen := by unfold maxLen; omega
  have y8 : (tkRounds l a n).1.length ≤ maxLen := by have := tkRounds_len l a n; unfold maxLen; omega
  have H_he := hid he
  have H_y8 := hid y8
  have H_y9 := hid y9
  have H_hpc := hid hpc
  clear he y8 y9 hpc
  clear h1
  go_enter Try.func4, Try.ntmps4
  have hb0 := Below.refl w.heap.size w
  go_wp2_with fail
  refine (great_any l a la aa lc ac _).mono ?_
  rintro e w1 ⟨rfl, hc1⟩
  have hb1 : Below w.heap.size w w1 := bchain (by repeat' (first | with_reducible exact hb0 | with_reducible refine Below.drew ?_ | with_reducible refine below_drewN ?_ _ | with_reducible refine Below.alloc ?_ (by have := hb0.size; first | (simp; done) | (simp; omega) | omega) _ | with_reducible refine Below.setCell ?_ (by first | (simp; done) | (simp; omega) | omega) _)) hc1
  have hst1 : Below w.heap.size w w1 := bchain (by repeat' (first | with_reducible exact Below.refl _ _ | with_reducible refine Below.drew ?_ | with_reducible refine below_drewN ?_ _ | with_reducible refine Below.alloc ?_ (by first | (simp; done) | (simp; omega) | omega) _ | with_reducible refine Below.setCell ?_ (by first | (simp; done) | (simp; omega) | omega) _)) hc1
  have P_0 : w1.cell? ⟨w.heap.size, 0, none⟩ = some (.slice la l.length lc) := (hc1.cell (p := ⟨w.heap.size, 0, none⟩) (by first | (simp; done) | (simp; omega))).trans (by first | (simp; done) | go_simp)
  have P_1 : w1.cell? ⟨w.heap.size, 1, none⟩ = some (.slice aa a.length ac) := (hc1.cell (p := ⟨w.heap.size, 1, none⟩) (by first | (simp; done) | (simp; omega))).trans (by first | (simp; done) | go_simp)
  have P_l : w.heap.size < w1.heap.size := Nat.lt_of_lt_of_le (by first | (simp; done) | (simp; omega)) hc1.size
  replace hl := hl.later hst1
  replace ha := ha.later hst1
  replace hp := hp.later hst1
  clear hst1
  clear hc1 hb0
  rw [H_he.out]
  go_wp2_with fail
  refine (rounds_any l a n la aa lc ac _ (by repeat' (first | with_reducible exact hl | with_reducible refine CellsAt.setFar ?_ ?_ _ | with_reducible refine CellsAt.alloc ?_ _ | with_reducible refine CellsAt.drew ?_ | with_reducible refine CellsAt.drewN ?_ _ | assumption | (simp; omega) | omega)) (by repeat' (first | with_reducible exact ha | with_reducible refine CellsAt.setFar ?_ ?_ _ | with_reducible refine CellsAt.alloc ?_ _ | with_reducible refine CellsAt.drew ?_ | with_reducible refine CellsAt.drewN ?_ _ | assumption | (simp; omega) | omega)) H_y9.out).mono ?_
  rintro e w2 ⟨⟨r1, e1, rfl, k3⟩, hc2⟩
  have hb2 : Below w.heap.size w w2 := bchain (by repeat' (first | with_reducible exact hb1 | with_reducible refine Below.drew ?_ | with_reducible refine below_drewN ?_ _ | with_reducible refine Below.alloc ?_ (by have := hb1.size; first | (simp; done) | (simp; omega) | omega) _ | with_reducible refine Below.setCell ?_ (by first | (simp; done) | (simp; omega) | omega) _)) hc2
  have hst2 : Below w1.heap.size w1 w2 := bchain (by repeat' (first | with_reducible exact Below.refl _ _ | with_reducible refine Below.drew ?_ | with_reducible refine below_drewN ?_ _ | with_reducible refine Below.alloc ?_ (by first | (simp; done) | (simp; omega) | omega) _ | with_reducible refine Below.setCell ?_ (by first | (simp; done) | (simp; omega) | omega) _)) hc2
  replace P_0 := cell_later hst2 P_0
  replace P_1 := cell_later hst2 P_1
  replace P_l := Nat.lt_of_lt_of_le P_l hst2.size
  replace hl := hl.later hst2
  replace ha := ha.later hst2
  replace hp := hp.later hst2
  clear hst2
  clear hc2 hb1
  go_wp2_with fail
  refine (rrounds_any l a n la aa lc ac _ (by repeat' (first | with_reducible exact hl | with_reducible refine CellsAt.setFar ?_ ?_ _ | with_reducible refine CellsAt.alloc ?_ _ | with_reducible refine CellsAt.drew ?_ | with_reducible refine CellsAt.drewN ?_ _ | assumption | (simp; omega) | omega)) (by repeat' (first | with_reducible exact ha | with_reducible refine CellsAt.setFar ?_ ?_ _ | with_reducible refine CellsAt.alloc ?_ _ | with_reducible refine CellsAt.drew ?_ | with_reducible refine CellsAt.drewN ?_ _ | assumption | (simp; omega) | omega)) H_y9.out).mono ?_
  rintro e w3 ⟨⟨r2, e2, rfl, k4⟩, hc3⟩
  have hb3 : Below w.heap.size w w3 := bchain (by repeat' (first | with_reducible exact hb2 | with_reducible refine Below.drew ?_ | with_reducible refine below_drewN ?_ _ | with_reducible refine Below.alloc ?_ (by have := hb2.size; first | (simp; done) | (simp; omega) | omega) _ | with_reducible refine Below.setCell ?_ (by first | (simp; done) | (simp; omega) | omega) _)) hc3
  have hst3 : Below w2.heap.size w2 w3 := bchain (by repeat' (first | with_reducible exact Below.refl _ _ | with_reducible refine Below.drew ?_ | with_reducible refine below_drewN ?_ _ | with_reducible refine Below.alloc ?_ (by first | (simp; done) | (simp; omega) | omega) _ | with_reducible refine Below.setCell ?_ (by first | (simp; done) | (simp; omega) | omega) _)) hc3
  replace P_0 := cell_later hst3 P_0
  replace P_1 := cell_later hst3 P_1
  replace P_l := Nat.lt_of_lt_of_le P_l hst3.size
  replace hl := hl.later hst3
  replace ha := ha.later hst3
  replace hp := hp.later hst3
  replace k3 := k3.later hst3
  clear hst3
  clear hc3 hb2
  go_wp2_with fail
  refine (fair_any l a ps win la aa pa lc ac pc _ (by repeat' (first | with_reducible exact hl | with_reducible refine CellsAt.setFar ?_ ?_ _ | with_reducible refine CellsAt.alloc ?_ _ | with_reducible refine CellsAt.drew ?_ | with_reducible refine CellsAt.drewN ?_ _ | assumption | (simp; omega) | omega)) (by repeat' (first | with_reducible exact ha | with_reducible refine CellsAt.setFar ?_ ?_ _ | with_reducible refine CellsAt.alloc ?_ _ | with_reducible refine CellsAt.drew ?_ | with_reducible refine CellsAt.drewN ?_ _ | assumption | (simp; omega) | omega)) (by repeat' (first | with_reducible exact hp | with_reducible refine CellsAt.setFar ?_ ?_ _ | with_reducible refine CellsAt.alloc ?_ _ | with_reducible refine CellsAt.drew ?_ | with_reducible refine CellsAt.drewN ?_ _ | assumption | (simp; omega) | omega)) H_y9.out).mono ?_
  rintro e w4 ⟨rfl, hc4⟩
  have hb4 : Below w.heap.size w w4 := bchain (by repeat' (first | with_reducible exact hb3 | with_reducible refine Below.drew ?_ | with_reducible refine below_drewN ?_ _ | with_reducible refine Below.alloc ?_ (by have := hb3.size; first | (simp; done) | (simp; omega) | omega) _ | with_reducible refine Below.setCell ?_ (by first | (simp; done) | (simp; omega) | omega) _)) hc4
  have hst4 : Below w3.heap.size w3 w4 := bchain (by repeat' (first | with_reducible exact Below.refl _ _ | with_reducible refine Below.drew ?_ | with_reducible refine below_drewN ?_ _ | with_reducible refine Below.alloc ?_ (by first | (simp; done) | (simp; omega) | omega) _ | with_reducible refine Below.setCell ?_ (by first | (simp; done) | (simp; omega) | omega) _)) hc4
  replace P_0 := cell_later hst4 P_0
  replace P_1 := cell_later hst4 P_1
  replace P_l := Nat.lt_of_lt_of_le P_l hst4.size
  replace hl := hl.later hst4
  replace ha := ha.later hst4
  replace hp := hp.later hst4
  replace k3 := k3.later hst4
  replace k4 := k4.later hst4
  clear hst4
  clear hc4 hb3
  go_wp2_with fail
  refine (rfair_any l a ps win la aa pa lc ac pc _ (by repeat' (first | with_reducible exact hl | with_reducible refine CellsAt.setFar ?_ ?_ _ | with_reducible refine CellsAt.alloc ?_ _ | with_reducible refine CellsAt.drew ?_ | with_reducible refine CellsAt.drewN ?_ _ | assumption | (simp; omega) | omega)) (by repeat' (first | with_reducible exact ha | with_reducible refine CellsAt.setFar ?_ ?_ _ | with_reducible refine CellsAt.alloc ?_ _ | with_reducible refine CellsAt.drew ?_ | with_reducible refine CellsAt.drewN ?_ _ | assumption | (simp; omega) | omega)) (by repeat' (first | with_reducible exact hp | with_reducible refine CellsAt.setFar ?_ ?_ _ | with_reducible refine CellsAt.alloc ?_ _ | with_reducible refine CellsAt.drew ?_ | with_reducible refine CellsAt.drewN ?_ _ | assumption | (simp; omega) | omega)) H_y9.out H_hpc.out).mono ?_
  rintro e w5 ⟨rfl, hc5⟩
  have hb5 : Below w.heap.size w w5 := bchain (by repeat' (first | with_reducible exact hb4 | with_reducible refine Below.drew ?_ | with_reducible refine below_drewN ?_ _ | with_reducible refine Below.alloc ?_ (by have := hb4.size; first | (simp; done) | (simp; omega) | omega) _ | with_reducible refine Below.setCell ?_ (by first | (simp; done) | (simp; omega) | omega) _)) hc5
  have hst5 : Below w4.heap.size w4 w5 := bchain (by repeat' (first | with_reducible exact Below.refl _ _ | with_reducible refine Below.drew ?_ | with_reducible refine below_drewN ?_ _ | with_reducible refine Below.alloc ?_ (by first | (simp; done) | (simp; omega) | omega) _ | with_reducible refine Below.setCell ?_ (by first | (simp; done) | (simp; omega) | omega) _)) hc5
  replace P_0 := cell_later hst5 P_0
  replace P_1 := cell_later hst5 P_1
  replace P_l := Nat.lt_of_lt_of_le P_l hst5.size
  replace hl := hl.later hst5
  replace ha := ha.later hst5
  replace hp := hp.later hst5
  replace k3 := k3.later hst5
  replace k4 := k4.later hst5
  clear hst5
  clear hc5 hb4
  go_wp2_with fail
  refine (sameInts_self _ r1 r2 e1 e2 _ (by repeat' (first | with_reducible exact k3 | with_reducible refine CellsAt.setFar ?_ ?_ _ | with_reducible refine CellsAt.alloc ?_ _ | with_reducible refine CellsAt.drew ?_ | with_reducible refine CellsAt.drewN ?_ _ | assumption | (simp; omega) | omega)) (by repeat' (first | with_reducible exact k4 | with_reducible refine CellsAt.setFar ?_ ?_ _ | with_reducible refine CellsAt.alloc ?_ _ | with_reducible refine CellsAt.drew ?_ | with_reducible refine CellsAt.drewN ?_ _ | assumption | (simp; omega) | omega)) H_y8.out).mono ?_
  rintro e w6 ⟨rfl, hc6⟩
  have hb6 : Below w.heap.size w w6 := bchain (by repeat' (first | with_reducible exact hb5 | with_reducible refine Below.drew ?_ | with_reducible refine below_drewN ?_ _ | with_reducible refine Below.alloc ?_ (by have := hb5.size; first | (simp; done) | (simp; omega) | omega) _ | with_reducible refine Below.setCell ?_ (by first | (simp; done) | (simp; omega) | omega) _)) hc6
  have hst6 : Below w5.heap.size w5 w6 := bchain (by repeat' (first | with_reducible exact Below.refl _ _ | with_reducible refine Below.drew ?_ | with_reducible refine below_drewN ?_ _ | with_reducible refine Below.alloc ?_ (by first | (simp; done) | (simp; omega) | omega) _ | with_reducible refine Below.setCell ?_ (by first | (simp; done) | (simp; omega) | omega) _)) hc6
  replace P_0 := cell_later hst6 P_0
  replace P_1 := cell_later hst6 P_1
  replace P_l := Nat.lt_of_lt_of_le P_l hst6.size
  replace hl := hl.later hst6
  replace ha := ha.later hst6
  replace hp := hp.later hst6
  replace k3 := k3.later hst6
  replace k4 := k4.later hst6
  clear hst6
  clear hc6 hb5
  go_wp2_with fail
  go_ret
  exact ⟨rfl, by repeat' (first | with_reducible exact hb6 | with_reducible refine Below.drew ?_ | with_reducible refine below_drewN ?_ _ | with_reducible refine Below.alloc ?_ (by have := hb6.size; first | (simp; done) | (simp; omega) | omega) _ | with_reducible refine Below.setCell ?_ (by first | (simp; done) | (simp; omega) | omega) _)⟩

end Go.Proofs.Ytoelndaeemlefaa
