/- The law SchedRuns: what the program's functions and the reference's return is the same. -/
import Derived.Test.YtoelndaeemlefaaSchedOpen
namespace Go.Proofs.Ytoelndaeemlefaa
set_option linter.unusedSimpArgs false
set_option linter.unusedVariables false
set_option linter.unnecessarySimpa false
open Go.RowKit

theorem tkNew_len (l a : List Int) : (tkNew l a).1.1.length ≤ l.length ∧ (tkNew l a).1.2.length ≤ a.length := by
  unfold tkNew; split <;> simp
theorem tkRun_len (l a ps : List Int) : (tkRun l a ps).1.1.length ≤ l.length ∧ (tkRun l a ps).1.2.length ≤ a.length ∧ (tkRun l a ps).2.1.length ≤ ps.length := by
  have h1 := runAt_len a ps l ps.length
  have h2 := runAt_did a ps l ps.length
  unfold tkRun; split <;> simp <;> omega
theorem tkRuns_len (l a : List Int) : (tkRuns l a).1.length ≤ l.length := by
  have := runs_len l a l.length
  unfold tkRuns; split <;> simp <;> omega
theorem same_self (l a : List Int) (la aa la2 aa2 : Option Addr) (lc ac lc2 ac2 : Nat) (w : World) (hl : CellsAt w la (l.map (Value.int .i64))) (ha : CellsAt w aa (a.map (Value.int .i64))) (hl2 : CellsAt w la2 (l.map (Value.int .i64))) (ha2 : CellsAt w aa2 (a.map (Value.int .i64))) (hml : l.length ≤ maxLen) (hma : a.length ≤ maxLen) :
    Calls Try.prog 17 #[.agg #[.slice la l.length lc, .slice aa a.length ac], .agg #[.slice la2 l.length lc2, .slice aa2 a.length ac2]] w fun e w' =>
      e = .returned (.bool true) ∧ Below w.heap.size w w' := by
  have := same_any l a l a la aa la2 aa2 lc ac lc2 ac2 w hl ha hl2 ha2 hml hma
  rwa [sameT_self] at this
theorem sameInts_self (xs : List Int) (a b : Option Addr) (c d : Nat) (w : World) (hx : CellsAt w a (xs.map (Value.int .i64))) (hy : CellsAt w b (xs.map (Value.int .i64))) (hxl : xs.length ≤ maxLen) :
    Calls Try.prog 18 #[.slice a xs.length c, .slice b xs.length d] w fun e w' =>
      e = .returned (.bool true) ∧ Below w.heap.size w w' := by
  have := sameInts_any xs xs a b c d w hx hy hxl
  simpa using this
set_option maxHeartbeats 400000 in
theorem great_any (l a : List Int) (la aa : Option Addr) (lc ac : Nat) (w : World) :
    Calls Try.prog 9 #[.agg #[.slice la l.length lc, .slice aa a.length ac]] w fun e w' =>
      e = .returned (.bool (decide (100 < l.length ∨ 100 < a.length))) ∧ Below w.heap.size w w' := by
  by_cases h1 : 100 < l.length
  · have h1' : (100 : Int) < (l.length : Int) := by omega
    have he : decide (100 < l.length ∨ 100 < a.length) = true := by simp [h1]
    have H_he := hid he
    clear he
    go_enter Try.func9, Try.ntmps9
    have hb0 := Below.refl w.heap.size w
    go_wp2_with fail
    go_ret
    exact ⟨ret_bool (by first | rfl | rw [H_he.out] | exact H_he.out.symm), (by repeat' (first | with_reducible exact hb0 | with_reducible refine Below.drew ?_ | with_reducible refine below_drewN ?_ _ | with_reducible refine Below.alloc ?_ (by have := hb0.size; first | (simp; done) | (simp; omega) | omega) _ | with_reducible refine Below.setCell ?_ (by first | (simp; done) | (simp; omega) | omega) _))⟩
  · have h1' : ¬ (100 : Int) < (l.length : Int) := by omega
    by_cases h2 : 100 < a.length
    · have h2' : (100 : Int) < (a.length : Int) := by omega
      have he : decide (100 < l.length ∨ 100 < a.length) = true := by simp [h2]
      have H_he := hid he
      clear he
      go_enter Try.func9, Try.ntmps9
      have hb0 := Below.refl w.heap.size w
      go_wp2_with fail
      go_ret
      exact ⟨ret_bool (by first | rfl | rw [H_he.out] | exact H_he.out.symm), (by repeat' (first | with_reducible exact hb0 | with_reducible refine Below.drew ?_ | with_reducible refine below_drewN ?_ _ | with_reducible refine Below.alloc ?_ (by have := hb0.size; first | (simp; done) | (simp; omega) | omega) _ | with_reducible refine Below.setCell ?_ (by first | (simp; done) | (simp; omega) | omega) _))⟩
    · have h2' : ¬ (100 : Int) < (a.length : Int) := by omega
      have he : decide (100 < l.length ∨ 100 < a.length) = false := by rw [decide_eq_false_iff_not]; omega
      have H_he := hid he
      clear he
      go_enter Try.func9, Try.ntmps9
      have hb0 := Below.refl w.heap.size w
      go_wp2_with fail
      go_ret
      exact ⟨ret_bool (by first | rfl | rw [H_he.out] | exact H_he.out.symm), (by repeat' (first | with_reducible exact hb0 | with_reducible refine Below.drew ?_ | with_reducible refine below_drewN ?_ _ | with_reducible refine Below.alloc ?_ (by have := hb0.size; first | (simp; done) | (simp; omega) | omega) _ | with_reducible refine Below.setCell ?_ (by first | (simp; done) | (simp; omega) | omega) _))⟩

set_option maxRecDepth 100000 in
set_option maxHeartbeats 40000000 in
theorem runs_walk (l a ps : List Int) (i : Int) (la aa pa : Option Addr) (lc ac pc : Nat) (w : World) (hl : CellsAt w la (l.map (Value.int .i64))) (ha : CellsAt w aa (a.map (Value.int .i64))) (hp : CellsAt w pa (ps.map (Value.int .i64))) :
    Calls Try.prog 3 #[.agg #[.slice la l.length lc, .slice aa a.length ac], .slice pa ps.length pc, .int .i64 i] w fun e w' =>
      e = .returned (.bool true) ∧ Below w.heap.size w w' := by
  by_cases h1 : 100 < l.length ∨ 100 < a.length
  · have he : decide (100 < l.length ∨ 100 < a.length) = true := by simpa using h1
    have H_he := hid he
    clear he
    clear h1
    go_enter Try.func3, Try.ntmps3
    have hb0 := Below.refl w.heap.size w
    go_wp2_with fail
    refine (great_any l a la aa lc ac _).mono ?_
    rintro e w1 ⟨rfl, hc1⟩
    have hb1 : Below w.heap.size w w1 := bchain (by repeat' (first | with_reducible exact hb0 | with_reducible refine Below.drew ?_ | with_reducible refine below_drewN ?_ _ | with_reducible refine Below.alloc ?_ (by have := hb0.size; first | (simp; done) | (simp; omega) | omega) _ | with_reducible refine Below.setCell ?_ (by first | (simp; done) | (simp; omega) | omega) _)) hc1
    clear hc1 hb0
    rw [H_he.out]
    go_wp2_with fail
    go_wp2_with fail
    go_ret
    exact ⟨rfl, by repeat' (first | with_reducible exact hb1 | with_reducible refine Below.drew ?_ | with_reducible refine below_drewN ?_ _ | with_reducible refine Below.alloc ?_ (by have := hb1.size; first | (simp; done) | (simp; omega) | omega) _ | with_reducible refine Below.setCell ?_ (by first | (simp; done) | (simp; omega) | omega) _)⟩
  have he : decide (100 < l.length ∨ 100 < a.length) = false := by simpa using h1
  by_cases h2 : 400 < ps.length
  · have h2' : (400 : Int) < (ps.length : Int) := by omega
    have H_he := hid he
    clear he
    clear h1
    go_enter Try.func3, Try.ntmps3
    have hb0 := Below.refl w.heap.size w
    go_wp2_with fail
    refine (great_any l a la aa lc ac _).mono ?_
    rintro e w1 ⟨rfl, hc1⟩
    have hb1 : Below w.heap.size w w1 := bchain (by repeat' (first | with_reducible exact hb0 | with_reducible refine Below.drew ?_ | with_reducible refine below_drewN ?_ _ | with_reducible refine Below.alloc ?_ (by have := hb0.size; first | (simp; done) | (simp; omega) | omega) _ | with_reducible refine Below.setCell ?_ (by first | (simp; done) | (simp; omega) | omega) _)) hc1
    clear hc1 hb0
    rw [H_he.out]
    go_wp2_with fail
    go_wp2_with fail
    go_ret
    exact ⟨rfl, by repeat' (first | with_reducible exact hb1 | with_reducible refine Below.drew ?_ | with_reducible refine below_drewN ?_ _ | with_reducible refine Below.alloc ?_ (by have := hb1.size; first | (simp; done) | (simp; omega) | omega) _ | with_reducible refine Below.setCell ?_ (by first | (simp; done) | (simp; omega) | omega) _)⟩
  have h2' : ¬ (400 : Int) < (ps.length : Int) := by omega
  have x1 := (tkNew_len l a).1
  have x2 := (tkNew_len l a).2
  have x3 := (tkRun_len l a [i]).1
  have x4 := (tkRun_len l a [i]).2.1
  have x5 := (tkRun_len l a ps).1
  have x6 := (tkRun_len l a ps).2.1
  have x7 := (tkRun_len l a ps).2.2
  have x8 := tkRuns_len l a
  have hbl : l.length ≤ 17592186044415 := by omega
  have hba : a.length ≤ 17592186044415 := by omega
  have y1 : (tkNew l a).1.1.length ≤ maxLen := by unfold maxLen; omega
  have y2 : (tkNew l a).1.2.length ≤ maxLen := by unfold maxLen; omega
  have y3 : (tkRun l a [i]).1.1.length ≤ maxLen := by unfold maxLen; omega
  have y4 : (tkRun l a [i]).1.2.length ≤ maxLen := by unfold maxLen; omega
  have y5 : (tkRun l a ps).1.1.length ≤ maxLen := by unfold maxLen; omega
  have y6 : (tkRun l a ps).1.2.length ≤ maxLen := by unfold maxLen; omega
  have y7 : (tkRun l a ps).2.1.length ≤ maxLen := by unfold maxLen; omega
  have y8 : (tkRuns l a).1.length ≤ maxLen := by unfold maxLen; omega
  have y9 : l.length ≤ maxLen := by unfold maxLen; omega
  have y10 : a.length ≤ maxLen := by unfold maxLen; omega
  have H_he := hid he
  have H_y1 := hid y1
  have H_y2 := hid y2
  have H_y3 := hid y3
  have H_y4 := hid y4
  have H_y5 := hid y5
  have H_y6 := hid y6
  have H_y7 := hid y7
  have H_y8 := hid y8
  have H_y9 := hid y9
  have H_y10 := hid y10
  have H_hbl := hid hbl
  have H_hba := hid hba
  clear he y1 y2 y3 y4 y5 y6 y7 y8 y9 y10 hbl hba
  clear h1 x1 x2 x3 x4 x5 x6 x7 x8
  go_enter Try.func3, Try.ntmps3
  have hb0 := Below.refl w.heap.size w
  go_wp2_with fail
  refine (great_any l a la aa lc ac _).mono ?_
  rintro e w1 ⟨rfl, hc1⟩
  have hb1 : Below w.heap.size w w1 := bchain (by repeat' (first | with_reducible exact hb0 | with_reducible refine Below.drew ?_ | with_reducible refine below_drewN ?_ _ | with_reducible refine Below.alloc ?_ (by have := hb0.size; first | (simp; done) | (simp; omega) | omega) _ | with_reducible refine Below.setCell ?_ (by first | (simp; done) | (simp; omega) | omega) _)) hc1
  have hst1 : Below w.heap.size w w1 := bchain (by repeat' (first | with_reducible exact Below.refl _ _ | with_reducible refine Below.drew ?_ | with_reducible refine below_drewN ?_ _ | with_reducible refine Below.alloc ?_ (by first | (simp; done) | (simp; omega) | omega) _ | with_reducible refine Below.setCell ?_ (by first | (simp; done) | (simp; omega) | omega) _)) hc1
  have P_0 : w1.cell? ⟨w.heap.size, 0, none⟩ = some (.slice la l.length lc) := (hc1.cell (p := ⟨w.heap.size, 0, none⟩) (by first | (simp; done) | (simp; omega))).trans (by first | (simp; done) | go_simp)
  have P_1 : w1.cell? ⟨w.heap.size, 1, none⟩ = some (.slice aa a.length ac) := (hc1.cell (p := ⟨w.heap.size, 1, none⟩) (by first | (simp; done) | (simp; omega))).trans (by first | (simp; done) | go_simp)
  have P_l : w.heap.size < w1.heap.size := Nat.lt_of_lt_of_le (by first | (simp; done) | (simp; omega)) hc1.size
  replace hl := hl.later hst1
  replace ha := ha.later hst1
  replace hp := hp.later hst1
  clear hst1
  clear hc1 hb0
  rw [H_he.out]
  go_wp2_with fail
  refine (rtwin_any l a la aa lc ac _ (by repeat' (first | with_reducible exact hl | with_reducible refine CellsAt.setFar ?_ ?_ _ | with_reducible refine CellsAt.alloc ?_ _ | with_reducible refine CellsAt.drew ?_ | with_reducible refine CellsAt.drewN ?_ _ | assumption | (simp; omega) | omega)) (by repeat' (first | with_reducible exact ha | with_reducible refine CellsAt.setFar ?_ ?_ _ | with_reducible refine CellsAt.alloc ?_ _ | with_reducible refine CellsAt.drew ?_ | with_reducible refine CellsAt.drewN ?_ _ | assumption | (simp; omega) | omega)) H_hbl.out H_hba.out).mono ?_
  rintro e w2 ⟨l0, c0, a0, d0, rfl, k0, m0, _, hc2⟩
  have hb2 : Below w.heap.size w w2 := bchain (by repeat' (first | with_reducible exact hb1 | with_reducible refine Below.drew ?_ | with_reducible refine below_drewN ?_ _ | with_reducible refine Below.alloc ?_ (by have := hb1.size; first | (simp; done) | (simp; omega) | omega) _ | with_reducible refine Below.setCell ?_ (by first | (simp; done) | (simp; omega) | omega) _)) hc2
  have hst2 : Below w1.heap.size w1 w2 := bchain (by repeat' (first | with_reducible exact Below.refl _ _ | with_reducible refine Below.drew ?_ | with_reducible refine below_drewN ?_ _ | with_reducible refine Below.alloc ?_ (by first | (simp; done) | (simp; omega) | omega) _ | with_reducible refine Below.setCell ?_ (by first | (simp; done) | (simp; omega) | omega) _)) hc2
  replace P_0 := cell_later hst2 P_0
  replace P_1 := cell_later hst2 P_1
  replace P_l := Nat.lt_of_lt_of_le P_l hst2.size
  replace hl := hl.later hst2
  replace ha := ha.later hst2
  replace hp := hp.later hst2
  clear hst2
  clear hc2 hb1
  go_wp2_with fail
  refine (new_any l a l0 a0 c0 d0 _ (by repeat' (first | with_reducible exact k0 | with_reducible refine CellsAt.setFar ?_ ?_ _ | with_reducible refine CellsAt.alloc ?_ _ | with_reducible refine CellsAt.drew ?_ | with_reducible refine CellsAt.drewN ?_ _ | assumption | (simp; omega) | omega)) (by repeat' (first | with_reducible exact m0 | with_reducible refine CellsAt.setFar ?_ ?_ _ | with_reducible refine CellsAt.alloc ?_ _ | with_reducible refine CellsAt.drew ?_ | with_reducible refine CellsAt.drewN ?_ _ | assumption | (simp; omega) | omega)) H_hbl.out H_hba.out).mono ?_
  rintro e w3 ⟨⟨l1, c1, a1, d1, rfl, k1, m1⟩, hc3⟩
  have hb3 : Below w.heap.size w w3 := bchain (by repeat' (first | with_reducible exact hb2 | with_reducible refine Below.drew ?_ | with_reducible refine below_drewN ?_ _ | with_reducible refine Below.alloc ?_ (by have := hb2.size; first | (simp; done) | (simp; omega) | omega) _ | with_reducible refine Below.setCell ?_ (by first | (simp; done) | (simp; omega) | omega) _)) hc3
  have hst3 : Below w2.heap.size w2 w3 := bchain (by repeat' (first | with_reducible exact Below.refl _ _ | with_reducible refine Below.drew ?_ | with_reducible refine below_drewN ?_ _ | with_reducible refine Below.alloc ?_ (by first | (simp; done) | (simp; omega) | omega) _ | with_reducible refine Below.setCell ?_ (by first | (simp; done) | (simp; omega) | omega) _)) hc3
  replace P_0 := cell_later hst3 P_0
  replace P_1 := cell_later hst3 P_1
  replace P_l := Nat.lt_of_lt_of_le P_l hst3.size
  have T_0 : w3.cell? ⟨w2.heap.size, 0, none⟩ = some (.slice l0 l.length c0) := (hc3.cell (p := ⟨w2.heap.size, 0, none⟩) (by first | (simp; done) | (simp; omega))).trans (by first | (simp; done) | go_simp)
  have T_1 : w3.cell? ⟨w2.heap.size, 1, none⟩ = some (.slice a0 a.length d0) := (hc3.cell (p := ⟨w2.heap.size, 1, none⟩) (by first | (simp; done) | (simp; omega))).trans (by first | (simp; done) | go_simp)
  have T_l : w2.heap.size < w3.heap.size := Nat.lt_of_lt_of_le (by first | (simp; done) | (simp; omega)) hc3.size
  replace hl := hl.later hst3
  replace ha := ha.later hst3
  replace hp := hp.later hst3
  replace k0 := k0.later hst3
  replace m0 := m0.later hst3
  clear hst3
  clear hc3 hb2
  go_wp2_with fail
  refine (rnew_any l a la aa lc ac _ (by repeat' (first | with_reducible exact hl | with_reducible refine CellsAt.setFar ?_ ?_ _ | with_reducible refine CellsAt.alloc ?_ _ | with_reducible refine CellsAt.drew ?_ | with_reducible refine CellsAt.drewN ?_ _ | assumption | (simp; omega) | omega)) (by repeat' (first | with_reducible exact ha | with_reducible refine CellsAt.setFar ?_ ?_ _ | with_reducible refine CellsAt.alloc ?_ _ | with_reducible refine CellsAt.drew ?_ | with_reducible refine CellsAt.drewN ?_ _ | assumption | (simp; omega) | omega)) H_hbl.out H_hba.out).mono ?_
  rintro e w4 ⟨⟨l2, c2, a2, d2, rfl, k2, m2⟩, hc4⟩
  have hb4 : Below w.heap.size w w4 := bchain (by repeat' (first | with_reducible exact hb3 | with_reducible refine Below.drew ?_ | with_reducible refine below_drewN ?_ _ | with_reducible refine Below.alloc ?_ (by have := hb3.size; first | (simp; done) | (simp; omega) | omega) _ | with_reducible refine Below.setCell ?_ (by first | (simp; done) | (simp; omega) | omega) _)) hc4
  have hst4 : Below w3.heap.size w3 w4 := bchain (by repeat' (first | with_reducible exact Below.refl _ _ | with_reducible refine Below.drew ?_ | with_reducible refine below_drewN ?_ _ | with_reducible refine Below.alloc ?_ (by first | (simp; done) | (simp; omega) | omega) _ | with_reducible refine Below.setCell ?_ (by first | (simp; done) | (simp; omega) | omega) _)) hc4
  replace P_0 := cell_later hst4 P_0
  replace P_1 := cell_later hst4 P_1
  replace P_l := Nat.lt_of_lt_of_le P_l hst4.size
  replace T_0 := cell_later hst4 T_0
  replace T_1 := cell_later hst4 T_1
  replace T_l := Nat.lt_of_lt_of_le T_l hst4.size
  have A_0 : w4.cell? ⟨w3.heap.size, 0, none⟩ = some (.slice l1 (tkNew l a).1.1.length c1) := (hc4.cell (p := ⟨w3.heap.size, 0, none⟩) (by first | (simp; done) | (simp; omega))).trans (by first | (simp; done) | go_simp)
  have A_1 : w4.cell? ⟨w3.heap.size, 1, none⟩ = some (.slice a1 (tkNew l a).1.2.length d1) := (hc4.cell (p := ⟨w3.heap.size, 1, none⟩) (by first | (simp; done) | (simp; omega))).trans (by first | (simp; done) | go_simp)
  have A_l : w3.heap.size < w4.heap.size := Nat.lt_of_lt_of_le (by first | (simp; done) | (simp; omega)) hc4.size
  replace hl := hl.later hst4
  replace ha := ha.later hst4
  replace hp := hp.later hst4
  replace k0 := k0.later hst4
  replace m0 := m0.later hst4
  replace k1 := k1.later hst4
  replace m1 := m1.later hst4
  clear hst4
  clear hc4 hb3
  go_wp2_with fail
  refine (runnable_any l a l0 a0 c0 d0 _ (by repeat' (first | with_reducible exact k0 | with_reducible refine CellsAt.setFar ?_ ?_ _ | with_reducible refine CellsAt.alloc ?_ _ | with_reducible refine CellsAt.drew ?_ | with_reducible refine CellsAt.drewN ?_ _ | assumption | (simp; omega) | omega)) (by repeat' (first | with_reducible exact m0 | with_reducible refine CellsAt.setFar ?_ ?_ _ | with_reducible refine CellsAt.alloc ?_ _ | with_reducible refine CellsAt.drew ?_ | with_reducible refine CellsAt.drewN ?_ _ | assumption | (simp; omega) | omega)) H_y9.out).mono ?_
  rintro e w5 ⟨⟨r1, e1, rfl, k3⟩, hc5⟩
  have hb5 : Below w.heap.size w w5 := bchain (by repeat' (first | with_reducible exact hb4 | with_reducible refine Below.drew ?_ | with_reducible refine below_drewN ?_ _ | with_reducible refine Below.alloc ?_ (by have := hb4.size; first | (simp; done) | (simp; omega) | omega) _ | with_reducible refine Below.setCell ?_ (by first | (simp; done) | (simp; omega) | omega) _)) hc5
  have hst5 : Below w4.heap.size w4 w5 := bchain (by repeat' (first | with_reducible exact Below.refl _ _ | with_reducible refine Below.drew ?_ | with_reducible refine below_drewN ?_ _ | with_reducible refine Below.alloc ?_ (by first | (simp; done) | (simp; omega) | omega) _ | with_reducible refine Below.setCell ?_ (by first | (simp; done) | (simp; omega) | omega) _)) hc5
  replace P_0 := cell_later hst5 P_0
  replace P_1 := cell_later hst5 P_1
  replace P_l := Nat.lt_of_lt_of_le P_l hst5.size
  replace T_0 := cell_later hst5 T_0
  replace T_1 := cell_later hst5 T_1
  replace T_l := Nat.lt_of_lt_of_le T_l hst5.size
  replace A_0 := cell_later hst5 A_0
  replace A_1 := cell_later hst5 A_1
  replace A_l := Nat.lt_of_lt_of_le A_l hst5.size
  have B_0 : w5.cell? ⟨w4.heap.size, 0, none⟩ = some (.slice l2 (tkNew l a).1.1.length c2) := (hc5.cell (p := ⟨w4.heap.size, 0, none⟩) (by first | (simp; done) | (simp; omega))).trans (by first | (simp; done) | go_simp)
  have B_1 : w5.cell? ⟨w4.heap.size, 1, none⟩ = some (.slice a2 (tkNew l a).1.2.length d2) := (hc5.cell (p := ⟨w4.heap.size, 1, none⟩) (by first | (simp; done) | (simp; omega))).trans (by first | (simp; done) | go_simp)
  have B_l : w4.heap.size < w5.heap.size := Nat.lt_of_lt_of_le (by first | (simp; done) | (simp; omega)) hc5.size
  replace hl := hl.later hst5
  replace ha := ha.later hst5
  replace hp := hp.later hst5
  replace k0 := k0.later hst5
  replace m0 := m0.later hst5
  replace k1 := k1.later hst5
  replace m1 := m1.later hst5
  replace k2 := k2.later hst5
  replace m2 := m2.later hst5
  clear hst5
  clear hc5 hb4
  go_wp2_with fail
  refine (rrunnable_any l a la aa lc ac _ (by repeat' (first | with_reducible exact hl | with_reducible refine CellsAt.setFar ?_ ?_ _ | with_reducible refine CellsAt.alloc ?_ _ | with_reducible refine CellsAt.drew ?_ | with_reducible refine CellsAt.drewN ?_ _ | assumption | (simp; omega) | omega)) (by repeat' (first | with_reducible exact ha | with_reducible refine CellsAt.setFar ?_ ?_ _ | with_reducible refine CellsAt.alloc ?_ _ | with_reducible refine CellsAt.drew ?_ | with_reducible refine CellsAt.drewN ?_ _ | assumption | (simp; omega) | omega)) H_y9.out).mono ?_
  rintro e w6 ⟨⟨r2, e2, rfl, k4⟩, hc6⟩
  have hb6 : Below w.heap.size w w6 := bchain (by repeat' (first | with_reducible exact hb5 | with_reducible refine Below.drew ?_ | with_reducible refine below_drewN ?_ _ | with_reducible refine Below.alloc ?_ (by have := hb5.size; first | (simp; done) | (simp; omega) | omega) _ | with_reducible refine Below.setCell ?_ (by first | (simp; done) | (simp; omega) | omega) _)) hc6
  have hst6 : Below w5.heap.size w5 w6 := bchain (by repeat' (first | with_reducible exact Below.refl _ _ | with_reducible refine Below.drew ?_ | with_reducible refine below_drewN ?_ _ | with_reducible refine Below.alloc ?_ (by first | (simp; done) | (simp; omega) | omega) _ | with_reducible refine Below.setCell ?_ (by first | (simp; done) | (simp; omega) | omega) _)) hc6
  replace P_0 := cell_later hst6 P_0
  replace P_1 := cell_later hst6 P_1
  replace P_l := Nat.lt_of_lt_of_le P_l hst6.size
  replace T_0 := cell_later hst6 T_0
  replace T_1 := cell_later hst6 T_1
  replace T_l := Nat.lt_of_lt_of_le T_l hst6.size
  replace A_0 := cell_later hst6 A_0
  replace A_1 := cell_later hst6 A_1
  replace A_l := Nat.lt_of_lt_of_le A_l hst6.size
  replace B_0 := cell_later hst6 B_0
  replace B_1 := cell_later hst6 B_1
  replace B_l := Nat.lt_of_lt_of_le B_l hst6.size
  replace hl := hl.later hst6
  replace ha := ha.later hst6
  replace hp := hp.later hst6
  replace k0 := k0.later hst6
  replace m0 := m0.later hst6
  replace k1 := k1.later hst6
  replace m1 := m1.later hst6
  replace k2 := k2.later hst6
  replace m2 := m2.later hst6
  replace k3 := k3.later hst6
  clear hst6
  clear hc6 hb5
  go_wp2_with fail
  refine (pick_any l a i l0 a0 c0 d0 _ (by repeat' (first | with_reducible exact k0 | with_reducible refine CellsAt.setFar ?_ ?_ _ | with_reducible refine CellsAt.alloc ?_ _ | with_reducible refine CellsAt.drew ?_ | with_reducible refine CellsAt.drewN ?_ _ | assumption | (simp; omega) | omega)) (by repeat' (first | with_reducible exact m0 | with_reducible refine CellsAt.setFar ?_ ?_ _ | with_reducible refine CellsAt.alloc ?_ _ | with_reducible refine CellsAt.drew ?_ | with_reducible refine CellsAt.drewN ?_ _ | assumption | (simp; omega) | omega)) H_y9.out).mono ?_
  rintro e w7 ⟨⟨l5, c5, a5, d5, rfl, k5, m5⟩, hc7⟩
  have hb7 : Below w.heap.size w w7 := bchain (by repeat' (first | with_reducible exact hb6 | with_reducible refine Below.drew ?_ | with_reducible refine below_drewN ?_ _ | with_reducible refine Below.alloc ?_ (by have := hb6.size; first | (simp; done) | (simp; omega) | omega) _ | with_reducible refine Below.setCell ?_ (by first | (simp; done) | (simp; omega) | omega) _)) hc7
  have hst7 : Below w6.heap.size w6 w7 := bchain (by repeat' (first | with_reducible exact Below.refl _ _ | with_reducible refine Below.drew ?_ | with_reducible refine below_drewN ?_ _ | with_reducible refine Below.alloc ?_ (by first | (simp; done) | (simp; omega) | omega) _ | with_reducible refine Below.setCell ?_ (by first | (simp; done) | (simp; omega) | omega) _)) hc7
  replace P_0 := cell_later hst7 P_0
  replace P_1 := cell_later hst7 P_1
  replace P_l := Nat.lt_of_lt_of_le P_l hst7.size
  replace T_0 := cell_later hst7 T_0
  replace T_1 := cell_later hst7 T_1
  replace T_l := Nat.lt_of_lt_of_le T_l hst7.size
  replace A_0 := cell_later hst7 A_0
  replace A_1 := cell_later hst7 A_1
  replace A_l := Nat.lt_of_lt_of_le A_l hst7.size
  replace B_0 := cell_later hst7 B_0
  replace B_1 := cell_later hst7 B_1
  replace B_l := Nat.lt_of_lt_of_le B_l hst7.size
  replace hl := hl.later hst7
  replace ha := ha.later hst7
  replace hp := hp.later hst7
  replace k0 := k0.later hst7
  replace m0 := m0.later hst7
  replace k1 := k1.later hst7
  replace m1 := m1.later hst7
  replace k2 := k2.later hst7
  replace m2 := m2.later hst7
  replace k3 := k3.later hst7
  replace k4 := k4.later hst7
  clear hst7
  clear hc7 hb6
  go_wp2_with fail
  refine (rpick_any l a i la aa lc ac _ (by repeat' (first | with_reducible exact hl | with_reducible refine CellsAt.setFar ?_ ?_ _ | with_reducible refine CellsAt.alloc ?_ _ | with_reducible refine CellsAt.drew ?_ | with_reducible refine CellsAt.drewN ?_ _ | assumption | (simp; omega) | omega)) (by repeat' (first | with_reducible exact ha | with_reducible refine CellsAt.setFar ?_ ?_ _ | with_reducible refine CellsAt.alloc ?_ _ | with_reducible refine CellsAt.drew ?_ | with_reducible refine CellsAt.drewN ?_ _ | assumption | (simp; omega) | omega)) H_y9.out).mono ?_
  rintro e w8 ⟨⟨l6, c6, a6, d6, rfl, k6, m6⟩, hc8⟩
  have hb8 : Below w.heap.size w w8 := bchain (by repeat' (first | with_reducible exact hb7 | with_reducible refine Below.drew ?_ | with_reducible refine below_drewN ?_ _ | with_reducible refine Below.alloc ?_ (by have := hb7.size; first | (simp; done) | (simp; omega) | omega) _ | with_reducible refine Below.setCell ?_ (by first | (simp; done) | (simp; omega) | omega) _)) hc8
  have hst8 : Below w7.heap.size w7 w8 := bchain (by repeat' (first | with_reducible exact Below.refl _ _ | with_reducible refine Below.drew ?_ | with_reducible refine below_drewN ?_ _ | with_reducible refine Below.alloc ?_ (by first | (simp; done) | (simp; omega) | omega) _ | with_reducible refine Below.setCell ?_ (by first | (simp; done) | (simp; omega) | omega) _)) hc8
  replace P_0 := cell_later hst8 P_0
  replace P_1 := cell_later hst8 P_1
  replace P_l := Nat.lt_of_lt_of_le P_l hst8.size
  replace T_0 := cell_later hst8 T_0
  replace T_1 := cell_later hst8 T_1
  replace T_l := Nat.lt_of_lt_of_le T_l hst8.size
  replace A_0 := cell_later hst8 A_0
  replace A_1 := cell_later hst8 A_1
  replace A_l := Nat.lt_of_lt_of_le A_l hst8.size
  replace B_0 := cell_later hst8 B_0
  replace B_1 := cell_later hst8 B_1
  replace B_l := Nat.lt_of_lt_of_le B_l hst8.size
  have C_0 : w8.cell? ⟨w7.heap.size, 0, none⟩ = some (.slice l5 (tkRun l a [i]).1.1.length c5) := (hc8.cell (p := ⟨w7.heap.size, 0, none⟩) (by first | (simp; done) | (simp; omega))).trans (by first | (simp; done) | go_simp)
  have C_1 : w8.cell? ⟨w7.heap.size, 1, none⟩ = some (.slice a5 (tkRun l a [i]).1.2.length d5) := (hc8.cell (p := ⟨w7.heap.size, 1, none⟩) (by first | (simp; done) | (simp; omega))).trans (by first | (simp; done) | go_simp)
  have C_l : w7.heap.size < w8.heap.size := Nat.lt_of_lt_of_le (by first | (simp; done) | (simp; omega)) hc8.size
  replace hl := hl.later hst8
  replace ha := ha.later hst8
  replace hp := hp.later hst8
  replace k0 := k0.later hst8
  replace m0 := m0.later hst8
  replace k1 := k1.later hst8
  replace m1 := m1.later hst8
  replace k2 := k2.later hst8
  replace m2 := m2.later hst8
  replace k3 := k3.later hst8
  replace k4 := k4.later hst8
  replace k5 := k5.later hst8
  replace m5 := m5.later hst8
  clear hst8
  clear hc8 hb7
  go_wp2_with fail
  refine (same_self _ _ l1 a1 l2 a2 c1 d1 c2 d2 _ (by repeat' (first | with_reducible exact k1 | with_reducible refine CellsAt.setFar ?_ ?_ _ | with_reducible refine CellsAt.alloc ?_ _ | with_reducible refine CellsAt.drew ?_ | with_reducible refine CellsAt.drewN ?_ _ | assumption | (simp; omega) | omega)) (by repeat' (first | with_reducible exact m1 | with_reducible refine CellsAt.setFar ?_ ?_ _ | with_reducible refine CellsAt.alloc ?_ _ | with_reducible refine CellsAt.drew ?_ | with_reducible refine CellsAt.drewN ?_ _ | assumption | (simp; omega) | omega)) (by repeat' (first | with_reducible exact k2 | with_reducible refine CellsAt.setFar ?_ ?_ _ | with_reducible refine CellsAt.alloc ?_ _ | with_reducible refine CellsAt.drew ?_ | with_reducible refine CellsAt.drewN ?_ _ | assumption | (simp; omega) | omega)) (by repeat' (first | with_reducible exact m2 | with_reducible refine CellsAt.setFar ?_ ?_ _ | with_reducible refine CellsAt.alloc ?_ _ | with_reducible refine CellsAt.drew ?_ | with_reducible refine CellsAt.drewN ?_ _ | assumption | (simp; omega) | omega)) H_y1.out H_y2.out).mono ?_
  rintro e w9 ⟨rfl, hc9⟩
  have hb9 : Below w.heap.size w w9 := bchain (by repeat' (first | with_reducible exact hb8 | with_reducible refine Below.drew ?_ | with_reducible refine below_drewN ?_ _ | with_reducible refine Below.alloc ?_ (by have := hb8.size; first | (simp; done) | (simp; omega) | omega) _ | with_reducible refine Below.setCell ?_ (by first | (simp; done) | (simp; omega) | omega) _)) hc9
  have hst9 : Below w8.heap.size w8 w9 := bchain (by repeat' (first | with_reducible exact Below.refl _ _ | with_reducible refine Below.drew ?_ | with_reducible refine below_drewN ?_ _ | with_reducible refine Below.alloc ?_ (by first | (simp; done) | (simp; omega) | omega) _ | with_reducible refine Below.setCell ?_ (by first | (simp; done) | (simp; omega) | omega) _)) hc9
  replace P_0 := cell_later hst9 P_0
  replace P_1 := cell_later hst9 P_1
  replace P_l := Nat.lt_of_lt_of_le P_l hst9.size
  replace T_0 := cell_later hst9 T_0
  replace T_1 := cell_later hst9 T_1
  replace T_l := Nat.lt_of_lt_of_le T_l hst9.size
  replace A_0 := cell_later hst9 A_0
  replace A_1 := cell_later hst9 A_1
  replace A_l := Nat.lt_of_lt_of_le A_l hst9.size
  replace B_0 := cell_later hst9 B_0
  replace B_1 := cell_later hst9 B_1
  replace B_l := Nat.lt_of_lt_of_le B_l hst9.size
  replace C_0 := cell_later hst9 C_0
  replace C_1 := cell_later hst9 C_1
  replace C_l := Nat.lt_of_lt_of_le C_l hst9.size
  have D_0 : w9.cell? ⟨w8.heap.size, 0, none⟩ = some (.slice l6 (tkRun l a [i]).1.1.length c6) := (hc9.cell (p := ⟨w8.heap.size, 0, none⟩) (by first | (simp; done) | (simp; omega))).trans (by first | (simp; done) | go_simp)
  have D_1 : w9.cell? ⟨w8.heap.size, 1, none⟩ = some (.slice a6 (tkRun l a [i]).1.2.length d6) := (hc9.cell (p := ⟨w8.heap.size, 1, none⟩) (by first | (simp; done) | (simp; omega))).trans (by first | (simp; done) | go_simp)
  have D_l : w8.heap.size < w9.heap.size := Nat.lt_of_lt_of_le (by first | (simp; done) | (simp; omega)) hc9.size
  replace hl := hl.later hst9
  replace ha := ha.later hst9
  replace hp := hp.later hst9
  replace k0 := k0.later hst9
  replace m0 := m0.later hst9
  replace k1 := k1.later hst9
  replace m1 := m1.later hst9
  replace k2 := k2.later hst9
  replace m2 := m2.later hst9
  replace k3 := k3.later hst9
  replace k4 := k4.later hst9
  replace k5 := k5.later hst9
  replace m5 := m5.later hst9
  replace k6 := k6.later hst9
  replace m6 := m6.later hst9
  clear hst9
  clear hc9 hb8
  clear A_0 A_1 A_l
  clear B_0 B_1 B_l
  clear k1
  clear m1
  clear k2
  clear m2
  go_wp2_with fail
  refine (sameInts_self _ r1 r2 e1 e2 _ (by repeat' (first | with_reducible exact k3 | with_reducible refine CellsAt.setFar ?_ ?_ _ | with_reducible refine CellsAt.alloc ?_ _ | with_reducible refine CellsAt.drew ?_ | with_reducible refine CellsAt.drewN ?_ _ | assumption | (simp; omega) | omega)) (by repeat' (first | with_reducible exact k4 | with_reducible refine CellsAt.setFar ?_ ?_ _ | with_reducible refine CellsAt.alloc ?_ _ | with_reducible refine CellsAt.drew ?_ | with_reducible refine CellsAt.drewN ?_ _ | assumption | (simp; omega) | omega)) H_y8.out).mono ?_
  rintro e w10 ⟨rfl, hc10⟩
  have hb10 : Below w.heap.size w w10 := bchain (by repeat' (first | with_reducible exact hb9 | with_reducible refine Below.drew ?_ | with_reducible refine below_drewN ?_ _ | with_reducible refine Below.alloc ?_ (by have := hb9.size; first | (simp; done) | (simp; omega) | omega) _ | with_reducible refine Below.setCell ?_ (by first | (simp; done) | (simp; omega) | omega) _)) hc10
  have hst10 : Below w9.heap.size w9 w10 := bchain (by repeat' (first | with_reducible exact Below.refl _ _ | with_reducible refine Below.drew ?_ | with_reducible refine below_drewN ?_ _ | with_reducible refine Below.alloc ?_ (by first | (simp; done) | (simp; omega) | omega) _ | with_reducible refine Below.setCell ?_ (by first | (simp; done) | (simp; omega) | omega) _)) hc10
  replace P_0 := cell_later hst10 P_0
  replace P_1 := cell_later hst10 P_1
  replace P_l := Nat.lt_of_lt_of_le P_l hst10.size
  replace T_0 := cell_later hst10 T_0
  replace T_1 := cell_later hst10 T_1
  replace T_l := Nat.lt_of_lt_of_le T_l hst10.size
  replace C_0 := cell_later hst10 C_0
  replace C_1 := cell_later hst10 C_1
  replace C_l := Nat.lt_of_lt_of_le C_l hst10.size
  replace D_0 := cell_later hst10 D_0
  replace D_1 := cell_later hst10 D_1
  replace D_l := Nat.lt_of_lt_of_le D_l hst10.size
  replace hl := hl.later hst10
  replace ha := ha.later hst10
  replace hp := hp.later hst10
  replace k0 := k0.later hst10
  replace m0 := m0.later hst10
  replace k3 := k3.later hst10
  replace k4 := k4.later hst10
  replace k5 := k5.later hst10
  replace m5 := m5.later hst10
  replace k6 := k6.later hst10
  replace m6 := m6.later hst10
  clear hst10
  clear hc10 hb9
  clear k3
  clear k4
  go_wp2_with fail
  refine (same_self _ _ l5 a5 l6 a6 c5 d5 c6 d6 _ (by repeat' (first | with_reducible exact k5 | with_reducible refine CellsAt.setFar ?_ ?_ _ | with_reducible refine CellsAt.alloc ?_ _ | with_reducible refine CellsAt.drew ?_ | with_reducible refine CellsAt.drewN ?_ _ | assumption | (simp; omega) | omega)) (by repeat' (first | with_reducible exact m5 | with_reducible refine CellsAt.setFar ?_ ?_ _ | with_reducible refine CellsAt.alloc ?_ _ | with_reducible refine CellsAt.drew ?_ | with_reducible refine CellsAt.drewN ?_ _ | assumption | (simp; omega) | omega)) (by repeat' (first | with_reducible exact k6 | with_reducible refine CellsAt.setFar ?_ ?_ _ | with_reducible refine CellsAt.alloc ?_ _ | with_reducible refine CellsAt.drew ?_ | with_reducible refine CellsAt.drewN ?_ _ | assumption | (simp; omega) | omega)) (by repeat' (first | with_reducible exact m6 | with_reducible refine CellsAt.setFar ?_ ?_ _ | with_reducible refine CellsAt.alloc ?_ _ | with_reducible refine CellsAt.drew ?_ | with_reducible refine CellsAt.drewN ?_ _ | assumption | (simp; omega) | omega)) H_y3.out H_y4.out).mono ?_
  rintro e w11 ⟨rfl, hc11⟩
  have hb11 : Below w.heap.size w w11 := bchain (by repeat' (first | with_reducible exact hb10 | with_reducible refine Below.drew ?_ | with_reducible refine below_drewN ?_ _ | with_reducible refine Below.alloc ?_ (by have := hb10.size; first | (simp; done) | (simp; omega) | omega) _ | with_reducible refine Below.setCell ?_ (by first | (simp; done) | (simp; omega) | omega) _)) hc11
  have hst11 : Below w10.heap.size w10 w11 := bchain (by repeat' (first | with_reducible exact Below.refl _ _ | with_reducible refine Below.drew ?_ | with_reducible refine below_drewN ?_ _ | with_reducible refine Below.alloc ?_ (by first | (simp; done) | (simp; omega) | omega) _ | with_reducible refine Below.setCell ?_ (by first | (simp; done) | (simp; omega) | omega) _)) hc11
  replace P_0 := cell_later hst11 P_0
  replace P_1 := cell_later hst11 P_1
  replace P_l := Nat.lt_of_lt_of_le P_l hst11.size
  replace T_0 := cell_later hst11 T_0
  replace T_1 := cell_later hst11 T_1
  replace T_l := Nat.lt_of_lt_of_le T_l hst11.size
  replace C_0 := cell_later hst11 C_0
  replace C_1 := cell_later hst11 C_1
  replace C_l := Nat.lt_of_lt_of_le C_l hst11.size
  replace D_0 := cell_later hst11 D_0
  replace D_1 := cell_later hst11 D_1
  replace D_l := Nat.lt_of_lt_of_le D_l hst11.size
  replace hl := hl.later hst11
  replace ha := ha.later hst11
  replace hp := hp.later hst11
  replace k0 := k0.later hst11
  replace m0 := m0.later hst11
  replace k5 := k5.later hst11
  replace m5 := m5.later hst11
  replace k6 := k6.later hst11
  replace m6 := m6.later hst11
  clear hst11
  clear hc11 hb10
  clear C_0 C_1 C_l
  clear D_0 D_1 D_l
  clear k5
  clear m5
  clear k6
  clear m6
  go_wp2_with fail
  refine (run_any l a ps l0 a0 pa c0 d0 pc _ (by repeat' (first | with_reducible exact k0 | with_reducible refine CellsAt.setFar ?_ ?_ _ | with_reducible refine CellsAt.alloc ?_ _ | with_reducible refine CellsAt.drew ?_ | with_reducible refine CellsAt.drewN ?_ _ | assumption | (simp; omega) | omega)) (by repeat' (first | with_reducible exact m0 | with_reducible refine CellsAt.setFar ?_ ?_ _ | with_reducible refine CellsAt.alloc ?_ _ | with_reducible refine CellsAt.drew ?_ | with_reducible refine CellsAt.drewN ?_ _ | assumption | (simp; omega) | omega)) (by repeat' (first | with_reducible exact hp | with_reducible refine CellsAt.setFar ?_ ?_ _ | with_reducible refine CellsAt.alloc ?_ _ | with_reducible refine CellsAt.drew ?_ | with_reducible refine CellsAt.drewN ?_ _ | assumption | (simp; omega) | omega)) H_y9.out).mono ?_
  rintro e w12 ⟨⟨l7, c7, a7, d7, s7, u7, rfl, k7, m7, n7, _, _⟩, hc12⟩
  have hb12 : Below w.heap.size w w12 := bchain (by repeat' (first | with_reducible exact hb11 | with_reducible refine Below.drew ?_ | with_reducible refine below_drewN ?_ _ | with_reducible refine Below.alloc ?_ (by have := hb11.size; first | (simp; done) | (simp; omega) | omega) _ | with_reducible refine Below.setCell ?_ (by first | (simp; done) | (simp; omega) | omega) _)) hc12
  have hst12 : Below w11.heap.size w11 w12 := bchain (by repeat' (first | with_reducible exact Below.refl _ _ | with_reducible refine Below.drew ?_ | with_reducible refine below_drewN ?_ _ | with_reducible refine Below.alloc ?_ (by first | (simp; done) | (simp; omega) | omega) _ | with_reducible refine Below.setCell ?_ (by first | (simp; done) | (simp; omega) | omega) _)) hc12
  replace P_0 := cell_later hst12 P_0
  replace P_1 := cell_later hst12 P_1
  replace P_l := Nat.lt_of_lt_of_le P_l hst12.size
  replace T_0 := cell_later hst12 T_0
  replace T_1 := cell_later hst12 T_1
  replace T_l := Nat.lt_of_lt_of_le T_l hst12.size
  replace hl := hl.later hst12
  replace ha := ha.later hst12
  replace hp := hp.later hst12
  replace k0 := k0.later hst12
  replace m0 := m0.later hst12
  clear hst12
  clear hc12 hb11
  go_wp2_with fail
  refine (rrun_any l a ps la aa pa lc ac pc _ (by repeat' (first | with_reducible exact hl | with_reducible refine CellsAt.setFar ?_ ?_ _ | with_reducible refine CellsAt.alloc ?_ _ | with_reducible refine CellsAt.drew ?_ | with_reducible refine CellsAt.drewN ?_ _ | assumption | (simp; omega) | omega)) (by repeat' (first | with_reducible exact ha | with_reducible refine CellsAt.setFar ?_ ?_ _ | with_reducible refine CellsAt.alloc ?_ _ | with_reducible refine CellsAt.drew ?_ | with_reducible refine CellsAt.drewN ?_ _ | assumption | (simp; omega) | omega)) (by repeat' (first | with_reducible exact hp | with_reducible refine CellsAt.setFar ?_ ?_ _ | with_reducible refine CellsAt.alloc ?_ _ | with_reducible refine CellsAt.drew ?_ | with_reducible refine CellsAt.drewN ?_ _ | assumption | (simp; omega) | omega)) H_y9.out).mono ?_
  rintro e w13 ⟨⟨l8, c8, a8, d8, s8, u8, rfl, k8, m8, n8, _, _⟩, hc13⟩
  have hb13 : Below w.heap.size w w13 := bchain (by repeat' (first | with_reducible exact hb12 | with_reducible refine Below.drew ?_ | with_reducible refine below_drewN ?_ _ | with_reducible refine Below.alloc ?_ (by have := hb12.size; first | (simp; done) | (simp; omega) | omega) _ | with_reducible refine Below.setCell ?_ (by first | (simp; done) | (simp; omega) | omega) _)) hc13
  have hst13 : Below w12.heap.size w12 w13 := bchain (by repeat' (first | with_reducible exact Below.refl _ _ | with_reducible refine Below.drew ?_ | with_reducible refine below_drewN ?_ _ | with_reducible refine Below.alloc ?_ (by first | (simp; done) | (simp; omega) | omega) _ | with_reducible refine Below.setCell ?_ (by first | (simp; done) | (simp; omega) | omega) _)) hc13
  replace P_0 := cell_later hst13 P_0
  replace P_1 := cell_later hst13 P_1
  replace P_l := Nat.lt_of_lt_of_le P_l hst13.size
  replace T_0 := cell_later hst13 T_0
  replace T_1 := cell_later hst13 T_1
  replace T_l := Nat.lt_of_lt_of_le T_l hst13.size
  have X_0 : w13.cell? ⟨w12.heap.size, 0, none⟩ = some (.slice l7 (tkRun l a ps).1.1.length c7) := (hc13.cell (p := ⟨w12.heap.size, 0, none⟩) (by first | (simp; done) | (simp; omega))).trans (by first | (simp; done) | go_simp)
  have X_1 : w13.cell? ⟨w12.heap.size, 1, none⟩ = some (.slice a7 (tkRun l a ps).1.2.length d7) := (hc13.cell (p := ⟨w12.heap.size, 1, none⟩) (by first | (simp; done) | (simp; omega))).trans (by first | (simp; done) | go_simp)
  have X_l : w12.heap.size < w13.heap.size := Nat.lt_of_lt_of_le (by first | (simp; done) | (simp; omega)) hc13.size
  replace hl := hl.later hst13
  replace ha := ha.later hst13
  replace hp := hp.later hst13
  replace k0 := k0.later hst13
  replace m0 := m0.later hst13
  replace k7 := k7.later hst13
  replace m7 := m7.later hst13
  replace n7 := n7.later hst13
  clear hst13
  clear hc13 hb12
  go_wp2_with fail
  go_region_held3 (fun w' => w'.cell? ⟨w2.heap.size, 0, none⟩ = some (.slice l0 l.length c0) ∧ w'.cell? ⟨w2.heap.size, 1, none⟩ = some (.slice a0 a.length d0) ∧ w'.cell? ⟨w.heap.size, 0, none⟩ = some (.slice la l.length lc) ∧ w'.cell? ⟨w.heap.size, 1, none⟩ = some (.slice aa a.length ac) ∧ w'.cell? ⟨w12.heap.size, 0, none⟩ = some (.slice l7 (tkRun l a ps).1.1.length c7) ∧ w'.cell? ⟨w12.heap.size, 1, none⟩ = some (.slice a7 (tkRun l a ps).1.2.length d7) ∧ w'.cell? ⟨w13.heap.size, 0, none⟩ = some (.slice l8 (tkRun l a ps).1.1.length c8) ∧ w'.cell? ⟨w13.heap.size, 1, none⟩ = some (.slice a8 (tkRun l a ps).1.2.length d8)) (first | exact ⟨T_0, T_1, P_0, P_1, X_0, X_1, Y_0, Y_1⟩ | go_keep) ((first | (go_at_call 21; with_reducible refine (tcheck_any l a l0 a0 c0 d0 _ (k0.alloc _).drew (m0.alloc _).drew H_y9.out).mono ?_; rintro e w14 ⟨rfl, hc14⟩; (have hb14 : Below w.heap.size w w14 := bchain (by repeat' (first | with_reducible exact hb13 | with_reducible refine Below.drew ?_ | with_reducible refine below_drewN ?_ _ | with_reducible refine Below.alloc ?_ (by have := hb13.size; first | (simp; done) | (simp; omega) | omega) _ | with_reducible refine Below.setCell ?_ (by first | (simp; done) | (simp; omega) | omega) _)) hc14); (have hst14 : Below w13.heap.size w13 w14 := bchain (by repeat' (first | with_reducible exact Below.refl _ _ | with_reducible refine Below.drew ?_ | with_reducible refine below_drewN ?_ _ | with_reducible refine Below.alloc ?_ (by first | (simp; done) | (simp; omega) | omega) _ | with_reducible refine Below.setCell ?_ (by first | (simp; done) | (simp; omega) | omega) _)) hc14); (replace P_0 := cell_later hst14 P_0); (replace P_1 := cell_later hst14 P_1); (replace P_l := Nat.lt_of_lt_of_le P_l hst14.size); (replace T_0 := cell_later hst14 T_0); (replace T_1 := cell_later hst14 T_1); (replace T_l := Nat.lt_of_lt_of_le T_l hst14.size); (replace X_0 := cell_later hst14 X_0); (replace X_1 := cell_later hst14 X_1); (replace X_l := Nat.lt_of_lt_of_le X_l hst14.size); (have Y_0 : w14.cell? ⟨w13.heap.size, 0, none⟩ = some (.slice l8 (tkRun l a ps).1.1.length c8) := (hc14.cell (p := ⟨w13.heap.size, 0, none⟩) (by first | (simp; done) | (simp; omega))).trans (by first | (simp; done) | go_simp)); (have Y_1 : w14.cell? ⟨w13.heap.size, 1, none⟩ = some (.slice a8 (tkRun l a ps).1.2.length d8) := (hc14.cell (p := ⟨w13.heap.size, 1, none⟩) (by first | (simp; done) | (simp; omega))).trans (by first | (simp; done) | go_simp)); (have Y_l : w13.heap.size < w14.heap.size := Nat.lt_of_lt_of_le (by first | (simp; done) | (simp; omega)) hc14.size); (replace hl := hl.later hst14); (replace ha := ha.later hst14); (replace hp := hp.later hst14); (replace k0 := k0.later hst14); (replace m0 := m0.later hst14); (replace k7 := k7.later hst14); (replace m7 := m7.later hst14); (replace n7 := n7.later hst14); (replace k8 := k8.later hst14); (replace m8 := m8.later hst14); (replace n8 := n8.later hst14); clear hst14; clear hc14 hb13) | (go_at_call 22; with_reducible refine (rtcheck_any l a la aa lc ac _ hl ha H_y9.out).mono ?_; rintro e w15 ⟨rfl, hc15⟩; (have hb15 : Below w.heap.size w w15 := bchain (by repeat' (first | with_reducible exact hb14 | with_reducible refine Below.drew ?_ | with_reducible refine below_drewN ?_ _ | with_reducible refine Below.alloc ?_ (by have := hb14.size; first | (simp; done) | (simp; omega) | omega) _ | with_reducible refine Below.setCell ?_ (by first | (simp; done) | (simp; omega) | omega) _)) hc15); (have hst15 : Below w14.heap.size w14 w15 := bchain (by repeat' (first | with_reducible exact Below.refl _ _ | with_reducible refine Below.drew ?_ | with_reducible refine below_drewN ?_ _ | with_reducible refine Below.alloc ?_ (by first | (simp; done) | (simp; omega) | omega) _ | with_reducible refine Below.setCell ?_ (by first | (simp; done) | (simp; omega) | omega) _)) hc15); (replace P_0 := cell_later hst15 P_0); (replace P_1 := cell_later hst15 P_1); (replace P_l := Nat.lt_of_lt_of_le P_l hst15.size); (replace T_0 := cell_later hst15 T_0); (replace T_1 := cell_later hst15 T_1); (replace T_l := Nat.lt_of_lt_of_le T_l hst15.size); (replace X_0 := cell_later hst15 X_0); (replace X_1 := cell_later hst15 X_1); (replace X_l := Nat.lt_of_lt_of_le X_l hst15.size); (replace Y_0 := cell_later hst15 Y_0); (replace Y_1 := cell_later hst15 Y_1); (replace Y_l := Nat.lt_of_lt_of_le Y_l hst15.size); (replace hl := hl.later hst15); (replace ha := ha.later hst15); (replace hp := hp.later hst15); (replace k0 := k0.later hst15); (replace m0 := m0.later hst15); (replace k7 := k7.later hst15); (replace m7 := m7.later hst15); (replace n7 := n7.later hst15); (replace k8 := k8.later hst15); (replace m8 := m8.later hst15); (replace n8 := n8.later hst15); clear hst15; clear hc15 hb14) | (go_at_call 17; with_reducible refine (same_self _ _ l7 a7 l8 a8 c7 d7 c8 d8 _ k7 m7 k8 m8 H_y5.out H_y6.out).mono ?_; rintro e w16 ⟨rfl, hc16⟩; (have hb16 : Below w.heap.size w w16 := bchain (by repeat' (first | with_reducible exact hb15 | with_reducible refine Below.drew ?_ | with_reducible refine below_drewN ?_ _ | with_reducible refine Below.alloc ?_ (by have := hb15.size; first | (simp; done) | (simp; omega) | omega) _ | with_reducible refine Below.setCell ?_ (by first | (simp; done) | (simp; omega) | omega) _)) hc16); (have hst16 : Below w15.heap.size w15 w16 := bchain (by repeat' (first | with_reducible exact Below.refl _ _ | with_reducible refine Below.drew ?_ | with_reducible refine below_drewN ?_ _ | with_reducible refine Below.alloc ?_ (by first | (simp; done) | (simp; omega) | omega) _ | with_reducible refine Below.setCell ?_ (by first | (simp; done) | (simp; omega) | omega) _)) hc16); (replace P_0 := cell_later hst16 P_0); (replace P_1 := cell_later hst16 P_1); (replace P_l := Nat.lt_of_lt_of_le P_l hst16.size); (replace T_0 := cell_later hst16 T_0); (replace T_1 := cell_later hst16 T_1); (replace T_l := Nat.lt_of_lt_of_le T_l hst16.size); (replace X_0 := cell_later hst16 X_0); (replace X_1 := cell_later hst16 X_1); (replace X_l := Nat.lt_of_lt_of_le X_l hst16.size); (replace Y_0 := cell_later hst16 Y_0); (replace Y_1 := cell_later hst16 Y_1); (replace Y_l := Nat.lt_of_lt_of_le Y_l hst16.size); (replace hl := hl.later hst16); (replace ha := ha.later hst16); (replace hp := hp.later hst16); (replace k0 := k0.later hst16); (replace m0 := m0.later hst16); (replace k7 := k7.later hst16); (replace m7 := m7.later hst16); (replace n7 := n7.later hst16); (replace k8 := k8.later hst16); (replace m8 := m8.later hst16); (replace n8 := n8.later hst16); clear hst16; clear hc16 hb15) | (go_at_call 18; with_reducible refine (sameInts_self _ s7 s8 u7 u8 _ n7 n8 H_y7.out).mono ?_; rintro e w17 ⟨rfl, hc17⟩; (have hb17 : Below w.heap.size w w17 := bchain (by repeat' (first | with_reducible exact hb16 | with_reducible refine Below.drew ?_ | with_reducible refine below_drewN ?_ _ | with_reducible refine Below.alloc ?_ (by have := hb16.size; first | (simp; done) | (simp; omega) | omega) _ | with_reducible refine Below.setCell ?_ (by first | (simp; done) | (simp; omega) | omega) _)) hc17); (have hst17 : Below w16.heap.size w16 w17 := bchain (by repeat' (first | with_reducible exact Below.refl _ _ | with_reducible refine Below.drew ?_ | with_reducible refine below_drewN ?_ _ | with_reducible refine Below.alloc ?_ (by first | (simp; done) | (simp; omega) | omega) _ | with_reducible refine Below.setCell ?_ (by first | (simp; done) | (simp; omega) | omega) _)) hc17); (replace P_0 := cell_later hst17 P_0); (replace P_1 := cell_later hst17 P_1); (replace P_l := Nat.lt_of_lt_of_le P_l hst17.size); (replace T_0 := cell_later hst17 T_0); (replace T_1 := cell_later hst17 T_1); (replace T_l := Nat.lt_of_lt_of_le T_l hst17.size); (replace X_0 := cell_later hst17 X_0); (replace X_1 := cell_later hst17 X_1); (replace X_l := Nat.lt_of_lt_of_le X_l hst17.size); (replace Y_0 := cell_later hst17 Y_0); (replace Y_1 := cell_later hst17 Y_1); (replace Y_l := Nat.lt_of_lt_of_le Y_l hst17.size); (replace hl := hl.later hst17); (replace ha := ha.later hst17); (replace hp := hp.later hst17); (replace k0 := k0.later hst17); (replace m0 := m0.later hst17); (replace k7 := k7.later hst17); (replace m7 := m7.later hst17); (replace n7 := n7.later hst17); (replace k8 := k8.later hst17); (replace m8 := m8.later hst17); (replace n8 := n8.later hst17); clear hst17; clear hc17 hb16) | (go_at_call 17; with_reducible refine (same_self _ _ l0 a0 la aa c0 d0 lc ac _ k0 m0 hl ha H_y9.out H_y10.out).mono ?_; rintro e w18 ⟨rfl, hc18⟩; (have hb18 : Below w.heap.size w w18 := bchain (by repeat' (first | with_reducible exact hb17 | with_reducible refine Below.drew ?_ | with_reducible refine below_drewN ?_ _ | with_reducible refine Below.alloc ?_ (by have := hb17.size; first | (simp; done) | (simp; omega) | omega) _ | with_reducible refine Below.setCell ?_ (by first | (simp; done) | (simp; omega) | omega) _)) hc18); (have hst18 : Below w17.heap.size w17 w18 := bchain (by repeat' (first | with_reducible exact Below.refl _ _ | with_reducible refine Below.drew ?_ | with_reducible refine below_drewN ?_ _ | with_reducible refine Below.alloc ?_ (by first | (simp; done) | (simp; omega) | omega) _ | with_reducible refine Below.setCell ?_ (by first | (simp; done) | (simp; omega) | omega) _)) hc18); (replace P_0 := cell_later hst18 P_0); (replace P_1 := cell_later hst18 P_1); (replace P_l := Nat.lt_of_lt_of_le P_l hst18.size); (replace T_0 := cell_later hst18 T_0); (replace T_1 := cell_later hst18 T_1); (replace T_l := Nat.lt_of_lt_of_le T_l hst18.size); (replace X_0 := cell_later hst18 X_0); (replace X_1 := cell_later hst18 X_1); (replace X_l := Nat.lt_of_lt_of_le X_l hst18.size); (replace Y_0 := cell_later hst18 Y_0); (replace Y_1 := cell_later hst18 Y_1); (replace Y_l := Nat.lt_of_lt_of_le Y_l hst18.size); (replace hl := hl.later hst18); (replace ha := ha.later hst18); (replace hp := hp.later hst18); (replace k0 := k0.later hst18); (replace m0 := m0.later hst18); (replace k7 := k7.later hst18); (replace m7 := m7.later hst18); (replace n7 := n7.later hst18); (replace k8 := k8.later hst18); (replace m8 := m8.later hst18); (replace n8 := n8.later hst18); clear hst18; clear hc18 hb17)))
  go_wp2_with fail
  go_ret
  exact ⟨rfl, by repeat' (first | with_reducible exact hb18 | with_reducible refine Below.drew ?_ | with_reducible refine below_drewN ?_ _ | with_reducible refine Below.alloc ?_ (by have := hb18.size; first | (simp; done) | (simp; omega) | omega) _ | with_reducible refine Below.setCell ?_ (by first | (simp; done) | (simp; omega) | omega) _)⟩

theorem runs_full (l a : List Int) (la aa : Option Addr) (lc ac : Nat) (pa : Option Addr) (pc : Nat) (ps : List Int) (i : Int) (w : World) (h0 : TkIn w l a la aa lc ac) (h1 : RowIn w pa pc ps) (h2 : (Lit.int .i64 i).wf = true) :
    Calls Try.prog 3 #[.agg #[.slice la l.length lc, .slice aa a.length ac], .slice pa ps.length pc, .int .i64 i] w fun e w' =>
      e = .returned (.bool true) ∧ Below w.heap.size w w' :=
  runs_walk l a ps i la aa pa lc ac pc w h0.left.cells h0.aft.cells h1.cells

end Go.Proofs.Ytoelndaeemlefaa
