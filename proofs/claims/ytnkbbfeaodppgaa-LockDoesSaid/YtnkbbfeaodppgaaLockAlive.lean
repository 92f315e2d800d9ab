/- The chapter's examples on locks. -/
import Derived.Test.YtnkbbfeaodppgaaLockRChk
namespace Go.Proofs.Ytnkbbfeaodppgaa
set_option linter.unusedSimpArgs false
set_option linter.unusedVariables false
set_option linter.unnecessarySimpa false
open Go.RowKit

theorem cellsAt_lit (w : World) (xs : List Value) (t : TypeId) : CellsAt (w.alloc (.cells xs.toArray t)) (some ⟨w.heap.size, 0, none⟩) xs := (Blk.new w _ xs t rfl).cellsAt
/-- Ask, its results named. -/
theorem ask_r (W t : Int) (b : Bool) (rs : List Int) (q : Waits) (W' : Int) (rs' : List Int) (q' : Waits) (got : Bool) (er : Int) (ra qa : Option Addr) (rn rc qn qc m1 m2 : Nat) (w : World) (h : LockIn w rs q ra qa rn qn) (hmx : rn + qn ≤ 999999) (hr : askZ W rs q t b = ((W', rs', q'), got, er)) (h1 : m1 = rs'.length) (h2 : m2 = q'.length) :
    Calls Try.prog 15 #[.agg #[.int .i64 W, .slice ra rn rc, .slice qa qn qc], .int .i64 t, .bool b] w fun e w' =>
      ∃ a1 c1 a2 c2, e = .returned (.tuple #[.agg #[.int .i64 W', .slice a1 m1 c1, .slice a2 m2 c2], .bool got, .int .i64 er]) ∧ LockIn w' rs' q' a1 a2 m1 m2 ∧ Below w.heap.size w w' := by
  refine (Ask_any W t b rs q ra qa rn rc qn qc w h hmx).mono ?_
  rintro e w' ⟨a1, n1, c1, a2, n2, c2, rfl, hl, hb⟩
  rw [hr] at hl ⊢
  have e1 := hl.l.rlen
  have e2 := hl.l.qlen
  simp only at e1 e2
  rw [← h1] at e1; rw [← h2] at e2
  subst e1 e2
  exact ⟨a1, c1, a2, c2, rfl, hl.l, hb⟩
theorem out_r {N : Nat} {w : World} {z : LkP × List Int × Int} {W' er : Int} {rs' ts : List Int} {q' : Waits} {a1 a2 a3 : Option Addr} {n1 n2 n3 m1 m2 m3 : Nat} (h : FreeOut N w z a1 n1 a2 n2 a3 n3) (hr : z = ((W', rs', q'), ts, er)) (h1 : m1 = rs'.length) (h2 : m2 = q'.length) (h3 : m3 = ts.length) : n1 = m1 ∧ n2 = m2 ∧ n3 = m3 ∧ LockIn w rs' q' a1 a2 m1 m2 ∧ CellsAt w a3 (ts.map (Value.int .i64)) := by
  subst hr
  have e1 := h.l.l.rlen
  have e2 := h.l.l.qlen
  have e3 := h.olen
  simp only at e1 e2 e3
  rw [← h1] at e1; rw [← h2] at e2; rw [← h3] at e3
  subst e1 e2 e3
  exact ⟨rfl, rfl, rfl, h.l.l, h.out⟩
theorem free_r (W t : Int) (rs : List Int) (q : Waits) (W' : Int) (rs' : List Int) (q' : Waits) (ts : List Int) (er : Int) (ra qa : Option Addr) (rn rc qn qc m1 m2 m3 : Nat) (w : World) (h : LockIn w rs q ra qa rn qn) (hmx : rn + qn ≤ 999999) (hr : freeZ W rs q t = ((W', rs', q'), ts, er)) (h1 : m1 = rs'.length) (h2 : m2 = q'.length) (h3 : m3 = ts.length) :
    Calls Try.prog 12 #[.agg #[.int .i64 W, .slice ra rn rc, .slice qa qn qc], .int .i64 t] w fun e w' =>
      ∃ a1 c1 a2 c2 a3 c3, e = .returned (.tuple #[.agg #[.int .i64 W', .slice a1 m1 c1, .slice a2 m2 c2], .slice a3 m3 c3, .int .i64 er]) ∧ LockIn w' rs' q' a1 a2 m1 m2 ∧ CellsAt w' a3 (ts.map (Value.int .i64)) ∧ Below w.heap.size w w' := by
  refine (Free_any W t rs q ra qa rn rc qn qc w h hmx).mono ?_
  rintro e w' ⟨a1, n1, c1, a2, n2, c2, a3, n3, c3, rfl, hl, hb⟩
  obtain ⟨rfl, rfl, rfl, k1, k2⟩ := out_r hl hr h1 h2 h3
  rw [hr]
  exact ⟨a1, c1, a2, c2, a3, c3, rfl, k1, k2, hb⟩
theorem leave_r (W t : Int) (rs : List Int) (q : Waits) (W' : Int) (rs' : List Int) (q' : Waits) (ts : List Int) (er : Int) (ra qa : Option Addr) (rn rc qn qc m1 m2 m3 : Nat) (w : World) (h : LockIn w rs q ra qa rn qn) (hmx : rn + qn ≤ 999999) (hr : leaveZ W rs q t = ((W', rs', q'), ts, er)) (h1 : m1 = rs'.length) (h2 : m2 = q'.length) (h3 : m3 = ts.length) :
    Calls Try.prog 17 #[.agg #[.int .i64 W, .slice ra rn rc, .slice qa qn qc], .int .i64 t] w fun e w' =>
      ∃ a1 c1 a2 c2 a3 c3, e = .returned (.tuple #[.agg #[.int .i64 W', .slice a1 m1 c1, .slice a2 m2 c2], .slice a3 m3 c3, .int .i64 er]) ∧ LockIn w' rs' q' a1 a2 m1 m2 ∧ CellsAt w' a3 (ts.map (Value.int .i64)) ∧ Below w.heap.size w w' := by
  refine (Leave_any W t rs q ra qa rn rc qn qc w h hmx).mono ?_
  rintro e w' ⟨a1, n1, c1, a2, n2, c2, a3, n3, c3, rfl, hl, hb⟩
  obtain ⟨rfl, rfl, rfl, k1, k2⟩ := out_r hl hr h1 h2 h3
  rw [hr]
  exact ⟨a1, c1, a2, c2, a3, c3, rfl, k1, k2, hb⟩
theorem LockIn.empty (w : World) : LockIn w [] [] none none 0 0 := ⟨rfl, rfl, .inl rfl, .inl rfl, by omega, by omega⟩

theorem ex1 : askZ (-1) [] [] 1 false = ((-1, [1], []), true, 0) := by decide +kernel
theorem ex2 : askZ (-1) [1] [] 2 false = ((-1, [1, 2], []), true, 0) := by decide +kernel
theorem ex3 : askZ (-1) [1, 2] [] 3 true = ((-1, [1, 2], [(3, true)]), false, 0) := by decide +kernel
theorem ex4 : askZ (-1) [1, 2] [(3, true)] 4 false = ((-1, [1, 2], [(3, true), (4, false)]), false, 0) := by decide +kernel
theorem ex5 : freeZ (-1) [1, 2] [(3, true), (4, false)] 1 = ((-1, [2], [(3, true), (4, false)]), [], 0) := by decide +kernel
theorem ex6 : freeZ (-1) [2] [(3, true), (4, false)] 2 = ((3, [], [(4, false)]), [3], 0) := by decide +kernel
theorem ex7 : freeZ 3 [] [(4, false)] 3 = ((-1, [4], []), [4], 0) := by decide +kernel
theorem ex8 : leaveZ (-1) [1, 2] [(3, true), (4, false)] 3 = ((-1, [1, 2, 4], []), [4], 0) := by decide +kernel

set_option maxRecDepth 100000 in
set_option maxHeartbeats 4000000 in
theorem alive_any (w : World) :
    Calls Try.prog 8 #[] w fun e w' =>
      e = .returned (.bool true) ∧ Below w.heap.size w w' := by
  go_enter Try.func8, Try.ntmps8
  have hb0 := Below.refl w.heap.size w
  go_wp2_with fail
  with_reducible refine (New_any _).mono ?_
  rintro e w1 ⟨rfl, hc1⟩
  have hb1 : Below w.heap.size w w1 := bchain (by repeat' (first | with_reducible exact hb0 | with_reducible refine Below.drew ?_ | with_reducible refine below_drewN ?_ _ | with_reducible refine Below.alloc ?_ (by have := hb0.size; first | (simp; done) | (simp; omega) | omega) _ | with_reducible refine Below.setCell ?_ (by first | (simp; done) | (simp; omega) | omega) _)) hc1
  clear hc1 hb0
  go_wp2_with fail
  with_reducible refine (ask_r (-1) 1 false [] [] (-1) [1] [] true 0 none none 0 0 0 0 1 0 _ (.empty _) (by omega) ex1 rfl rfl).mono ?_
  rintro e w2 ⟨a1, c1, a2, c2, rfl, l1, hc2⟩
  have hb2 : Below w.heap.size w w2 := bchain (by repeat' (first | with_reducible exact hb1 | with_reducible refine Below.drew ?_ | with_reducible refine below_drewN ?_ _ | with_reducible refine Below.alloc ?_ (by have := hb1.size; first | (simp; done) | (simp; omega) | omega) _ | with_reducible refine Below.setCell ?_ (by first | (simp; done) | (simp; omega) | omega) _)) hc2
  clear hc2 hb1
  go_wp2_with fail
  with_reducible refine (ask_r (-1) 2 false [1] [] (-1) [1, 2] [] true 0 a1 a2 1 c1 0 c2 2 0 _ (l1.later (below_alloc _ _)) (by omega) ex2 rfl rfl).mono ?_
  rintro e w3 ⟨b1, d1, b2, d2, rfl, l2, hc3⟩
  have hb3 : Below w.heap.size w w3 := bchain (by repeat' (first | with_reducible exact hb2 | with_reducible refine Below.drew ?_ | with_reducible refine below_drewN ?_ _ | with_reducible refine Below.alloc ?_ (by have := hb2.size; first | (simp; done) | (simp; omega) | omega) _ | with_reducible refine Below.setCell ?_ (by first | (simp; done) | (simp; omega) | omega) _)) hc3
  have L1_0 : w3.cell? ⟨w2.heap.size, 0, none⟩ = some (.int .i64 (-1)) := (hc3.cell (p := ⟨w2.heap.size, 0, none⟩) (by first | (simp; done) | (simp; omega))).trans (by first | (simp; done) | go_simp)
  have L1_1 : w3.cell? ⟨w2.heap.size, 1, none⟩ = some (.slice a1 1 c1) := (hc3.cell (p := ⟨w2.heap.size, 1, none⟩) (by first | (simp; done) | (simp; omega))).trans (by first | (simp; done) | go_simp)
  have L1_2 : w3.cell? ⟨w2.heap.size, 2, none⟩ = some (.slice a2 0 c2) := (hc3.cell (p := ⟨w2.heap.size, 2, none⟩) (by first | (simp; done) | (simp; omega))).trans (by first | (simp; done) | go_simp)
  have L1_l : w2.heap.size < w3.heap.size := Nat.lt_of_lt_of_le (by first | (simp; done) | (simp; omega)) hc3.size
  clear hc3 hb2
  go_wp2_with fail
  with_reducible refine (ask_r (-1) 3 true [1, 2] [] (-1) [1, 2] [(3, true)] false 0 b1 b2 2 d1 0 d2 2 1 _ (l2.later (below_alloc _ _)) (by omega) ex3 rfl rfl).mono ?_
  rintro e w4 ⟨e1, f1, e2, f2, rfl, l3, hc4⟩
  have hb4 : Below w.heap.size w w4 := bchain (by repeat' (first | with_reducible exact hb3 | with_reducible refine Below.drew ?_ | with_reducible refine below_drewN ?_ _ | with_reducible refine Below.alloc ?_ (by have := hb3.size; first | (simp; done) | (simp; omega) | omega) _ | with_reducible refine Below.setCell ?_ (by first | (simp; done) | (simp; omega) | omega) _)) hc4
  have hst4 : Below w3.heap.size w3 w4 := bchain (by repeat' (first | with_reducible exact Below.refl _ _ | with_reducible refine Below.drew ?_ | with_reducible refine below_drewN ?_ _ | with_reducible refine Below.alloc ?_ (by first | (simp; done) | (simp; omega) | omega) _ | with_reducible refine Below.setCell ?_ (by first | (simp; done) | (simp; omega) | omega) _)) hc4
  replace L1_0 := cell_later hst4 L1_0
  replace L1_1 := cell_later hst4 L1_1
  replace L1_2 := cell_later hst4 L1_2
  replace L1_l := Nat.lt_of_lt_of_le L1_l hst4.size
  have L2_0 : w4.cell? ⟨w3.heap.size, 0, none⟩ = some (.int .i64 (-1)) := (hc4.cell (p := ⟨w3.heap.size, 0, none⟩) (by first | (simp; done) | (simp; omega))).trans (by first | (simp; done) | go_simp)
  have L2_1 : w4.cell? ⟨w3.heap.size, 1, none⟩ = some (.slice b1 2 d1) := (hc4.cell (p := ⟨w3.heap.size, 1, none⟩) (by first | (simp; done) | (simp; omega))).trans (by first | (simp; done) | go_simp)
  have L2_2 : w4.cell? ⟨w3.heap.size, 2, none⟩ = some (.slice b2 0 d2) := (hc4.cell (p := ⟨w3.heap.size, 2, none⟩) (by first | (simp; done) | (simp; omega))).trans (by first | (simp; done) | go_simp)
  have L2_l : w3.heap.size < w4.heap.size := Nat.lt_of_lt_of_le (by first | (simp; done) | (simp; omega)) hc4.size
  clear hst4
  clear hc4 hb3
  go_wp2_with fail
  with_reducible refine (ask_r (-1) 4 false [1, 2] [(3, true)] (-1) [1, 2] [(3, true), (4, false)] false 0 e1 e2 2 f1 1 f2 2 2 _ (l3.later (below_alloc _ _)) (by omega) ex4 rfl rfl).mono ?_
  rintro e w5 ⟨g1, h1, g2, h2, rfl, l4, hc5⟩
  have hb5 : Below w.heap.size w w5 := bchain (by repeat' (first | with_reducible exact hb4 | with_reducible refine Below.drew ?_ | with_reducible refine below_drewN ?_ _ | with_reducible refine Below.alloc ?_ (by have := hb4.size; first | (simp; done) | (simp; omega) | omega) _ | with_reducible refine Below.setCell ?_ (by first | (simp; done) | (simp; omega) | omega) _)) hc5
  have hst5 : Below w4.heap.size w4 w5 := bchain (by repeat' (first | with_reducible exact Below.refl _ _ | with_reducible refine Below.drew ?_ | with_reducible refine below_drewN ?_ _ | with_reducible refine Below.alloc ?_ (by first | (simp; done) | (simp; omega) | omega) _ | with_reducible refine Below.setCell ?_ (by first | (simp; done) | (simp; omega) | omega) _)) hc5
  replace L1_0 := cell_later hst5 L1_0
  replace L1_1 := cell_later hst5 L1_1
  replace L1_2 := cell_later hst5 L1_2
  replace L1_l := Nat.lt_of_lt_of_le L1_l hst5.size
  replace L2_0 := cell_later hst5 L2_0
  replace L2_1 := cell_later hst5 L2_1
  replace L2_2 := cell_later hst5 L2_2
  replace L2_l := Nat.lt_of_lt_of_le L2_l hst5.size
  have L3_0 : w5.cell? ⟨w4.heap.size, 0, none⟩ = some (.int .i64 (-1)) := (hc5.cell (p := ⟨w4.heap.size, 0, none⟩) (by first | (simp; done) | (simp; omega))).trans (by first | (simp; done) | go_simp)
  have L3_1 : w5.cell? ⟨w4.heap.size, 1, none⟩ = some (.slice e1 2 f1) := (hc5.cell (p := ⟨w4.heap.size, 1, none⟩) (by first | (simp; done) | (simp; omega))).trans (by first | (simp; done) | go_simp)
  have L3_2 : w5.cell? ⟨w4.heap.size, 2, none⟩ = some (.slice e2 1 f2) := (hc5.cell (p := ⟨w4.heap.size, 2, none⟩) (by first | (simp; done) | (simp; omega))).trans (by first | (simp; done) | go_simp)
  have L3_l : w4.heap.size < w5.heap.size := Nat.lt_of_lt_of_le (by first | (simp; done) | (simp; omega)) hc5.size
  clear hst5
  clear hc5 hb4
  go_wp2_with fail
  with_reducible refine (free_r (-1) 1 [1, 2] [(3, true), (4, false)] (-1) [2] [(3, true), (4, false)] [] 0 g1 g2 2 h1 2 h2 1 2 0 _ (l4.later (below_alloc _ _)) (by omega) ex5 rfl rfl rfl).mono ?_
  rintro e w6 ⟨i1, j1, i2, j2, i3, j3, rfl, l5, k5, hc6⟩
  have hb6 : Below w.heap.size w w6 := bchain (by repeat' (first | with_reducible exact hb5 | with_reducible refine Below.drew ?_ | with_reducible refine below_drewN ?_ _ | with_reducible refine Below.alloc ?_ (by have := hb5.size; first | (simp; done) | (simp; omega) | omega) _ | with_reducible refine Below.setCell ?_ (by first | (simp; done) | (simp; omega) | omega) _)) hc6
  have hst6 : Below w5.heap.size w5 w6 := bchain (by repeat' (first | with_reducible exact Below.refl _ _ | with_reducible refine Below.drew ?_ | with_reducible refine below_drewN ?_ _ | with_reducible refine Below.alloc ?_ (by first | (simp; done) | (simp; omega) | omega) _ | with_reducible refine Below.setCell ?_ (by first | (simp; done) | (simp; omega) | omega) _)) hc6
  replace L1_0 := cell_later hst6 L1_0
  replace L1_1 := cell_later hst6 L1_1
  replace L1_2 := cell_later hst6 L1_2
  replace L1_l := Nat.lt_of_lt_of_le L1_l hst6.size
  replace L2_0 := cell_later hst6 L2_0
  replace L2_1 := cell_later hst6 L2_1
  replace L2_2 := cell_later hst6 L2_2
  replace L2_l := Nat.lt_of_lt_of_le L2_l hst6.size
  replace L3_0 := cell_later hst6 L3_0
  replace L3_1 := cell_later hst6 L3_1
  replace L3_2 := cell_later hst6 L3_2
  replace L3_l := Nat.lt_of_lt_of_le L3_l hst6.size
  have L4_0 : w6.cell? ⟨w5.heap.size, 0, none⟩ = some (.int .i64 (-1)) := (hc6.cell (p := ⟨w5.heap.size, 0, none⟩) (by first | (simp; done) | (simp; omega))).trans (by first | (simp; done) | go_simp)
  have L4_1 : w6.cell? ⟨w5.heap.size, 1, none⟩ = some (.slice g1 2 h1) := (hc6.cell (p := ⟨w5.heap.size, 1, none⟩) (by first | (simp; done) | (simp; omega))).trans (by first | (simp; done) | go_simp)
  have L4_2 : w6.cell? ⟨w5.heap.size, 2, none⟩ = some (.slice g2 2 h2) := (hc6.cell (p := ⟨w5.heap.size, 2, none⟩) (by first | (simp; done) | (simp; omega))).trans (by first | (simp; done) | go_simp)
  have L4_l : w5.heap.size < w6.heap.size := Nat.lt_of_lt_of_le (by first | (simp; done) | (simp; omega)) hc6.size
  replace l4 := l4.later hst6
  clear hst6
  clear hc6 hb5
  clear k5
  go_wp2_with fail
  with_reducible refine (free_r (-1) 2 [2] [(3, true), (4, false)] 3 [] [(4, false)] [3] 0 i1 i2 1 j1 2 j2 0 1 1 _ (l5.later (below_alloc _ _)) (by omega) ex6 rfl rfl rfl).mono ?_
  rintro e w7 ⟨m1, n1, m2, n2, m3, n3, rfl, l6, k6, hc7⟩
  have hb7 : Below w.heap.size w w7 := bchain (by repeat' (first | with_reducible exact hb6 | with_reducible refine Below.drew ?_ | with_reducible refine below_drewN ?_ _ | with_reducible refine Below.alloc ?_ (by have := hb6.size; first | (simp; done) | (simp; omega) | omega) _ | with_reducible refine Below.setCell ?_ (by first | (simp; done) | (simp; omega) | omega) _)) hc7
  have hst7 : Below w6.heap.size w6 w7 := bchain (by repeat' (first | with_reducible exact Below.refl _ _ | with_reducible refine Below.drew ?_ | with_reducible refine below_drewN ?_ _ | with_reducible refine Below.alloc ?_ (by first | (simp; done) | (simp; omega) | omega) _ | with_reducible refine Below.setCell ?_ (by first | (simp; done) | (simp; omega) | omega) _)) hc7
  replace L1_0 := cell_later hst7 L1_0
  replace L1_1 := cell_later hst7 L1_1
  replace L1_2 := cell_later hst7 L1_2
  replace L1_l := Nat.lt_of_lt_of_le L1_l hst7.size
  replace L2_0 := cell_later hst7 L2_0
  replace L2_1 := cell_later hst7 L2_1
  replace L2_2 := cell_later hst7 L2_2
  replace L2_l := Nat.lt_of_lt_of_le L2_l hst7.size
  replace L3_0 := cell_later hst7 L3_0
  replace L3_1 := cell_later hst7 L3_1
  replace L3_2 := cell_later hst7 L3_2
  replace L3_l := Nat.lt_of_lt_of_le L3_l hst7.size
  replace L4_0 := cell_later hst7 L4_0
  replace L4_1 := cell_later hst7 L4_1
  replace L4_2 := cell_later hst7 L4_2
  replace L4_l := Nat.lt_of_lt_of_le L4_l hst7.size
  have L5_0 : w7.cell? ⟨w6.heap.size, 0, none⟩ = some (.int .i64 (-1)) := (hc7.cell (p := ⟨w6.heap.size, 0, none⟩) (by first | (simp; done) | (simp; omega))).trans (by first | (simp; done) | go_simp)
  have L5_1 : w7.cell? ⟨w6.heap.size, 1, none⟩ = some (.slice i1 1 j1) := (hc7.cell (p := ⟨w6.heap.size, 1, none⟩) (by first | (simp; done) | (simp; omega))).trans (by first | (simp; done) | go_simp)
  have L5_2 : w7.cell? ⟨w6.heap.size, 2, none⟩ = some (.slice i2 2 j2) := (hc7.cell (p := ⟨w6.heap.size, 2, none⟩) (by first | (simp; done) | (simp; omega))).trans (by first | (simp; done) | go_simp)
  have L5_l : w6.heap.size < w7.heap.size := Nat.lt_of_lt_of_le (by first | (simp; done) | (simp; omega)) hc7.size
  replace l4 := l4.later hst7
  clear hst7
  clear hc7 hb6
  go_wp2_with fail
  with_reducible refine (free_r 3 3 [] [(4, false)] (-1) [4] [] [4] 0 m1 m2 0 n1 1 n2 1 0 1 _ (l6.later (below_alloc _ _)) (by omega) ex7 rfl rfl rfl).mono ?_
  rintro e w8 ⟨p1, q1, p2, q2, p3, q3, rfl, l7, k7, hc8⟩
  have hb8 : Below w.heap.size w w8 := bchain (by repeat' (first | with_reducible exact hb7 | with_reducible refine Below.drew ?_ | with_reducible refine below_drewN ?_ _ | with_reducible refine Below.alloc ?_ (by have := hb7.size; first | (simp; done) | (simp; omega) | omega) _ | with_reducible refine Below.setCell ?_ (by first | (simp; done) | (simp; omega) | omega) _)) hc8
  have hst8 : Below w7.heap.size w7 w8 := bchain (by repeat' (first | with_reducible exact Below.refl _ _ | with_reducible refine Below.drew ?_ | with_reducible refine below_drewN ?_ _ | with_reducible refine Below.alloc ?_ (by first | (simp; done) | (simp; omega) | omega) _ | with_reducible refine Below.setCell ?_ (by first | (simp; done) | (simp; omega) | omega) _)) hc8
  replace L1_0 := cell_later hst8 L1_0
  replace L1_1 := cell_later hst8 L1_1
  replace L1_2 := cell_later hst8 L1_2
  replace L1_l := Nat.lt_of_lt_of_le L1_l hst8.size
  replace L2_0 := cell_later hst8 L2_0
  replace L2_1 := cell_later hst8 L2_1
  replace L2_2 := cell_later hst8 L2_2
  replace L2_l := Nat.lt_of_lt_of_le L2_l hst8.size
  replace L3_0 := cell_later hst8 L3_0
  replace L3_1 := cell_later hst8 L3_1
  replace L3_2 := cell_later hst8 L3_2
  replace L3_l := Nat.lt_of_lt_of_le L3_l hst8.size
  replace L4_0 := cell_later hst8 L4_0
  replace L4_1 := cell_later hst8 L4_1
  replace L4_2 := cell_later hst8 L4_2
  replace L4_l := Nat.lt_of_lt_of_le L4_l hst8.size
  replace L5_0 := cell_later hst8 L5_0
  replace L5_1 := cell_later hst8 L5_1
  replace L5_2 := cell_later hst8 L5_2
  replace L5_l := Nat.lt_of_lt_of_le L5_l hst8.size
  have L6_0 : w8.cell? ⟨w7.heap.size, 0, none⟩ = some (.int .i64 3) := (hc8.cell (p := ⟨w7.heap.size, 0, none⟩) (by first | (simp; done) | (simp; omega))).trans (by first | (simp; done) | go_simp)
  have L6_1 : w8.cell? ⟨w7.heap.size, 1, none⟩ = some (.slice m1 0 n1) := (hc8.cell (p := ⟨w7.heap.size, 1, none⟩) (by first | (simp; done) | (simp; omega))).trans (by first | (simp; done) | go_simp)
  have L6_2 : w8.cell? ⟨w7.heap.size, 2, none⟩ = some (.slice m2 1 n2) := (hc8.cell (p := ⟨w7.heap.size, 2, none⟩) (by first | (simp; done) | (simp; omega))).trans (by first | (simp; done) | go_simp)
  have L6_l : w7.heap.size < w8.heap.size := Nat.lt_of_lt_of_le (by first | (simp; done) | (simp; omega)) hc8.size
  replace l4 := l4.later hst8
  replace k6 := k6.later hst8
  clear hst8
  clear hc8 hb7
  go_wp2_with fail
  with_reducible refine (leave_r (-1) 3 [1, 2] [(3, true), (4, false)] (-1) [1, 2, 4] [] [4] 0 g1 g2 2 h1 2 h2 3 0 1 _ (l4.later (below_alloc _ _)) (by omega) ex8 rfl rfl rfl).mono ?_
  rintro e w9 ⟨r1, s1, r2, s2, r3, s3, rfl, l8, k8, hc9⟩
  have hb9 : Below w.heap.size w w9 := bchain (by repeat' (first | with_reducible exact hb8 | with_reducible refine Below.drew ?_ | with_reducible refine below_drewN ?_ _ | with_reducible refine Below.alloc ?_ (by have := hb8.size; first | (simp; done) | (simp; omega) | omega) _ | with_reducible refine Below.setCell ?_ (by first | (simp; done) | (simp; omega) | omega) _)) hc9
  have hst9 : Below w8.heap.size w8 w9 := bchain (by repeat' (first | with_reducible exact Below.refl _ _ | with_reducible refine Below.drew ?_ | with_reducible refine below_drewN ?_ _ | with_reducible refine Below.alloc ?_ (by first | (simp; done) | (simp; omega) | omega) _ | with_reducible refine Below.setCell ?_ (by first | (simp; done) | (simp; omega) | omega) _)) hc9
  replace L1_0 := cell_later hst9 L1_0
  replace L1_1 := cell_later hst9 L1_1
  replace L1_2 := cell_later hst9 L1_2
  replace L1_l := Nat.lt_of_lt_of_le L1_l hst9.size
  replace L2_0 := cell_later hst9 L2_0
  replace L2_1 := cell_later hst9 L2_1
  replace L2_2 := cell_later hst9 L2_2
  replace L2_l := Nat.lt_of_lt_of_le L2_l hst9.size
  replace L3_0 := cell_later hst9 L3_0
  replace L3_1 := cell_later hst9 L3_1
  replace L3_2 := cell_later hst9 L3_2
  replace L3_l := Nat.lt_of_lt_of_le L3_l hst9.size
  replace L4_0 := cell_later hst9 L4_0
  replace L4_1 := cell_later hst9 L4_1
  replace L4_2 := cell_later hst9 L4_2
  replace L4_l := Nat.lt_of_lt_of_le L4_l hst9.size
  replace L5_0 := cell_later hst9 L5_0
  replace L5_1 := cell_later hst9 L5_1
  replace L5_2 := cell_later hst9 L5_2
  replace L5_l := Nat.lt_of_lt_of_le L5_l hst9.size
  replace L6_0 := cell_later hst9 L6_0
  replace L6_1 := cell_later hst9 L6_1
  replace L6_2 := cell_later hst9 L6_2
  replace L6_l := Nat.lt_of_lt_of_le L6_l hst9.size
  replace l4 := l4.later hst9
  replace k6 := k6.later hst9
  replace k7 := k7.later hst9
  clear hst9
  clear hc9 hb8
  go_wp2_with fail
  with_reducible refine (sameInts_self [3] m3 (some ⟨w9.heap.size + 1, 0, none⟩) 1 n3 1 _ rfl (by omega) ((k6.alloc _).alloc _) (by have := cellsAt_lit (w9.alloc (.cells #[.int .i64 (-1), .slice r1 3 s1, .slice r2 0 s2] 25)) [.int .i64 3] 3; simpa using this)).mono ?_
  rintro e w10 ⟨rfl, hc10⟩
  have hb10 : Below w.heap.size w w10 := bchain (by repeat' (first | with_reducible exact hb9 | with_reducible refine Below.drew ?_ | with_reducible refine below_drewN ?_ _ | with_reducible refine Below.alloc ?_ (by have := hb9.size; first | (simp; done) | (simp; omega) | omega) _ | with_reducible refine Below.setCell ?_ (by first | (simp; done) | (simp; omega) | omega) _)) hc10
  have hst10 : Below w9.heap.size w9 w10 := bchain (by repeat' (first | with_reducible exact Below.refl _ _ | with_reducible refine Below.drew ?_ | with_reducible refine below_drewN ?_ _ | with_reducible refine Below.alloc ?_ (by first | (simp; done) | (simp; omega) | omega) _ | with_reducible refine Below.setCell ?_ (by first | (simp; done) | (simp; omega) | omega) _)) hc10
  replace L1_0 := cell_later hst10 L1_0
  replace L1_1 := cell_later hst10 L1_1
  replace L1_2 := cell_later hst10 L1_2
  replace L1_l := Nat.lt_of_lt_of_le L1_l hst10.size
  replace L2_0 := cell_later hst10 L2_0
  replace L2_1 := cell_later hst10 L2_1
  replace L2_2 := cell_later hst10 L2_2
  replace L2_l := Nat.lt_of_lt_of_le L2_l hst10.size
  replace L3_0 := cell_later hst10 L3_0
  replace L3_1 := cell_later hst10 L3_1
  replace L3_2 := cell_later hst10 L3_2
  replace L3_l := Nat.lt_of_lt_of_le L3_l hst10.size
  replace L4_0 := cell_later hst10 L4_0
  replace L4_1 := cell_later hst10 L4_1
  replace L4_2 := cell_later hst10 L4_2
  replace L4_l := Nat.lt_of_lt_of_le L4_l hst10.size
  replace L5_0 := cell_later hst10 L5_0
  replace L5_1 := cell_later hst10 L5_1
  replace L5_2 := cell_later hst10 L5_2
  replace L5_l := Nat.lt_of_lt_of_le L5_l hst10.size
  replace L6_0 := cell_later hst10 L6_0
  replace L6_1 := cell_later hst10 L6_1
  replace L6_2 := cell_later hst10 L6_2
  replace L6_l := Nat.lt_of_lt_of_le L6_l hst10.size
  replace l4 := l4.later hst10
  replace k6 := k6.later hst10
  replace k7 := k7.later hst10
  replace k8 := k8.later hst10
  clear hst10
  clear hc10 hb9
  go_wp2_with fail
  with_reducible refine (sameInts_self [4] p3 (some ⟨w10.heap.size, 0, none⟩) 1 q3 1 _ rfl (by omega) (k7.alloc _) (cellsAt_lit w10 [.int .i64 4] 3)).mono ?_
  rintro e w11 ⟨rfl, hc11⟩
  have hb11 : Below w.heap.size w w11 := bchain (by repeat' (first | with_reducible exact hb10 | with_reducible refine Below.drew ?_ | with_reducible refine below_drewN ?_ _ | with_reducible refine Below.alloc ?_ (by have := hb10.size; first | (simp; done) | (simp; omega) | omega) _ | with_reducible refine Below.setCell ?_ (by first | (simp; done) | (simp; omega) | omega) _)) hc11
  have hst11 : Below w10.heap.size w10 w11 := bchain (by repeat' (first | with_reducible exact Below.refl _ _ | with_reducible refine Below.drew ?_ | with_reducible refine below_drewN ?_ _ | with_reducible refine Below.alloc ?_ (by first | (simp; done) | (simp; omega) | omega) _ | with_reducible refine Below.setCell ?_ (by first | (simp; done) | (simp; omega) | omega) _)) hc11
  replace L1_0 := cell_later hst11 L1_0
  replace L1_1 := cell_later hst11 L1_1
  replace L1_2 := cell_later hst11 L1_2
  replace L1_l := Nat.lt_of_lt_of_le L1_l hst11.size
  replace L2_0 := cell_later hst11 L2_0
  replace L2_1 := cell_later hst11 L2_1
  replace L2_2 := cell_later hst11 L2_2
  replace L2_l := Nat.lt_of_lt_of_le L2_l hst11.size
  replace L3_0 := cell_later hst11 L3_0
  replace L3_1 := cell_later hst11 L3_1
  replace L3_2 := cell_later hst11 L3_2
  replace L3_l := Nat.lt_of_lt_of_le L3_l hst11.size
  replace L4_0 := cell_later hst11 L4_0
  replace L4_1 := cell_later hst11 L4_1
  replace L4_2 := cell_later hst11 L4_2
  replace L4_l := Nat.lt_of_lt_of_le L4_l hst11.size
  replace L5_0 := cell_later hst11 L5_0
  replace L5_1 := cell_later hst11 L5_1
  replace L5_2 := cell_later hst11 L5_2
  replace L5_l := Nat.lt_of_lt_of_le L5_l hst11.size
  replace L6_0 := cell_later hst11 L6_0
  replace L6_1 := cell_later hst11 L6_1
  replace L6_2 := cell_later hst11 L6_2
  replace L6_l := Nat.lt_of_lt_of_le L6_l hst11.size
  replace l4 := l4.later hst11
  replace k6 := k6.later hst11
  replace k7 := k7.later hst11
  replace k8 := k8.later hst11
  clear hst11
  clear hc11 hb10
  go_wp2_with fail
  with_reducible refine (sameInts_self [4] r3 (some ⟨w11.heap.size, 0, none⟩) 1 s3 1 _ rfl (by omega) (k8.alloc _) (cellsAt_lit w11 [.int .i64 4] 3)).mono ?_
  rintro e w12 ⟨rfl, hc12⟩
  have hb12 : Below w.heap.size w w12 := bchain (by repeat' (first | with_reducible exact hb11 | with_reducible refine Below.drew ?_ | with_reducible refine below_drewN ?_ _ | with_reducible refine Below.alloc ?_ (by have := hb11.size; first | (simp; done) | (simp; omega) | omega) _ | with_reducible refine Below.setCell ?_ (by first | (simp; done) | (simp; omega) | omega) _)) hc12
  have hst12 : Below w11.heap.size w11 w12 := bchain (by repeat' (first | with_reducible exact Below.refl _ _ | with_reducible refine Below.drew ?_ | with_reducible refine below_drewN ?_ _ | with_reducible refine Below.alloc ?_ (by first | (simp; done) | (simp; omega) | omega) _ | with_reducible refine Below.setCell ?_ (by first | (simp; done) | (simp; omega) | omega) _)) hc12
  replace L1_0 := cell_later hst12 L1_0
  replace L1_1 := cell_later hst12 L1_1
  replace L1_2 := cell_later hst12 L1_2
  replace L1_l := Nat.lt_of_lt_of_le L1_l hst12.size
  replace L2_0 := cell_later hst12 L2_0
  replace L2_1 := cell_later hst12 L2_1
  replace L2_2 := cell_later hst12 L2_2
  replace L2_l := Nat.lt_of_lt_of_le L2_l hst12.size
  replace L3_0 := cell_later hst12 L3_0
  replace L3_1 := cell_later hst12 L3_1
  replace L3_2 := cell_later hst12 L3_2
  replace L3_l := Nat.lt_of_lt_of_le L3_l hst12.size
  replace L4_0 := cell_later hst12 L4_0
  replace L4_1 := cell_later hst12 L4_1
  replace L4_2 := cell_later hst12 L4_2
  replace L4_l := Nat.lt_of_lt_of_le L4_l hst12.size
  replace L5_0 := cell_later hst12 L5_0
  replace L5_1 := cell_later hst12 L5_1
  replace L5_2 := cell_later hst12 L5_2
  replace L5_l := Nat.lt_of_lt_of_le L5_l hst12.size
  replace L6_0 := cell_later hst12 L6_0
  replace L6_1 := cell_later hst12 L6_1
  replace L6_2 := cell_later hst12 L6_2
  replace L6_l := Nat.lt_of_lt_of_le L6_l hst12.size
  replace l4 := l4.later hst12
  replace k6 := k6.later hst12
  replace k7 := k7.later hst12
  replace k8 := k8.later hst12
  clear hst12
  clear hc12 hb11
  go_wp2_with fail
  go_ret
  exact ⟨rfl, by repeat' (first | with_reducible exact hb12 | with_reducible refine Below.drew ?_ | with_reducible refine below_drewN ?_ _ | with_reducible refine Below.alloc ?_ (by have := hb12.size; first | (simp; done) | (simp; omega) | omega) _ | with_reducible refine Below.setCell ?_ (by first | (simp; done) | (simp; omega) | omega) _)⟩

end Go.Proofs.Ytnkbbfeaodppgaa
