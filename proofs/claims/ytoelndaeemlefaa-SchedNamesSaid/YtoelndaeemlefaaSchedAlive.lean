/- The chapter's examples on tasks. -/
import Derived.Test.YtoelndaeemlefaaSchedRoundL
namespace Go.Proofs.Ytoelndaeemlefaa
set_option linter.unusedSimpArgs false
set_option linter.unusedVariables false
set_option linter.unnecessarySimpa false
open Go.RowKit

theorem cellsAt_lit (w : World) (xs : List Value) (t : TypeId) : CellsAt (w.alloc (.cells xs.toArray t)) (some ⟨w.heap.size, 0, none⟩) xs := by
  refine .inr ⟨_, _, rfl, fun j u hj => ?_⟩
  rw [Nat.zero_add]
  have := cell_of_row (w.alloc (.cells xs.toArray t)) w.heap.size j xs.toArray t (0, 0) (heap_alloc_new w _)
  rw [this]
  simpa using hj

set_option maxHeartbeats 1000000 in
theorem given_any (w : World) :
    Calls Try.prog 32 #[] w fun e w' =>
      ∃ l1 c1 a1 d1, e = .returned (.agg #[.slice l1 3 c1, .slice a1 3 d1]) ∧ CellsAt w' l1 (([2, 1, 1] : List Int).map (Value.int .i64)) ∧ CellsAt w' a1 (([-1, -1, 0] : List Int).map (Value.int .i64)) ∧ Below w.heap.size w w' := by
  go_enter Try.func32, Try.ntmps32
  have hb0 := Below.refl w.heap.size w
  go_wp2_with fail
  have k1 := fun o => cellsAt_lit (w.alloc o) [.int .i64 2, .int .i64 1, .int .i64 1] 3
  have k2 := fun o => cellsAt_lit ((w.alloc o).alloc (.cells #[.int .i64 2, .int .i64 1, .int .i64 1] 3)) [.int .i64 (-1), .int .i64 (-1), .int .i64 0] 3
  simp only [World.size_alloc] at k1 k2
  exact bodyPost_ret (v := .agg #[.slice (some ⟨w.heap.size + 1, 0, none⟩) 3 3, .slice (some ⟨w.heap.size + 1 + 1, 0, none⟩) 3 3]) (by simp [results, Try.results32, go_sem, *]) rfl ⟨_, _, _, _, rfl, (k1 _).alloc _, k2 _, (by repeat' (first | with_reducible exact hb0 | with_reducible refine Below.drew ?_ | with_reducible refine below_drewN ?_ _ | with_reducible refine Below.alloc ?_ (by have := hb0.size; first | (simp; done) | (simp; omega) | omega) _ | with_reducible refine Below.setCell ?_ (by first | (simp; done) | (simp; omega) | omega) _))⟩

theorem runnable_r (l a xs : List Int) (er : Int) (n m p : Nat) (la aa : Option Addr) (lc ac : Nat) (w : World) (hn : n = l.length) (hm : m = a.length) (hp : p = xs.length) (hl : CellsAt w la (l.map (Value.int .i64))) (ha : CellsAt w aa (a.map (Value.int .i64))) (hml : l.length ≤ maxLen) (hr : tkRuns l a = (xs, er)) :
    Calls Try.prog 13 #[.agg #[.slice la n lc, .slice aa m ac]] w fun e w' =>
      (∃ b c, e = .returned (.tuple #[.slice b p c, .int .i64 er]) ∧ CellsAt w' b (xs.map (Value.int .i64))) ∧ Below w.heap.size w w' := by
  subst hn hm hp
  refine (runnable_any l a la aa lc ac w hl ha hml).mono fun e w' ⟨⟨b, c, h1, h2⟩, h3⟩ => ?_
  rw [hr] at h1 h2
  exact ⟨⟨b, c, h1, h2⟩, h3⟩
theorem rounds_r (l a xs : List Int) (er k : Int) (n m p : Nat) (la aa : Option Addr) (lc ac : Nat) (w : World) (hn : n = l.length) (hm : m = a.length) (hp : p = xs.length) (hl : CellsAt w la (l.map (Value.int .i64))) (ha : CellsAt w aa (a.map (Value.int .i64))) (hml : l.length ≤ maxLen) (hr : tkRounds l a k = (xs, er)) :
    Calls Try.prog 23 #[.agg #[.slice la n lc, .slice aa m ac], .int .i64 k] w fun e w' =>
      (∃ b c, e = .returned (.tuple #[.slice b p c, .int .i64 er]) ∧ CellsAt w' b (xs.map (Value.int .i64))) ∧ Below w.heap.size w w' := by
  subst hn hm hp
  refine (rounds_any l a k la aa lc ac w hl ha hml).mono fun e w' ⟨⟨b, c, h1, h2⟩, h3⟩ => ?_
  rw [hr] at h1 h2
  exact ⟨⟨b, c, h1, h2⟩, h3⟩
theorem run_r (l a ps xs ys ds : List Int) (er : Int) (n m o p q r : Nat) (la aa pa : Option Addr) (lc ac pc : Nat) (w : World) (hn : n = l.length) (hm : m = a.length) (ho : o = ps.length) (hp : p = xs.length) (hq : q = ys.length) (hr0 : r = ds.length) (hl : CellsAt w la (l.map (Value.int .i64))) (ha : CellsAt w aa (a.map (Value.int .i64))) (hpc : CellsAt w pa (ps.map (Value.int .i64))) (hml : l.length ≤ maxLen) (hr : tkRun l a ps = ((xs, ys), ds, er)) :
    Calls Try.prog 19 #[.agg #[.slice la n lc, .slice aa m ac], .slice pa o pc] w fun e w' =>
      (∃ b1 c1 b2 c2 b3 c3, e = .returned (.tuple #[.agg #[.slice b1 p c1, .slice b2 q c2], .slice b3 r c3, .int .i64 er]) ∧ CellsAt w' b1 (xs.map (Value.int .i64)) ∧ CellsAt w' b2 (ys.map (Value.int .i64)) ∧ CellsAt w' b3 (ds.map (Value.int .i64))) ∧ Below w.heap.size w w' := by
  subst hn hm ho hp hq hr0
  refine (run_any l a ps la aa pa lc ac pc w hl ha hpc hml).mono fun e w' ⟨⟨b1, c1, b2, c2, b3, c3, h1, h2, h3, h4, _, _⟩, h5⟩ => ?_
  rw [hr] at h1 h2 h3 h4
  exact ⟨⟨b1, c1, b2, c2, b3, c3, h1, h2, h3, h4⟩, h5⟩
theorem fair_r (l a ps : List Int) (win er : Int) (bl : Bool) (n m o : Nat) (la aa pa : Option Addr) (lc ac pc : Nat) (w : World) (hn : n = l.length) (hm : m = a.length) (ho : o = ps.length) (hl : CellsAt w la (l.map (Value.int .i64))) (ha : CellsAt w aa (a.map (Value.int .i64))) (hpc : CellsAt w pa (ps.map (Value.int .i64))) (hml : l.length ≤ maxLen) (hr : tkFair l a ps win = (bl, er)) :
    Calls Try.prog 25 #[.agg #[.slice la n lc, .slice aa m ac], .slice pa o pc, .int .i64 win] w fun e w' =>
      e = .returned (.tuple #[.bool bl, .int .i64 er]) ∧ Below w.heap.size w w' := by
  subst hn hm ho
  have := fair_any l a ps win la aa pa lc ac pc w hl ha hpc hml
  rw [hr] at this
  exact this
theorem sameInts_r (xs ys : List Int) (n m : Nat) (a b : Option Addr) (c d : Nat) (w : World) (hn : n = xs.length) (hm : m = ys.length) (hx : CellsAt w a (xs.map (Value.int .i64))) (hy : CellsAt w b (ys.map (Value.int .i64))) (hxl : xs.length ≤ maxLen) (h : xs = ys) :
    Calls Try.prog 18 #[.slice a n c, .slice b m d] w fun e w' =>
      e = .returned (.bool true) ∧ Below w.heap.size w w' := by
  subst h hn hm
  exact sameInts_self xs a b c d w hx hy hxl
theorem mk3 (w : World) : (Instr.makeSlice 22 (.int .i64 3) (.int .i64 3)).run Try.prog w = .ok (.slice (some ⟨w.heap.size, 0, none⟩) 3 3) (w.alloc (.cells #[.int .i64 0, .int .i64 0, .int .i64 0] 3)) := by kernel_rfl
theorem small (xs : List Int) (h : xs.length ≤ 100) : xs.length ≤ maxLen := by unfold maxLen; omega

set_option maxRecDepth 100000 in
set_option maxHeartbeats 40000000 in
theorem alive_any (w : World) :
    Calls Try.prog 27 #[] w fun e w' =>
      e = .returned (.bool true) ∧ Below w.heap.size w w' := by
  have k1 := mk3
  go_enter Try.func27, Try.ntmps27
  have hb0 := Below.refl w.heap.size w
  go_wp2_with fail
  refine (given_any _).mono ?_
  rintro e w1 ⟨l1, c1, a1, d1, rfl, kk1, m1, hc1⟩
  have hb1 : Below w.heap.size w w1 := bchain (by repeat' (first | with_reducible exact hb0 | with_reducible refine Below.drew ?_ | with_reducible refine below_drewN ?_ _ | with_reducible refine Below.alloc ?_ (by have := hb0.size; first | (simp; done) | (simp; omega) | omega) _ | with_reducible refine Below.setCell ?_ (by first | (simp; done) | (simp; omega) | omega) _)) hc1
  clear hc1 hb0
  go_wp2_with fail
  refine (runnable_r [2, 1, 1] [-1, -1, 0] [0, 1] 0 3 3 2 l1 a1 c1 d1 _ rfl rfl rfl (by repeat' (first | with_reducible exact kk1 | with_reducible refine CellsAt.setFar ?_ ?_ _ | with_reducible refine CellsAt.alloc ?_ _ | with_reducible refine CellsAt.drew ?_ | with_reducible refine CellsAt.drewN ?_ _ | assumption | (simp; omega) | omega)) (by repeat' (first | with_reducible exact m1 | with_reducible refine CellsAt.setFar ?_ ?_ _ | with_reducible refine CellsAt.alloc ?_ _ | with_reducible refine CellsAt.drew ?_ | with_reducible refine CellsAt.drewN ?_ _ | assumption | (simp; omega) | omega)) (by decide) (by decide +kernel)).mono ?_
  rintro e w2 ⟨⟨r1, e1, rfl, x1⟩, hc2⟩
  have hb2 : Below w.heap.size w w2 := bchain (by repeat' (first | with_reducible exact hb1 | with_reducible refine Below.drew ?_ | with_reducible refine below_drewN ?_ _ | with_reducible refine Below.alloc ?_ (by have := hb1.size; first | (simp; done) | (simp; omega) | omega) _ | with_reducible refine Below.setCell ?_ (by first | (simp; done) | (simp; omega) | omega) _)) hc2
  clear hc2 hb1
  go_wp2_with fail
  refine (given_any _).mono ?_
  rintro e w3 ⟨l2, c2, a2, d2, rfl, k2, m2, hc3⟩
  have hb3 : Below w.heap.size w w3 := bchain (by repeat' (first | with_reducible exact hb2 | with_reducible refine Below.drew ?_ | with_reducible refine below_drewN ?_ _ | with_reducible refine Below.alloc ?_ (by have := hb2.size; first | (simp; done) | (simp; omega) | omega) _ | with_reducible refine Below.setCell ?_ (by first | (simp; done) | (simp; omega) | omega) _)) hc3
  have hst3 : Below w2.heap.size w2 w3 := bchain (by repeat' (first | with_reducible exact Below.refl _ _ | with_reducible refine Below.drew ?_ | with_reducible refine below_drewN ?_ _ | with_reducible refine Below.alloc ?_ (by first | (simp; done) | (simp; omega) | omega) _ | with_reducible refine Below.setCell ?_ (by first | (simp; done) | (simp; omega) | omega) _)) hc3
  replace x1 := x1.later hst3
  clear hst3
  clear hc3 hb2
  go_wp2_with fail
  refine (rounds_r [2, 1, 1] [-1, -1, 0] [0, 1, 0, 2] 0 4 3 3 4 l2 a2 c2 d2 _ rfl rfl rfl (by repeat' (first | with_reducible exact k2 | with_reducible refine CellsAt.setFar ?_ ?_ _ | with_reducible refine CellsAt.alloc ?_ _ | with_reducible refine CellsAt.drew ?_ | with_reducible refine CellsAt.drewN ?_ _ | assumption | (simp; omega) | omega)) (by repeat' (first | with_reducible exact m2 | with_reducible refine CellsAt.setFar ?_ ?_ _ | with_reducible refine CellsAt.alloc ?_ _ | with_reducible refine CellsAt.drew ?_ | with_reducible refine CellsAt.drewN ?_ _ | assumption | (simp; omega) | omega)) (by decide) (by decide +kernel)).mono ?_
  rintro e w4 ⟨⟨r2, e2, rfl, x2⟩, hc4⟩
  have hb4 : Below w.heap.size w w4 := bchain (by repeat' (first | with_reducible exact hb3 | with_reducible refine Below.drew ?_ | with_reducible refine below_drewN ?_ _ | with_reducible refine Below.alloc ?_ (by have := hb3.size; first | (simp; done) | (simp; omega) | omega) _ | with_reducible refine Below.setCell ?_ (by first | (simp; done) | (simp; omega) | omega) _)) hc4
  have hst4 : Below w3.heap.size w3 w4 := bchain (by repeat' (first | with_reducible exact Below.refl _ _ | with_reducible refine Below.drew ?_ | with_reducible refine below_drewN ?_ _ | with_reducible refine Below.alloc ?_ (by first | (simp; done) | (simp; omega) | omega) _ | with_reducible refine Below.setCell ?_ (by first | (simp; done) | (simp; omega) | omega) _)) hc4
  replace x1 := x1.later hst4
  clear hst4
  clear hc4 hb3
  have pk0 := cellsAt_lit w4 [.int .i64 1, .int .i64 2, .int .i64 0, .int .i64 0, .int .i64 2] 3
  go_wp2_with fail
  refine (given_any _).mono ?_
  rintro e w5 ⟨l3, c3, a3, d3, rfl, k3, m3, hc5⟩
  have pk := pk0.later hc5
  have hb5 : Below w.heap.size w w5 := bchain (by repeat' (first | with_reducible exact hb4 | with_reducible refine Below.drew ?_ | with_reducible refine below_drewN ?_ _ | with_reducible refine Below.alloc ?_ (by have := hb4.size; first | (simp; done) | (simp; omega) | omega) _ | with_reducible refine Below.setCell ?_ (by first | (simp; done) | (simp; omega) | omega) _)) hc5
  have hst5 : Below w4.heap.size w4 w5 := bchain (by repeat' (first | with_reducible exact Below.refl _ _ | with_reducible refine Below.drew ?_ | with_reducible refine below_drewN ?_ _ | with_reducible refine Below.alloc ?_ (by first | (simp; done) | (simp; omega) | omega) _ | with_reducible refine Below.setCell ?_ (by first | (simp; done) | (simp; omega) | omega) _)) hc5
  replace x1 := x1.later hst5
  replace x2 := x2.later hst5
  clear hst5
  clear pk0 hc5
  go_wp2_with fail
  refine (run_r [2, 1, 1] [-1, -1, 0] [1, 2, 0, 0, 2] [0, 0, 0] [-1, -1, 0] [0, 2, 3, 4] 0 3 3 5 3 3 4 l3 a3 _ c3 d3 5 _ rfl rfl rfl rfl rfl rfl (by repeat' (first | with_reducible exact k3 | with_reducible refine CellsAt.setFar ?_ ?_ _ | with_reducible refine CellsAt.alloc ?_ _ | with_reducible refine CellsAt.drew ?_ | with_reducible refine CellsAt.drewN ?_ _ | assumption | (simp; omega) | omega)) (by repeat' (first | with_reducible exact m3 | with_reducible refine CellsAt.setFar ?_ ?_ _ | with_reducible refine CellsAt.alloc ?_ _ | with_reducible refine CellsAt.drew ?_ | with_reducible refine CellsAt.drewN ?_ _ | assumption | (simp; omega) | omega)) (by repeat' (first | with_reducible exact pk | with_reducible refine CellsAt.setFar ?_ ?_ _ | with_reducible refine CellsAt.alloc ?_ _ | with_reducible refine CellsAt.drew ?_ | with_reducible refine CellsAt.drewN ?_ _ | assumption | (simp; omega) | omega)) (by decide) (by decide +kernel)).mono ?_
  rintro e w6 ⟨⟨l4, c4, a4, d4, s4, u4, rfl, x3, x4, x5⟩, hc6⟩
  have hb6 : Below w.heap.size w w6 := bchain (by repeat' (first | with_reducible exact hb5 | with_reducible refine Below.drew ?_ | with_reducible refine below_drewN ?_ _ | with_reducible refine Below.alloc ?_ (by have := hb5.size; first | (simp; done) | (simp; omega) | omega) _ | with_reducible refine Below.setCell ?_ (by first | (simp; done) | (simp; omega) | omega) _)) hc6
  have hst6 : Below w5.heap.size w5 w6 := bchain (by repeat' (first | with_reducible exact Below.refl _ _ | with_reducible refine Below.drew ?_ | with_reducible refine below_drewN ?_ _ | with_reducible refine Below.alloc ?_ (by first | (simp; done) | (simp; omega) | omega) _ | with_reducible refine Below.setCell ?_ (by first | (simp; done) | (simp; omega) | omega) _)) hc6
  replace x1 := x1.later hst6
  replace x2 := x2.later hst6
  replace pk := pk.later hst6
  clear hst6
  clear hc6 hb5
  go_wp2_with fail
  refine (given_any _).mono ?_
  rintro e w7 ⟨l5, c5, a5, d5, rfl, k5, m5, hc7⟩
  have hb7 : Below w.heap.size w w7 := bchain (by repeat' (first | with_reducible exact hb6 | with_reducible refine Below.drew ?_ | with_reducible refine below_drewN ?_ _ | with_reducible refine Below.alloc ?_ (by have := hb6.size; first | (simp; done) | (simp; omega) | omega) _ | with_reducible refine Below.setCell ?_ (by first | (simp; done) | (simp; omega) | omega) _)) hc7
  have hst7 : Below w6.heap.size w6 w7 := bchain (by repeat' (first | with_reducible exact Below.refl _ _ | with_reducible refine Below.drew ?_ | with_reducible refine below_drewN ?_ _ | with_reducible refine Below.alloc ?_ (by first | (simp; done) | (simp; omega) | omega) _ | with_reducible refine Below.setCell ?_ (by first | (simp; done) | (simp; omega) | omega) _)) hc7
  have T_0 : w7.cell? ⟨w6.heap.size, 0, none⟩ = some (.slice l4 3 c4) := (hc7.cell (p := ⟨w6.heap.size, 0, none⟩) (by first | (simp; done) | (simp; omega))).trans (by first | (simp; done) | go_simp)
  have T_1 : w7.cell? ⟨w6.heap.size, 1, none⟩ = some (.slice a4 3 d4) := (hc7.cell (p := ⟨w6.heap.size, 1, none⟩) (by first | (simp; done) | (simp; omega))).trans (by first | (simp; done) | go_simp)
  have T_l : w6.heap.size < w7.heap.size := Nat.lt_of_lt_of_le (by first | (simp; done) | (simp; omega)) hc7.size
  replace x1 := x1.later hst7
  replace x2 := x2.later hst7
  replace pk := pk.later hst7
  replace x3 := x3.later hst7
  replace x5 := x5.later hst7
  clear hst7
  clear hc7 hb6
  go_wp2_with fail
  refine (fair_r [2, 1, 1] [-1, -1, 0] [1, 2, 0, 0, 2] 3 0 true 3 3 5 l5 a5 _ c5 d5 5 _ rfl rfl rfl (by repeat' (first | with_reducible exact k5 | with_reducible refine CellsAt.setFar ?_ ?_ _ | with_reducible refine CellsAt.alloc ?_ _ | with_reducible refine CellsAt.drew ?_ | with_reducible refine CellsAt.drewN ?_ _ | assumption | (simp; omega) | omega)) (by repeat' (first | with_reducible exact m5 | with_reducible refine CellsAt.setFar ?_ ?_ _ | with_reducible refine CellsAt.alloc ?_ _ | with_reducible refine CellsAt.drew ?_ | with_reducible refine CellsAt.drewN ?_ _ | assumption | (simp; omega) | omega)) (by repeat' (first | with_reducible exact pk | with_reducible refine CellsAt.setFar ?_ ?_ _ | with_reducible refine CellsAt.alloc ?_ _ | with_reducible refine CellsAt.drew ?_ | with_reducible refine CellsAt.drewN ?_ _ | assumption | (simp; omega) | omega)) (by decide) (by decide +kernel)).mono ?_
  rintro e w8 ⟨rfl, hc8⟩
  have hb8 : Below w.heap.size w w8 := bchain (by repeat' (first | with_reducible exact hb7 | with_reducible refine Below.drew ?_ | with_reducible refine below_drewN ?_ _ | with_reducible refine Below.alloc ?_ (by have := hb7.size; first | (simp; done) | (simp; omega) | omega) _ | with_reducible refine Below.setCell ?_ (by first | (simp; done) | (simp; omega) | omega) _)) hc8
  have hst8 : Below w7.heap.size w7 w8 := bchain (by repeat' (first | with_reducible exact Below.refl _ _ | with_reducible refine Below.drew ?_ | with_reducible refine below_drewN ?_ _ | with_reducible refine Below.alloc ?_ (by first | (simp; done) | (simp; omega) | omega) _ | with_reducible refine Below.setCell ?_ (by first | (simp; done) | (simp; omega) | omega) _)) hc8
  replace T_0 := cell_later hst8 T_0
  replace T_1 := cell_later hst8 T_1
  replace T_l := Nat.lt_of_lt_of_le T_l hst8.size
  replace x1 := x1.later hst8
  replace x2 := x2.later hst8
  replace pk := pk.later hst8
  replace x3 := x3.later hst8
  replace x5 := x5.later hst8
  clear hst8
  clear hc8 hb7
  go_wp2_with fail
  refine (given_any _).mono ?_
  rintro e w9 ⟨l6, c6, a6, d6, rfl, k6, m6, hc9⟩
  have hb9 : Below w.heap.size w w9 := bchain (by repeat' (first | with_reducible exact hb8 | with_reducible refine Below.drew ?_ | with_reducible refine below_drewN ?_ _ | with_reducible refine Below.alloc ?_ (by have := hb8.size; first | (simp; done) | (simp; omega) | omega) _ | with_reducible refine Below.setCell ?_ (by first | (simp; done) | (simp; omega) | omega) _)) hc9
  have hst9 : Below w8.heap.size w8 w9 := bchain (by repeat' (first | with_reducible exact Below.refl _ _ | with_reducible refine Below.drew ?_ | with_reducible refine below_drewN ?_ _ | with_reducible refine Below.alloc ?_ (by first | (simp; done) | (simp; omega) | omega) _ | with_reducible refine Below.setCell ?_ (by first | (simp; done) | (simp; omega) | omega) _)) hc9
  replace T_0 := cell_later hst9 T_0
  replace T_1 := cell_later hst9 T_1
  replace T_l := Nat.lt_of_lt_of_le T_l hst9.size
  replace x1 := x1.later hst9
  replace x2 := x2.later hst9
  replace pk := pk.later hst9
  replace x3 := x3.later hst9
  replace x5 := x5.later hst9
  clear hst9
  clear hc9 hb8
  go_wp2_with fail
  refine (fair_r [2, 1, 1] [-1, -1, 0] [1, 2, 0, 0, 2] 2 0 false 3 3 5 l6 a6 _ c6 d6 5 _ rfl rfl rfl (by repeat' (first | with_reducible exact k6 | with_reducible refine CellsAt.setFar ?_ ?_ _ | with_reducible refine CellsAt.alloc ?_ _ | with_reducible refine CellsAt.drew ?_ | with_reducible refine CellsAt.drewN ?_ _ | assumption | (simp; omega) | omega)) (by repeat' (first | with_reducible exact m6 | with_reducible refine CellsAt.setFar ?_ ?_ _ | with_reducible refine CellsAt.alloc ?_ _ | with_reducible refine CellsAt.drew ?_ | with_reducible refine CellsAt.drewN ?_ _ | assumption | (simp; omega) | omega)) (by repeat' (first | with_reducible exact pk | with_reducible refine CellsAt.setFar ?_ ?_ _ | with_reducible refine CellsAt.alloc ?_ _ | with_reducible refine CellsAt.drew ?_ | with_reducible refine CellsAt.drewN ?_ _ | assumption | (simp; omega) | omega)) (by decide) (by decide +kernel)).mono ?_
  rintro e w10 ⟨rfl, hc10⟩
  have hb10 : Below w.heap.size w w10 := bchain (by repeat' (first | with_reducible exact hb9 | with_reducible refine Below.drew ?_ | with_reducible refine below_drewN ?_ _ | with_reducible refine Below.alloc ?_ (by have := hb9.size; first | (simp; done) | (simp; omega) | omega) _ | with_reducible refine Below.setCell ?_ (by first | (simp; done) | (simp; omega) | omega) _)) hc10
  have hst10 : Below w9.heap.size w9 w10 := bchain (by repeat' (first | with_reducible exact Below.refl _ _ | with_reducible refine Below.drew ?_ | with_reducible refine below_drewN ?_ _ | with_reducible refine Below.alloc ?_ (by first | (simp; done) | (simp; omega) | omega) _ | with_reducible refine Below.setCell ?_ (by first | (simp; done) | (simp; omega) | omega) _)) hc10
  replace T_0 := cell_later hst10 T_0
  replace T_1 := cell_later hst10 T_1
  replace T_l := Nat.lt_of_lt_of_le T_l hst10.size
  replace x1 := x1.later hst10
  replace x2 := x2.later hst10
  replace pk := pk.later hst10
  replace x3 := x3.later hst10
  replace x5 := x5.later hst10
  clear hst10
  clear hc10 hb9
  go_wp2_with fail
  go_region_held3 (fun w' => w'.cell? ⟨w6.heap.size, 0, none⟩ = some (.slice l4 3 c4)) (first | exact T_0 | exact T_1a | exact T_2a | exact T_3a | exact T_4a | exact (cell_later (((Below.refl w10.heap.size w10).alloc (Nat.le_refl _) _).drew) T_0) | exact (cell_later ((Below.refl _ _).alloc (Nat.le_refl _) _) T_1a) | exact (cell_later ((Below.refl _ _).alloc (Nat.le_refl _) _) T_2a) | exact (cell_later ((Below.refl _ _).alloc (Nat.le_refl _) _) T_3a)) ((first
  | (go_at_call 18; refine (sameInts_r [0, 0, 0] [0, 0, 0] 3 3 l4 _ c4 3 _ rfl rfl (x3a.alloc _) (cellsAt_lit w13 [.int .i64 0, .int .i64 0, .int .i64 0] 3) (by decide) rfl).mono ?_; rintro e w14 ⟨rfl, hc14⟩; have hb14 : Below w10.heap.size w10 w14 := (bchain hb13 (bchain ((Below.refl _ _).alloc (Nat.le_refl _) _) hc14)); have T_4a := (cell_later hb14 T_0))
  | (go_at_call 18; refine (sameInts_r [0, 2, 3, 4] [0, 2, 3, 4] 4 4 s4 _ u4 4 _ rfl rfl (x5a.alloc _) (cellsAt_lit w12 [.int .i64 0, .int .i64 2, .int .i64 3, .int .i64 4] 3) (by decide) rfl).mono ?_; rintro e w13 ⟨rfl, hc13⟩; have hb13 : Below w10.heap.size w10 w13 := (bchain hb12 (bchain ((Below.refl _ _).alloc (Nat.le_refl _) _) hc13)); have T_3a := (cell_later hb13 T_0); have x3a := (x3.later hb13))
  | (go_at_call 18; refine (sameInts_r [0, 1, 0, 2] [0, 1, 0, 2] 4 4 r2 _ e2 4 _ rfl rfl (x2a.alloc _) (cellsAt_lit w11 [.int .i64 0, .int .i64 1, .int .i64 0, .int .i64 2] 3) (by decide) rfl).mono ?_; rintro e w12 ⟨rfl, hc12⟩; have hb12 : Below w10.heap.size w10 w12 := (bchain hb11 (bchain ((Below.refl _ _).alloc (Nat.le_refl _) _) hc12)); have T_2a := (cell_later hb12 T_0); have x5a := (x5.later hb12))
  | (go_at_call 18; refine (sameInts_r [0, 1] [0, 1] 2 2 r1 _ e1 2 _ rfl rfl (x1.alloc _).drew (cellsAt_lit w10 [.int .i64 0, .int .i64 1] 3).drew (by decide) rfl).mono ?_; rintro e w11 ⟨rfl, hc11⟩; have hb11 : Below w10.heap.size w10 w11 := (bchain ((Below.refl _ _).alloc (Nat.le_refl _) _).drew hc11); have T_1a := (cell_later hb11 T_0); have x2a := (x2.later hb11))))
  have hbf := bchain hb10 hb14
  go_wp2_with fail
  go_ret
  exact ⟨rfl, (by repeat' (first | with_reducible exact hbf | with_reducible refine Below.drew ?_ | with_reducible refine below_drewN ?_ _ | with_reducible refine Below.alloc ?_ (by have := hbf.size; first | (simp; done) | (simp; omega) | omega) _ | with_reducible refine Below.setCell ?_ (by first | (simp; done) | (simp; omega) | omega) _))⟩

end Go.Proofs.Ytoelndaeemlefaa
