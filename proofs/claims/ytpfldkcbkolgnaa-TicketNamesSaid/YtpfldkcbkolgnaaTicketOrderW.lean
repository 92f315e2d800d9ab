/- The law TicketOrder: out in ticket order, each one once. -/
import Derived.Test.YtpfldkcbkolgnaaTicketOrderP
import Derived.Deep.Cut
namespace Go.Proofs.Ytpfldkcbkolgnaa
set_option linter.unusedSimpArgs false
set_option linter.unusedVariables false
set_option linter.unnecessarySimpa false
open Go.RowKit

theorem put_fail (g o r t x : Int) (hs : Slips) (er : Int) (a : Option Addr) (c : Nat) (w : World) (hr : dPut ⟨g, o, r, hs⟩ t x = (Dk.zero, er)) (hc : CellsAt w a (cel hs)) (hb : hs.length ≤ 8796093022206) :
    Calls Try.prog 10 #[.agg #[.int .i64 g, .int .i64 o, .int .i64 r, .slice a hs.length c], .int .i64 t, .int .u64 x] w fun e w' =>
      (∃ a' c', e = .returned (.tuple #[.agg #[.int .i64 0, .int .i64 0, .int .i64 0, .slice a' 0 c'], .int .i64 er])) ∧ Below w.heap.size w w' := by
  refine (dput_any g o r t x hs a c w hc hb).mono fun e w' ⟨⟨a', c', h1, _, _⟩, h2⟩ => ?_
  rw [hr] at h1
  exact ⟨⟨a', c', h1⟩, h2⟩
theorem put_ok (g o r t x : Int) (hs : Slips) (a : Option Addr) (c : Nat) (w : World) (hr : dPut ⟨g, o, r, hs⟩ t x = (⟨g, o, r, insD hs t x⟩, 0)) (hc : CellsAt w a (cel hs)) (hb : hs.length ≤ 8796093022206) :
    Calls Try.prog 10 #[.agg #[.int .i64 g, .int .i64 o, .int .i64 r, .slice a hs.length c], .int .i64 t, .int .u64 x] w fun e w' =>
      (∃ a' c', e = .returned (.tuple #[.agg #[.int .i64 g, .int .i64 o, .int .i64 r, .slice a' (insD hs t x).length c'], .int .i64 0]) ∧ CellsAt w' a' (cel (insD hs t x)) ∧ Fresh w.heap.size a') ∧ Below w.heap.size w w' := by
  have := dput_any g o r t x hs a c w hc hb
  rw [hr] at this
  exact this
theorem rcheck_ok (g o r : Int) (hs : Slips) (n : Nat) (a : Option Addr) (c : Nat) (w : World) (V : DV g o r hs) (hn : n = hs.length) (hc : CellsAt w a (cel hs)) :
    Calls Try.prog 12 #[.agg #[.int .i64 g, .int .i64 o, .int .i64 r, .slice a n c]] w fun e w' =>
      e = .returned (.int .i64 0) ∧ Below w.heap.size w w' := by
  subst hn
  have hl : hs.length ≤ maxLen := by have := V.len; unfold maxLen; omega
  have := rdcheck_any g o r hs a c w hc hl
  rw [V.err] at this
  exact this

/-- The marks of the tickets that have been put. -/
def Put40 (w : World) (U : Nat) (f : Nat → Bool) : Prop := ∃ cs : Array Value, w.heap[U]? = some (.cells cs 29 (0, 0)) ∧ cs.size = 40 ∧ ∀ j, j < 40 → cs[j]? = some (.bool (f j))
theorem Put40.later {w w' : World} {U : Nat} {f : Nat → Bool} (h : Put40 w U f) (hb : Below w.heap.size w w') : Put40 w' U f := by
  obtain ⟨cs, h1, h2, h3⟩ := h
  exact ⟨cs, (hb.block U (lt_of_block h1)).trans h1, h2, h3⟩
theorem Put40.cell {w : World} {U : Nat} {f : Nat → Bool} (h : Put40 w U f) {j : Nat} (hj : j < 40) : w.cell? ⟨U, j, none⟩ = some (.bool (f j)) ∧ w.frozen? ⟨U, j, none⟩ = false := by
  obtain ⟨cs, h1, h2, h3⟩ := h
  exact ⟨by rw [cell_of_row w U j cs _ (0, 0) h1]; exact h3 j hj, by simp [World.frozen?, h1]⟩
theorem Put40.setFar {w : World} {U : Nat} {f : Nat → Bool} (h : Put40 w U f) {p : Addr} (hne : U ≠ p.block) (u : Value) : Put40 (w.setCell p u) U f := by
  obtain ⟨cs, h1, h2, h3⟩ := h
  exact ⟨cs, (Below.heap_setCell _ _ _ _ hne).trans h1, h2, h3⟩
theorem Put40.drew {w : World} {U : Nat} {f : Nat → Bool} (h : Put40 w U f) : Put40 w.drew U f := h
theorem Put40.set {w : World} {U : Nat} {f : Nat → Bool} (h : Put40 w U f) (i : Nat) (b : Bool) : Put40 (w.setCell ⟨U, i, none⟩ (.bool b)) U (fun j => if j = i then b else f j) := by
  obtain ⟨cs, h1, h2, h3⟩ := h
  refine ⟨cs.setIfInBounds i (.bool b), by simp [World.setCell, Array.getElem?_modify, h1], by simpa using h2, fun j hj => ?_⟩
  rw [Array.getElem?_setIfInBounds]
  by_cases e : i = j
  · subst e; simp [h2, hj]
  · rw [if_neg e]
    show cs[j]? = some (.bool (if j = i then b else f j))
    rw [if_neg (fun h : j = i => e h.symm)]
    exact h3 j hj
theorem Put40.congr {w : World} {U : Nat} {f f' : Nat → Bool} (h : Put40 w U f) (he : ∀ j, f j = f' j) : Put40 w U f' := by
  have : f = f' := funext he
  rwa [← this]
theorem Put40.lt {w : World} {U : Nat} {f : Nat → Bool} (h : Put40 w U f) : U < w.heap.size := by
  obtain ⟨cs, h1, _⟩ := h
  exact lt_of_block h1

/- From the drain on: $1 the slips, $2, $3 their address and room; the facts on them are hV, hS; kX their cells. -/
set_option maxRecDepth 100000 in
set_option maxHeartbeats 8000000 in
theorem order_out (room n : Int) (pa : Option Addr) (pc : Nat) (xs : List Int) (w : World) (h : room < 1 ∨ 16 < room ∨ n < 0 ∨ 40 < n ∨ 100 < xs.length) :
    Calls Try.prog 3 #[.int .i64 room, .int .i64 n, .slice pa xs.length pc] w fun e w' =>
      e = .returned (.bool true) ∧ Below w.heap.size w w' := by
  by_cases c1 : room < 1
  · clear h
    go_enter Try.func3, Try.ntmps3
    have hb0 := Below.refl w.heap.size w
    go_wp2_with fail
    with_reducible refine (alive_any _).mono ?_
    rintro e w1 ⟨rfl, hc1⟩
    have hb1 : Below w.heap.size w w1 := bchain (by repeat' (first | with_reducible exact hb0 | with_reducible refine Below.drew ?_ | with_reducible refine below_drewN ?_ _ | with_reducible refine Below.alloc ?_ (by have := hb0.size; first | (simp; done) | (simp; omega) | omega) _ | with_reducible refine Below.setCell ?_ (by first | (simp; done) | (simp; omega) | omega) _)) hc1
    clear hc1 hb0
    go_wp2_with fail
    go_ret
    exact ⟨rfl, by repeat' (first | with_reducible exact hb1 | with_reducible refine Below.drew ?_ | with_reducible refine below_drewN ?_ _ | with_reducible refine Below.alloc ?_ (by have := hb1.size; first | (simp; done) | (simp; omega) | omega) _ | with_reducible refine Below.setCell ?_ (by first | (simp; done) | (simp; omega) | omega) _)⟩
  by_cases c2 : 16 < room
  · clear h
    go_enter Try.func3, Try.ntmps3
    have hb0 := Below.refl w.heap.size w
    go_wp2_with fail
    with_reducible refine (alive_any _).mono ?_
    rintro e w1 ⟨rfl, hc1⟩
    have hb1 : Below w.heap.size w w1 := bchain (by repeat' (first | with_reducible exact hb0 | with_reducible refine Below.drew ?_ | with_reducible refine below_drewN ?_ _ | with_reducible refine Below.alloc ?_ (by have := hb0.size; first | (simp; done) | (simp; omega) | omega) _ | with_reducible refine Below.setCell ?_ (by first | (simp; done) | (simp; omega) | omega) _)) hc1
    clear hc1 hb0
    go_wp2_with fail
    go_ret
    exact ⟨rfl, by repeat' (first | with_reducible exact hb1 | with_reducible refine Below.drew ?_ | with_reducible refine below_drewN ?_ _ | with_reducible refine Below.alloc ?_ (by have := hb1.size; first | (simp; done) | (simp; omega) | omega) _ | with_reducible refine Below.setCell ?_ (by first | (simp; done) | (simp; omega) | omega) _)⟩
  by_cases c3 : n < 0
  · clear h
    go_enter Try.func3, Try.ntmps3
    have hb0 := Below.refl w.heap.size w
    go_wp2_with fail
    with_reducible refine (alive_any _).mono ?_
    rintro e w1 ⟨rfl, hc1⟩
    have hb1 : Below w.heap.size w w1 := bchain (by repeat' (first | with_reducible exact hb0 | with_reducible refine Below.drew ?_ | with_reducible refine below_drewN ?_ _ | with_reducible refine Below.alloc ?_ (by have := hb0.size; first | (simp; done) | (simp; omega) | omega) _ | with_reducible refine Below.setCell ?_ (by first | (simp; done) | (simp; omega) | omega) _)) hc1
    clear hc1 hb0
    go_wp2_with fail
    go_ret
    exact ⟨rfl, by repeat' (first | with_reducible exact hb1 | with_reducible refine Below.drew ?_ | with_reducible refine below_drewN ?_ _ | with_reducible refine Below.alloc ?_ (by have := hb1.size; first | (simp; done) | (simp; omega) | omega) _ | with_reducible refine Below.setCell ?_ (by first | (simp; done) | (simp; omega) | omega) _)⟩
  by_cases c4 : 40 < n
  · clear h
    go_enter Try.func3, Try.ntmps3
    have hb0 := Below.refl w.heap.size w
    go_wp2_with fail
    with_reducible refine (alive_any _).mono ?_
    rintro e w1 ⟨rfl, hc1⟩
    have hb1 : Below w.heap.size w w1 := bchain (by repeat' (first | with_reducible exact hb0 | with_reducible refine Below.drew ?_ | with_reducible refine below_drewN ?_ _ | with_reducible refine Below.alloc ?_ (by have := hb0.size; first | (simp; done) | (simp; omega) | omega) _ | with_reducible refine Below.setCell ?_ (by first | (simp; done) | (simp; omega) | omega) _)) hc1
    clear hc1 hb0
    go_wp2_with fail
    go_ret
    exact ⟨rfl, by repeat' (first | with_reducible exact hb1 | with_reducible refine Below.drew ?_ | with_reducible refine below_drewN ?_ _ | with_reducible refine Below.alloc ?_ (by have := hb1.size; first | (simp; done) | (simp; omega) | omega) _ | with_reducible refine Below.setCell ?_ (by first | (simp; done) | (simp; omega) | omega) _)⟩
  have c5 : (100 : Int) < (xs.length : Int) := by omega
  clear h
  go_enter Try.func3, Try.ntmps3
  have hb0 := Below.refl w.heap.size w
  go_wp2_with fail
  with_reducible refine (alive_any _).mono ?_
  rintro e w1 ⟨rfl, hc1⟩
  have hb1 : Below w.heap.size w w1 := bchain (by repeat' (first | with_reducible exact hb0 | with_reducible refine Below.drew ?_ | with_reducible refine below_drewN ?_ _ | with_reducible refine Below.alloc ?_ (by have := hb0.size; first | (simp; done) | (simp; omega) | omega) _ | with_reducible refine Below.setCell ?_ (by first | (simp; done) | (simp; omega) | omega) _)) hc1
  clear hc1 hb0
  go_wp2_with fail
  go_ret
  exact ⟨rfl, by repeat' (first | with_reducible exact hb1 | with_reducible refine Below.drew ?_ | with_reducible refine below_drewN ?_ _ | with_reducible refine Below.alloc ?_ (by have := hb1.size; first | (simp; done) | (simp; omega) | omega) _ | with_reducible refine Below.setCell ?_ (by first | (simp; done) | (simp; omega) | omega) _)⟩

set_option maxRecDepth 100000 in
set_option maxHeartbeats 8000000 in
theorem order_walk (room n : Int) (pa : Option Addr) (pc : Nat) (xs : List Int) (w : World) (hx : CellsAt w pa (xs.map (Value.int .i64))) (c1 : 1 ≤ room) (c2 : room ≤ 16) (c3 : 0 ≤ n) (c4 : n ≤ 40) (c5 : xs.length ≤ 100) :
    Calls Try.prog 3 #[.int .i64 room, .int .i64 n, .slice pa xs.length pc] w fun e w' =>
      e = .returned (.bool true) ∧ Below w.heap.size w w' := by
  have d1 : decide (room < 1) = false := decide_eq_false (by omega)
  have d2 : decide (16 < room) = false := decide_eq_false (by omega)
  have d3 : decide (n < 0) = false := decide_eq_false (by omega)
  have d4 : decide (40 < n) = false := decide_eq_false (by omega)
  have d5 : decide ((100 : Int) < (xs.length : Int)) = false := decide_eq_false (by omega)
  have d6 : decide (100 < xs.length) = false := decide_eq_false (by omega)
  go_enter Try.func3, Try.ntmps3
  have hb0 := Below.refl w.heap.size w
  go_wp2_with fail
  with_reducible refine (alive_any _).mono ?_
  rintro e w1 ⟨rfl, hc1⟩
  have hb1 : Below w.heap.size w w1 := bchain (by repeat' (first | with_reducible exact hb0 | with_reducible refine Below.drew ?_ | with_reducible refine below_drewN ?_ _ | with_reducible refine Below.alloc ?_ (by have := hb0.size; first | (simp; done) | (simp; omega) | omega) _ | with_reducible refine Below.setCell ?_ (by first | (simp; done) | (simp; omega) | omega) _)) hc1
  clear hc1 hb0
  go_wp2_with fail
  with_reducible refine (gave_any room n _ c1 c2 c3 c4).mono ?_
  rintro e w2 ⟨⟨a2, k2, rfl⟩, hc2⟩
  have hb2 : Below w.heap.size w w2 := bchain (by repeat' (first | with_reducible exact hb1 | with_reducible refine Below.drew ?_ | with_reducible refine below_drewN ?_ _ | with_reducible refine Below.alloc ?_ (by have := hb1.size; first | (simp; done) | (simp; omega) | omega) _ | with_reducible refine Below.setCell ?_ (by first | (simp; done) | (simp; omega) | omega) _)) hc2
  clear hc2 hb1
  have zw2 := hb2.size
  go_wp2_with fail
  refine wp_gen fun w3 hc3 => ?_
  have hb3 : Below w.heap.size w w3 := bchain (by repeat' (first | with_reducible exact hb2 | with_reducible refine Below.drew ?_ | with_reducible refine below_drewN ?_ _ | with_reducible refine Below.alloc ?_ (by have := hb2.size; first | (simp; done) | (simp; omega) | omega) _ | with_reducible refine Below.setCell ?_ (by first | (simp; done) | (simp; omega) | omega) _)) hc3
  have N_0 : w3.cell? ⟨w2.heap.size, 0, none⟩ = some (.int .i64 n) := (hc3.cell (p := ⟨w2.heap.size, 0, none⟩) (by first | (simp; done) | (simp; omega))).trans (by first | (simp; done) | go_simp)
  have N_1 : w3.cell? ⟨w2.heap.size, 1, none⟩ = some (.int .i64 0) := (hc3.cell (p := ⟨w2.heap.size, 1, none⟩) (by first | (simp; done) | (simp; omega))).trans (by first | (simp; done) | go_simp)
  have N_2 : w3.cell? ⟨w2.heap.size, 2, none⟩ = some (.int .i64 room) := (hc3.cell (p := ⟨w2.heap.size, 2, none⟩) (by first | (simp; done) | (simp; omega))).trans (by first | (simp; done) | go_simp)
  have N_3 : w3.cell? ⟨w2.heap.size, 3, none⟩ = some (.slice a2 0 k2) := (hc3.cell (p := ⟨w2.heap.size, 3, none⟩) (by first | (simp; done) | (simp; omega))).trans (by first | (simp; done) | go_simp)
  have N_f0 : w3.frozen? ⟨w2.heap.size, 0, none⟩ = false := (hc3.frozen (p := ⟨w2.heap.size, 0, none⟩) (by first | (simp; done) | (simp; omega))).trans (by first | (simp; done) | go_simp)
  have N_f1 : w3.frozen? ⟨w2.heap.size, 1, none⟩ = false := (hc3.frozen (p := ⟨w2.heap.size, 1, none⟩) (by first | (simp; done) | (simp; omega))).trans (by first | (simp; done) | go_simp)
  have N_f2 : w3.frozen? ⟨w2.heap.size, 2, none⟩ = false := (hc3.frozen (p := ⟨w2.heap.size, 2, none⟩) (by first | (simp; done) | (simp; omega))).trans (by first | (simp; done) | go_simp)
  have N_f3 : w3.frozen? ⟨w2.heap.size, 3, none⟩ = false := (hc3.frozen (p := ⟨w2.heap.size, 3, none⟩) (by first | (simp; done) | (simp; omega))).trans (by first | (simp; done) | go_simp)
  have N_l : w2.heap.size < w3.heap.size := Nat.lt_of_lt_of_le (by first | (simp; done) | (simp; omega)) hc3.size
  have hU : Put40 w3 (w2.heap.size + 1) (fun j => pt 0 [] j) := by
    refine ⟨#[.bool false, .bool false, .bool false, .bool false, .bool false, .bool false, .bool false, .bool false, .bool false, .bool false, .bool false, .bool false, .bool false, .bool false, .bool false, .bool false, .bool false, .bool false, .bool false, .bool false, .bool false, .bool false, .bool false, .bool false, .bool false, .bool false, .bool false, .bool false, .bool false, .bool false, .bool false, .bool false, .bool false, .bool false, .bool false, .bool false, .bool false, .bool false, .bool false, .bool false], (hc3.block (w2.heap.size + 1) (by first | (simp; done) | (simp; omega) | omega)).trans (heap_new2 w2 _ _), rfl, fun j hj => ?_⟩
    rw [show (#[.bool false, .bool false, .bool false, .bool false, .bool false, .bool false, .bool false, .bool false, .bool false, .bool false, .bool false, .bool false, .bool false, .bool false, .bool false, .bool false, .bool false, .bool false, .bool false, .bool false, .bool false, .bool false, .bool false, .bool false, .bool false, .bool false, .bool false, .bool false, .bool false, .bool false, .bool false, .bool false, .bool false, .bool false, .bool false, .bool false, .bool false, .bool false, .bool false, .bool false] : Array Value) = Array.replicate 40 (.bool false) from rfl]
    have hp0 : pt 0 [] (j : Int) = false := by simp [pt, hasT]
    show _ = some (Value.bool (pt 0 [] (j : Int)))
    rw [hp0]; simp [hj]
  have HV0 : DV n 0 room [] := ⟨c1, c2, by omega, c3, by omega, by simp [besides]; omega, fun i hi => by simp at hi, fun i _ hi => by simp at hi⟩
  have hUN : w2.heap.size + 1 ≠ w2.heap.size := by omega
  go_loopw [10, 12] (fun s q wr => ∃ (i : Nat) (o : Int) (hs : Slips) (ak : Option Addr) (ck : Nat), i ≤ xs.length ∧ s = .int .i64 o ∧ q = .int .i64 i ∧ Below w.heap.size w wr ∧ (wr.cell? ⟨w2.heap.size, 0, none⟩ = some (.int .i64 n) ∧ wr.cell? ⟨w2.heap.size, 1, none⟩ = some (.int .i64 o) ∧ wr.cell? ⟨w2.heap.size, 2, none⟩ = some (.int .i64 room) ∧ wr.cell? ⟨w2.heap.size, 3, none⟩ = some (.slice ak hs.length ck)) ∧ (wr.frozen? ⟨w2.heap.size, 0, none⟩ = false ∧ wr.frozen? ⟨w2.heap.size, 1, none⟩ = false ∧ wr.frozen? ⟨w2.heap.size, 2, none⟩ = false ∧ wr.frozen? ⟨w2.heap.size, 3, none⟩ = false) ∧ CellsAt wr ak (cel hs) ∧ Put40 wr (w2.heap.size + 1) (fun j => pt o hs j) ∧ Hid (DV n o room hs) ∧ Hid (Sev hs)) (fun _ q _ => xs.length - (intOf q).toNat)
  case atStart => exact ⟨0, 0, [], a2, k2, Nat.zero_le _, rfl, rfl, (by repeat' (first | with_reducible exact hb3 | with_reducible refine Below.drew ?_ | with_reducible refine below_drewN ?_ _ | with_reducible refine Below.alloc ?_ (by have := hb3.size; first | (simp; done) | (simp; omega) | omega) _ | with_reducible refine Below.setCell ?_ (by first | (simp; done) | (simp; omega) | omega) _)), ⟨N_0, N_1, N_2, N_3⟩, ⟨N_f0, N_f1, N_f2, N_f3⟩, .inl rfl, hU, hid HV0, hid (fun s h => by simp at h)⟩
  case round =>
    clear N_0 N_1 N_2 N_3 N_f0 N_f1 N_f2 N_f3 N_l hU HV0
    obtain ⟨i, o, hs, ak, ck, hi, rfl, rfl, hbw, ⟨N_0, N_1, N_2, N_3⟩, ⟨N_f0, N_f1, N_f2, N_f3⟩, k1, hU, HV, HS⟩ := hrel
    have ho1 := HV.out.o1
    have ho2 := HV.out.o2
    have hl17 := HV.out.len
    have hb17 : hs.length ≤ 8796093022206 := by omega
    have N_l : w2.heap.size < wr.heap.size := World.block_lt_of_cell? _ _ N_0
    have U_l := hU.lt
    by_cases hlt : i < xs.length
    · have hlt' : (i : Int) < (xs.length : Int) := by omega
      obtain ⟨b, o', rfl, hcell⟩ := hx.int (by omega)
      have t0 := cell_later hbw (hcell i hlt)
      have tw := World.block_lt_of_cell? _ _ (hcell i hlt)
      obtain ⟨t, ht⟩ : ∃ t, t = xs[i]?.getD 0 := ⟨_, rfl⟩
      rw [← ht] at t0
      clear hcell hx ht
      simp only at tw
      by_cases t1 : t < 0
      · skip
        go_wp2_with fail
        go_roundw
        case rel => exact ⟨i + 1, o, hs, ak, ck, by omega, rfl, by go_num, (by repeat' (first | with_reducible exact hbw | with_reducible refine Below.drew ?_ | with_reducible refine below_drewN ?_ _ | with_reducible refine Below.alloc ?_ (by have := hbw.size; first | (simp; done) | (simp; omega) | omega) _ | with_reducible refine Below.setCell ?_ (by first | (simp; done) | (simp; omega) | omega) _)), ⟨by go_simp, by go_simp, by go_simp, by go_simp⟩, ⟨by go_simp, by go_simp, by go_simp, by go_simp⟩, k1, hU, HV, HS⟩
        case measure => simp [intOf]; omega
      by_cases t2 : n ≤ t
      · skip
        go_wp2_with fail
        go_roundw
        case rel => exact ⟨i + 1, o, hs, ak, ck, by omega, rfl, by go_num, (by repeat' (first | with_reducible exact hbw | with_reducible refine Below.drew ?_ | with_reducible refine below_drewN ?_ _ | with_reducible refine Below.alloc ?_ (by have := hbw.size; first | (simp; done) | (simp; omega) | omega) _ | with_reducible refine Below.setCell ?_ (by first | (simp; done) | (simp; omega) | omega) _)), ⟨by go_simp, by go_simp, by go_simp, by go_simp⟩, ⟨by go_simp, by go_simp, by go_simp, by go_simp⟩, k1, hU, HV, HS⟩
        case measure => simp [intOf]; omega
      obtain ⟨m, rfl⟩ : ∃ m : Nat, t = m := ⟨t.toNat, by omega⟩
      have hm40 : m < 40 := by omega
      have hm40' : (m : Int) < 40 := by omega
      by_cases t3 : (m : Int) < o
      · have hr : dPut ⟨n, o, room, hs⟩ m (m * 7) = (Dk.zero, 2) := by unfold dPut Dk.err; simp only; rw [if_pos HV.out.err, if_pos (.inl t3)]
        have H_hr := hid hr
        clear hr
        go_wp2_with fail
        with_reducible refine (put_fail n o room m (m * 7) hs 2 ak ck _ H_hr.out k1 hb17).mono ?_
        rintro e w4 ⟨⟨a4, c4, rfl⟩, hc4⟩
        have hb4 : Below w.heap.size w w4 := bchain (by repeat' (first | with_reducible exact hbw | with_reducible refine Below.drew ?_ | with_reducible refine below_drewN ?_ _ | with_reducible refine Below.alloc ?_ (by have := hbw.size; first | (simp; done) | (simp; omega) | omega) _ | with_reducible refine Below.setCell ?_ (by first | (simp; done) | (simp; omega) | omega) _)) hc4
        have hst4 : Below wr.heap.size wr w4 := bchain (by repeat' (first | with_reducible exact Below.refl _ _ | with_reducible refine Below.drew ?_ | with_reducible refine below_drewN ?_ _ | with_reducible refine Below.alloc ?_ (by first | (simp; done) | (simp; omega) | omega) _ | with_reducible refine Below.setCell ?_ (by first | (simp; done) | (simp; omega) | omega) _)) hc4
        replace N_0 := cell_later hst4 N_0
        replace N_1 := cell_later hst4 N_1
        replace N_2 := cell_later hst4 N_2
        replace N_3 := cell_later hst4 N_3
        replace N_f0 := frozen_later hst4 N_l N_f0
        replace N_f1 := frozen_later hst4 N_l N_f1
        replace N_f2 := frozen_later hst4 N_l N_f2
        replace N_f3 := frozen_later hst4 N_l N_f3
        replace N_l := Nat.lt_of_lt_of_le N_l hst4.size
        replace k1 := k1.later hst4
        replace hU := hU.later hst4
        clear hst4
        clear hc4 hbw
        have kX := k1
        have hV := HV
        have hS := HS
        go_upto_region 27 with fail
        refine wp_gen fun w20 hc20 => ?_
        have hb20 : Below w.heap.size w w20 := bchain (by repeat' (first | with_reducible exact hb4 | with_reducible refine Below.drew ?_ | with_reducible refine below_drewN ?_ _ | with_reducible refine Below.alloc ?_ (by have := hb4.size; first | (simp; done) | (simp; omega) | omega) _ | with_reducible refine Below.setCell ?_ (by first | (simp; done) | (simp; omega) | omega) _)) hc20
        have hst20 : Below w4.heap.size w4 w20 := bchain (by repeat' (first | with_reducible exact Below.refl _ _ | with_reducible refine Below.drew ?_ | with_reducible refine below_drewN ?_ _ | with_reducible refine Below.alloc ?_ (by first | (simp; done) | (simp; omega) | omega) _ | with_reducible refine Below.setCell ?_ (by first | (simp; done) | (simp; omega) | omega) _)) hc20
        replace N_0 := cell_later hst20 N_0
        replace N_1 := cell_later hst20 N_1
        replace N_2 := cell_later hst20 N_2
        replace N_3 := cell_later hst20 N_3
        replace N_f0 := frozen_later hst20 N_l N_f0
        replace N_f1 := frozen_later hst20 N_l N_f1
        replace N_f2 := frozen_later hst20 N_l N_f2
        replace N_f3 := frozen_later hst20 N_l N_f3
        replace N_l := Nat.lt_of_lt_of_le N_l hst20.size
        replace hU := hU.later hst20
        replace kX := kX.later hst20
        clear hst20
        rcases Nat.mod_two_eq_zero_or_one i with hpar | hpar
        · have hpi : ((i : Int) % 2 == 1) = false := beq_eq_false_iff_ne.2 (by omega)
          clear hpar
          have hrl := run_le hs o
          have hdl : hs.length - run o hs = (hs.drop (run o hs)).length := by rw [List.length_drop]
          have hV2 := hV.out.popN (run o hs) (Nat.le_refl _)
          have HV2 := hid hV2
          have HS2 := hid (hS.out.drop (run o hs))
          have hpl : hs.length ≤ 8796093022206 := by have := hV.out.len; omega
          have hrn := hV2.o2
          have HP := hid (fun j => pt_drain hV.out j)
          have HN := hid (pt_next hV.out)
          clear hV2
          have zN20 := N_l
          have H_hdl := hid hdl
          have H_hpl := hid hpl
          clear hdl hpl
          go_wp2_with fail
          with_reducible refine (ddrain_v n o room hs ak ck _ hV.out kX H_hpl.out).mono ?_
          rintro e w21 ⟨a25, c25, b25, d25, rfl, k25, m25, f25, _, hc21⟩
          have hb21 : Below w.heap.size w w21 := bchain (by repeat' (first | with_reducible exact hb20 | with_reducible refine Below.drew ?_ | with_reducible refine below_drewN ?_ _ | with_reducible refine Below.alloc ?_ (by have := hb20.size; first | (simp; done) | (simp; omega) | omega) _ | with_reducible refine Below.setCell ?_ (by first | (simp; done) | (simp; omega) | omega) _)) hc21
          have hst21 : Below w20.heap.size w20 w21 := bchain (by repeat' (first | with_reducible exact Below.refl _ _ | with_reducible refine Below.drew ?_ | with_reducible refine below_drewN ?_ _ | with_reducible refine Below.alloc ?_ (by first | (simp; done) | (simp; omega) | omega) _ | with_reducible refine Below.setCell ?_ (by first | (simp; done) | (simp; omega) | omega) _)) hc21
          replace N_0 := cell_later hst21 N_0
          replace N_1 := cell_later hst21 N_1
          replace N_2 := cell_later hst21 N_2
          replace N_3 := cell_later hst21 N_3
          replace N_f0 := frozen_later hst21 N_l N_f0
          replace N_f1 := frozen_later hst21 N_l N_f1
          replace N_f2 := frozen_later hst21 N_l N_f2
          replace N_f3 := frozen_later hst21 N_l N_f3
          replace N_l := Nat.lt_of_lt_of_le N_l hst21.size
          replace hU := hU.later hst21
          replace kX := kX.later hst21
          clear hst21
          clear hc21 hb20
          have p25 : ∀ ad, a25 = some ad → ad.block ≠ w2.heap.size := fun ad e => by have := f25 ad e; omega
          go_wp2_with fail
          with_reducible refine (rcheck_ok n (o + (run o hs : Nat)) room (hs.drop (run o hs)) (hs.length - run o hs) a25 c25 _ HV2.out H_hdl.out (by repeat' (first | with_reducible exact k25 | with_reducible refine CellsAt.setFar ?_ ?_ _ | with_reducible refine CellsAt.alloc ?_ _ | with_reducible refine CellsAt.drew ?_ | with_reducible refine CellsAt.drewN ?_ _ | assumption | (simp; omega) | omega))).mono ?_
          rintro e w22 ⟨rfl, hc22⟩
          have hb22 : Below w.heap.size w w22 := bchain (by repeat' (first | with_reducible exact hb21 | with_reducible refine Below.drew ?_ | with_reducible refine below_drewN ?_ _ | with_reducible refine Below.alloc ?_ (by have := hb21.size; first | (simp; done) | (simp; omega) | omega) _ | with_reducible refine Below.setCell ?_ (by first | (simp; done) | (simp; omega) | omega) _)) hc22
          have hst22 : Below w21.heap.size w21 w22 := bchain (by repeat' (first | with_reducible exact Below.refl _ _ | with_reducible refine Below.drew ?_ | with_reducible refine below_drewN ?_ _ | with_reducible refine Below.alloc ?_ (by first | (simp; done) | (simp; omega) | omega) _ | with_reducible refine Below.setCell ?_ (by first | (simp; done) | (simp; omega) | omega) _)) hc22
          replace N_0 := cell_later hst22 N_0
          replace N_1 := cell_later hst22 N_1
          replace N_2 := cell_later hst22 N_2
          replace N_3 := cell_later hst22 N_3
          replace N_f0 := frozen_later hst22 N_l N_f0
          replace N_f1 := frozen_later hst22 N_l N_f1
          replace N_f2 := frozen_later hst22 N_l N_f2
          replace N_f3 := frozen_later hst22 N_l N_f3
          replace N_l := Nat.lt_of_lt_of_le N_l hst22.size
          have A_0 : w22.cell? ⟨w21.heap.size, 0, none⟩ = some (.int .i64 n) := (hc22.cell (p := ⟨w21.heap.size, 0, none⟩) (by first | (simp; done) | (simp; omega))).trans (by first | (simp; done) | go_simp)
          have A_1 : w22.cell? ⟨w21.heap.size, 1, none⟩ = some (.int .i64 (o + (run o hs : Nat))) := (hc22.cell (p := ⟨w21.heap.size, 1, none⟩) (by first | (simp; done) | (simp; omega))).trans (by first | (simp; done) | go_simp)
          have A_2 : w22.cell? ⟨w21.heap.size, 2, none⟩ = some (.int .i64 room) := (hc22.cell (p := ⟨w21.heap.size, 2, none⟩) (by first | (simp; done) | (simp; omega))).trans (by first | (simp; done) | go_simp)
          have A_3 : w22.cell? ⟨w21.heap.size, 3, none⟩ = some (.slice a25 (hs.length - run o hs) c25) := (hc22.cell (p := ⟨w21.heap.size, 3, none⟩) (by first | (simp; done) | (simp; omega))).trans (by first | (simp; done) | go_simp)
          have A_f0 : w22.frozen? ⟨w21.heap.size, 0, none⟩ = false := (hc22.frozen (p := ⟨w21.heap.size, 0, none⟩) (by first | (simp; done) | (simp; omega))).trans (by first | (simp; done) | go_simp)
          have A_f1 : w22.frozen? ⟨w21.heap.size, 1, none⟩ = false := (hc22.frozen (p := ⟨w21.heap.size, 1, none⟩) (by first | (simp; done) | (simp; omega))).trans (by first | (simp; done) | go_simp)
          have A_f2 : w22.frozen? ⟨w21.heap.size, 2, none⟩ = false := (hc22.frozen (p := ⟨w21.heap.size, 2, none⟩) (by first | (simp; done) | (simp; omega))).trans (by first | (simp; done) | go_simp)
          have A_f3 : w22.frozen? ⟨w21.heap.size, 3, none⟩ = false := (hc22.frozen (p := ⟨w21.heap.size, 3, none⟩) (by first | (simp; done) | (simp; omega))).trans (by first | (simp; done) | go_simp)
          have A_l : w21.heap.size < w22.heap.size := Nat.lt_of_lt_of_le (by first | (simp; done) | (simp; omega)) hc22.size
          replace hU := hU.later hst22
          replace kX := kX.later hst22
          replace k25 := k25.later hst22
          replace m25 := m25.later hst22
          clear hst22
          clear hc22 hb21
          go_wp2_with fail
          refine wp_gen fun w23 hc23 => ?_
          have hb23 : Below w.heap.size w w23 := bchain (by repeat' (first | with_reducible exact hb22 | with_reducible refine Below.drew ?_ | with_reducible refine below_drewN ?_ _ | with_reducible refine Below.alloc ?_ (by have := hb22.size; first | (simp; done) | (simp; omega) | omega) _ | with_reducible refine Below.setCell ?_ (by first | (simp; done) | (simp; omega) | omega) _)) hc23
          have hst23 : Below w22.heap.size w22 w23 := bchain (by repeat' (first | with_reducible exact Below.refl _ _ | with_reducible refine Below.drew ?_ | with_reducible refine below_drewN ?_ _ | with_reducible refine Below.alloc ?_ (by first | (simp; done) | (simp; omega) | omega) _ | with_reducible refine Below.setCell ?_ (by first | (simp; done) | (simp; omega) | omega) _)) hc23
          replace N_0 := cell_later hst23 N_0
          replace N_1 := cell_later hst23 N_1
          replace N_2 := cell_later hst23 N_2
          replace N_3 := cell_later hst23 N_3
          replace N_f0 := frozen_later hst23 N_l N_f0
          replace N_f1 := frozen_later hst23 N_l N_f1
          replace N_f2 := frozen_later hst23 N_l N_f2
          replace N_f3 := frozen_later hst23 N_l N_f3
          replace N_l := Nat.lt_of_lt_of_le N_l hst23.size
          replace A_0 := cell_later hst23 A_0
          replace A_1 := cell_later hst23 A_1
          replace A_2 := cell_later hst23 A_2
          replace A_3 := cell_later hst23 A_3
          replace A_f0 := frozen_later hst23 A_l A_f0
          replace A_f1 := frozen_later hst23 A_l A_f1
          replace A_f2 := frozen_later hst23 A_l A_f2
          replace A_f3 := frozen_later hst23 A_l A_f3
          replace A_l := Nat.lt_of_lt_of_le A_l hst23.size
          replace hU := hU.later hst23
          replace kX := kX.later hst23
          replace k25 := k25.later hst23
          replace m25 := m25.later hst23
          clear hst23
          have hqq : (0 : Int) ≤ ((run o hs : Nat) : Int) := by omega
          go_loopw [10, 19] (fun s q wq => ∃ k : Nat, k ≤ run o hs ∧ s = .int .i64 (o + k) ∧ q = .int .i64 k ∧ Below w23.heap.size w23 wq) (fun _ q _ => run o hs - (intOf q).toNat)
          case atStart => exact ⟨0, Nat.zero_le _, by go_num, rfl, Below.refl _ _⟩
          case round =>
            obtain ⟨k, hk, rfl, rfl, hc24⟩ := hrel
            obtain ⟨w24, hw24⟩ : ∃ w24, w24 = wr := ⟨wr, rfl⟩
            subst hw24
            have hb24 : Below w.heap.size w w24 := bchain (by repeat' (first | with_reducible exact hb23 | with_reducible refine Below.drew ?_ | with_reducible refine below_drewN ?_ _ | with_reducible refine Below.alloc ?_ (by have := hb23.size; first | (simp; done) | (simp; omega) | omega) _ | with_reducible refine Below.setCell ?_ (by first | (simp; done) | (simp; omega) | omega) _)) hc24
            have hst24 : Below w23.heap.size w23 w24 := bchain (by repeat' (first | with_reducible exact Below.refl _ _ | with_reducible refine Below.drew ?_ | with_reducible refine below_drewN ?_ _ | with_reducible refine Below.alloc ?_ (by first | (simp; done) | (simp; omega) | omega) _ | with_reducible refine Below.setCell ?_ (by first | (simp; done) | (simp; omega) | omega) _)) hc24
            replace N_0 := cell_later hst24 N_0
            replace N_1 := cell_later hst24 N_1
            replace N_2 := cell_later hst24 N_2
            replace N_3 := cell_later hst24 N_3
            replace N_f0 := frozen_later hst24 N_l N_f0
            replace N_f1 := frozen_later hst24 N_l N_f1
            replace N_f2 := frozen_later hst24 N_l N_f2
            replace N_f3 := frozen_later hst24 N_l N_f3
            replace N_l := Nat.lt_of_lt_of_le N_l hst24.size
            replace A_0 := cell_later hst24 A_0
            replace A_1 := cell_later hst24 A_1
            replace A_2 := cell_later hst24 A_2
            replace A_3 := cell_later hst24 A_3
            replace A_f0 := frozen_later hst24 A_l A_f0
            replace A_f1 := frozen_later hst24 A_l A_f1
            replace A_f2 := frozen_later hst24 A_l A_f2
            replace A_f3 := frozen_later hst24 A_l A_f3
            replace A_l := Nat.lt_of_lt_of_le A_l hst24.size
            replace hU := hU.later hst24
            replace kX := kX.later hst24
            replace k25 := k25.later hst24
            replace m25 := m25.later hst24
            clear hst24
            by_cases hkr : k < run o hs
            · have hkr' : (k : Int) < ((run o hs : Nat) : Int) := by omega
              have hon : ¬ (n ≤ o + k) := by omega
              obtain ⟨j, hj⟩ : ∃ j : Nat, o + (k : Int) = j := ⟨(o + k).toNat, by omega⟩
              have hj40 : j < 40 := by omega
              have hj40' : (j : Int) < 40 := by omega
              have htk := run_at hs o k hkr
              have hpj : pt o hs j = true := by unfold pt; rw [hasT_idx (i := k) (by omega) (by rw [htk, hj])]; simp
              have u0 := (hU.cell hj40).1
              rw [hpj] at u0
              obtain ⟨bb, oo, rfl, g1, g2, hcell⟩ := m25.slips (by rw [List.length_take]; omega)
              obtain ⟨e0, e1⟩ := hcell k (by rw [List.length_take]; omega)
              have htt : tg (hs.take (run o hs)) k = j ∧ wg (hs.take (run o hs)) k = (j : Int) * 7 := by
                have h1 : (hs.take (run o hs))[k]? = hs[k]? := by rw [List.getElem?_take, if_pos hkr]
                have h2 := hS.out.at (i := k) (by omega)
                unfold tg wg at *
                rw [h1]; omega
              rw [htt.1] at e0
              rw [htt.2] at e1
              clear hcell
              have hjn : ¬ (n ≤ (j : Int)) := by omega
              have H_hj := hid hj
              have H_htt := hid htt
              have H_htk := hid htk
              have H_hpj := hid hpj
              clear hj htt htk hpj
              rw [H_hj.out] 
              go_wp2_with fail
              go_roundw
              case rel => exact ⟨k + 1, by omega, congrArg (Value.int .i64) (by have := H_hj.out; omega), by go_num, hc24⟩
              case measure => simp [intOf]; omega
            · obtain rfl : k = run o hs := by omega
              by_cases hon : o + ((run o hs : Nat) : Int) < n
              · obtain ⟨j, hj⟩ : ∃ j : Nat, o + ((run o hs : Nat) : Int) = j := ⟨(o + (run o hs : Nat)).toNat, by omega⟩
                have hj40 : j < 40 := by omega
                have hj40' : (j : Int) < 40 := by omega
                have hjn : (j : Int) < n := by omega
                have u0 := (hU.cell hj40).1
                have hpj : pt o hs j = false := by rw [← HP.out j, ← hj]; exact HN.out
                rw [hpj] at u0
                have A_1' := A_1
                rw [hj] at A_1'
                clear A_1
                have A_1 := A_1'
                have H_hj := hid hj
                have H_hpj := hid hpj
                clear hj hpj
                rw [H_hj.out]
                go_wp2_with fail
                go_roundw
                case rel => exact ⟨i + 1, o + (run o hs : Nat), hs.drop (run o hs), a25, c25, by omega, by rw [H_hj.out], by go_num, (by repeat' (first | with_reducible exact hb24 | with_reducible refine Below.drew ?_ | with_reducible refine below_drewN ?_ _ | with_reducible refine Below.alloc ?_ (by have := hb24.size; first | (simp; done) | (simp; omega) | omega) _ | with_reducible refine Below.setCell ?_ (by first | (simp; done) | (simp; omega) | omega) _)), ⟨by go_simp, by rw [H_hj.out]; go_simp, by go_simp, by rw [← H_hdl.out]; go_simp⟩, ⟨by go_simp, by go_simp, by go_simp, by go_simp⟩, by repeat' (first | with_reducible exact k25 | with_reducible refine CellsAt.setFarG ?_ p25 _), Put40.congr (by repeat' (first | with_reducible exact hU | with_reducible refine Put40.setFar ?_ hUN _)) (fun j => (HP.out j).symm), HV2, HS2⟩
                case measure => simp [intOf]; omega
              · have hon' : decide (o + ((run o hs : Nat) : Int) < n) = false := decide_eq_false hon
                go_wp2_with fail
                go_roundw
                case rel => exact ⟨i + 1, o + (run o hs : Nat), hs.drop (run o hs), a25, c25, by omega, rfl, by go_num, (by repeat' (first | with_reducible exact hb24 | with_reducible refine Below.drew ?_ | with_reducible refine below_drewN ?_ _ | with_reducible refine Below.alloc ?_ (by have := hb24.size; first | (simp; done) | (simp; omega) | omega) _ | with_reducible refine Below.setCell ?_ (by first | (simp; done) | (simp; omega) | omega) _)), ⟨by go_simp, by go_simp, by go_simp, by rw [← H_hdl.out]; go_simp⟩, ⟨by go_simp, by go_simp, by go_simp, by go_simp⟩, by repeat' (first | with_reducible exact k25 | with_reducible refine CellsAt.setFarG ?_ p25 _), Put40.congr (by repeat' (first | with_reducible exact hU | with_reducible refine Put40.setFar ?_ hUN _)) (fun j => (HP.out j).symm), HV2, HS2⟩
                case measure => simp [intOf]; omega
        · have hpi : ((i : Int) % 2 == 1) = true := by simp; omega
          clear hpar
          go_wp2_with fail
          go_roundw
          case rel => exact ⟨i + 1, o, hs, ak, ck, by omega, rfl, by go_num, (by repeat' (first | with_reducible exact hb20 | with_reducible refine Below.drew ?_ | with_reducible refine below_drewN ?_ _ | with_reducible refine Below.alloc ?_ (by have := hb20.size; first | (simp; done) | (simp; omega) | omega) _ | with_reducible refine Below.setCell ?_ (by first | (simp; done) | (simp; omega) | omega) _)), ⟨by go_simp, by go_simp, by go_simp, by go_simp⟩, ⟨by go_simp, by go_simp, by go_simp, by go_simp⟩, kX, hU, hV, hS⟩
          case measure => simp [intOf]; omega
      have t3' : decide ((m : Int) < o) = false := decide_eq_false t3
      cases hh : hasT hs m
      · have hpm : pt o hs m = false := by unfold pt; rw [hh]; simp; omega
        by_cases t4 : (m : Int) ≠ o ∧ room ≤ (besides o hs : Int)
        · have hr : dPut ⟨n, o, room, hs⟩ m (m * 7) = (Dk.zero, 38) := by unfold dPut Dk.err; simp only; rw [if_pos HV.out.err, if_neg (by omega), if_neg (by rw [hh]; simp), if_pos t4]
          have hbes : (((besides o hs : Nat) : Int) != room) = false := by have := HV.out.room; simp; omega
          have hmo : ((m : Int) == o) = false := beq_eq_false_iff_ne.2 t4.1
          have u0 := (hU.cell hm40).1
          rw [hpm] at u0
          have hml17 : hs.length ≤ maxLen := by unfold maxLen; omega
          have H_hr := hid hr
          have H_hpm := hid hpm
          have H_hml17 := hid hml17
          clear hr hpm hml17
          clear hh t4
          go_wp2_with fail
          with_reducible refine (put_fail n o room m (m * 7) hs 38 ak ck _ H_hr.out k1 hb17).mono ?_
          rintro e w4 ⟨⟨a4, c4, rfl⟩, hc4⟩
          have hb4 : Below w.heap.size w w4 := bchain (by repeat' (first | with_reducible exact hbw | with_reducible refine Below.drew ?_ | with_reducible refine below_drewN ?_ _ | with_reducible refine Below.alloc ?_ (by have := hbw.size; first | (simp; done) | (simp; omega) | omega) _ | with_reducible refine Below.setCell ?_ (by first | (simp; done) | (simp; omega) | omega) _)) hc4
          have hst4 : Below wr.heap.size wr w4 := bchain (by repeat' (first | with_reducible exact Below.refl _ _ | with_reducible refine Below.drew ?_ | with_reducible refine below_drewN ?_ _ | with_reducible refine Below.alloc ?_ (by first | (simp; done) | (simp; omega) | omega) _ | with_reducible refine Below.setCell ?_ (by first | (simp; done) | (simp; omega) | omega) _)) hc4
          replace N_0 := cell_later hst4 N_0
          replace N_1 := cell_later hst4 N_1
          replace N_2 := cell_later hst4 N_2
          replace N_3 := cell_later hst4 N_3
          replace N_f0 := frozen_later hst4 N_l N_f0
          replace N_f1 := frozen_later hst4 N_l N_f1
          replace N_f2 := frozen_later hst4 N_l N_f2
          replace N_f3 := frozen_later hst4 N_l N_f3
          replace N_l := Nat.lt_of_lt_of_le N_l hst4.size
          replace k1 := k1.later hst4
          replace hU := hU.later hst4
          clear hst4
          clear hc4 hbw
          replace u0 : w4.cell? ⟨w2.heap.size + 1, m, none⟩ = some (.bool false) := (hU.cell hm40).1.trans (by show some (Value.bool (pt o hs m)) = _; rw [H_hpm.out])
          have zU4 := hU.lt
          have zU5 : w2.heap.size + 1 ≠ w4.heap.size := by omega
          go_wp2_with fail
          with_reducible refine (besides_any n o room hs ak ck _ (k1.alloc _) H_hml17.out).mono ?_
          rintro e w5 ⟨rfl, hc5⟩
          have hb5 : Below w.heap.size w w5 := bchain (by repeat' (first | with_reducible exact hb4 | with_reducible refine Below.drew ?_ | with_reducible refine below_drewN ?_ _ | with_reducible refine Below.alloc ?_ (by have := hb4.size; first | (simp; done) | (simp; omega) | omega) _ | with_reducible refine Below.setCell ?_ (by first | (simp; done) | (simp; omega) | omega) _)) hc5
          have hst5 : Below w4.heap.size w4 w5 := bchain (by repeat' (first | with_reducible exact Below.refl _ _ | with_reducible refine Below.drew ?_ | with_reducible refine below_drewN ?_ _ | with_reducible refine Below.alloc ?_ (by first | (simp; done) | (simp; omega) | omega) _ | with_reducible refine Below.setCell ?_ (by first | (simp; done) | (simp; omega) | omega) _)) hc5
          replace N_0 := cell_later hst5 N_0
          replace N_1 := cell_later hst5 N_1
          replace N_2 := cell_later hst5 N_2
          replace N_3 := cell_later hst5 N_3
          replace N_f0 := frozen_later hst5 N_l N_f0
          replace N_f1 := frozen_later hst5 N_l N_f1
          replace N_f2 := frozen_later hst5 N_l N_f2
          replace N_f3 := frozen_later hst5 N_l N_f3
          replace N_l := Nat.lt_of_lt_of_le N_l hst5.size
          replace k1 := k1.later hst5
          replace hU := hU.later hst5
          clear hst5
          clear hc5 hb4
          have kX := k1
          have hV := HV
          have hS := HS
          go_upto_region 27 with fail
          refine wp_gen fun w20 hc20 => ?_
          have hb20 : Below w.heap.size w w20 := bchain (by repeat' (first | with_reducible exact hb5 | with_reducible refine Below.drew ?_ | with_reducible refine below_drewN ?_ _ | with_reducible refine Below.alloc ?_ (by have := hb5.size; first | (simp; done) | (simp; omega) | omega) _ | with_reducible refine Below.setCell ?_ (by first | (simp; done) | (simp; omega) | omega) _)) hc20
          have hst20 : Below w5.heap.size w5 w20 := bchain (by repeat' (first | with_reducible exact Below.refl _ _ | with_reducible refine Below.drew ?_ | with_reducible refine below_drewN ?_ _ | with_reducible refine Below.alloc ?_ (by first | (simp; done) | (simp; omega) | omega) _ | with_reducible refine Below.setCell ?_ (by first | (simp; done) | (simp; omega) | omega) _)) hc20
          replace N_0 := cell_later hst20 N_0
          replace N_1 := cell_later hst20 N_1
          replace N_2 := cell_later hst20 N_2
          replace N_3 := cell_later hst20 N_3
          replace N_f0 := frozen_later hst20 N_l N_f0
          replace N_f1 := frozen_later hst20 N_l N_f1
          replace N_f2 := frozen_later hst20 N_l N_f2
          replace N_f3 := frozen_later hst20 N_l N_f3
          replace N_l := Nat.lt_of_lt_of_le N_l hst20.size
          replace hU := hU.later hst20
          replace kX := kX.later hst20
          clear hst20
          rcases Nat.mod_two_eq_zero_or_one i with hpar | hpar
          · have hpi : ((i : Int) % 2 == 1) = false := beq_eq_false_iff_ne.2 (by omega)
            clear hpar
            have hrl := run_le hs o
            have hdl : hs.length - run o hs = (hs.drop (run o hs)).length := by rw [List.length_drop]
            have hV2 := hV.out.popN (run o hs) (Nat.le_refl _)
            have HV2 := hid hV2
            have HS2 := hid (hS.out.drop (run o hs))
            have hpl : hs.length ≤ 8796093022206 := by have := hV.out.len; omega
            have hrn := hV2.o2
            have HP := hid (fun j => pt_drain hV.out j)
            have HN := hid (pt_next hV.out)
            clear hV2
            have zN20 := N_l
            have H_hdl := hid hdl
            have H_hpl := hid hpl
            clear hdl hpl
            go_wp2_with fail
            with_reducible refine (ddrain_v n o room hs ak ck _ hV.out kX H_hpl.out).mono ?_
            rintro e w21 ⟨a25, c25, b25, d25, rfl, k25, m25, f25, _, hc21⟩
            have hb21 : Below w.heap.size w w21 := bchain (by repeat' (first | with_reducible exact hb20 | with_reducible refine Below.drew ?_ | with_reducible refine below_drewN ?_ _ | with_reducible refine Below.alloc ?_ (by have := hb20.size; first | (simp; done) | (simp; omega) | omega) _ | with_reducible refine Below.setCell ?_ (by first | (simp; done) | (simp; omega) | omega) _)) hc21
            have hst21 : Below w20.heap.size w20 w21 := bchain (by repeat' (first | with_reducible exact Below.refl _ _ | with_reducible refine Below.drew ?_ | with_reducible refine below_drewN ?_ _ | with_reducible refine Below.alloc ?_ (by first | (simp; done) | (simp; omega) | omega) _ | with_reducible refine Below.setCell ?_ (by first | (simp; done) | (simp; omega) | omega) _)) hc21
            replace N_0 := cell_later hst21 N_0
            replace N_1 := cell_later hst21 N_1
            replace N_2 := cell_later hst21 N_2
            replace N_3 := cell_later hst21 N_3
            replace N_f0 := frozen_later hst21 N_l N_f0
            replace N_f1 := frozen_later hst21 N_l N_f1
            replace N_f2 := frozen_later hst21 N_l N_f2
            replace N_f3 := frozen_later hst21 N_l N_f3
            replace N_l := Nat.lt_of_lt_of_le N_l hst21.size
            replace hU := hU.later hst21
            replace kX := kX.later hst21
            clear hst21
            clear hc21 hb20
            have p25 : ∀ ad, a25 = some ad → ad.block ≠ w2.heap.size := fun ad e => by have := f25 ad e; omega
            go_wp2_with fail
            with_reducible refine (rcheck_ok n (o + (run o hs : Nat)) room (hs.drop (run o hs)) (hs.length - run o hs) a25 c25 _ HV2.out H_hdl.out (by repeat' (first | with_reducible exact k25 | with_reducible refine CellsAt.setFar ?_ ?_ _ | with_reducible refine CellsAt.alloc ?_ _ | with_reducible refine CellsAt.drew ?_ | with_reducible refine CellsAt.drewN ?_ _ | assumption | (simp; omega) | omega))).mono ?_
            rintro e w22 ⟨rfl, hc22⟩
            have hb22 : Below w.heap.size w w22 := bchain (by repeat' (first | with_reducible exact hb21 | with_reducible refine Below.drew ?_ | with_reducible refine below_drewN ?_ _ | with_reducible refine Below.alloc ?_ (by have := hb21.size; first | (simp; done) | (simp; omega) | omega) _ | with_reducible refine Below.setCell ?_ (by first | (simp; done) | (simp; omega) | omega) _)) hc22
            have hst22 : Below w21.heap.size w21 w22 := bchain (by repeat' (first | with_reducible exact Below.refl _ _ | with_reducible refine Below.drew ?_ | with_reducible refine below_drewN ?_ _ | with_reducible refine Below.alloc ?_ (by first | (simp; done) | (simp; omega) | omega) _ | with_reducible refine Below.setCell ?_ (by first | (simp; done) | (simp; omega) | omega) _)) hc22
            replace N_0 := cell_later hst22 N_0
            replace N_1 := cell_later hst22 N_1
            replace N_2 := cell_later hst22 N_2
            replace N_3 := cell_later hst22 N_3
            replace N_f0 := frozen_later hst22 N_l N_f0
            replace N_f1 := frozen_later hst22 N_l N_f1
            replace N_f2 := frozen_later hst22 N_l N_f2
            replace N_f3 := frozen_later hst22 N_l N_f3
            replace N_l := Nat.lt_of_lt_of_le N_l hst22.size
            have A_0 : w22.cell? ⟨w21.heap.size, 0, none⟩ = some (.int .i64 n) := (hc22.cell (p := ⟨w21.heap.size, 0, none⟩) (by first | (simp; done) | (simp; omega))).trans (by first | (simp; done) | go_simp)
            have A_1 : w22.cell? ⟨w21.heap.size, 1, none⟩ = some (.int .i64 (o + (run o hs : Nat))) := (hc22.cell (p := ⟨w21.heap.size, 1, none⟩) (by first | (simp; done) | (simp; omega))).trans (by first | (simp; done) | go_simp)
            have A_2 : w22.cell? ⟨w21.heap.size, 2, none⟩ = some (.int .i64 room) := (hc22.cell (p := ⟨w21.heap.size, 2, none⟩) (by first | (simp; done) | (simp; omega))).trans (by first | (simp; done) | go_simp)
            have A_3 : w22.cell? ⟨w21.heap.size, 3, none⟩ = some (.slice a25 (hs.length - run o hs) c25) := (hc22.cell (p := ⟨w21.heap.size, 3, none⟩) (by first | (simp; done) | (simp; omega))).trans (by first | (simp; done) | go_simp)
            have A_f0 : w22.frozen? ⟨w21.heap.size, 0, none⟩ = false := (hc22.frozen (p := ⟨w21.heap.size, 0, none⟩) (by first | (simp; done) | (simp; omega))).trans (by first | (simp; done) | go_simp)
            have A_f1 : w22.frozen? ⟨w21.heap.size, 1, none⟩ = false := (hc22.frozen (p := ⟨w21.heap.size, 1, none⟩) (by first | (simp; done) | (simp; omega))).trans (by first | (simp; done) | go_simp)
            have A_f2 : w22.frozen? ⟨w21.heap.size, 2, none⟩ = false := (hc22.frozen (p := ⟨w21.heap.size, 2, none⟩) (by first | (simp; done) | (simp; omega))).trans (by first | (simp; done) | go_simp)
            have A_f3 : w22.frozen? ⟨w21.heap.size, 3, none⟩ = false := (hc22.frozen (p := ⟨w21.heap.size, 3, none⟩) (by first | (simp; done) | (simp; omega))).trans (by first | (simp; done) | go_simp)
            have A_l : w21.heap.size < w22.heap.size := Nat.lt_of_lt_of_le (by first | (simp; done) | (simp; omega)) hc22.size
            replace hU := hU.later hst22
            replace kX := kX.later hst22
            replace k25 := k25.later hst22
            replace m25 := m25.later hst22
            clear hst22
            clear hc22 hb21
            go_wp2_with fail
            refine wp_gen fun w23 hc23 => ?_
            have hb23 : Below w.heap.size w w23 := bchain (by repeat' (first | with_reducible exact hb22 | with_reducible refine Below.drew ?_ | with_reducible refine below_drewN ?_ _ | with_reducible refine Below.alloc ?_ (by have := hb22.size; first | (simp; done) | (simp; omega) | omega) _ | with_reducible refine Below.setCell ?_ (by first | (simp; done) | (simp; omega) | omega) _)) hc23
            have hst23 : Below w22.heap.size w22 w23 := bchain (by repeat' (first | with_reducible exact Below.refl _ _ | with_reducible refine Below.drew ?_ | with_reducible refine below_drewN ?_ _ | with_reducible refine Below.alloc ?_ (by first | (simp; done) | (simp; omega) | omega) _ | with_reducible refine Below.setCell ?_ (by first | (simp; done) | (simp; omega) | omega) _)) hc23
            replace N_0 := cell_later hst23 N_0
            replace N_1 := cell_later hst23 N_1
            replace N_2 := cell_later hst23 N_2
            replace N_3 := cell_later hst23 N_3
            replace N_f0 := frozen_later hst23 N_l N_f0
            replace N_f1 := frozen_later hst23 N_l N_f1
            replace N_f2 := frozen_later hst23 N_l N_f2
            replace N_f3 := frozen_later hst23 N_l N_f3
            replace N_l := Nat.lt_of_lt_of_le N_l hst23.size
            replace A_0 := cell_later hst23 A_0
            replace A_1 := cell_later hst23 A_1
            replace A_2 := cell_later hst23 A_2
            replace A_3 := cell_later hst23 A_3
            replace A_f0 := frozen_later hst23 A_l A_f0
            replace A_f1 := frozen_later hst23 A_l A_f1
            replace A_f2 := frozen_later hst23 A_l A_f2
            replace A_f3 := frozen_later hst23 A_l A_f3
            replace A_l := Nat.lt_of_lt_of_le A_l hst23.size
            replace hU := hU.later hst23
            replace kX := kX.later hst23
            replace k25 := k25.later hst23
            replace m25 := m25.later hst23
            clear hst23
            have hqq : (0 : Int) ≤ ((run o hs : Nat) : Int) := by omega
            go_loopw [10, 19] (fun s q wq => ∃ k : Nat, k ≤ run o hs ∧ s = .int .i64 (o + k) ∧ q = .int .i64 k ∧ Below w23.heap.size w23 wq) (fun _ q _ => run o hs - (intOf q).toNat)
            case atStart => exact ⟨0, Nat.zero_le _, by go_num, rfl, Below.refl _ _⟩
            case round =>
              obtain ⟨k, hk, rfl, rfl, hc24⟩ := hrel
              obtain ⟨w24, hw24⟩ : ∃ w24, w24 = wr := ⟨wr, rfl⟩
              subst hw24
              have hb24 : Below w.heap.size w w24 := bchain (by repeat' (first | with_reducible exact hb23 | with_reducible refine Below.drew ?_ | with_reducible refine below_drewN ?_ _ | with_reducible refine Below.alloc ?_ (by have := hb23.size; first | (simp; done) | (simp; omega) | omega) _ | with_reducible refine Below.setCell ?_ (by first | (simp; done) | (simp; omega) | omega) _)) hc24
              have hst24 : Below w23.heap.size w23 w24 := bchain (by repeat' (first | with_reducible exact Below.refl _ _ | with_reducible refine Below.drew ?_ | with_reducible refine below_drewN ?_ _ | with_reducible refine Below.alloc ?_ (by first | (simp; done) | (simp; omega) | omega) _ | with_reducible refine Below.setCell ?_ (by first | (simp; done) | (simp; omega) | omega) _)) hc24
              replace N_0 := cell_later hst24 N_0
              replace N_1 := cell_later hst24 N_1
              replace N_2 := cell_later hst24 N_2
              replace N_3 := cell_later hst24 N_3
              replace N_f0 := frozen_later hst24 N_l N_f0
              replace N_f1 := frozen_later hst24 N_l N_f1
              replace N_f2 := frozen_later hst24 N_l N_f2
              replace N_f3 := frozen_later hst24 N_l N_f3
              replace N_l := Nat.lt_of_lt_of_le N_l hst24.size
              replace A_0 := cell_later hst24 A_0
              replace A_1 := cell_later hst24 A_1
              replace A_2 := cell_later hst24 A_2
              replace A_3 := cell_later hst24 A_3
              replace A_f0 := frozen_later hst24 A_l A_f0
              replace A_f1 := frozen_later hst24 A_l A_f1
              replace A_f2 := frozen_later hst24 A_l A_f2
              replace A_f3 := frozen_later hst24 A_l A_f3
              replace A_l := Nat.lt_of_lt_of_le A_l hst24.size
              replace hU := hU.later hst24
              replace kX := kX.later hst24
              replace k25 := k25.later hst24
              replace m25 := m25.later hst24
              clear hst24
              by_cases hkr : k < run o hs
              · have hkr' : (k : Int) < ((run o hs : Nat) : Int) := by omega
                have hon : ¬ (n ≤ o + k) := by omega
                obtain ⟨j, hj⟩ : ∃ j : Nat, o + (k : Int) = j := ⟨(o + k).toNat, by omega⟩
                have hj40 : j < 40 := by omega
                have hj40' : (j : Int) < 40 := by omega
                have htk := run_at hs o k hkr
                have hpj : pt o hs j = true := by unfold pt; rw [hasT_idx (i := k) (by omega) (by rw [htk, hj])]; simp
                have u0 := (hU.cell hj40).1
                rw [hpj] at u0
                obtain ⟨bb, oo, rfl, g1, g2, hcell⟩ := m25.slips (by rw [List.length_take]; omega)
                obtain ⟨e0, e1⟩ := hcell k (by rw [List.length_take]; omega)
                have htt : tg (hs.take (run o hs)) k = j ∧ wg (hs.take (run o hs)) k = (j : Int) * 7 := by
                  have h1 : (hs.take (run o hs))[k]? = hs[k]? := by rw [List.getElem?_take, if_pos hkr]
                  have h2 := hS.out.at (i := k) (by omega)
                  unfold tg wg at *
                  rw [h1]; omega
                rw [htt.1] at e0
                rw [htt.2] at e1
                clear hcell
                have hjn : ¬ (n ≤ (j : Int)) := by omega
                have H_hj := hid hj
                have H_htt := hid htt
                have H_htk := hid htk
                have H_hpj := hid hpj
                clear hj htt htk hpj
                rw [H_hj.out] 
                go_wp2_with fail
                go_roundw
                case rel => exact ⟨k + 1, by omega, congrArg (Value.int .i64) (by have := H_hj.out; omega), by go_num, hc24⟩
                case measure => simp [intOf]; omega
              · obtain rfl : k = run o hs := by omega
                by_cases hon : o + ((run o hs : Nat) : Int) < n
                · obtain ⟨j, hj⟩ : ∃ j : Nat, o + ((run o hs : Nat) : Int) = j := ⟨(o + (run o hs : Nat)).toNat, by omega⟩
                  have hj40 : j < 40 := by omega
                  have hj40' : (j : Int) < 40 := by omega
                  have hjn : (j : Int) < n := by omega
                  have u0 := (hU.cell hj40).1
                  have hpj : pt o hs j = false := by rw [← HP.out j, ← hj]; exact HN.out
                  rw [hpj] at u0
                  have A_1' := A_1
                  rw [hj] at A_1'
                  clear A_1
                  have A_1 := A_1'
                  have H_hj := hid hj
                  have H_hpj := hid hpj
                  clear hj hpj
                  rw [H_hj.out]
                  go_wp2_with fail
                  go_roundw
                  case rel => exact ⟨i + 1, o + (run o hs : Nat), hs.drop (run o hs), a25, c25, by omega, by rw [H_hj.out], by go_num, (by repeat' (first | with_reducible exact hb24 | with_reducible refine Below.drew ?_ | with_reducible refine below_drewN ?_ _ | with_reducible refine Below.alloc ?_ (by have := hb24.size; first | (simp; done) | (simp; omega) | omega) _ | with_reducible refine Below.setCell ?_ (by first | (simp; done) | (simp; omega) | omega) _)), ⟨by go_simp, by rw [H_hj.out]; go_simp, by go_simp, by rw [← H_hdl.out]; go_simp⟩, ⟨by go_simp, by go_simp, by go_simp, by go_simp⟩, by repeat' (first | with_reducible exact k25 | with_reducible refine CellsAt.setFarG ?_ p25 _), Put40.congr (by repeat' (first | with_reducible exact hU | with_reducible refine Put40.setFar ?_ hUN _)) (fun j => (HP.out j).symm), HV2, HS2⟩
                  case measure => simp [intOf]; omega
                · have hon' : decide (o + ((run o hs : Nat) : Int) < n) = false := decide_eq_false hon
                  go_wp2_with fail
                  go_roundw
                  case rel => exact ⟨i + 1, o + (run o hs : Nat), hs.drop (run o hs), a25, c25, by omega, rfl, by go_num, (by repeat' (first | with_reducible exact hb24 | with_reducible refine Below.drew ?_ | with_reducible refine below_drewN ?_ _ | with_reducible refine Below.alloc ?_ (by have := hb24.size; first | (simp; done) | (simp; omega) | omega) _ | with_reducible refine Below.setCell ?_ (by first | (simp; done) | (simp; omega) | omega) _)), ⟨by go_simp, by go_simp, by go_simp, by rw [← H_hdl.out]; go_simp⟩, ⟨by go_simp, by go_simp, by go_simp, by go_simp⟩, by repeat' (first | with_reducible exact k25 | with_reducible refine CellsAt.setFarG ?_ p25 _), Put40.congr (by repeat' (first | with_reducible exact hU | with_reducible refine Put40.setFar ?_ hUN _)) (fun j => (HP.out j).symm), HV2, HS2⟩
                  case measure => simp [intOf]; omega
          · have hpi : ((i : Int) % 2 == 1) = true := by simp; omega
            clear hpar
            go_wp2_with fail
            go_roundw
            case rel => exact ⟨i + 1, o, hs, ak, ck, by omega, rfl, by go_num, (by repeat' (first | with_reducible exact hb20 | with_reducible refine Below.drew ?_ | with_reducible refine below_drewN ?_ _ | with_reducible refine Below.alloc ?_ (by have := hb20.size; first | (simp; done) | (simp; omega) | omega) _ | with_reducible refine Below.setCell ?_ (by first | (simp; done) | (simp; omega) | omega) _)), ⟨by go_simp, by go_simp, by go_simp, by go_simp⟩, ⟨by go_simp, by go_simp, by go_simp, by go_simp⟩, kX, hU, hV, hS⟩
            case measure => simp [intOf]; omega
        · have hr : dPut ⟨n, o, room, hs⟩ m (m * 7) = (⟨n, o, room, insD hs m (m * 7)⟩, 0) := by unfold dPut Dk.err; simp only; rw [if_pos HV.out.err, if_neg (by omega), if_neg (by rw [hh]; simp), if_neg t4]
          have hV : Hid (DV n o room (insD hs m (m * 7))) := hid (HV.out.put (by omega) (by omega) hh (by omega))
          have hS : Hid (Sev (insD hs m (m * 7))) := hid (HS.out.ins m)
          have u0 := (hU.cell hm40).1
          rw [hpm] at u0
          have HI := hid (fun j : Nat => pt_ins o hs m (m * 7) j)
          obtain ⟨hs2, hs2e⟩ : ∃ hs2, hs2 = insD hs m (m * 7) := ⟨_, rfl⟩
          rw [← hs2e] at hr hV hS
          simp only [← hs2e] at HI
          clear hs2e
          have H_hr := hid hr
          have H_hpm := hid hpm
          clear hr hpm
          clear hh t4
          go_wp2_with fail
          with_reducible refine (put_r n o room m (m * 7) hs n o room 0 hs2 hs.length hs2.length ak ck _ rfl rfl H_hr.out k1 hb17).mono ?_
          rintro e w4 ⟨⟨a4, c4, rfl, k4, f4⟩, hc4⟩
          have hb4 : Below w.heap.size w w4 := bchain (by repeat' (first | with_reducible exact hbw | with_reducible refine Below.drew ?_ | with_reducible refine below_drewN ?_ _ | with_reducible refine Below.alloc ?_ (by have := hbw.size; first | (simp; done) | (simp; omega) | omega) _ | with_reducible refine Below.setCell ?_ (by first | (simp; done) | (simp; omega) | omega) _)) hc4
          have hst4 : Below wr.heap.size wr w4 := bchain (by repeat' (first | with_reducible exact Below.refl _ _ | with_reducible refine Below.drew ?_ | with_reducible refine below_drewN ?_ _ | with_reducible refine Below.alloc ?_ (by first | (simp; done) | (simp; omega) | omega) _ | with_reducible refine Below.setCell ?_ (by first | (simp; done) | (simp; omega) | omega) _)) hc4
          replace N_0 := cell_later hst4 N_0
          replace N_1 := cell_later hst4 N_1
          replace N_2 := cell_later hst4 N_2
          replace N_3 := cell_later hst4 N_3
          replace N_f0 := frozen_later hst4 N_l N_f0
          replace N_f1 := frozen_later hst4 N_l N_f1
          replace N_f2 := frozen_later hst4 N_l N_f2
          replace N_f3 := frozen_later hst4 N_l N_f3
          replace N_l := Nat.lt_of_lt_of_le N_l hst4.size
          replace k1 := k1.later hst4
          replace hU := hU.later hst4
          clear hst4
          clear hc4 hbw
          have p4 : ∀ ad, a4 = some ad → ad.block ≠ w2.heap.size := fun ad e => by have := f4 ad e; omega
          have p5 : ∀ ad, a4 = some ad → ad.block ≠ w2.heap.size + 1 := fun ad e => by have := f4 ad e; omega
          replace u0 : w4.cell? ⟨w2.heap.size + 1, m, none⟩ = some (.bool false) := (hU.cell hm40).1.trans (by show some (Value.bool (pt o hs m)) = _; rw [H_hpm.out])
          have zU4 := hU.lt
          have zU5 : w2.heap.size + 1 ≠ w4.heap.size := by omega
          go_wp2_with fail
          with_reducible refine (rcheck_ok n o room hs2 hs2.length a4 c4 _ hV.out rfl (k4.alloc _)).mono ?_
          rintro e w5 ⟨rfl, hc5⟩
          have hb5 : Below w.heap.size w w5 := bchain (by repeat' (first | with_reducible exact hb4 | with_reducible refine Below.drew ?_ | with_reducible refine below_drewN ?_ _ | with_reducible refine Below.alloc ?_ (by have := hb4.size; first | (simp; done) | (simp; omega) | omega) _ | with_reducible refine Below.setCell ?_ (by first | (simp; done) | (simp; omega) | omega) _)) hc5
          have hst5 : Below w4.heap.size w4 w5 := bchain (by repeat' (first | with_reducible exact Below.refl _ _ | with_reducible refine Below.drew ?_ | with_reducible refine below_drewN ?_ _ | with_reducible refine Below.alloc ?_ (by first | (simp; done) | (simp; omega) | omega) _ | with_reducible refine Below.setCell ?_ (by first | (simp; done) | (simp; omega) | omega) _)) hc5
          replace N_0 := cell_later hst5 N_0
          replace N_1 := cell_later hst5 N_1
          replace N_2 := cell_later hst5 N_2
          replace N_3 := cell_later hst5 N_3
          replace N_f0 := frozen_later hst5 N_l N_f0
          replace N_f1 := frozen_later hst5 N_l N_f1
          replace N_f2 := frozen_later hst5 N_l N_f2
          replace N_f3 := frozen_later hst5 N_l N_f3
          replace N_l := Nat.lt_of_lt_of_le N_l hst5.size
          have P_0 : w5.cell? ⟨w4.heap.size, 0, none⟩ = some (.int .i64 n) := (hc5.cell (p := ⟨w4.heap.size, 0, none⟩) (by first | (simp; done) | (simp; omega))).trans (by first | (simp; done) | go_simp)
          have P_1 : w5.cell? ⟨w4.heap.size, 1, none⟩ = some (.int .i64 o) := (hc5.cell (p := ⟨w4.heap.size, 1, none⟩) (by first | (simp; done) | (simp; omega))).trans (by first | (simp; done) | go_simp)
          have P_2 : w5.cell? ⟨w4.heap.size, 2, none⟩ = some (.int .i64 room) := (hc5.cell (p := ⟨w4.heap.size, 2, none⟩) (by first | (simp; done) | (simp; omega))).trans (by first | (simp; done) | go_simp)
          have P_3 : w5.cell? ⟨w4.heap.size, 3, none⟩ = some (.slice a4 hs2.length c4) := (hc5.cell (p := ⟨w4.heap.size, 3, none⟩) (by first | (simp; done) | (simp; omega))).trans (by first | (simp; done) | go_simp)
          have P_l : w4.heap.size < w5.heap.size := Nat.lt_of_lt_of_le (by first | (simp; done) | (simp; omega)) hc5.size
          replace k1 := k1.later hst5
          replace hU := hU.later hst5
          replace k4 := k4.later hst5
          clear hst5
          clear hc5 hb4
          have u1 := (hU.cell hm40).1
          have u2 := (hU.cell hm40).2
          have zU := hU.lt
          have hUN' : w2.heap.size ≠ w2.heap.size + 1 := by omega
          go_upto_region 27 with fail
          refine wp_gen fun w19 hc19 => ?_
          have hb19 : Below w.heap.size w w19 := bchain (by repeat' (first | with_reducible exact hb5 | with_reducible refine Below.drew ?_ | with_reducible refine below_drewN ?_ _ | with_reducible refine Below.alloc ?_ (by have := hb5.size; first | (simp; done) | (simp; omega) | omega) _ | with_reducible refine Below.setCell ?_ (by first | (simp; done) | (simp; omega) | omega) _)) hc19
          have hU2 := Put40.later (f := fun j => if j = m then true else pt o hs j) (by repeat' (first | with_reducible exact hU | with_reducible refine Put40.setFar ?_ hUN _ | with_reducible refine Put40.set ?_ m true)) hc19
          have hU3 : Put40 w19 (w2.heap.size + 1) (fun j => pt o hs2 j) := hU2.congr (fun j => by
            have := HI.out j
            by_cases e : j = m
            · subst e; rw [this]; simp
            · rw [this, if_neg e]
              have : ((m : Int) == (j : Int)) = false := beq_eq_false_iff_ne.2 (by omega)
              rw [this]; simp)
          have kX := CellsAt.later (a := a4) (cs := cel hs2) (by repeat' (first | with_reducible exact k4 | with_reducible refine CellsAt.setFarG ?_ p4 _ | with_reducible refine CellsAt.setFarG ?_ p5 _)) hc19
          have M_0 : w19.cell? ⟨w2.heap.size, 0, none⟩ = some (.int .i64 n) := (hc19.cell (p := ⟨w2.heap.size, 0, none⟩) (by first | (simp; done) | (simp; omega) | omega)).trans (by go_simp)
          have M_f0 : w19.frozen? ⟨w2.heap.size, 0, none⟩ = false := (hc19.frozen (p := ⟨w2.heap.size, 0, none⟩) (by first | (simp; done) | (simp; omega) | omega)).trans (by go_simp)
          have M_1 : w19.cell? ⟨w2.heap.size, 1, none⟩ = some (.int .i64 o) := (hc19.cell (p := ⟨w2.heap.size, 1, none⟩) (by first | (simp; done) | (simp; omega) | omega)).trans (by go_simp)
          have M_f1 : w19.frozen? ⟨w2.heap.size, 1, none⟩ = false := (hc19.frozen (p := ⟨w2.heap.size, 1, none⟩) (by first | (simp; done) | (simp; omega) | omega)).trans (by go_simp)
          have M_2 : w19.cell? ⟨w2.heap.size, 2, none⟩ = some (.int .i64 room) := (hc19.cell (p := ⟨w2.heap.size, 2, none⟩) (by first | (simp; done) | (simp; omega) | omega)).trans (by go_simp)
          have M_f2 : w19.frozen? ⟨w2.heap.size, 2, none⟩ = false := (hc19.frozen (p := ⟨w2.heap.size, 2, none⟩) (by first | (simp; done) | (simp; omega) | omega)).trans (by go_simp)
          have M_3 : w19.cell? ⟨w2.heap.size, 3, none⟩ = some (.slice a4 hs2.length c4) := (hc19.cell (p := ⟨w2.heap.size, 3, none⟩) (by first | (simp; done) | (simp; omega) | omega)).trans (by go_simp)
          have M_f3 : w19.frozen? ⟨w2.heap.size, 3, none⟩ = false := (hc19.frozen (p := ⟨w2.heap.size, 3, none⟩) (by first | (simp; done) | (simp; omega) | omega)).trans (by go_simp)
          have zN19 : w2.heap.size < w19.heap.size := World.block_lt_of_cell? _ _ M_0
          clear N_0 N_1 N_2 N_3 N_f0 N_f1 N_f2 N_f3 N_l P_0 P_1 P_2 P_3 P_l hU hU2 k4 k1 u0 u1 u2
          have hU := hU3
          have N_l := zN19
          have N_0 := M_0
          have N_1 := M_1
          have N_2 := M_2
          have N_3 := M_3
          have N_f0 := M_f0
          have N_f1 := M_f1
          have N_f2 := M_f2
          have N_f3 := M_f3
          clear M_0 M_1 M_2 M_3 M_f0 M_f1 M_f2 M_f3 hU3 hc19
          refine wp_gen fun w20 hc20 => ?_
          have hb20 : Below w.heap.size w w20 := bchain (by repeat' (first | with_reducible exact hb19 | with_reducible refine Below.drew ?_ | with_reducible refine below_drewN ?_ _ | with_reducible refine Below.alloc ?_ (by have := hb19.size; first | (simp; done) | (simp; omega) | omega) _ | with_reducible refine Below.setCell ?_ (by first | (simp; done) | (simp; omega) | omega) _)) hc20
          have hst20 : Below w19.heap.size w19 w20 := bchain (by repeat' (first | with_reducible exact Below.refl _ _ | with_reducible refine Below.drew ?_ | with_reducible refine below_drewN ?_ _ | with_reducible refine Below.alloc ?_ (by first | (simp; done) | (simp; omega) | omega) _ | with_reducible refine Below.setCell ?_ (by first | (simp; done) | (simp; omega) | omega) _)) hc20
          replace N_0 := cell_later hst20 N_0
          replace N_1 := cell_later hst20 N_1
          replace N_2 := cell_later hst20 N_2
          replace N_3 := cell_later hst20 N_3
          replace N_f0 := frozen_later hst20 N_l N_f0
          replace N_f1 := frozen_later hst20 N_l N_f1
          replace N_f2 := frozen_later hst20 N_l N_f2
          replace N_f3 := frozen_later hst20 N_l N_f3
          replace N_l := Nat.lt_of_lt_of_le N_l hst20.size
          replace kX := kX.later hst20
          replace hU := hU.later hst20
          clear hst20
          rcases Nat.mod_two_eq_zero_or_one i with hpar | hpar
          · have hpi : ((i : Int) % 2 == 1) = false := beq_eq_false_iff_ne.2 (by omega)
            clear hpar
            have hrl := run_le hs2 o
            have hdl : hs2.length - run o hs2 = (hs2.drop (run o hs2)).length := by rw [List.length_drop]
            have hV2 := hV.out.popN (run o hs2) (Nat.le_refl _)
            have HV2 := hid hV2
            have HS2 := hid (hS.out.drop (run o hs2))
            have hpl : hs2.length ≤ 8796093022206 := by have := hV.out.len; omega
            have hrn := hV2.o2
            have HP := hid (fun j => pt_drain hV.out j)
            have HN := hid (pt_next hV.out)
            clear hV2
            have zN20 := N_l
            have H_hdl := hid hdl
            have H_hpl := hid hpl
            clear hdl hpl
            go_wp2_with fail
            with_reducible refine (ddrain_v n o room hs2 a4 c4 _ hV.out kX H_hpl.out).mono ?_
            rintro e w21 ⟨a25, c25, b25, d25, rfl, k25, m25, f25, _, hc21⟩
            have hb21 : Below w.heap.size w w21 := bchain (by repeat' (first | with_reducible exact hb20 | with_reducible refine Below.drew ?_ | with_reducible refine below_drewN ?_ _ | with_reducible refine Below.alloc ?_ (by have := hb20.size; first | (simp; done) | (simp; omega) | omega) _ | with_reducible refine Below.setCell ?_ (by first | (simp; done) | (simp; omega) | omega) _)) hc21
            have hst21 : Below w20.heap.size w20 w21 := bchain (by repeat' (first | with_reducible exact Below.refl _ _ | with_reducible refine Below.drew ?_ | with_reducible refine below_drewN ?_ _ | with_reducible refine Below.alloc ?_ (by first | (simp; done) | (simp; omega) | omega) _ | with_reducible refine Below.setCell ?_ (by first | (simp; done) | (simp; omega) | omega) _)) hc21
            replace N_0 := cell_later hst21 N_0
            replace N_1 := cell_later hst21 N_1
            replace N_2 := cell_later hst21 N_2
            replace N_3 := cell_later hst21 N_3
            replace N_f0 := frozen_later hst21 N_l N_f0
            replace N_f1 := frozen_later hst21 N_l N_f1
            replace N_f2 := frozen_later hst21 N_l N_f2
            replace N_f3 := frozen_later hst21 N_l N_f3
            replace N_l := Nat.lt_of_lt_of_le N_l hst21.size
            replace kX := kX.later hst21
            replace hU := hU.later hst21
            clear hst21
            clear hc21 hb20
            have p25 : ∀ ad, a25 = some ad → ad.block ≠ w2.heap.size := fun ad e => by have := f25 ad e; omega
            go_wp2_with fail
            with_reducible refine (rcheck_ok n (o + (run o hs2 : Nat)) room (hs2.drop (run o hs2)) (hs2.length - run o hs2) a25 c25 _ HV2.out H_hdl.out (by repeat' (first | with_reducible exact k25 | with_reducible refine CellsAt.setFar ?_ ?_ _ | with_reducible refine CellsAt.alloc ?_ _ | with_reducible refine CellsAt.drew ?_ | with_reducible refine CellsAt.drewN ?_ _ | assumption | (simp; omega) | omega))).mono ?_
            rintro e w22 ⟨rfl, hc22⟩
            have hb22 : Below w.heap.size w w22 := bchain (by repeat' (first | with_reducible exact hb21 | with_reducible refine Below.drew ?_ | with_reducible refine below_drewN ?_ _ | with_reducible refine Below.alloc ?_ (by have := hb21.size; first | (simp; done) | (simp; omega) | omega) _ | with_reducible refine Below.setCell ?_ (by first | (simp; done) | (simp; omega) | omega) _)) hc22
            have hst22 : Below w21.heap.size w21 w22 := bchain (by repeat' (first | with_reducible exact Below.refl _ _ | with_reducible refine Below.drew ?_ | with_reducible refine below_drewN ?_ _ | with_reducible refine Below.alloc ?_ (by first | (simp; done) | (simp; omega) | omega) _ | with_reducible refine Below.setCell ?_ (by first | (simp; done) | (simp; omega) | omega) _)) hc22
            replace N_0 := cell_later hst22 N_0
            replace N_1 := cell_later hst22 N_1
            replace N_2 := cell_later hst22 N_2
            replace N_3 := cell_later hst22 N_3
            replace N_f0 := frozen_later hst22 N_l N_f0
            replace N_f1 := frozen_later hst22 N_l N_f1
            replace N_f2 := frozen_later hst22 N_l N_f2
            replace N_f3 := frozen_later hst22 N_l N_f3
            replace N_l := Nat.lt_of_lt_of_le N_l hst22.size
            have A_0 : w22.cell? ⟨w21.heap.size, 0, none⟩ = some (.int .i64 n) := (hc22.cell (p := ⟨w21.heap.size, 0, none⟩) (by first | (simp; done) | (simp; omega))).trans (by first | (simp; done) | go_simp)
            have A_1 : w22.cell? ⟨w21.heap.size, 1, none⟩ = some (.int .i64 (o + (run o hs2 : Nat))) := (hc22.cell (p := ⟨w21.heap.size, 1, none⟩) (by first | (simp; done) | (simp; omega))).trans (by first | (simp; done) | go_simp)
            have A_2 : w22.cell? ⟨w21.heap.size, 2, none⟩ = some (.int .i64 room) := (hc22.cell (p := ⟨w21.heap.size, 2, none⟩) (by first | (simp; done) | (simp; omega))).trans (by first | (simp; done) | go_simp)
            have A_3 : w22.cell? ⟨w21.heap.size, 3, none⟩ = some (.slice a25 (hs2.length - run o hs2) c25) := (hc22.cell (p := ⟨w21.heap.size, 3, none⟩) (by first | (simp; done) | (simp; omega))).trans (by first | (simp; done) | go_simp)
            have A_f0 : w22.frozen? ⟨w21.heap.size, 0, none⟩ = false := (hc22.frozen (p := ⟨w21.heap.size, 0, none⟩) (by first | (simp; done) | (simp; omega))).trans (by first | (simp; done) | go_simp)
            have A_f1 : w22.frozen? ⟨w21.heap.size, 1, none⟩ = false := (hc22.frozen (p := ⟨w21.heap.size, 1, none⟩) (by first | (simp; done) | (simp; omega))).trans (by first | (simp; done) | go_simp)
            have A_f2 : w22.frozen? ⟨w21.heap.size, 2, none⟩ = false := (hc22.frozen (p := ⟨w21.heap.size, 2, none⟩) (by first | (simp; done) | (simp; omega))).trans (by first | (simp; done) | go_simp)
            have A_f3 : w22.frozen? ⟨w21.heap.size, 3, none⟩ = false := (hc22.frozen (p := ⟨w21.heap.size, 3, none⟩) (by first | (simp; done) | (simp; omega))).trans (by first | (simp; done) | go_simp)
            have A_l : w21.heap.size < w22.heap.size := Nat.lt_of_lt_of_le (by first | (simp; done) | (simp; omega)) hc22.size
            replace kX := kX.later hst22
            replace hU := hU.later hst22
            replace k25 := k25.later hst22
            replace m25 := m25.later hst22
            clear hst22
            clear hc22 hb21
            go_wp2_with fail
            refine wp_gen fun w23 hc23 => ?_
            have hb23 : Below w.heap.size w w23 := bchain (by repeat' (first | with_reducible exact hb22 | with_reducible refine Below.drew ?_ | with_reducible refine below_drewN ?_ _ | with_reducible refine Below.alloc ?_ (by have := hb22.size; first | (simp; done) | (simp; omega) | omega) _ | with_reducible refine Below.setCell ?_ (by first | (simp; done) | (simp; omega) | omega) _)) hc23
            have hst23 : Below w22.heap.size w22 w23 := bchain (by repeat' (first | with_reducible exact Below.refl _ _ | with_reducible refine Below.drew ?_ | with_reducible refine below_drewN ?_ _ | with_reducible refine Below.alloc ?_ (by first | (simp; done) | (simp; omega) | omega) _ | with_reducible refine Below.setCell ?_ (by first | (simp; done) | (simp; omega) | omega) _)) hc23
            replace N_0 := cell_later hst23 N_0
            replace N_1 := cell_later hst23 N_1
            replace N_2 := cell_later hst23 N_2
            replace N_3 := cell_later hst23 N_3
            replace N_f0 := frozen_later hst23 N_l N_f0
            replace N_f1 := frozen_later hst23 N_l N_f1
            replace N_f2 := frozen_later hst23 N_l N_f2
            replace N_f3 := frozen_later hst23 N_l N_f3
            replace N_l := Nat.lt_of_lt_of_le N_l hst23.size
            replace A_0 := cell_later hst23 A_0
            replace A_1 := cell_later hst23 A_1
            replace A_2 := cell_later hst23 A_2
            replace A_3 := cell_later hst23 A_3
            replace A_f0 := frozen_later hst23 A_l A_f0
            replace A_f1 := frozen_later hst23 A_l A_f1
            replace A_f2 := frozen_later hst23 A_l A_f2
            replace A_f3 := frozen_later hst23 A_l A_f3
            replace A_l := Nat.lt_of_lt_of_le A_l hst23.size
            replace kX := kX.later hst23
            replace hU := hU.later hst23
            replace k25 := k25.later hst23
            replace m25 := m25.later hst23
            clear hst23
            have hqq : (0 : Int) ≤ ((run o hs2 : Nat) : Int) := by omega
            go_loopw [10, 19] (fun s q wq => ∃ k : Nat, k ≤ run o hs2 ∧ s = .int .i64 (o + k) ∧ q = .int .i64 k ∧ Below w23.heap.size w23 wq) (fun _ q _ => run o hs2 - (intOf q).toNat)
            case atStart => exact ⟨0, Nat.zero_le _, by go_num, rfl, Below.refl _ _⟩
            case round =>
              obtain ⟨k, hk, rfl, rfl, hc24⟩ := hrel
              obtain ⟨w24, hw24⟩ : ∃ w24, w24 = wr := ⟨wr, rfl⟩
              subst hw24
              have hb24 : Below w.heap.size w w24 := bchain (by repeat' (first | with_reducible exact hb23 | with_reducible refine Below.drew ?_ | with_reducible refine below_drewN ?_ _ | with_reducible refine Below.alloc ?_ (by have := hb23.size; first | (simp; done) | (simp; omega) | omega) _ | with_reducible refine Below.setCell ?_ (by first | (simp; done) | (simp; omega) | omega) _)) hc24
              have hst24 : Below w23.heap.size w23 w24 := bchain (by repeat' (first | with_reducible exact Below.refl _ _ | with_reducible refine Below.drew ?_ | with_reducible refine below_drewN ?_ _ | with_reducible refine Below.alloc ?_ (by first | (simp; done) | (simp; omega) | omega) _ | with_reducible refine Below.setCell ?_ (by first | (simp; done) | (simp; omega) | omega) _)) hc24
              replace N_0 := cell_later hst24 N_0
              replace N_1 := cell_later hst24 N_1
              replace N_2 := cell_later hst24 N_2
              replace N_3 := cell_later hst24 N_3
              replace N_f0 := frozen_later hst24 N_l N_f0
              replace N_f1 := frozen_later hst24 N_l N_f1
              replace N_f2 := frozen_later hst24 N_l N_f2
              replace N_f3 := frozen_later hst24 N_l N_f3
              replace N_l := Nat.lt_of_lt_of_le N_l hst24.size
              replace A_0 := cell_later hst24 A_0
              replace A_1 := cell_later hst24 A_1
              replace A_2 := cell_later hst24 A_2
              replace A_3 := cell_later hst24 A_3
              replace A_f0 := frozen_later hst24 A_l A_f0
              replace A_f1 := frozen_later hst24 A_l A_f1
              replace A_f2 := frozen_later hst24 A_l A_f2
              replace A_f3 := frozen_later hst24 A_l A_f3
              replace A_l := Nat.lt_of_lt_of_le A_l hst24.size
              replace kX := kX.later hst24
              replace hU := hU.later hst24
              replace k25 := k25.later hst24
              replace m25 := m25.later hst24
              clear hst24
              by_cases hkr : k < run o hs2
              · have hkr' : (k : Int) < ((run o hs2 : Nat) : Int) := by omega
                have hon : ¬ (n ≤ o + k) := by omega
                obtain ⟨j, hj⟩ : ∃ j : Nat, o + (k : Int) = j := ⟨(o + k).toNat, by omega⟩
                have hj40 : j < 40 := by omega
                have hj40' : (j : Int) < 40 := by omega
                have htk := run_at hs2 o k hkr
                have hpj : pt o hs2 j = true := by unfold pt; rw [hasT_idx (i := k) (by omega) (by rw [htk, hj])]; simp
                have u0 := (hU.cell hj40).1
                rw [hpj] at u0
                obtain ⟨bb, oo, rfl, g1, g2, hcell⟩ := m25.slips (by rw [List.length_take]; omega)
                obtain ⟨e0, e1⟩ := hcell k (by rw [List.length_take]; omega)
                have htt : tg (hs2.take (run o hs2)) k = j ∧ wg (hs2.take (run o hs2)) k = (j : Int) * 7 := by
                  have h1 : (hs2.take (run o hs2))[k]? = hs2[k]? := by rw [List.getElem?_take, if_pos hkr]
                  have h2 := hS.out.at (i := k) (by omega)
                  unfold tg wg at *
                  rw [h1]; omega
                rw [htt.1] at e0
                rw [htt.2] at e1
                clear hcell
                have hjn : ¬ (n ≤ (j : Int)) := by omega
                have H_hj := hid hj
                have H_htt := hid htt
                have H_htk := hid htk
                have H_hpj := hid hpj
                clear hj htt htk hpj
                rw [H_hj.out] 
                go_wp2_with fail
                go_roundw
                case rel => exact ⟨k + 1, by omega, congrArg (Value.int .i64) (by have := H_hj.out; omega), by go_num, hc24⟩
                case measure => simp [intOf]; omega
              · obtain rfl : k = run o hs2 := by omega
                by_cases hon : o + ((run o hs2 : Nat) : Int) < n
                · obtain ⟨j, hj⟩ : ∃ j : Nat, o + ((run o hs2 : Nat) : Int) = j := ⟨(o + (run o hs2 : Nat)).toNat, by omega⟩
                  have hj40 : j < 40 := by omega
                  have hj40' : (j : Int) < 40 := by omega
                  have hjn : (j : Int) < n := by omega
                  have u0 := (hU.cell hj40).1
                  have hpj : pt o hs2 j = false := by rw [← HP.out j, ← hj]; exact HN.out
                  rw [hpj] at u0
                  have A_1' := A_1
                  rw [hj] at A_1'
                  clear A_1
                  have A_1 := A_1'
                  have H_hj := hid hj
                  have H_hpj := hid hpj
                  clear hj hpj
                  rw [H_hj.out]
                  go_wp2_with fail
                  go_roundw
                  case rel => exact ⟨i + 1, o + (run o hs2 : Nat), hs2.drop (run o hs2), a25, c25, by omega, by rw [H_hj.out], by go_num, (by repeat' (first | with_reducible exact hb24 | with_reducible refine Below.drew ?_ | with_reducible refine below_drewN ?_ _ | with_reducible refine Below.alloc ?_ (by have := hb24.size; first | (simp; done) | (simp; omega) | omega) _ | with_reducible refine Below.setCell ?_ (by first | (simp; done) | (simp; omega) | omega) _)), ⟨by go_simp, by rw [H_hj.out]; go_simp, by go_simp, by rw [← H_hdl.out]; go_simp⟩, ⟨by go_simp, by go_simp, by go_simp, by go_simp⟩, by repeat' (first | with_reducible exact k25 | with_reducible refine CellsAt.setFarG ?_ p25 _), Put40.congr (by repeat' (first | with_reducible exact hU | with_reducible refine Put40.setFar ?_ hUN _)) (fun j => (HP.out j).symm), HV2, HS2⟩
                  case measure => simp [intOf]; omega
                · have hon' : decide (o + ((run o hs2 : Nat) : Int) < n) = false := decide_eq_false hon
                  go_wp2_with fail
                  go_roundw
                  case rel => exact ⟨i + 1, o + (run o hs2 : Nat), hs2.drop (run o hs2), a25, c25, by omega, rfl, by go_num, (by repeat' (first | with_reducible exact hb24 | with_reducible refine Below.drew ?_ | with_reducible refine below_drewN ?_ _ | with_reducible refine Below.alloc ?_ (by have := hb24.size; first | (simp; done) | (simp; omega) | omega) _ | with_reducible refine Below.setCell ?_ (by first | (simp; done) | (simp; omega) | omega) _)), ⟨by go_simp, by go_simp, by go_simp, by rw [← H_hdl.out]; go_simp⟩, ⟨by go_simp, by go_simp, by go_simp, by go_simp⟩, by repeat' (first | with_reducible exact k25 | with_reducible refine CellsAt.setFarG ?_ p25 _), Put40.congr (by repeat' (first | with_reducible exact hU | with_reducible refine Put40.setFar ?_ hUN _)) (fun j => (HP.out j).symm), HV2, HS2⟩
                  case measure => simp [intOf]; omega
          · have hpi : ((i : Int) % 2 == 1) = true := by simp; omega
            clear hpar
            go_wp2_with fail
            go_roundw
            case rel => exact ⟨i + 1, o, hs2, a4, c4, by omega, rfl, by go_num, (by repeat' (first | with_reducible exact hb20 | with_reducible refine Below.drew ?_ | with_reducible refine below_drewN ?_ _ | with_reducible refine Below.alloc ?_ (by have := hb20.size; first | (simp; done) | (simp; omega) | omega) _ | with_reducible refine Below.setCell ?_ (by first | (simp; done) | (simp; omega) | omega) _)), ⟨by go_simp, by go_simp, by go_simp, by go_simp⟩, ⟨by go_simp, by go_simp, by go_simp, by go_simp⟩, kX, hU, hV, hS⟩
            case measure => simp [intOf]; omega
      · have hpm : pt o hs m = true := by unfold pt; rw [hh]; simp
        have hr : dPut ⟨n, o, room, hs⟩ m (m * 7) = (Dk.zero, 14) := by unfold dPut Dk.err; simp only; rw [if_pos HV.out.err, if_neg (by omega), if_pos hh]
        have H_hr := hid hr
        have H_hpm := hid hpm
        clear hr hpm
        clear hh
        go_wp2_with fail
        with_reducible refine (put_fail n o room m (m * 7) hs 14 ak ck _ H_hr.out k1 hb17).mono ?_
        rintro e w4 ⟨⟨a4, c4, rfl⟩, hc4⟩
        have hb4 : Below w.heap.size w w4 := bchain (by repeat' (first | with_reducible exact hbw | with_reducible refine Below.drew ?_ | with_reducible refine below_drewN ?_ _ | with_reducible refine Below.alloc ?_ (by have := hbw.size; first | (simp; done) | (simp; omega) | omega) _ | with_reducible refine Below.setCell ?_ (by first | (simp; done) | (simp; omega) | omega) _)) hc4
        have hst4 : Below wr.heap.size wr w4 := bchain (by repeat' (first | with_reducible exact Below.refl _ _ | with_reducible refine Below.drew ?_ | with_reducible refine below_drewN ?_ _ | with_reducible refine Below.alloc ?_ (by first | (simp; done) | (simp; omega) | omega) _ | with_reducible refine Below.setCell ?_ (by first | (simp; done) | (simp; omega) | omega) _)) hc4
        replace N_0 := cell_later hst4 N_0
        replace N_1 := cell_later hst4 N_1
        replace N_2 := cell_later hst4 N_2
        replace N_3 := cell_later hst4 N_3
        replace N_f0 := frozen_later hst4 N_l N_f0
        replace N_f1 := frozen_later hst4 N_l N_f1
        replace N_f2 := frozen_later hst4 N_l N_f2
        replace N_f3 := frozen_later hst4 N_l N_f3
        replace N_l := Nat.lt_of_lt_of_le N_l hst4.size
        replace k1 := k1.later hst4
        replace hU := hU.later hst4
        clear hst4
        clear hc4 hbw
        have u0 : w4.cell? ⟨w2.heap.size + 1, m, none⟩ = some (.bool true) := (hU.cell hm40).1.trans (by show some (Value.bool (pt o hs m)) = _; rw [H_hpm.out])
        have zU4 := hU.lt
        have zU5 : w2.heap.size + 1 ≠ w4.heap.size := by omega
        have kX := k1
        have hV := HV
        have hS := HS
        go_upto_region 27 with fail
        refine wp_gen fun w20 hc20 => ?_
        have hb20 : Below w.heap.size w w20 := bchain (by repeat' (first | with_reducible exact hb4 | with_reducible refine Below.drew ?_ | with_reducible refine below_drewN ?_ _ | with_reducible refine Below.alloc ?_ (by have := hb4.size; first | (simp; done) | (simp; omega) | omega) _ | with_reducible refine Below.setCell ?_ (by first | (simp; done) | (simp; omega) | omega) _)) hc20
        have hst20 : Below w4.heap.size w4 w20 := bchain (by repeat' (first | with_reducible exact Below.refl _ _ | with_reducible refine Below.drew ?_ | with_reducible refine below_drewN ?_ _ | with_reducible refine Below.alloc ?_ (by first | (simp; done) | (simp; omega) | omega) _ | with_reducible refine Below.setCell ?_ (by first | (simp; done) | (simp; omega) | omega) _)) hc20
        replace N_0 := cell_later hst20 N_0
        replace N_1 := cell_later hst20 N_1
        replace N_2 := cell_later hst20 N_2
        replace N_3 := cell_later hst20 N_3
        replace N_f0 := frozen_later hst20 N_l N_f0
        replace N_f1 := frozen_later hst20 N_l N_f1
        replace N_f2 := frozen_later hst20 N_l N_f2
        replace N_f3 := frozen_later hst20 N_l N_f3
        replace N_l := Nat.lt_of_lt_of_le N_l hst20.size
        replace hU := hU.later hst20
        replace kX := kX.later hst20
        clear hst20
        rcases Nat.mod_two_eq_zero_or_one i with hpar | hpar
        · have hpi : ((i : Int) % 2 == 1) = false := beq_eq_false_iff_ne.2 (by omega)
          clear hpar
          have hrl := run_le hs o
          have hdl : hs.length - run o hs = (hs.drop (run o hs)).length := by rw [List.length_drop]
          have hV2 := hV.out.popN (run o hs) (Nat.le_refl _)
          have HV2 := hid hV2
          have HS2 := hid (hS.out.drop (run o hs))
          have hpl : hs.length ≤ 8796093022206 := by have := hV.out.len; omega
          have hrn := hV2.o2
          have HP := hid (fun j => pt_drain hV.out j)
          have HN := hid (pt_next hV.out)
          clear hV2
          have zN20 := N_l
          have H_hdl := hid hdl
          have H_hpl := hid hpl
          clear hdl hpl
          go_wp2_with fail
          with_reducible refine (ddrain_v n o room hs ak ck _ hV.out kX H_hpl.out).mono ?_
          rintro e w21 ⟨a25, c25, b25, d25, rfl, k25, m25, f25, _, hc21⟩
          have hb21 : Below w.heap.size w w21 := bchain (by repeat' (first | with_reducible exact hb20 | with_reducible refine Below.drew ?_ | with_reducible refine below_drewN ?_ _ | with_reducible refine Below.alloc ?_ (by have := hb20.size; first | (simp; done) | (simp; omega) | omega) _ | with_reducible refine Below.setCell ?_ (by first | (simp; done) | (simp; omega) | omega) _)) hc21
          have hst21 : Below w20.heap.size w20 w21 := bchain (by repeat' (first | with_reducible exact Below.refl _ _ | with_reducible refine Below.drew ?_ | with_reducible refine below_drewN ?_ _ | with_reducible refine Below.alloc ?_ (by first | (simp; done) | (simp; omega) | omega) _ | with_reducible refine Below.setCell ?_ (by first | (simp; done) | (simp; omega) | omega) _)) hc21
          replace N_0 := cell_later hst21 N_0
          replace N_1 := cell_later hst21 N_1
          replace N_2 := cell_later hst21 N_2
          replace N_3 := cell_later hst21 N_3
          replace N_f0 := frozen_later hst21 N_l N_f0
          replace N_f1 := frozen_later hst21 N_l N_f1
          replace N_f2 := frozen_later hst21 N_l N_f2
          replace N_f3 := frozen_later hst21 N_l N_f3
          replace N_l := Nat.lt_of_lt_of_le N_l hst21.size
          replace hU := hU.later hst21
          replace kX := kX.later hst21
          clear hst21
          clear hc21 hb20
          have p25 : ∀ ad, a25 = some ad → ad.block ≠ w2.heap.size := fun ad e => by have := f25 ad e; omega
          go_wp2_with fail
          with_reducible refine (rcheck_ok n (o + (run o hs : Nat)) room (hs.drop (run o hs)) (hs.length - run o hs) a25 c25 _ HV2.out H_hdl.out (by repeat' (first | with_reducible exact k25 | with_reducible refine CellsAt.setFar ?_ ?_ _ | with_reducible refine CellsAt.alloc ?_ _ | with_reducible refine CellsAt.drew ?_ | with_reducible refine CellsAt.drewN ?_ _ | assumption | (simp; omega) | omega))).mono ?_
          rintro e w22 ⟨rfl, hc22⟩
          have hb22 : Below w.heap.size w w22 := bchain (by repeat' (first | with_reducible exact hb21 | with_reducible refine Below.drew ?_ | with_reducible refine below_drewN ?_ _ | with_reducible refine Below.alloc ?_ (by have := hb21.size; first | (simp; done) | (simp; omega) | omega) _ | with_reducible refine Below.setCell ?_ (by first | (simp; done) | (simp; omega) | omega) _)) hc22
          have hst22 : Below w21.heap.size w21 w22 := bchain (by repeat' (first | with_reducible exact Below.refl _ _ | with_reducible refine Below.drew ?_ | with_reducible refine below_drewN ?_ _ | with_reducible refine Below.alloc ?_ (by first | (simp; done) | (simp; omega) | omega) _ | with_reducible refine Below.setCell ?_ (by first | (simp; done) | (simp; omega) | omega) _)) hc22
          replace N_0 := cell_later hst22 N_0
          replace N_1 := cell_later hst22 N_1
          replace N_2 := cell_later hst22 N_2
          replace N_3 := cell_later hst22 N_3
          replace N_f0 := frozen_later hst22 N_l N_f0
          replace N_f1 := frozen_later hst22 N_l N_f1
          replace N_f2 := frozen_later hst22 N_l N_f2
          replace N_f3 := frozen_later hst22 N_l N_f3
          replace N_l := Nat.lt_of_lt_of_le N_l hst22.size
          have A_0 : w22.cell? ⟨w21.heap.size, 0, none⟩ = some (.int .i64 n) := (hc22.cell (p := ⟨w21.heap.size, 0, none⟩) (by first | (simp; done) | (simp; omega))).trans (by first | (simp; done) | go_simp)
          have A_1 : w22.cell? ⟨w21.heap.size, 1, none⟩ = some (.int .i64 (o + (run o hs : Nat))) := (hc22.cell (p := ⟨w21.heap.size, 1, none⟩) (by first | (simp; done) | (simp; omega))).trans (by first | (simp; done) | go_simp)
          have A_2 : w22.cell? ⟨w21.heap.size, 2, none⟩ = some (.int .i64 room) := (hc22.cell (p := ⟨w21.heap.size, 2, none⟩) (by first | (simp; done) | (simp; omega))).trans (by first | (simp; done) | go_simp)
          have A_3 : w22.cell? ⟨w21.heap.size, 3, none⟩ = some (.slice a25 (hs.length - run o hs) c25) := (hc22.cell (p := ⟨w21.heap.size, 3, none⟩) (by first | (simp; done) | (simp; omega))).trans (by first | (simp; done) | go_simp)
          have A_f0 : w22.frozen? ⟨w21.heap.size, 0, none⟩ = false := (hc22.frozen (p := ⟨w21.heap.size, 0, none⟩) (by first | (simp; done) | (simp; omega))).trans (by first | (simp; done) | go_simp)
          have A_f1 : w22.frozen? ⟨w21.heap.size, 1, none⟩ = false := (hc22.frozen (p := ⟨w21.heap.size, 1, none⟩) (by first | (simp; done) | (simp; omega))).trans (by first | (simp; done) | go_simp)
          have A_f2 : w22.frozen? ⟨w21.heap.size, 2, none⟩ = false := (hc22.frozen (p := ⟨w21.heap.size, 2, none⟩) (by first | (simp; done) | (simp; omega))).trans (by first | (simp; done) | go_simp)
          have A_f3 : w22.frozen? ⟨w21.heap.size, 3, none⟩ = false := (hc22.frozen (p := ⟨w21.heap.size, 3, none⟩) (by first | (simp; done) | (simp; omega))).trans (by first | (simp; done) | go_simp)
          have A_l : w21.heap.size < w22.heap.size := Nat.lt_of_lt_of_le (by first | (simp; done) | (simp; omega)) hc22.size
          replace hU := hU.later hst22
          replace kX := kX.later hst22
          replace k25 := k25.later hst22
          replace m25 := m25.later hst22
          clear hst22
          clear hc22 hb21
          go_wp2_with fail
          refine wp_gen fun w23 hc23 => ?_
          have hb23 : Below w.heap.size w w23 := bchain (by repeat' (first | with_reducible exact hb22 | with_reducible refine Below.drew ?_ | with_reducible refine below_drewN ?_ _ | with_reducible refine Below.alloc ?_ (by have := hb22.size; first | (simp; done) | (simp; omega) | omega) _ | with_reducible refine Below.setCell ?_ (by first | (simp; done) | (simp; omega) | omega) _)) hc23
          have hst23 : Below w22.heap.size w22 w23 := bchain (by repeat' (first | with_reducible exact Below.refl _ _ | with_reducible refine Below.drew ?_ | with_reducible refine below_drewN ?_ _ | with_reducible refine Below.alloc ?_ (by first | (simp; done) | (simp; omega) | omega) _ | with_reducible refine Below.setCell ?_ (by first | (simp; done) | (simp; omega) | omega) _)) hc23
          replace N_0 := cell_later hst23 N_0
          replace N_1 := cell_later hst23 N_1
          replace N_2 := cell_later hst23 N_2
          replace N_3 := cell_later hst23 N_3
          replace N_f0 := frozen_later hst23 N_l N_f0
          replace N_f1 := frozen_later hst23 N_l N_f1
          replace N_f2 := frozen_later hst23 N_l N_f2
          replace N_f3 := frozen_later hst23 N_l N_f3
          replace N_l := Nat.lt_of_lt_of_le N_l hst23.size
          replace A_0 := cell_later hst23 A_0
          replace A_1 := cell_later hst23 A_1
          replace A_2 := cell_later hst23 A_2
          replace A_3 := cell_later hst23 A_3
          replace A_f0 := frozen_later hst23 A_l A_f0
          replace A_f1 := frozen_later hst23 A_l A_f1
          replace A_f2 := frozen_later hst23 A_l A_f2
          replace A_f3 := frozen_later hst23 A_l A_f3
          replace A_l := Nat.lt_of_lt_of_le A_l hst23.size
          replace hU := hU.later hst23
          replace kX := kX.later hst23
          replace k25 := k25.later hst23
          replace m25 := m25.later hst23
          clear hst23
          have hqq : (0 : Int) ≤ ((run o hs : Nat) : Int) := by omega
          go_loopw [10, 19] (fun s q wq => ∃ k : Nat, k ≤ run o hs ∧ s = .int .i64 (o + k) ∧ q = .int .i64 k ∧ Below w23.heap.size w23 wq) (fun _ q _ => run o hs - (intOf q).toNat)
          case atStart => exact ⟨0, Nat.zero_le _, by go_num, rfl, Below.refl _ _⟩
          case round =>
            obtain ⟨k, hk, rfl, rfl, hc24⟩ := hrel
            obtain ⟨w24, hw24⟩ : ∃ w24, w24 = wr := ⟨wr, rfl⟩
            subst hw24
            have hb24 : Below w.heap.size w w24 := bchain (by repeat' (first | with_reducible exact hb23 | with_reducible refine Below.drew ?_ | with_reducible refine below_drewN ?_ _ | with_reducible refine Below.alloc ?_ (by have := hb23.size; first | (simp; done) | (simp; omega) | omega) _ | with_reducible refine Below.setCell ?_ (by first | (simp; done) | (simp; omega) | omega) _)) hc24
            have hst24 : Below w23.heap.size w23 w24 := bchain (by repeat' (first | with_reducible exact Below.refl _ _ | with_reducible refine Below.drew ?_ | with_reducible refine below_drewN ?_ _ | with_reducible refine Below.alloc ?_ (by first | (simp; done) | (simp; omega) | omega) _ | with_reducible refine Below.setCell ?_ (by first | (simp; done) | (simp; omega) | omega) _)) hc24
            replace N_0 := cell_later hst24 N_0
            replace N_1 := cell_later hst24 N_1
            replace N_2 := cell_later hst24 N_2
            replace N_3 := cell_later hst24 N_3
            replace N_f0 := frozen_later hst24 N_l N_f0
            replace N_f1 := frozen_later hst24 N_l N_f1
            replace N_f2 := frozen_later hst24 N_l N_f2
            replace N_f3 := frozen_later hst24 N_l N_f3
            replace N_l := Nat.lt_of_lt_of_le N_l hst24.size
            replace A_0 := cell_later hst24 A_0
            replace A_1 := cell_later hst24 A_1
            replace A_2 := cell_later hst24 A_2
            replace A_3 := cell_later hst24 A_3
            replace A_f0 := frozen_later hst24 A_l A_f0
            replace A_f1 := frozen_later hst24 A_l A_f1
            replace A_f2 := frozen_later hst24 A_l A_f2
            replace A_f3 := frozen_later hst24 A_l A_f3
            replace A_l := Nat.lt_of_lt_of_le A_l hst24.size
            replace hU := hU.later hst24
            replace kX := kX.later hst24
            replace k25 := k25.later hst24
            replace m25 := m25.later hst24
            clear hst24
            by_cases hkr : k < run o hs
            · have hkr' : (k : Int) < ((run o hs : Nat) : Int) := by omega
              have hon : ¬ (n ≤ o + k) := by omega
              obtain ⟨j, hj⟩ : ∃ j : Nat, o + (k : Int) = j := ⟨(o + k).toNat, by omega⟩
              have hj40 : j < 40 := by omega
              have hj40' : (j : Int) < 40 := by omega
              have htk := run_at hs o k hkr
              have hpj : pt o hs j = true := by unfold pt; rw [hasT_idx (i := k) (by omega) (by rw [htk, hj])]; simp
              have u0 := (hU.cell hj40).1
              rw [hpj] at u0
              obtain ⟨bb, oo, rfl, g1, g2, hcell⟩ := m25.slips (by rw [List.length_take]; omega)
              obtain ⟨e0, e1⟩ := hcell k (by rw [List.length_take]; omega)
              have htt : tg (hs.take (run o hs)) k = j ∧ wg (hs.take (run o hs)) k = (j : Int) * 7 := by
                have h1 : (hs.take (run o hs))[k]? = hs[k]? := by rw [List.getElem?_take, if_pos hkr]
                have h2 := hS.out.at (i := k) (by omega)
                unfold tg wg at *
                rw [h1]; omega
              rw [htt.1] at e0
              rw [htt.2] at e1
              clear hcell
              have hjn : ¬ (n ≤ (j : Int)) := by omega
              have H_hj := hid hj
              have H_htt := hid htt
              have H_htk := hid htk
              have H_hpj := hid hpj
              clear hj htt htk hpj
              rw [H_hj.out] 
              go_wp2_with fail
              go_roundw
              case rel => exact ⟨k + 1, by omega, congrArg (Value.int .i64) (by have := H_hj.out; omega), by go_num, hc24⟩
              case measure => simp [intOf]; omega
            · obtain rfl : k = run o hs := by omega
              by_cases hon : o + ((run o hs : Nat) : Int) < n
              · obtain ⟨j, hj⟩ : ∃ j : Nat, o + ((run o hs : Nat) : Int) = j := ⟨(o + (run o hs : Nat)).toNat, by omega⟩
                have hj40 : j < 40 := by omega
                have hj40' : (j : Int) < 40 := by omega
                have hjn : (j : Int) < n := by omega
                have u0 := (hU.cell hj40).1
                have hpj : pt o hs j = false := by rw [← HP.out j, ← hj]; exact HN.out
                rw [hpj] at u0
                have A_1' := A_1
                rw [hj] at A_1'
                clear A_1
                have A_1 := A_1'
                have H_hj := hid hj
                have H_hpj := hid hpj
                clear hj hpj
                rw [H_hj.out]
                go_wp2_with fail
                go_roundw
                case rel => exact ⟨i + 1, o + (run o hs : Nat), hs.drop (run o hs), a25, c25, by omega, by rw [H_hj.out], by go_num, (by repeat' (first | with_reducible exact hb24 | with_reducible refine Below.drew ?_ | with_reducible refine below_drewN ?_ _ | with_reducible refine Below.alloc ?_ (by have := hb24.size; first | (simp; done) | (simp; omega) | omega) _ | with_reducible refine Below.setCell ?_ (by first | (simp; done) | (simp; omega) | omega) _)), ⟨by go_simp, by rw [H_hj.out]; go_simp, by go_simp, by rw [← H_hdl.out]; go_simp⟩, ⟨by go_simp, by go_simp, by go_simp, by go_simp⟩, by repeat' (first | with_reducible exact k25 | with_reducible refine CellsAt.setFarG ?_ p25 _), Put40.congr (by repeat' (first | with_reducible exact hU | with_reducible refine Put40.setFar ?_ hUN _)) (fun j => (HP.out j).symm), HV2, HS2⟩
                case measure => simp [intOf]; omega
              · have hon' : decide (o + ((run o hs : Nat) : Int) < n) = false := decide_eq_false hon
                go_wp2_with fail
                go_roundw
                case rel => exact ⟨i + 1, o + (run o hs : Nat), hs.drop (run o hs), a25, c25, by omega, rfl, by go_num, (by repeat' (first | with_reducible exact hb24 | with_reducible refine Below.drew ?_ | with_reducible refine below_drewN ?_ _ | with_reducible refine Below.alloc ?_ (by have := hb24.size; first | (simp; done) | (simp; omega) | omega) _ | with_reducible refine Below.setCell ?_ (by first | (simp; done) | (simp; omega) | omega) _)), ⟨by go_simp, by go_simp, by go_simp, by rw [← H_hdl.out]; go_simp⟩, ⟨by go_simp, by go_simp, by go_simp, by go_simp⟩, by repeat' (first | with_reducible exact k25 | with_reducible refine CellsAt.setFarG ?_ p25 _), Put40.congr (by repeat' (first | with_reducible exact hU | with_reducible refine Put40.setFar ?_ hUN _)) (fun j => (HP.out j).symm), HV2, HS2⟩
                case measure => simp [intOf]; omega
        · have hpi : ((i : Int) % 2 == 1) = true := by simp; omega
          clear hpar
          go_wp2_with fail
          go_roundw
          case rel => exact ⟨i + 1, o, hs, ak, ck, by omega, rfl, by go_num, (by repeat' (first | with_reducible exact hb20 | with_reducible refine Below.drew ?_ | with_reducible refine below_drewN ?_ _ | with_reducible refine Below.alloc ?_ (by have := hb20.size; first | (simp; done) | (simp; omega) | omega) _ | with_reducible refine Below.setCell ?_ (by first | (simp; done) | (simp; omega) | omega) _)), ⟨by go_simp, by go_simp, by go_simp, by go_simp⟩, ⟨by go_simp, by go_simp, by go_simp, by go_simp⟩, kX, hU, hV, hS⟩
          case measure => simp [intOf]; omega
    · obtain rfl : i = xs.length := by omega
      go_wp2_with fail
      go_ret
      exact ⟨rfl, by repeat' (first | with_reducible exact hbw | with_reducible refine Below.drew ?_ | with_reducible refine below_drewN ?_ _ | with_reducible refine Below.alloc ?_ (by have := hbw.size; first | (simp; done) | (simp; omega) | omega) _ | with_reducible refine Below.setCell ?_ (by first | (simp; done) | (simp; omega) | omega) _)⟩

theorem order_full (room n : Int) (pa : Option Addr) (pc : Nat) (xs : List Int) (w : World) (h0 : (Lit.int .i64 room).wf = true) (h1 : (Lit.int .i64 n).wf = true) (h2 : CellsAt w pa (xs.map (Value.int .i64))) :
    Calls Try.prog 3 #[.int .i64 room, .int .i64 n, .slice pa xs.length pc] w fun e w' =>
      e = .returned (.bool true) ∧ Below w.heap.size w w' := by
  by_cases h : room < 1 ∨ 16 < room ∨ n < 0 ∨ 40 < n ∨ 100 < xs.length
  · exact order_out room n pa pc xs w h
  · exact order_walk room n pa pc xs w h2 (by omega) (by omega) (by omega) (by omega) (by omega)

end Go.Proofs.Ytpfldkcbkolgnaa
