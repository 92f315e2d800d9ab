/- Desks that gave tickets; the chapter's examples. -/
import Derived.Test.YtpfldkcbkolgnaaTicketOpen
namespace Go.Proofs.Ytpfldkcbkolgnaa
set_option linter.unusedSimpArgs false
set_option linter.unusedVariables false
set_option linter.unnecessarySimpa false
open Go.RowKit

theorem dtake0 (k room : Int) (a : Option Addr) (c : Nat) (w : World) (h1 : 1 ≤ room) (h2 : room ≤ 16) (h3 : 0 ≤ k) (h4 : k < 1000000000) :
    Calls Try.prog 17 #[.agg #[.int .i64 k, .int .i64 0, .int .i64 room, .slice a 0 c]] w fun e w' =>
      (∃ a' c', e = .returned (.tuple #[.agg #[.int .i64 (k + 1), .int .i64 0, .int .i64 room, .slice a' 0 c'], .int .i64 k, .int .i64 0])) ∧ Below w.heap.size w w' := by
  have V : DV k 0 room [] := ⟨h1, h2, by omega, h3, by omega, by simp [besides]; omega, fun i hi => by simp at hi, fun i _ hi => by simp at hi⟩
  refine (dtake_any k 0 room [] a c w (.inl rfl) (by simp)).mono fun e w' ⟨⟨a', c', h5, _, _⟩, h7⟩ => ?_
  have he : dTake ⟨k, 0, room, []⟩ = (⟨k + 1, 0, room, []⟩, k, 0) := by unfold dTake Dk.err; rw [if_pos V.err, if_neg (by simp only; omega)]
  rw [he] at h5
  exact ⟨⟨a', c', h5⟩, h7⟩
theorem dnew0 (room : Int) (w : World) (h1 : 1 ≤ room) (h2 : room ≤ 16) :
    Calls Try.prog 15 #[.int .i64 room] w fun e w' =>
      (∃ a c, e = .returned (.tuple #[.agg #[.int .i64 0, .int .i64 0, .int .i64 room, .slice a 0 c], .int .i64 0])) ∧ Below w.heap.size w w' := by
  refine (dnew_any room w).mono fun e w' ⟨⟨a', c', h5, _, _⟩, h7⟩ => ?_
  have he : dNew room = (⟨0, 0, room, []⟩, 0) := by unfold dNew; rw [if_pos ⟨h1, h2⟩]
  rw [he] at h5
  exact ⟨⟨a', c', h5⟩, h7⟩

set_option maxHeartbeats 2000000 in
theorem gave_any (room n : Int) (w : World) (h1 : 1 ≤ room) (h2 : room ≤ 16) (h3 : 0 ≤ n) (h4 : n ≤ 40) :
    Calls Try.prog 9 #[.int .i64 room, .int .i64 n] w fun e w' =>
      (∃ a c, e = .returned (.tuple #[.agg #[.int .i64 n, .int .i64 0, .int .i64 room, .slice a 0 c], .bool true])) ∧ Below w.heap.size w w' := by
  obtain ⟨m, rfl⟩ : ∃ m : Nat, n = m := ⟨n.toNat, by omega⟩
  go_enter Try.func9, Try.ntmps9
  have hb0 := Below.refl w.heap.size w
  go_wp2_with fail
  with_reducible refine (dnew0 room _ h1 h2).mono ?_
  rintro e w1 ⟨⟨a1, c1, rfl⟩, hc1⟩
  have hb1 : Below w.heap.size w w1 := bchain (by repeat' (first | with_reducible exact hb0 | with_reducible refine Below.drew ?_ | with_reducible refine below_drewN ?_ _ | with_reducible refine Below.alloc ?_ (by have := hb0.size; first | (simp; done) | (simp; omega) | omega) _ | with_reducible refine Below.setCell ?_ (by first | (simp; done) | (simp; omega) | omega) _)) hc1
  have E_0 : w1.cell? ⟨w.heap.size, 0, none⟩ = some (.int .i64 0) := (hc1.cell (p := ⟨w.heap.size, 0, none⟩) (by first | (simp; done) | (simp; omega))).trans (by first | (simp; done) | go_simp)
  have E_1 : w1.cell? ⟨w.heap.size, 1, none⟩ = some (.int .i64 0) := (hc1.cell (p := ⟨w.heap.size, 1, none⟩) (by first | (simp; done) | (simp; omega))).trans (by first | (simp; done) | go_simp)
  have E_2 : w1.cell? ⟨w.heap.size, 2, none⟩ = some (.int .i64 0) := (hc1.cell (p := ⟨w.heap.size, 2, none⟩) (by first | (simp; done) | (simp; omega))).trans (by first | (simp; done) | go_simp)
  have E_3 : w1.cell? ⟨w.heap.size, 3, none⟩ = some (.slice none 0 0) := (hc1.cell (p := ⟨w.heap.size, 3, none⟩) (by first | (simp; done) | (simp; omega))).trans (by first | (simp; done) | go_simp)
  have E_f0 : w1.frozen? ⟨w.heap.size, 0, none⟩ = false := (hc1.frozen (p := ⟨w.heap.size, 0, none⟩) (by first | (simp; done) | (simp; omega))).trans (by first | (simp; done) | go_simp)
  have E_f1 : w1.frozen? ⟨w.heap.size, 1, none⟩ = false := (hc1.frozen (p := ⟨w.heap.size, 1, none⟩) (by first | (simp; done) | (simp; omega))).trans (by first | (simp; done) | go_simp)
  have E_f2 : w1.frozen? ⟨w.heap.size, 2, none⟩ = false := (hc1.frozen (p := ⟨w.heap.size, 2, none⟩) (by first | (simp; done) | (simp; omega))).trans (by first | (simp; done) | go_simp)
  have E_f3 : w1.frozen? ⟨w.heap.size, 3, none⟩ = false := (hc1.frozen (p := ⟨w.heap.size, 3, none⟩) (by first | (simp; done) | (simp; omega))).trans (by first | (simp; done) | go_simp)
  have E_l : w.heap.size < w1.heap.size := Nat.lt_of_lt_of_le (by first | (simp; done) | (simp; omega)) hc1.size
  clear hc1 hb0
  have z1 := E_l
  go_wp2_with fail
  refine wp_gen fun w2 hc2 => ?_
  have hb2 : Below w.heap.size w w2 := bchain (by repeat' (first | with_reducible exact hb1 | with_reducible refine Below.drew ?_ | with_reducible refine below_drewN ?_ _ | with_reducible refine Below.alloc ?_ (by have := hb1.size; first | (simp; done) | (simp; omega) | omega) _ | with_reducible refine Below.setCell ?_ (by first | (simp; done) | (simp; omega) | omega) _)) hc2
  have hst2 : Below w1.heap.size w1 w2 := bchain (by repeat' (first | with_reducible exact Below.refl _ _ | with_reducible refine Below.drew ?_ | with_reducible refine below_drewN ?_ _ | with_reducible refine Below.alloc ?_ (by first | (simp; done) | (simp; omega) | omega) _ | with_reducible refine Below.setCell ?_ (by first | (simp; done) | (simp; omega) | omega) _)) hc2
  replace E_0 := cell_later hst2 E_0
  replace E_1 := cell_later hst2 E_1
  replace E_2 := cell_later hst2 E_2
  replace E_3 := cell_later hst2 E_3
  replace E_f0 := frozen_later hst2 E_l E_f0
  replace E_f1 := frozen_later hst2 E_l E_f1
  replace E_f2 := frozen_later hst2 E_l E_f2
  replace E_f3 := frozen_later hst2 E_l E_f3
  replace E_l := Nat.lt_of_lt_of_le E_l hst2.size
  have D_0 : w2.cell? ⟨w1.heap.size, 0, none⟩ = some (.int .i64 0) := (hc2.cell (p := ⟨w1.heap.size, 0, none⟩) (by first | (simp; done) | (simp; omega))).trans (by first | (simp; done) | go_simp)
  have D_1 : w2.cell? ⟨w1.heap.size, 1, none⟩ = some (.int .i64 0) := (hc2.cell (p := ⟨w1.heap.size, 1, none⟩) (by first | (simp; done) | (simp; omega))).trans (by first | (simp; done) | go_simp)
  have D_2 : w2.cell? ⟨w1.heap.size, 2, none⟩ = some (.int .i64 room) := (hc2.cell (p := ⟨w1.heap.size, 2, none⟩) (by first | (simp; done) | (simp; omega))).trans (by first | (simp; done) | go_simp)
  have D_3 : w2.cell? ⟨w1.heap.size, 3, none⟩ = some (.slice a1 0 c1) := (hc2.cell (p := ⟨w1.heap.size, 3, none⟩) (by first | (simp; done) | (simp; omega))).trans (by first | (simp; done) | go_simp)
  have D_f0 : w2.frozen? ⟨w1.heap.size, 0, none⟩ = false := (hc2.frozen (p := ⟨w1.heap.size, 0, none⟩) (by first | (simp; done) | (simp; omega))).trans (by first | (simp; done) | go_simp)
  have D_f1 : w2.frozen? ⟨w1.heap.size, 1, none⟩ = false := (hc2.frozen (p := ⟨w1.heap.size, 1, none⟩) (by first | (simp; done) | (simp; omega))).trans (by first | (simp; done) | go_simp)
  have D_f2 : w2.frozen? ⟨w1.heap.size, 2, none⟩ = false := (hc2.frozen (p := ⟨w1.heap.size, 2, none⟩) (by first | (simp; done) | (simp; omega))).trans (by first | (simp; done) | go_simp)
  have D_f3 : w2.frozen? ⟨w1.heap.size, 3, none⟩ = false := (hc2.frozen (p := ⟨w1.heap.size, 3, none⟩) (by first | (simp; done) | (simp; omega))).trans (by first | (simp; done) | go_simp)
  have D_l : w1.heap.size < w2.heap.size := Nat.lt_of_lt_of_le (by first | (simp; done) | (simp; omega)) hc2.size
  clear hst2
  go_loopw [8] (fun i wr => ∃ (k : Nat) (ak : Option Addr) (ck : Nat), k ≤ m ∧ i = .int .i64 k ∧ Below w.heap.size w wr ∧ (wr.cell? ⟨w1.heap.size, 0, none⟩ = some (.int .i64 k) ∧ wr.cell? ⟨w1.heap.size, 1, none⟩ = some (.int .i64 0) ∧ wr.cell? ⟨w1.heap.size, 2, none⟩ = some (.int .i64 room) ∧ wr.cell? ⟨w1.heap.size, 3, none⟩ = some (.slice ak 0 ck)) ∧ (wr.frozen? ⟨w1.heap.size, 0, none⟩ = false ∧ wr.frozen? ⟨w1.heap.size, 1, none⟩ = false ∧ wr.frozen? ⟨w1.heap.size, 2, none⟩ = false ∧ wr.frozen? ⟨w1.heap.size, 3, none⟩ = false) ∧ (wr.cell? ⟨w.heap.size, 0, none⟩ = some (.int .i64 0) ∧ wr.cell? ⟨w.heap.size, 1, none⟩ = some (.int .i64 0) ∧ wr.cell? ⟨w.heap.size, 2, none⟩ = some (.int .i64 0) ∧ wr.cell? ⟨w.heap.size, 3, none⟩ = some (.slice none 0 0)) ∧ (wr.frozen? ⟨w.heap.size, 0, none⟩ = false ∧ wr.frozen? ⟨w.heap.size, 1, none⟩ = false ∧ wr.frozen? ⟨w.heap.size, 2, none⟩ = false ∧ wr.frozen? ⟨w.heap.size, 3, none⟩ = false)) (fun i _ => m - (intOf i).toNat)
  case atStart => exact ⟨0, a1, c1, Nat.zero_le _, rfl, (by repeat' (first | with_reducible exact hb2 | with_reducible refine Below.drew ?_ | with_reducible refine below_drewN ?_ _ | with_reducible refine Below.alloc ?_ (by have := hb2.size; first | (simp; done) | (simp; omega) | omega) _ | with_reducible refine Below.setCell ?_ (by first | (simp; done) | (simp; omega) | omega) _)), ⟨D_0, D_1, D_2, D_3⟩, ⟨D_f0, D_f1, D_f2, D_f3⟩, ⟨E_0, E_1, E_2, E_3⟩, ⟨E_f0, E_f1, E_f2, E_f3⟩⟩
  case round =>
    clear D_0 D_1 D_2 D_3 D_f0 D_f1 D_f2 D_f3 D_l E_0 E_1 E_2 E_3 E_f0 E_f1 E_f2 E_f3 E_l
    obtain ⟨k, ak, ck, hk, rfl, hbw, ⟨D_0, D_1, D_2, D_3⟩, ⟨D_f0, D_f1, D_f2, D_f3⟩, ⟨E_0, E_1, E_2, E_3⟩, ⟨E_f0, E_f1, E_f2, E_f3⟩⟩ := hrel
    have D_l : w1.heap.size < wr.heap.size := World.block_lt_of_cell? _ _ D_0
    have E_l : w.heap.size < wr.heap.size := World.block_lt_of_cell? _ _ E_0
    by_cases hlt : k < m
    · have hlt' : (k : Int) < (m : Int) := by omega
      go_wp2_with fail
      with_reducible refine (dtake0 k room ak ck _ h1 h2 (by omega) (by omega)).mono ?_
      rintro e w3 ⟨⟨a4, c4, rfl⟩, hc3⟩
      have hb3 : Below w.heap.size w w3 := bchain (by repeat' (first | with_reducible exact hbw | with_reducible refine Below.drew ?_ | with_reducible refine below_drewN ?_ _ | with_reducible refine Below.alloc ?_ (by have := hbw.size; first | (simp; done) | (simp; omega) | omega) _ | with_reducible refine Below.setCell ?_ (by first | (simp; done) | (simp; omega) | omega) _)) hc3
      have hst3 : Below wr.heap.size wr w3 := bchain (by repeat' (first | with_reducible exact Below.refl _ _ | with_reducible refine Below.drew ?_ | with_reducible refine below_drewN ?_ _ | with_reducible refine Below.alloc ?_ (by first | (simp; done) | (simp; omega) | omega) _ | with_reducible refine Below.setCell ?_ (by first | (simp; done) | (simp; omega) | omega) _)) hc3
      replace D_0 := cell_later hst3 D_0
      replace D_1 := cell_later hst3 D_1
      replace D_2 := cell_later hst3 D_2
      replace D_3 := cell_later hst3 D_3
      replace D_f0 := frozen_later hst3 D_l D_f0
      replace D_f1 := frozen_later hst3 D_l D_f1
      replace D_f2 := frozen_later hst3 D_l D_f2
      replace D_f3 := frozen_later hst3 D_l D_f3
      replace D_l := Nat.lt_of_lt_of_le D_l hst3.size
      replace E_0 := cell_later hst3 E_0
      replace E_1 := cell_later hst3 E_1
      replace E_2 := cell_later hst3 E_2
      replace E_3 := cell_later hst3 E_3
      replace E_f0 := frozen_later hst3 E_l E_f0
      replace E_f1 := frozen_later hst3 E_l E_f1
      replace E_f2 := frozen_later hst3 E_l E_f2
      replace E_f3 := frozen_later hst3 E_l E_f3
      replace E_l := Nat.lt_of_lt_of_le E_l hst3.size
      clear hst3
      clear hc3 hbw
      have hne : w1.heap.size ≠ w.heap.size := by omega
      go_wp2_with fail
      go_roundw
      case rel => exact ⟨k + 1, a4, c4, by omega, by go_num, (by repeat' (first | with_reducible exact hb3 | with_reducible refine Below.drew ?_ | with_reducible refine below_drewN ?_ _ | with_reducible refine Below.alloc ?_ (by have := hb3.size; first | (simp; done) | (simp; omega) | omega) _ | with_reducible refine Below.setCell ?_ (by first | (simp; done) | (simp; omega) | omega) _)), ⟨by go_simp, by go_simp, by go_simp, by go_simp⟩, ⟨by go_simp, by go_simp, by go_simp, by go_simp⟩, ⟨by go_simp, by go_simp, by go_simp, by go_simp⟩, ⟨by go_simp, by go_simp, by go_simp, by go_simp⟩⟩
      case measure => simp [intOf]; omega
    · obtain rfl : k = m := by omega
      go_wp2_with fail
      exact bodyPost_ret (v := .tuple #[.agg #[.int .i64 k, .int .i64 0, .int .i64 room, .slice ak 0 ck], .bool true]) (by simp [results, Try.results9, go_sem, *]) rfl ⟨⟨_, _, rfl⟩, (by repeat' (first | with_reducible exact hbw | with_reducible refine Below.drew ?_ | with_reducible refine below_drewN ?_ _ | with_reducible refine Below.alloc ?_ (by have := hbw.size; first | (simp; done) | (simp; omega) | omega) _ | with_reducible refine Below.setCell ?_ (by first | (simp; done) | (simp; omega) | omega) _))⟩

theorem put_r (g o r t x : Int) (hs : Slips) (g' o' r' er : Int) (hs' : Slips) (n m : Nat) (a : Option Addr) (c : Nat) (w : World) (hn : n = hs.length) (hm : m = hs'.length) (hr : dPut ⟨g, o, r, hs⟩ t x = (⟨g', o', r', hs'⟩, er)) (hc : CellsAt w a (cel hs)) (hb : hs.length ≤ 8796093022206) :
    Calls Try.prog 10 #[.agg #[.int .i64 g, .int .i64 o, .int .i64 r, .slice a n c], .int .i64 t, .int .u64 x] w fun e w' =>
      (∃ a' c', e = .returned (.tuple #[.agg #[.int .i64 g', .int .i64 o', .int .i64 r', .slice a' m c'], .int .i64 er]) ∧ CellsAt w' a' (cel hs') ∧ Fresh w.heap.size a') ∧ Below w.heap.size w w' := by
  subst hn hm
  have := dput_any g o r t x hs a c w hc hb
  rw [hr] at this
  exact this
theorem drain_r (g o r : Int) (hs : Slips) (g' o' r' er : Int) (hs' l : Slips) (n m q : Nat) (a : Option Addr) (c : Nat) (w : World) (hn : n = hs.length) (hm : m = hs'.length) (hq : q = l.length) (hr : dDrain ⟨g, o, r, hs⟩ = (⟨g', o', r', hs'⟩, l, er)) (hc : CellsAt w a (cel hs)) (hb : hs.length ≤ 8796093022206) :
    Calls Try.prog 13 #[.agg #[.int .i64 g, .int .i64 o, .int .i64 r, .slice a n c]] w fun e w' =>
      (∃ a' c' b d, e = .returned (.tuple #[.agg #[.int .i64 g', .int .i64 o', .int .i64 r', .slice a' m c'], .slice b q d, .int .i64 er]) ∧ CellsAt w' a' (cel hs') ∧ CellsAt w' b (cel l) ∧ Fresh w.heap.size a' ∧ Fresh w.heap.size b) ∧ Below w.heap.size w w' := by
  subst hn hm hq
  have := ddrain_any g o r hs a c w hc hb
  rw [hr] at this
  exact this
theorem sameSlips_r (hs : Slips) (n m : Nat) (a b : Option Addr) (c d : Nat) (w : World) (hn : n = hs.length) (hm : m = hs.length) (hx : CellsAt w a (cel hs)) (hy : CellsAt w b (cel hs)) (hml : hs.length ≤ maxLen) :
    Calls Try.prog 25 #[.slice a n c, .slice b m d] w fun e w' =>
      e = .returned (.bool true) ∧ Below w.heap.size w w' := by
  subst hn hm
  exact sameSlips_self hs a b c d w hx hy hml

set_option maxRecDepth 100000 in
set_option maxHeartbeats 4000000 in
theorem alive_any (w : World) :
    Calls Try.prog 8 #[] w fun e w' =>
      e = .returned (.bool true) ∧ Below w.heap.size w w' := by
  go_enter Try.func8, Try.ntmps8
  have hb0 := Below.refl w.heap.size w
  go_wp2_with fail
  with_reducible refine (gave_any 1 3 _ (by omega) (by omega) (by omega) (by omega)).mono ?_
  rintro e w1 ⟨⟨a1, c1, rfl⟩, hc1⟩
  have hb1 : Below w.heap.size w w1 := bchain (by repeat' (first | with_reducible exact hb0 | with_reducible refine Below.drew ?_ | with_reducible refine below_drewN ?_ _ | with_reducible refine Below.alloc ?_ (by have := hb0.size; first | (simp; done) | (simp; omega) | omega) _ | with_reducible refine Below.setCell ?_ (by first | (simp; done) | (simp; omega) | omega) _)) hc1
  clear hc1 hb0
  go_wp2_with fail
  with_reducible refine (put_r 3 0 1 1 70 [] 3 0 1 0 [(1, 70)] 0 1 a1 c1 _ rfl rfl (by kernel_rfl) (cel0 _ _) (by simp)).mono ?_
  rintro e w2 ⟨⟨a2, c2, rfl, k2, _⟩, hc2⟩
  have hb2 : Below w.heap.size w w2 := bchain (by repeat' (first | with_reducible exact hb1 | with_reducible refine Below.drew ?_ | with_reducible refine below_drewN ?_ _ | with_reducible refine Below.alloc ?_ (by have := hb1.size; first | (simp; done) | (simp; omega) | omega) _ | with_reducible refine Below.setCell ?_ (by first | (simp; done) | (simp; omega) | omega) _)) hc2
  have A_0 : w2.cell? ⟨w1.heap.size, 0, none⟩ = some (.int .i64 3) := (hc2.cell (p := ⟨w1.heap.size, 0, none⟩) (by first | (simp; done) | (simp; omega))).trans (by first | (simp; done) | go_simp)
  have A_1 : w2.cell? ⟨w1.heap.size, 1, none⟩ = some (.int .i64 0) := (hc2.cell (p := ⟨w1.heap.size, 1, none⟩) (by first | (simp; done) | (simp; omega))).trans (by first | (simp; done) | go_simp)
  have A_2 : w2.cell? ⟨w1.heap.size, 2, none⟩ = some (.int .i64 1) := (hc2.cell (p := ⟨w1.heap.size, 2, none⟩) (by first | (simp; done) | (simp; omega))).trans (by first | (simp; done) | go_simp)
  have A_3 : w2.cell? ⟨w1.heap.size, 3, none⟩ = some (.slice a1 0 c1) := (hc2.cell (p := ⟨w1.heap.size, 3, none⟩) (by first | (simp; done) | (simp; omega))).trans (by first | (simp; done) | go_simp)
  have A_l : w1.heap.size < w2.heap.size := Nat.lt_of_lt_of_le (by first | (simp; done) | (simp; omega)) hc2.size
  clear hc2 hb1
  go_wp2_with fail
  with_reducible refine (put_r 3 0 1 2 80 [(1, 70)] 0 0 0 38 [] 1 0 a2 c2 _ rfl rfl (by kernel_rfl) (by repeat' (first | with_reducible exact k2 | with_reducible refine CellsAt.setFar ?_ ?_ _ | with_reducible refine CellsAt.alloc ?_ _ | with_reducible refine CellsAt.drew ?_ | with_reducible refine CellsAt.drewN ?_ _ | assumption | (simp; omega) | omega)) (by simp)).mono ?_
  rintro e w3 ⟨⟨a3, c3, rfl, _, _⟩, hc3⟩
  have hb3 : Below w.heap.size w w3 := bchain (by repeat' (first | with_reducible exact hb2 | with_reducible refine Below.drew ?_ | with_reducible refine below_drewN ?_ _ | with_reducible refine Below.alloc ?_ (by have := hb2.size; first | (simp; done) | (simp; omega) | omega) _ | with_reducible refine Below.setCell ?_ (by first | (simp; done) | (simp; omega) | omega) _)) hc3
  have hst3 : Below w2.heap.size w2 w3 := bchain (by repeat' (first | with_reducible exact Below.refl _ _ | with_reducible refine Below.drew ?_ | with_reducible refine below_drewN ?_ _ | with_reducible refine Below.alloc ?_ (by first | (simp; done) | (simp; omega) | omega) _ | with_reducible refine Below.setCell ?_ (by first | (simp; done) | (simp; omega) | omega) _)) hc3
  replace A_0 := cell_later hst3 A_0
  replace A_1 := cell_later hst3 A_1
  replace A_2 := cell_later hst3 A_2
  replace A_3 := cell_later hst3 A_3
  replace A_l := Nat.lt_of_lt_of_le A_l hst3.size
  have B_0 : w3.cell? ⟨w2.heap.size, 0, none⟩ = some (.int .i64 3) := (hc3.cell (p := ⟨w2.heap.size, 0, none⟩) (by first | (simp; done) | (simp; omega))).trans (by first | (simp; done) | go_simp)
  have B_1 : w3.cell? ⟨w2.heap.size, 1, none⟩ = some (.int .i64 0) := (hc3.cell (p := ⟨w2.heap.size, 1, none⟩) (by first | (simp; done) | (simp; omega))).trans (by first | (simp; done) | go_simp)
  have B_2 : w3.cell? ⟨w2.heap.size, 2, none⟩ = some (.int .i64 1) := (hc3.cell (p := ⟨w2.heap.size, 2, none⟩) (by first | (simp; done) | (simp; omega))).trans (by first | (simp; done) | go_simp)
  have B_3 : w3.cell? ⟨w2.heap.size, 3, none⟩ = some (.slice a2 1 c2) := (hc3.cell (p := ⟨w2.heap.size, 3, none⟩) (by first | (simp; done) | (simp; omega))).trans (by first | (simp; done) | go_simp)
  have B_l : w2.heap.size < w3.heap.size := Nat.lt_of_lt_of_le (by first | (simp; done) | (simp; omega)) hc3.size
  replace k2 := k2.later hst3
  clear hst3
  clear hc3 hb2
  go_wp2_with fail
  with_reducible refine (put_r 3 0 1 0 60 [(1, 70)] 3 0 1 0 [(0, 60), (1, 70)] 1 2 a2 c2 _ rfl rfl (by kernel_rfl) (by repeat' (first | with_reducible exact k2 | with_reducible refine CellsAt.setFar ?_ ?_ _ | with_reducible refine CellsAt.alloc ?_ _ | with_reducible refine CellsAt.drew ?_ | with_reducible refine CellsAt.drewN ?_ _ | assumption | (simp; omega) | omega)) (by simp)).mono ?_
  rintro e w4 ⟨⟨a4, c4, rfl, k4, _⟩, hc4⟩
  have hb4 : Below w.heap.size w w4 := bchain (by repeat' (first | with_reducible exact hb3 | with_reducible refine Below.drew ?_ | with_reducible refine below_drewN ?_ _ | with_reducible refine Below.alloc ?_ (by have := hb3.size; first | (simp; done) | (simp; omega) | omega) _ | with_reducible refine Below.setCell ?_ (by first | (simp; done) | (simp; omega) | omega) _)) hc4
  have hst4 : Below w3.heap.size w3 w4 := bchain (by repeat' (first | with_reducible exact Below.refl _ _ | with_reducible refine Below.drew ?_ | with_reducible refine below_drewN ?_ _ | with_reducible refine Below.alloc ?_ (by first | (simp; done) | (simp; omega) | omega) _ | with_reducible refine Below.setCell ?_ (by first | (simp; done) | (simp; omega) | omega) _)) hc4
  replace A_0 := cell_later hst4 A_0
  replace A_1 := cell_later hst4 A_1
  replace A_2 := cell_later hst4 A_2
  replace A_3 := cell_later hst4 A_3
  replace A_l := Nat.lt_of_lt_of_le A_l hst4.size
  replace B_0 := cell_later hst4 B_0
  replace B_1 := cell_later hst4 B_1
  replace B_2 := cell_later hst4 B_2
  replace B_3 := cell_later hst4 B_3
  replace B_l := Nat.lt_of_lt_of_le B_l hst4.size
  replace k2 := k2.later hst4
  clear hst4
  clear hc4 hb3
  go_wp2_with fail
  with_reducible refine (drain_r 3 0 1 [(0, 60), (1, 70)] 3 2 1 0 [] [(0, 60), (1, 70)] 2 0 2 a4 c4 _ rfl rfl rfl (by kernel_rfl) (by repeat' (first | with_reducible exact k4 | with_reducible refine CellsAt.setFar ?_ ?_ _ | with_reducible refine CellsAt.alloc ?_ _ | with_reducible refine CellsAt.drew ?_ | with_reducible refine CellsAt.drewN ?_ _ | assumption | (simp; omega) | omega)) (by simp)).mono ?_
  rintro e w5 ⟨⟨a5, c5, b5, d5, rfl, _, m5, _, _⟩, hc5⟩
  have hb5 : Below w.heap.size w w5 := bchain (by repeat' (first | with_reducible exact hb4 | with_reducible refine Below.drew ?_ | with_reducible refine below_drewN ?_ _ | with_reducible refine Below.alloc ?_ (by have := hb4.size; first | (simp; done) | (simp; omega) | omega) _ | with_reducible refine Below.setCell ?_ (by first | (simp; done) | (simp; omega) | omega) _)) hc5
  have hst5 : Below w4.heap.size w4 w5 := bchain (by repeat' (first | with_reducible exact Below.refl _ _ | with_reducible refine Below.drew ?_ | with_reducible refine below_drewN ?_ _ | with_reducible refine Below.alloc ?_ (by first | (simp; done) | (simp; omega) | omega) _ | with_reducible refine Below.setCell ?_ (by first | (simp; done) | (simp; omega) | omega) _)) hc5
  replace A_0 := cell_later hst5 A_0
  replace A_1 := cell_later hst5 A_1
  replace A_2 := cell_later hst5 A_2
  replace A_3 := cell_later hst5 A_3
  replace A_l := Nat.lt_of_lt_of_le A_l hst5.size
  replace B_0 := cell_later hst5 B_0
  replace B_1 := cell_later hst5 B_1
  replace B_2 := cell_later hst5 B_2
  replace B_3 := cell_later hst5 B_3
  replace B_l := Nat.lt_of_lt_of_le B_l hst5.size
  have C_0 : w5.cell? ⟨w4.heap.size, 0, none⟩ = some (.int .i64 3) := (hc5.cell (p := ⟨w4.heap.size, 0, none⟩) (by first | (simp; done) | (simp; omega))).trans (by first | (simp; done) | go_simp)
  have C_1 : w5.cell? ⟨w4.heap.size, 1, none⟩ = some (.int .i64 0) := (hc5.cell (p := ⟨w4.heap.size, 1, none⟩) (by first | (simp; done) | (simp; omega))).trans (by first | (simp; done) | go_simp)
  have C_2 : w5.cell? ⟨w4.heap.size, 2, none⟩ = some (.int .i64 1) := (hc5.cell (p := ⟨w4.heap.size, 2, none⟩) (by first | (simp; done) | (simp; omega))).trans (by first | (simp; done) | go_simp)
  have C_3 : w5.cell? ⟨w4.heap.size, 3, none⟩ = some (.slice a4 2 c4) := (hc5.cell (p := ⟨w4.heap.size, 3, none⟩) (by first | (simp; done) | (simp; omega))).trans (by first | (simp; done) | go_simp)
  have C_l : w4.heap.size < w5.heap.size := Nat.lt_of_lt_of_le (by first | (simp; done) | (simp; omega)) hc5.size
  replace k2 := k2.later hst5
  replace k4 := k4.later hst5
  clear hst5
  clear hc5 hb4
  go_wp2_with fail
  with_reducible refine (put_r 3 2 1 1 70 [] 0 0 0 2 [] 0 0 a5 c5 _ rfl rfl (by kernel_rfl) (cel0 _ _) (by simp)).mono ?_
  rintro e w6 ⟨⟨a6, c6, rfl, _, _⟩, hc6⟩
  have hb6 : Below w.heap.size w w6 := bchain (by repeat' (first | with_reducible exact hb5 | with_reducible refine Below.drew ?_ | with_reducible refine below_drewN ?_ _ | with_reducible refine Below.alloc ?_ (by have := hb5.size; first | (simp; done) | (simp; omega) | omega) _ | with_reducible refine Below.setCell ?_ (by first | (simp; done) | (simp; omega) | omega) _)) hc6
  have hst6 : Below w5.heap.size w5 w6 := bchain (by repeat' (first | with_reducible exact Below.refl _ _ | with_reducible refine Below.drew ?_ | with_reducible refine below_drewN ?_ _ | with_reducible refine Below.alloc ?_ (by first | (simp; done) | (simp; omega) | omega) _ | with_reducible refine Below.setCell ?_ (by first | (simp; done) | (simp; omega) | omega) _)) hc6
  replace A_0 := cell_later hst6 A_0
  replace A_1 := cell_later hst6 A_1
  replace A_2 := cell_later hst6 A_2
  replace A_3 := cell_later hst6 A_3
  replace A_l := Nat.lt_of_lt_of_le A_l hst6.size
  replace B_0 := cell_later hst6 B_0
  replace B_1 := cell_later hst6 B_1
  replace B_2 := cell_later hst6 B_2
  replace B_3 := cell_later hst6 B_3
  replace B_l := Nat.lt_of_lt_of_le B_l hst6.size
  replace C_0 := cell_later hst6 C_0
  replace C_1 := cell_later hst6 C_1
  replace C_2 := cell_later hst6 C_2
  replace C_3 := cell_later hst6 C_3
  replace C_l := Nat.lt_of_lt_of_le C_l hst6.size
  have D_0 : w6.cell? ⟨w5.heap.size, 0, none⟩ = some (.int .i64 3) := (hc6.cell (p := ⟨w5.heap.size, 0, none⟩) (by first | (simp; done) | (simp; omega))).trans (by first | (simp; done) | go_simp)
  have D_1 : w6.cell? ⟨w5.heap.size, 1, none⟩ = some (.int .i64 2) := (hc6.cell (p := ⟨w5.heap.size, 1, none⟩) (by first | (simp; done) | (simp; omega))).trans (by first | (simp; done) | go_simp)
  have D_2 : w6.cell? ⟨w5.heap.size, 2, none⟩ = some (.int .i64 1) := (hc6.cell (p := ⟨w5.heap.size, 2, none⟩) (by first | (simp; done) | (simp; omega))).trans (by first | (simp; done) | go_simp)
  have D_3 : w6.cell? ⟨w5.heap.size, 3, none⟩ = some (.slice a5 0 c5) := (hc6.cell (p := ⟨w5.heap.size, 3, none⟩) (by first | (simp; done) | (simp; omega))).trans (by first | (simp; done) | go_simp)
  have D_l : w5.heap.size < w6.heap.size := Nat.lt_of_lt_of_le (by first | (simp; done) | (simp; omega)) hc6.size
  replace k2 := k2.later hst6
  replace k4 := k4.later hst6
  replace m5 := m5.later hst6
  clear hst6
  clear hc6 hb5
  have lit := fun o => cellsAt_blk (news := cel [(0, 60), (1, 70)]) (heap_new2 w6 o (.cells #[.int .i64 0, .int .u64 60, .int .i64 1, .int .u64 70] 38))
  go_wp2_with fail
  with_reducible refine (sameSlips_r [(0, 60), (1, 70)] 2 2 b5 (some ⟨w6.heap.size + 1, 0, none⟩) d5 2 _ rfl rfl ((m5.alloc _).alloc _) (lit _) (by simp [maxLen])).mono ?_
  rintro e w7 ⟨rfl, hc7⟩
  have hb7 : Below w.heap.size w w7 := bchain (by repeat' (first | with_reducible exact hb6 | with_reducible refine Below.drew ?_ | with_reducible refine below_drewN ?_ _ | with_reducible refine Below.alloc ?_ (by have := hb6.size; first | (simp; done) | (simp; omega) | omega) _ | with_reducible refine Below.setCell ?_ (by first | (simp; done) | (simp; omega) | omega) _)) hc7
  have hst7 : Below w6.heap.size w6 w7 := bchain (by repeat' (first | with_reducible exact Below.refl _ _ | with_reducible refine Below.drew ?_ | with_reducible refine below_drewN ?_ _ | with_reducible refine Below.alloc ?_ (by first | (simp; done) | (simp; omega) | omega) _ | with_reducible refine Below.setCell ?_ (by first | (simp; done) | (simp; omega) | omega) _)) hc7
  replace A_0 := cell_later hst7 A_0
  replace A_1 := cell_later hst7 A_1
  replace A_2 := cell_later hst7 A_2
  replace A_3 := cell_later hst7 A_3
  replace A_l := Nat.lt_of_lt_of_le A_l hst7.size
  replace B_0 := cell_later hst7 B_0
  replace B_1 := cell_later hst7 B_1
  replace B_2 := cell_later hst7 B_2
  replace B_3 := cell_later hst7 B_3
  replace B_l := Nat.lt_of_lt_of_le B_l hst7.size
  replace C_0 := cell_later hst7 C_0
  replace C_1 := cell_later hst7 C_1
  replace C_2 := cell_later hst7 C_2
  replace C_3 := cell_later hst7 C_3
  replace C_l := Nat.lt_of_lt_of_le C_l hst7.size
  replace D_0 := cell_later hst7 D_0
  replace D_1 := cell_later hst7 D_1
  replace D_2 := cell_later hst7 D_2
  replace D_3 := cell_later hst7 D_3
  replace D_l := Nat.lt_of_lt_of_le D_l hst7.size
  replace k2 := k2.later hst7
  replace k4 := k4.later hst7
  replace m5 := m5.later hst7
  clear hst7
  clear hc7 hb6
  go_wp2_with fail
  go_ret
  exact ⟨rfl, by repeat' (first | with_reducible exact hb7 | with_reducible refine Below.drew ?_ | with_reducible refine below_drewN ?_ _ | with_reducible refine Below.alloc ?_ (by have := hb7.size; first | (simp; done) | (simp; omega) | omega) _ | with_reducible refine Below.setCell ?_ (by first | (simp; done) | (simp; omega) | omega) _)⟩

end Go.Proofs.Ytpfldkcbkolgnaa
