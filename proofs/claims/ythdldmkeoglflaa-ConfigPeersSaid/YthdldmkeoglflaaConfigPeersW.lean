/- The law ConfigPeers. -/
import Derived.Test.YthdldmkeoglflaaCfgOpen
import Derived.Test.YthdldmkeoglflaaCfgROut
import Derived.Test.YthdldmkeoglflaaCfgROut2
import Derived.Test.YthdldmkeoglflaaCfgSame
namespace Go.Proofs.Ythdldmkeoglflaa
set_option linter.unusedSimpArgs false
set_option linter.unusedVariables false
set_option linter.unnecessarySimpa false
open Go.RowKit

theorem withR_len (L : Lim) (s : Int) (ps : Peers) (n : ByteArray) (q E : Int) : (withR L s ps n q E).ps.length ≤ ps.length + 1 := by
  have := lb_le ps n
  unfold withR; (repeat' split) <;> simp [zOut]; omega
theorem withoutR_len (L : Lim) (s : Int) (ps : Peers) (x : ByteArray) (E : Int) : (withoutR L s ps x E).ps.length ≤ ps.length := by
  unfold withoutR; (repeat' split) <;> simp [zOut, List.length_eraseIdx_le]
set_option maxRecDepth 100000 in
set_option maxHeartbeats 10000000 in
theorem peers_walk (l0 l1 l2 l3 l4 l5 l6 l7 l8 : Int) (s : Int) (ps : Peers) (a : Option Addr) (c : Nat) (x : ByteArray) (pk : Int) (n : ByteArray) (q : Int) (w : World) (h : SetIn w s ps a c) (q0 : 0 ≤ q) (q4 : q < 4294967296) (pk0 : 0 ≤ pk) (pk4 : pk < 4294967296) :
    Calls Try.prog 3 #[.agg #[.int .i64 l0, .int .i64 l1, .int .i64 l2, .int .i64 l3, .int .i64 l4, .int .i64 l5, .int .i64 l6, .int .i64 l7, .int .i64 l8, .int .u32 s, .slice a ps.length c], .string x, .int .u32 pk, .agg #[.string n, .int .u32 q]] w fun e w' =>
      e = .returned (.bool true) ∧ Below w.heap.size w w' := by
  have hml := h.len
  have hc := h.cells
  have hgr := fun W g => great_any l0 l1 l2 l3 l4 l5 l6 l7 l8 s ps a c W g hml
  unfold GreatR at hgr
  by_cases hx : 100 < x.size
  · have hx' : (100 : Int) < (x.size : Int) := by omega
    have H_hml := Box.mk hml
    clear hml
    go_enter Try.func3, Try.ntmps3
    have hb0 := Below.refl w.heap.size w
    go_wp2_with fail
    with_reducible refine (hgr _ ((hc.alloc _).alloc _)).mono ?_
    rintro e w1 ⟨⟨g, rfl, hg⟩, hc1⟩
    have hb1 : Below w.heap.size w w1 := bchain (by repeat' (first | with_reducible exact hb0 | with_reducible refine Below.drew ?_ | with_reducible refine below_drewN ?_ _ | with_reducible refine Below.alloc ?_ (by have := hb0.size; first | (simp; done) | (simp; omega) | omega) _ | with_reducible refine Below.setCell ?_ (by first | (simp; done) | (simp; omega) | omega) _)) hc1
    have X_0 : w1.cell? ⟨w.heap.size, 0, none⟩ = some (.int .i64 l0) := (hc1.cell (p := ⟨w.heap.size, 0, none⟩) (by first | (simp; done) | (simp; omega))).trans (by first | (simp; done) | go_simp)
    have X_1 : w1.cell? ⟨w.heap.size, 1, none⟩ = some (.int .i64 l1) := (hc1.cell (p := ⟨w.heap.size, 1, none⟩) (by first | (simp; done) | (simp; omega))).trans (by first | (simp; done) | go_simp)
    have X_2 : w1.cell? ⟨w.heap.size, 2, none⟩ = some (.int .i64 l2) := (hc1.cell (p := ⟨w.heap.size, 2, none⟩) (by first | (simp; done) | (simp; omega))).trans (by first | (simp; done) | go_simp)
    have X_3 : w1.cell? ⟨w.heap.size, 3, none⟩ = some (.int .i64 l3) := (hc1.cell (p := ⟨w.heap.size, 3, none⟩) (by first | (simp; done) | (simp; omega))).trans (by first | (simp; done) | go_simp)
    have X_4 : w1.cell? ⟨w.heap.size, 4, none⟩ = some (.int .i64 l4) := (hc1.cell (p := ⟨w.heap.size, 4, none⟩) (by first | (simp; done) | (simp; omega))).trans (by first | (simp; done) | go_simp)
    have X_5 : w1.cell? ⟨w.heap.size, 5, none⟩ = some (.int .i64 l5) := (hc1.cell (p := ⟨w.heap.size, 5, none⟩) (by first | (simp; done) | (simp; omega))).trans (by first | (simp; done) | go_simp)
    have X_6 : w1.cell? ⟨w.heap.size, 6, none⟩ = some (.int .i64 l6) := (hc1.cell (p := ⟨w.heap.size, 6, none⟩) (by first | (simp; done) | (simp; omega))).trans (by first | (simp; done) | go_simp)
    have X_7 : w1.cell? ⟨w.heap.size, 7, none⟩ = some (.int .i64 l7) := (hc1.cell (p := ⟨w.heap.size, 7, none⟩) (by first | (simp; done) | (simp; omega))).trans (by first | (simp; done) | go_simp)
    have X_8 : w1.cell? ⟨w.heap.size, 8, none⟩ = some (.int .i64 l8) := (hc1.cell (p := ⟨w.heap.size, 8, none⟩) (by first | (simp; done) | (simp; omega))).trans (by first | (simp; done) | go_simp)
    have X_9 : w1.cell? ⟨w.heap.size, 9, none⟩ = some (.int .u32 s) := (hc1.cell (p := ⟨w.heap.size, 9, none⟩) (by first | (simp; done) | (simp; omega))).trans (by first | (simp; done) | go_simp)
    have X_10 : w1.cell? ⟨w.heap.size, 10, none⟩ = some (.slice a ps.length c) := (hc1.cell (p := ⟨w.heap.size, 10, none⟩) (by first | (simp; done) | (simp; omega))).trans (by first | (simp; done) | go_simp)
    have X_l : w.heap.size < w1.heap.size := Nat.lt_of_lt_of_le (by first | (simp; done) | (simp; omega)) hc1.size
    have P_0 : w1.cell? ⟨w.heap.size + 1, 0, none⟩ = some (.string n) := (hc1.cell (p := ⟨w.heap.size + 1, 0, none⟩) (by first | (simp; done) | (simp; omega))).trans (by first | (simp; done) | go_simp)
    have P_1 : w1.cell? ⟨w.heap.size + 1, 1, none⟩ = some (.int .u32 q) := (hc1.cell (p := ⟨w.heap.size + 1, 1, none⟩) (by first | (simp; done) | (simp; omega))).trans (by first | (simp; done) | go_simp)
    have P_l : w.heap.size + 1 < w1.heap.size := Nat.lt_of_lt_of_le (by first | (simp; done) | (simp; omega)) hc1.size
    clear hc1 hb0
    cases g with
    | true =>
      go_wp2_with fail
      go_ret
      exact ⟨rfl, (by repeat' (first | with_reducible exact hb1 | with_reducible refine Below.drew ?_ | with_reducible refine below_drewN ?_ _ | with_reducible refine Below.alloc ?_ (by have := hb1.size; first | (simp; done) | (simp; omega) | omega) _ | with_reducible refine Below.setCell ?_ (by first | (simp; done) | (simp; omega) | omega) _))⟩
    | false =>
      go_wp2_with fail
      go_ret
      exact ⟨rfl, (by repeat' (first | with_reducible exact hb1 | with_reducible refine Below.drew ?_ | with_reducible refine below_drewN ?_ _ | with_reducible refine Below.alloc ?_ (by have := hb1.size; first | (simp; done) | (simp; omega) | omega) _ | with_reducible refine Below.setCell ?_ (by first | (simp; done) | (simp; omega) | omega) _))⟩
  have hx' : ¬ (100 : Int) < (x.size : Int) := by omega
  by_cases hn : 100 < n.size
  · have hn' : (100 : Int) < (n.size : Int) := by omega
    have H_hml := Box.mk hml
    clear hml
    go_enter Try.func3, Try.ntmps3
    have hb0 := Below.refl w.heap.size w
    go_wp2_with fail
    with_reducible refine (hgr _ ((hc.alloc _).alloc _)).mono ?_
    rintro e w1 ⟨⟨g, rfl, hg⟩, hc1⟩
    have hb1 : Below w.heap.size w w1 := bchain (by repeat' (first | with_reducible exact hb0 | with_reducible refine Below.drew ?_ | with_reducible refine below_drewN ?_ _ | with_reducible refine Below.alloc ?_ (by have := hb0.size; first | (simp; done) | (simp; omega) | omega) _ | with_reducible refine Below.setCell ?_ (by first | (simp; done) | (simp; omega) | omega) _)) hc1
    have X_0 : w1.cell? ⟨w.heap.size, 0, none⟩ = some (.int .i64 l0) := (hc1.cell (p := ⟨w.heap.size, 0, none⟩) (by first | (simp; done) | (simp; omega))).trans (by first | (simp; done) | go_simp)
    have X_1 : w1.cell? ⟨w.heap.size, 1, none⟩ = some (.int .i64 l1) := (hc1.cell (p := ⟨w.heap.size, 1, none⟩) (by first | (simp; done) | (simp; omega))).trans (by first | (simp; done) | go_simp)
    have X_2 : w1.cell? ⟨w.heap.size, 2, none⟩ = some (.int .i64 l2) := (hc1.cell (p := ⟨w.heap.size, 2, none⟩) (by first | (simp; done) | (simp; omega))).trans (by first | (simp; done) | go_simp)
    have X_3 : w1.cell? ⟨w.heap.size, 3, none⟩ = some (.int .i64 l3) := (hc1.cell (p := ⟨w.heap.size, 3, none⟩) (by first | (simp; done) | (simp; omega))).trans (by first | (simp; done) | go_simp)
    have X_4 : w1.cell? ⟨w.heap.size, 4, none⟩ = some (.int .i64 l4) := (hc1.cell (p := ⟨w.heap.size, 4, none⟩) (by first | (simp; done) | (simp; omega))).trans (by first | (simp; done) | go_simp)
    have X_5 : w1.cell? ⟨w.heap.size, 5, none⟩ = some (.int .i64 l5) := (hc1.cell (p := ⟨w.heap.size, 5, none⟩) (by first | (simp; done) | (simp; omega))).trans (by first | (simp; done) | go_simp)
    have X_6 : w1.cell? ⟨w.heap.size, 6, none⟩ = some (.int .i64 l6) := (hc1.cell (p := ⟨w.heap.size, 6, none⟩) (by first | (simp; done) | (simp; omega))).trans (by first | (simp; done) | go_simp)
    have X_7 : w1.cell? ⟨w.heap.size, 7, none⟩ = some (.int .i64 l7) := (hc1.cell (p := ⟨w.heap.size, 7, none⟩) (by first | (simp; done) | (simp; omega))).trans (by first | (simp; done) | go_simp)
    have X_8 : w1.cell? ⟨w.heap.size, 8, none⟩ = some (.int .i64 l8) := (hc1.cell (p := ⟨w.heap.size, 8, none⟩) (by first | (simp; done) | (simp; omega))).trans (by first | (simp; done) | go_simp)
    have X_9 : w1.cell? ⟨w.heap.size, 9, none⟩ = some (.int .u32 s) := (hc1.cell (p := ⟨w.heap.size, 9, none⟩) (by first | (simp; done) | (simp; omega))).trans (by first | (simp; done) | go_simp)
    have X_10 : w1.cell? ⟨w.heap.size, 10, none⟩ = some (.slice a ps.length c) := (hc1.cell (p := ⟨w.heap.size, 10, none⟩) (by first | (simp; done) | (simp; omega))).trans (by first | (simp; done) | go_simp)
    have X_l : w.heap.size < w1.heap.size := Nat.lt_of_lt_of_le (by first | (simp; done) | (simp; omega)) hc1.size
    have P_0 : w1.cell? ⟨w.heap.size + 1, 0, none⟩ = some (.string n) := (hc1.cell (p := ⟨w.heap.size + 1, 0, none⟩) (by first | (simp; done) | (simp; omega))).trans (by first | (simp; done) | go_simp)
    have P_1 : w1.cell? ⟨w.heap.size + 1, 1, none⟩ = some (.int .u32 q) := (hc1.cell (p := ⟨w.heap.size + 1, 1, none⟩) (by first | (simp; done) | (simp; omega))).trans (by first | (simp; done) | go_simp)
    have P_l : w.heap.size + 1 < w1.heap.size := Nat.lt_of_lt_of_le (by first | (simp; done) | (simp; omega)) hc1.size
    clear hc1 hb0
    cases g with
    | true =>
      go_wp2_with fail
      go_ret
      exact ⟨rfl, (by repeat' (first | with_reducible exact hb1 | with_reducible refine Below.drew ?_ | with_reducible refine below_drewN ?_ _ | with_reducible refine Below.alloc ?_ (by have := hb1.size; first | (simp; done) | (simp; omega) | omega) _ | with_reducible refine Below.setCell ?_ (by first | (simp; done) | (simp; omega) | omega) _))⟩
    | false =>
      go_wp2_with fail
      go_ret
      exact ⟨rfl, (by repeat' (first | with_reducible exact hb1 | with_reducible refine Below.drew ?_ | with_reducible refine below_drewN ?_ _ | with_reducible refine Below.alloc ?_ (by have := hb1.size; first | (simp; done) | (simp; omega) | omega) _ | with_reducible refine Below.setCell ?_ (by first | (simp; done) | (simp; omega) | omega) _))⟩
  have hn' : ¬ (100 : Int) < (n.size : Int) := by omega
  obtain ⟨E, hE⟩ : ∃ E, chkS (⟨l0, l1, l2, l3, l4, l5, l6, l7, l8⟩ : Lim) s ps = E := ⟨_, rfl⟩
  have w1 := fun W g => Find_any l0 l1 l2 l3 l4 l5 l6 l7 l8 s x ps a c W g E hE
  have w2 := fun W g => rFind_any l0 l1 l2 l3 l4 l5 l6 l7 l8 s x ps a c W g E hE
  have w3 := fun W g => Who_any l0 l1 l2 l3 l4 l5 l6 l7 l8 s pk ps a c W g E hE
  have w4 := fun W g => rWho_any l0 l1 l2 l3 l4 l5 l6 l7 l8 s pk ps a c W g E hE
  have w5 := fun W g => With_any l0 l1 l2 l3 l4 l5 l6 l7 l8 s q n ps a c W g q0 q4 E hE
  have w6 := fun W g => rWith_any l0 l1 l2 l3 l4 l5 l6 l7 l8 s q n ps a c W g h.cap q0 q4 E hE
  have w7 := fun W g => Without_any l0 l1 l2 l3 l4 l5 l6 l7 l8 s x ps a c W g E hE
  have w8 := fun W g => rWithout_any l0 l1 l2 l3 l4 l5 l6 l7 l8 s x ps a c W g h.cap E hE
  have y5 := withR_len (⟨l0, l1, l2, l3, l4, l5, l6, l7, l8⟩ : Lim) s ps n q E
  have y7 := withoutR_len (⟨l0, l1, l2, l3, l4, l5, l6, l7, l8⟩ : Lim) s ps x E
  obtain ⟨⟨f1, f2⟩, hf⟩ : ∃ r, findR E ps x = r := ⟨_, rfl⟩
  obtain ⟨⟨o1, o2⟩, ho⟩ : ∃ r, whoR (pubK s) E ps pk = r := ⟨_, rfl⟩
  obtain ⟨R5, hm⟩ : ∃ r, withR (⟨l0, l1, l2, l3, l4, l5, l6, l7, l8⟩ : Lim) s ps n q E = r := ⟨_, rfl⟩
  obtain ⟨R7, hd⟩ : ∃ r, withoutR (⟨l0, l1, l2, l3, l4, l5, l6, l7, l8⟩ : Lim) s ps x E = r := ⟨_, rfl⟩
  rw [hm] at y5
  rw [hd] at y7
  simp only [hf, ho, hm, hd] at w1 w2 w3 w4 w5 w6 w7 w8
  clear hf ho hm hd
  obtain ⟨⟨m0, m1, m2, m3, m4, m5, m6, m7, m8⟩, ms, mq, me⟩ := R5
  obtain ⟨⟨d0, d1, d2, d3, d4, d5, d6, d7, d8⟩, ds, dq, de⟩ := R7
  simp only at y5 y7
  unfold RetUI at w1 w2
  unfold RetSI at w3 w4
  unfold RetS at w5 w6 w7 w8
  simp only at w1 w2 w3 w4 w5 w6 w7 w8
  obtain ⟨i0, hi, hz0, hz1, hz2⟩ := info_parts info_peer
  have s0 := h.s0
  have s4 := h.s4
  have hk := h.keys
  have hso : seqB o1 o1 = true := seqB_self o1
  have hso' : (o1.toList == o1.toList) = true := hso
  have H_hk := Box.mk hk
  have H_w1 := Box.mk w1
  have H_w2 := Box.mk w2
  have H_w3 := Box.mk w3
  have H_w4 := Box.mk w4
  have H_w5 := Box.mk w5
  have H_w6 := Box.mk w6
  have H_w7 := Box.mk w7
  have H_w8 := Box.mk w8
  have H_hso := Box.mk hso
  clear hk w1 w2 w3 w4 w5 w6 w7 w8 hso
  go_enter Try.func3, Try.ntmps3
  have hb0 := Below.refl w.heap.size w
  go_wp2_with fail
  with_reducible refine (hgr _ ((hc.alloc _).alloc _)).mono ?_
  rintro e w1 ⟨⟨g, rfl, hg⟩, hc1⟩
  have hb1 : Below w.heap.size w w1 := bchain (by repeat' (first | with_reducible exact hb0 | with_reducible refine Below.drew ?_ | with_reducible refine below_drewN ?_ _ | with_reducible refine Below.alloc ?_ (by have := hb0.size; first | (simp; done) | (simp; omega) | omega) _ | with_reducible refine Below.setCell ?_ (by first | (simp; done) | (simp; omega) | omega) _)) hc1
  have hst1 : Below w.heap.size w w1 := bchain (by repeat' (first | with_reducible exact Below.refl _ _ | with_reducible refine Below.drew ?_ | with_reducible refine below_drewN ?_ _ | with_reducible refine Below.alloc ?_ (by first | (simp; done) | (simp; omega) | omega) _ | with_reducible refine Below.setCell ?_ (by first | (simp; done) | (simp; omega) | omega) _)) hc1
  have X_0 : w1.cell? ⟨w.heap.size, 0, none⟩ = some (.int .i64 l0) := (hc1.cell (p := ⟨w.heap.size, 0, none⟩) (by first | (simp; done) | (simp; omega))).trans (by first | (simp; done) | go_simp)
  have X_1 : w1.cell? ⟨w.heap.size, 1, none⟩ = some (.int .i64 l1) := (hc1.cell (p := ⟨w.heap.size, 1, none⟩) (by first | (simp; done) | (simp; omega))).trans (by first | (simp; done) | go_simp)
  have X_2 : w1.cell? ⟨w.heap.size, 2, none⟩ = some (.int .i64 l2) := (hc1.cell (p := ⟨w.heap.size, 2, none⟩) (by first | (simp; done) | (simp; omega))).trans (by first | (simp; done) | go_simp)
  have X_3 : w1.cell? ⟨w.heap.size, 3, none⟩ = some (.int .i64 l3) := (hc1.cell (p := ⟨w.heap.size, 3, none⟩) (by first | (simp; done) | (simp; omega))).trans (by first | (simp; done) | go_simp)
  have X_4 : w1.cell? ⟨w.heap.size, 4, none⟩ = some (.int .i64 l4) := (hc1.cell (p := ⟨w.heap.size, 4, none⟩) (by first | (simp; done) | (simp; omega))).trans (by first | (simp; done) | go_simp)
  have X_5 : w1.cell? ⟨w.heap.size, 5, none⟩ = some (.int .i64 l5) := (hc1.cell (p := ⟨w.heap.size, 5, none⟩) (by first | (simp; done) | (simp; omega))).trans (by first | (simp; done) | go_simp)
  have X_6 : w1.cell? ⟨w.heap.size, 6, none⟩ = some (.int .i64 l6) := (hc1.cell (p := ⟨w.heap.size, 6, none⟩) (by first | (simp; done) | (simp; omega))).trans (by first | (simp; done) | go_simp)
  have X_7 : w1.cell? ⟨w.heap.size, 7, none⟩ = some (.int .i64 l7) := (hc1.cell (p := ⟨w.heap.size, 7, none⟩) (by first | (simp; done) | (simp; omega))).trans (by first | (simp; done) | go_simp)
  have X_8 : w1.cell? ⟨w.heap.size, 8, none⟩ = some (.int .i64 l8) := (hc1.cell (p := ⟨w.heap.size, 8, none⟩) (by first | (simp; done) | (simp; omega))).trans (by first | (simp; done) | go_simp)
  have X_9 : w1.cell? ⟨w.heap.size, 9, none⟩ = some (.int .u32 s) := (hc1.cell (p := ⟨w.heap.size, 9, none⟩) (by first | (simp; done) | (simp; omega))).trans (by first | (simp; done) | go_simp)
  have X_10 : w1.cell? ⟨w.heap.size, 10, none⟩ = some (.slice a ps.length c) := (hc1.cell (p := ⟨w.heap.size, 10, none⟩) (by first | (simp; done) | (simp; omega))).trans (by first | (simp; done) | go_simp)
  have X_l : w.heap.size < w1.heap.size := Nat.lt_of_lt_of_le (by first | (simp; done) | (simp; omega)) hc1.size
  have P_0 : w1.cell? ⟨w.heap.size + 1, 0, none⟩ = some (.string n) := (hc1.cell (p := ⟨w.heap.size + 1, 0, none⟩) (by first | (simp; done) | (simp; omega))).trans (by first | (simp; done) | go_simp)
  have P_1 : w1.cell? ⟨w.heap.size + 1, 1, none⟩ = some (.int .u32 q) := (hc1.cell (p := ⟨w.heap.size + 1, 1, none⟩) (by first | (simp; done) | (simp; omega))).trans (by first | (simp; done) | go_simp)
  have P_l : w.heap.size + 1 < w1.heap.size := Nat.lt_of_lt_of_le (by first | (simp; done) | (simp; omega)) hc1.size
  replace hc := hc.later hst1
  clear hst1
  clear hc1 hb0
  cases g with
  | true =>
    go_wp2_with fail
    go_ret
    exact ⟨rfl, (by repeat' (first | with_reducible exact hb1 | with_reducible refine Below.drew ?_ | with_reducible refine below_drewN ?_ _ | with_reducible refine Below.alloc ?_ (by have := hb1.size; first | (simp; done) | (simp; omega) | omega) _ | with_reducible refine Below.setCell ?_ (by first | (simp; done) | (simp; omega) | omega) _))⟩
  | false =>
  obtain ⟨hl30, _⟩ := hg rfl
  have Hc := hid hc
  go_wp2_with (at_builtin; refine stop ?_)
  refine Stop.go ?_
  refine wpList_append_x _ rfl _ _ 25 rfl w1.heap.size 29 i0 (.agg #[.string ⟨#[]⟩, .int .u32 0]) 2 24 Try.underlying25 hi hz0 hz1 hz2 rfl (by decide) _ 0 [] rfl (OwnX.made _ [] _ _ 0 _ (Nat.le_refl _) (by simp [maxLen]) rfl) a ps.length c (cel ps) rfl (cel_len ps) (Hc.out.alloc _) (cel_one ps) (by unfold maxLen; omega) (by omega) (by simp) ?_
  intro a' c' W1 hown hg _
  rw [Nat.zero_add, List.nil_append] at hown
  have hbW : Below w1.heap.size w1 W1 := below_grownX ((Below.refl _ _).alloc (Nat.le_refl _) _) hg (by simp) (fun k hk => ((OwnX.made w1 [] _ 0 0 2 (Nat.le_refl _) (by simp [maxLen]) rfl).lt k hk).1)
  have kw := hown.cellsAt
  rw [Nat.zero_add]
  have hbw1 : Below w.heap.size w W1 := bchain hb1 hbW
  replace X_0 := cell_later hbW X_0
  replace X_1 := cell_later hbW X_1
  replace X_2 := cell_later hbW X_2
  replace X_3 := cell_later hbW X_3
  replace X_4 := cell_later hbW X_4
  replace X_5 := cell_later hbW X_5
  replace X_6 := cell_later hbW X_6
  replace X_7 := cell_later hbW X_7
  replace X_8 := cell_later hbW X_8
  replace X_9 := cell_later hbW X_9
  replace X_10 := cell_later hbW X_10
  replace P_0 := cell_later hbW P_0
  replace P_1 := cell_later hbW P_1
  replace X_l := Nat.lt_of_lt_of_le X_l hbW.size
  replace P_l := Nat.lt_of_lt_of_le P_l hbW.size
  have hS : SIn W1 s ps a := ⟨s0, s4, hc.later hbW, H_hk.out, by omega⟩
  have mm : mq.length ≤ maxLen := by unfold maxLen; omega
  have dd : dq.length ≤ maxLen := by unfold maxLen; omega
  have H_mm := Box.mk mm
  have H_dd := Box.mk dd
  have H_hml := Box.mk hml
  clear mm dd hml
  clear hown hg hbW hc
  go_wp2_with fail
  with_reducible refine (H_w1.out _ hS).mono ?_
  rintro e w3 ⟨rfl, hc3⟩
  have hb3 : Below w.heap.size w w3 := bchain (by repeat' (first | with_reducible exact hbw1 | with_reducible refine Below.drew ?_ | with_reducible refine below_drewN ?_ _ | with_reducible refine Below.alloc ?_ (by have := hbw1.size; first | (simp; done) | (simp; omega) | omega) _ | with_reducible refine Below.setCell ?_ (by first | (simp; done) | (simp; omega) | omega) _)) hc3
  have hst3 : Below W1.heap.size W1 w3 := bchain (by repeat' (first | with_reducible exact Below.refl _ _ | with_reducible refine Below.drew ?_ | with_reducible refine below_drewN ?_ _ | with_reducible refine Below.alloc ?_ (by first | (simp; done) | (simp; omega) | omega) _ | with_reducible refine Below.setCell ?_ (by first | (simp; done) | (simp; omega) | omega) _)) hc3
  replace X_0 := cell_later hst3 X_0
  replace X_1 := cell_later hst3 X_1
  replace X_2 := cell_later hst3 X_2
  replace X_3 := cell_later hst3 X_3
  replace X_4 := cell_later hst3 X_4
  replace X_5 := cell_later hst3 X_5
  replace X_6 := cell_later hst3 X_6
  replace X_7 := cell_later hst3 X_7
  replace X_8 := cell_later hst3 X_8
  replace X_9 := cell_later hst3 X_9
  replace X_10 := cell_later hst3 X_10
  replace X_l := Nat.lt_of_lt_of_le X_l hst3.size
  replace P_0 := cell_later hst3 P_0
  replace P_1 := cell_later hst3 P_1
  replace P_l := Nat.lt_of_lt_of_le P_l hst3.size
  replace hS := hS.later hst3
  replace kw := kw.later hst3
  clear hst3
  clear hc3 hbw1
  go_wp2_with fail
  with_reducible refine (H_w2.out _ hS).mono ?_
  rintro e w4 ⟨rfl, hc4⟩
  have hb4 : Below w.heap.size w w4 := bchain (by repeat' (first | with_reducible exact hb3 | with_reducible refine Below.drew ?_ | with_reducible refine below_drewN ?_ _ | with_reducible refine Below.alloc ?_ (by have := hb3.size; first | (simp; done) | (simp; omega) | omega) _ | with_reducible refine Below.setCell ?_ (by first | (simp; done) | (simp; omega) | omega) _)) hc4
  have hst4 : Below w3.heap.size w3 w4 := bchain (by repeat' (first | with_reducible exact Below.refl _ _ | with_reducible refine Below.drew ?_ | with_reducible refine below_drewN ?_ _ | with_reducible refine Below.alloc ?_ (by first | (simp; done) | (simp; omega) | omega) _ | with_reducible refine Below.setCell ?_ (by first | (simp; done) | (simp; omega) | omega) _)) hc4
  replace X_0 := cell_later hst4 X_0
  replace X_1 := cell_later hst4 X_1
  replace X_2 := cell_later hst4 X_2
  replace X_3 := cell_later hst4 X_3
  replace X_4 := cell_later hst4 X_4
  replace X_5 := cell_later hst4 X_5
  replace X_6 := cell_later hst4 X_6
  replace X_7 := cell_later hst4 X_7
  replace X_8 := cell_later hst4 X_8
  replace X_9 := cell_later hst4 X_9
  replace X_10 := cell_later hst4 X_10
  replace X_l := Nat.lt_of_lt_of_le X_l hst4.size
  replace P_0 := cell_later hst4 P_0
  replace P_1 := cell_later hst4 P_1
  replace P_l := Nat.lt_of_lt_of_le P_l hst4.size
  replace hS := hS.later hst4
  replace kw := kw.later hst4
  clear hst4
  clear hc4 hb3
  go_wp2_with fail
  with_reducible refine (H_w3.out _ hS).mono ?_
  rintro e w5 ⟨rfl, hc5⟩
  have hb5 : Below w.heap.size w w5 := bchain (by repeat' (first | with_reducible exact hb4 | with_reducible refine Below.drew ?_ | with_reducible refine below_drewN ?_ _ | with_reducible refine Below.alloc ?_ (by have := hb4.size; first | (simp; done) | (simp; omega) | omega) _ | with_reducible refine Below.setCell ?_ (by first | (simp; done) | (simp; omega) | omega) _)) hc5
  have hst5 : Below w4.heap.size w4 w5 := bchain (by repeat' (first | with_reducible exact Below.refl _ _ | with_reducible refine Below.drew ?_ | with_reducible refine below_drewN ?_ _ | with_reducible refine Below.alloc ?_ (by first | (simp; done) | (simp; omega) | omega) _ | with_reducible refine Below.setCell ?_ (by first | (simp; done) | (simp; omega) | omega) _)) hc5
  replace X_0 := cell_later hst5 X_0
  replace X_1 := cell_later hst5 X_1
  replace X_2 := cell_later hst5 X_2
  replace X_3 := cell_later hst5 X_3
  replace X_4 := cell_later hst5 X_4
  replace X_5 := cell_later hst5 X_5
  replace X_6 := cell_later hst5 X_6
  replace X_7 := cell_later hst5 X_7
  replace X_8 := cell_later hst5 X_8
  replace X_9 := cell_later hst5 X_9
  replace X_10 := cell_later hst5 X_10
  replace X_l := Nat.lt_of_lt_of_le X_l hst5.size
  replace P_0 := cell_later hst5 P_0
  replace P_1 := cell_later hst5 P_1
  replace P_l := Nat.lt_of_lt_of_le P_l hst5.size
  replace hS := hS.later hst5
  replace kw := kw.later hst5
  clear hst5
  clear hc5 hb4
  go_wp2_with fail
  with_reducible refine (H_w4.out _ hS).mono ?_
  rintro e w6 ⟨rfl, hc6⟩
  have hb6 : Below w.heap.size w w6 := bchain (by repeat' (first | with_reducible exact hb5 | with_reducible refine Below.drew ?_ | with_reducible refine below_drewN ?_ _ | with_reducible refine Below.alloc ?_ (by have := hb5.size; first | (simp; done) | (simp; omega) | omega) _ | with_reducible refine Below.setCell ?_ (by first | (simp; done) | (simp; omega) | omega) _)) hc6
  have hst6 : Below w5.heap.size w5 w6 := bchain (by repeat' (first | with_reducible exact Below.refl _ _ | with_reducible refine Below.drew ?_ | with_reducible refine below_drewN ?_ _ | with_reducible refine Below.alloc ?_ (by first | (simp; done) | (simp; omega) | omega) _ | with_reducible refine Below.setCell ?_ (by first | (simp; done) | (simp; omega) | omega) _)) hc6
  replace X_0 := cell_later hst6 X_0
  replace X_1 := cell_later hst6 X_1
  replace X_2 := cell_later hst6 X_2
  replace X_3 := cell_later hst6 X_3
  replace X_4 := cell_later hst6 X_4
  replace X_5 := cell_later hst6 X_5
  replace X_6 := cell_later hst6 X_6
  replace X_7 := cell_later hst6 X_7
  replace X_8 := cell_later hst6 X_8
  replace X_9 := cell_later hst6 X_9
  replace X_10 := cell_later hst6 X_10
  replace X_l := Nat.lt_of_lt_of_le X_l hst6.size
  replace P_0 := cell_later hst6 P_0
  replace P_1 := cell_later hst6 P_1
  replace P_l := Nat.lt_of_lt_of_le P_l hst6.size
  replace hS := hS.later hst6
  replace kw := kw.later hst6
  clear hst6
  clear hc6 hb5
  go_wp2_with fail
  with_reducible refine (H_w5.out _ hS).mono ?_
  rintro e w7 ⟨⟨a1, c1, rfl, k1⟩, hc7⟩
  have hb7 : Below w.heap.size w w7 := bchain (by repeat' (first | with_reducible exact hb6 | with_reducible refine Below.drew ?_ | with_reducible refine below_drewN ?_ _ | with_reducible refine Below.alloc ?_ (by have := hb6.size; first | (simp; done) | (simp; omega) | omega) _ | with_reducible refine Below.setCell ?_ (by first | (simp; done) | (simp; omega) | omega) _)) hc7
  have hst7 : Below w6.heap.size w6 w7 := bchain (by repeat' (first | with_reducible exact Below.refl _ _ | with_reducible refine Below.drew ?_ | with_reducible refine below_drewN ?_ _ | with_reducible refine Below.alloc ?_ (by first | (simp; done) | (simp; omega) | omega) _ | with_reducible refine Below.setCell ?_ (by first | (simp; done) | (simp; omega) | omega) _)) hc7
  replace X_0 := cell_later hst7 X_0
  replace X_1 := cell_later hst7 X_1
  replace X_2 := cell_later hst7 X_2
  replace X_3 := cell_later hst7 X_3
  replace X_4 := cell_later hst7 X_4
  replace X_5 := cell_later hst7 X_5
  replace X_6 := cell_later hst7 X_6
  replace X_7 := cell_later hst7 X_7
  replace X_8 := cell_later hst7 X_8
  replace X_9 := cell_later hst7 X_9
  replace X_10 := cell_later hst7 X_10
  replace X_l := Nat.lt_of_lt_of_le X_l hst7.size
  replace P_0 := cell_later hst7 P_0
  replace P_1 := cell_later hst7 P_1
  replace P_l := Nat.lt_of_lt_of_le P_l hst7.size
  replace hS := hS.later hst7
  replace kw := kw.later hst7
  clear hst7
  clear hc7 hb6
  go_wp2_with fail
  with_reducible refine (H_w6.out _ (hS.alloc _)).mono ?_
  rintro e w8 ⟨⟨a2, c2, rfl, k2⟩, hc8⟩
  have hb8 : Below w.heap.size w w8 := bchain (by repeat' (first | with_reducible exact hb7 | with_reducible refine Below.drew ?_ | with_reducible refine below_drewN ?_ _ | with_reducible refine Below.alloc ?_ (by have := hb7.size; first | (simp; done) | (simp; omega) | omega) _ | with_reducible refine Below.setCell ?_ (by first | (simp; done) | (simp; omega) | omega) _)) hc8
  have hst8 : Below w7.heap.size w7 w8 := bchain (by repeat' (first | with_reducible exact Below.refl _ _ | with_reducible refine Below.drew ?_ | with_reducible refine below_drewN ?_ _ | with_reducible refine Below.alloc ?_ (by first | (simp; done) | (simp; omega) | omega) _ | with_reducible refine Below.setCell ?_ (by first | (simp; done) | (simp; omega) | omega) _)) hc8
  replace X_0 := cell_later hst8 X_0
  replace X_1 := cell_later hst8 X_1
  replace X_2 := cell_later hst8 X_2
  replace X_3 := cell_later hst8 X_3
  replace X_4 := cell_later hst8 X_4
  replace X_5 := cell_later hst8 X_5
  replace X_6 := cell_later hst8 X_6
  replace X_7 := cell_later hst8 X_7
  replace X_8 := cell_later hst8 X_8
  replace X_9 := cell_later hst8 X_9
  replace X_10 := cell_later hst8 X_10
  replace X_l := Nat.lt_of_lt_of_le X_l hst8.size
  replace P_0 := cell_later hst8 P_0
  replace P_1 := cell_later hst8 P_1
  replace P_l := Nat.lt_of_lt_of_le P_l hst8.size
  have A_0 : w8.cell? ⟨w7.heap.size, 0, none⟩ = some (.int .i64 m0) := (hc8.cell (p := ⟨w7.heap.size, 0, none⟩) (by first | (simp; done) | (simp; omega))).trans (by first | (simp; done) | go_simp)
  have A_1 : w8.cell? ⟨w7.heap.size, 1, none⟩ = some (.int .i64 m1) := (hc8.cell (p := ⟨w7.heap.size, 1, none⟩) (by first | (simp; done) | (simp; omega))).trans (by first | (simp; done) | go_simp)
  have A_2 : w8.cell? ⟨w7.heap.size, 2, none⟩ = some (.int .i64 m2) := (hc8.cell (p := ⟨w7.heap.size, 2, none⟩) (by first | (simp; done) | (simp; omega))).trans (by first | (simp; done) | go_simp)
  have A_3 : w8.cell? ⟨w7.heap.size, 3, none⟩ = some (.int .i64 m3) := (hc8.cell (p := ⟨w7.heap.size, 3, none⟩) (by first | (simp; done) | (simp; omega))).trans (by first | (simp; done) | go_simp)
  have A_4 : w8.cell? ⟨w7.heap.size, 4, none⟩ = some (.int .i64 m4) := (hc8.cell (p := ⟨w7.heap.size, 4, none⟩) (by first | (simp; done) | (simp; omega))).trans (by first | (simp; done) | go_simp)
  have A_5 : w8.cell? ⟨w7.heap.size, 5, none⟩ = some (.int .i64 m5) := (hc8.cell (p := ⟨w7.heap.size, 5, none⟩) (by first | (simp; done) | (simp; omega))).trans (by first | (simp; done) | go_simp)
  have A_6 : w8.cell? ⟨w7.heap.size, 6, none⟩ = some (.int .i64 m6) := (hc8.cell (p := ⟨w7.heap.size, 6, none⟩) (by first | (simp; done) | (simp; omega))).trans (by first | (simp; done) | go_simp)
  have A_7 : w8.cell? ⟨w7.heap.size, 7, none⟩ = some (.int .i64 m7) := (hc8.cell (p := ⟨w7.heap.size, 7, none⟩) (by first | (simp; done) | (simp; omega))).trans (by first | (simp; done) | go_simp)
  have A_8 : w8.cell? ⟨w7.heap.size, 8, none⟩ = some (.int .i64 m8) := (hc8.cell (p := ⟨w7.heap.size, 8, none⟩) (by first | (simp; done) | (simp; omega))).trans (by first | (simp; done) | go_simp)
  have A_9 : w8.cell? ⟨w7.heap.size, 9, none⟩ = some (.int .u32 ms) := (hc8.cell (p := ⟨w7.heap.size, 9, none⟩) (by first | (simp; done) | (simp; omega))).trans (by first | (simp; done) | go_simp)
  have A_10 : w8.cell? ⟨w7.heap.size, 10, none⟩ = some (.slice a1 mq.length c1) := (hc8.cell (p := ⟨w7.heap.size, 10, none⟩) (by first | (simp; done) | (simp; omega))).trans (by first | (simp; done) | go_simp)
  have A_l : w7.heap.size < w8.heap.size := Nat.lt_of_lt_of_le (by first | (simp; done) | (simp; omega)) hc8.size
  replace hS := hS.later hst8
  replace kw := kw.later hst8
  replace k1 := k1.later hst8
  clear hst8
  clear hc8 hb7
  go_wp2_with fail
  with_reducible refine (H_w7.out _ (hS.alloc _)).mono ?_
  rintro e w9 ⟨⟨a3, c3, rfl, k3⟩, hc9⟩
  have hb9 : Below w.heap.size w w9 := bchain (by repeat' (first | with_reducible exact hb8 | with_reducible refine Below.drew ?_ | with_reducible refine below_drewN ?_ _ | with_reducible refine Below.alloc ?_ (by have := hb8.size; first | (simp; done) | (simp; omega) | omega) _ | with_reducible refine Below.setCell ?_ (by first | (simp; done) | (simp; omega) | omega) _)) hc9
  have hst9 : Below w8.heap.size w8 w9 := bchain (by repeat' (first | with_reducible exact Below.refl _ _ | with_reducible refine Below.drew ?_ | with_reducible refine below_drewN ?_ _ | with_reducible refine Below.alloc ?_ (by first | (simp; done) | (simp; omega) | omega) _ | with_reducible refine Below.setCell ?_ (by first | (simp; done) | (simp; omega) | omega) _)) hc9
  replace X_0 := cell_later hst9 X_0
  replace X_1 := cell_later hst9 X_1
  replace X_2 := cell_later hst9 X_2
  replace X_3 := cell_later hst9 X_3
  replace X_4 := cell_later hst9 X_4
  replace X_5 := cell_later hst9 X_5
  replace X_6 := cell_later hst9 X_6
  replace X_7 := cell_later hst9 X_7
  replace X_8 := cell_later hst9 X_8
  replace X_9 := cell_later hst9 X_9
  replace X_10 := cell_later hst9 X_10
  replace X_l := Nat.lt_of_lt_of_le X_l hst9.size
  replace P_0 := cell_later hst9 P_0
  replace P_1 := cell_later hst9 P_1
  replace P_l := Nat.lt_of_lt_of_le P_l hst9.size
  replace A_0 := cell_later hst9 A_0
  replace A_1 := cell_later hst9 A_1
  replace A_2 := cell_later hst9 A_2
  replace A_3 := cell_later hst9 A_3
  replace A_4 := cell_later hst9 A_4
  replace A_5 := cell_later hst9 A_5
  replace A_6 := cell_later hst9 A_6
  replace A_7 := cell_later hst9 A_7
  replace A_8 := cell_later hst9 A_8
  replace A_9 := cell_later hst9 A_9
  replace A_10 := cell_later hst9 A_10
  replace A_l := Nat.lt_of_lt_of_le A_l hst9.size
  have B_0 : w9.cell? ⟨w8.heap.size, 0, none⟩ = some (.int .i64 m0) := (hc9.cell (p := ⟨w8.heap.size, 0, none⟩) (by first | (simp; done) | (simp; omega))).trans (by first | (simp; done) | go_simp)
  have B_1 : w9.cell? ⟨w8.heap.size, 1, none⟩ = some (.int .i64 m1) := (hc9.cell (p := ⟨w8.heap.size, 1, none⟩) (by first | (simp; done) | (simp; omega))).trans (by first | (simp; done) | go_simp)
  have B_2 : w9.cell? ⟨w8.heap.size, 2, none⟩ = some (.int .i64 m2) := (hc9.cell (p := ⟨w8.heap.size, 2, none⟩) (by first | (simp; done) | (simp; omega))).trans (by first | (simp; done) | go_simp)
  have B_3 : w9.cell? ⟨w8.heap.size, 3, none⟩ = some (.int .i64 m3) := (hc9.cell (p := ⟨w8.heap.size, 3, none⟩) (by first | (simp; done) | (simp; omega))).trans (by first | (simp; done) | go_simp)
  have B_4 : w9.cell? ⟨w8.heap.size, 4, none⟩ = some (.int .i64 m4) := (hc9.cell (p := ⟨w8.heap.size, 4, none⟩) (by first | (simp; done) | (simp; omega))).trans (by first | (simp; done) | go_simp)
  have B_5 : w9.cell? ⟨w8.heap.size, 5, none⟩ = some (.int .i64 m5) := (hc9.cell (p := ⟨w8.heap.size, 5, none⟩) (by first | (simp; done) | (simp; omega))).trans (by first | (simp; done) | go_simp)
  have B_6 : w9.cell? ⟨w8.heap.size, 6, none⟩ = some (.int .i64 m6) := (hc9.cell (p := ⟨w8.heap.size, 6, none⟩) (by first | (simp; done) | (simp; omega))).trans (by first | (simp; done) | go_simp)
  have B_7 : w9.cell? ⟨w8.heap.size, 7, none⟩ = some (.int .i64 m7) := (hc9.cell (p := ⟨w8.heap.size, 7, none⟩) (by first | (simp; done) | (simp; omega))).trans (by first | (simp; done) | go_simp)
  have B_8 : w9.cell? ⟨w8.heap.size, 8, none⟩ = some (.int .i64 m8) := (hc9.cell (p := ⟨w8.heap.size, 8, none⟩) (by first | (simp; done) | (simp; omega))).trans (by first | (simp; done) | go_simp)
  have B_9 : w9.cell? ⟨w8.heap.size, 9, none⟩ = some (.int .u32 ms) := (hc9.cell (p := ⟨w8.heap.size, 9, none⟩) (by first | (simp; done) | (simp; omega))).trans (by first | (simp; done) | go_simp)
  have B_10 : w9.cell? ⟨w8.heap.size, 10, none⟩ = some (.slice a2 mq.length c2) := (hc9.cell (p := ⟨w8.heap.size, 10, none⟩) (by first | (simp; done) | (simp; omega))).trans (by first | (simp; done) | go_simp)
  have B_l : w8.heap.size < w9.heap.size := Nat.lt_of_lt_of_le (by first | (simp; done) | (simp; omega)) hc9.size
  replace hS := hS.later hst9
  replace kw := kw.later hst9
  replace k1 := k1.later hst9
  replace k2 := k2.later hst9
  clear hst9
  clear hc9 hb8
  go_wp2_with fail
  with_reducible refine (H_w8.out _ (hS.alloc _)).mono ?_
  rintro e w10 ⟨⟨a4, c4, rfl, k4⟩, hc10⟩
  have hb10 : Below w.heap.size w w10 := bchain (by repeat' (first | with_reducible exact hb9 | with_reducible refine Below.drew ?_ | with_reducible refine below_drewN ?_ _ | with_reducible refine Below.alloc ?_ (by have := hb9.size; first | (simp; done) | (simp; omega) | omega) _ | with_reducible refine Below.setCell ?_ (by first | (simp; done) | (simp; omega) | omega) _)) hc10
  have hst10 : Below w9.heap.size w9 w10 := bchain (by repeat' (first | with_reducible exact Below.refl _ _ | with_reducible refine Below.drew ?_ | with_reducible refine below_drewN ?_ _ | with_reducible refine Below.alloc ?_ (by first | (simp; done) | (simp; omega) | omega) _ | with_reducible refine Below.setCell ?_ (by first | (simp; done) | (simp; omega) | omega) _)) hc10
  replace X_0 := cell_later hst10 X_0
  replace X_1 := cell_later hst10 X_1
  replace X_2 := cell_later hst10 X_2
  replace X_3 := cell_later hst10 X_3
  replace X_4 := cell_later hst10 X_4
  replace X_5 := cell_later hst10 X_5
  replace X_6 := cell_later hst10 X_6
  replace X_7 := cell_later hst10 X_7
  replace X_8 := cell_later hst10 X_8
  replace X_9 := cell_later hst10 X_9
  replace X_10 := cell_later hst10 X_10
  replace X_l := Nat.lt_of_lt_of_le X_l hst10.size
  replace P_0 := cell_later hst10 P_0
  replace P_1 := cell_later hst10 P_1
  replace P_l := Nat.lt_of_lt_of_le P_l hst10.size
  replace A_0 := cell_later hst10 A_0
  replace A_1 := cell_later hst10 A_1
  replace A_2 := cell_later hst10 A_2
  replace A_3 := cell_later hst10 A_3
  replace A_4 := cell_later hst10 A_4
  replace A_5 := cell_later hst10 A_5
  replace A_6 := cell_later hst10 A_6
  replace A_7 := cell_later hst10 A_7
  replace A_8 := cell_later hst10 A_8
  replace A_9 := cell_later hst10 A_9
  replace A_10 := cell_later hst10 A_10
  replace A_l := Nat.lt_of_lt_of_le A_l hst10.size
  replace B_0 := cell_later hst10 B_0
  replace B_1 := cell_later hst10 B_1
  replace B_2 := cell_later hst10 B_2
  replace B_3 := cell_later hst10 B_3
  replace B_4 := cell_later hst10 B_4
  replace B_5 := cell_later hst10 B_5
  replace B_6 := cell_later hst10 B_6
  replace B_7 := cell_later hst10 B_7
  replace B_8 := cell_later hst10 B_8
  replace B_9 := cell_later hst10 B_9
  replace B_10 := cell_later hst10 B_10
  replace B_l := Nat.lt_of_lt_of_le B_l hst10.size
  have C_0 : w10.cell? ⟨w9.heap.size, 0, none⟩ = some (.int .i64 d0) := (hc10.cell (p := ⟨w9.heap.size, 0, none⟩) (by first | (simp; done) | (simp; omega))).trans (by first | (simp; done) | go_simp)
  have C_1 : w10.cell? ⟨w9.heap.size, 1, none⟩ = some (.int .i64 d1) := (hc10.cell (p := ⟨w9.heap.size, 1, none⟩) (by first | (simp; done) | (simp; omega))).trans (by first | (simp; done) | go_simp)
  have C_2 : w10.cell? ⟨w9.heap.size, 2, none⟩ = some (.int .i64 d2) := (hc10.cell (p := ⟨w9.heap.size, 2, none⟩) (by first | (simp; done) | (simp; omega))).trans (by first | (simp; done) | go_simp)
  have C_3 : w10.cell? ⟨w9.heap.size, 3, none⟩ = some (.int .i64 d3) := (hc10.cell (p := ⟨w9.heap.size, 3, none⟩) (by first | (simp; done) | (simp; omega))).trans (by first | (simp; done) | go_simp)
  have C_4 : w10.cell? ⟨w9.heap.size, 4, none⟩ = some (.int .i64 d4) := (hc10.cell (p := ⟨w9.heap.size, 4, none⟩) (by first | (simp; done) | (simp; omega))).trans (by first | (simp; done) | go_simp)
  have C_5 : w10.cell? ⟨w9.heap.size, 5, none⟩ = some (.int .i64 d5) := (hc10.cell (p := ⟨w9.heap.size, 5, none⟩) (by first | (simp; done) | (simp; omega))).trans (by first | (simp; done) | go_simp)
  have C_6 : w10.cell? ⟨w9.heap.size, 6, none⟩ = some (.int .i64 d6) := (hc10.cell (p := ⟨w9.heap.size, 6, none⟩) (by first | (simp; done) | (simp; omega))).trans (by first | (simp; done) | go_simp)
  have C_7 : w10.cell? ⟨w9.heap.size, 7, none⟩ = some (.int .i64 d7) := (hc10.cell (p := ⟨w9.heap.size, 7, none⟩) (by first | (simp; done) | (simp; omega))).trans (by first | (simp; done) | go_simp)
  have C_8 : w10.cell? ⟨w9.heap.size, 8, none⟩ = some (.int .i64 d8) := (hc10.cell (p := ⟨w9.heap.size, 8, none⟩) (by first | (simp; done) | (simp; omega))).trans (by first | (simp; done) | go_simp)
  have C_9 : w10.cell? ⟨w9.heap.size, 9, none⟩ = some (.int .u32 ds) := (hc10.cell (p := ⟨w9.heap.size, 9, none⟩) (by first | (simp; done) | (simp; omega))).trans (by first | (simp; done) | go_simp)
  have C_10 : w10.cell? ⟨w9.heap.size, 10, none⟩ = some (.slice a3 dq.length c3) := (hc10.cell (p := ⟨w9.heap.size, 10, none⟩) (by first | (simp; done) | (simp; omega))).trans (by first | (simp; done) | go_simp)
  have C_l : w9.heap.size < w10.heap.size := Nat.lt_of_lt_of_le (by first | (simp; done) | (simp; omega)) hc10.size
  replace hS := hS.later hst10
  replace kw := kw.later hst10
  replace k1 := k1.later hst10
  replace k2 := k2.later hst10
  replace k3 := k3.later hst10
  clear hst10
  clear hc10 hb9
  go_wp2_with fail
  with_reducible refine (same_any m0 m1 m2 m3 m4 m5 m6 m7 m8 ms mq a1 a2 c1 c2 mq.length _ rfl (k1.later (by repeat' (first | with_reducible exact Below.refl _ _ | with_reducible refine Below.drew ?_ | with_reducible refine Below.setCell ?_ (by first | (simp; done) | (simp; omega) | omega) _ | with_reducible refine Below.alloc ?_ (by first | (simp; done) | (simp; omega) | omega) _))) (k2.later (by repeat' (first | with_reducible exact Below.refl _ _ | with_reducible refine Below.drew ?_ | with_reducible refine Below.setCell ?_ (by first | (simp; done) | (simp; omega) | omega) _ | with_reducible refine Below.alloc ?_ (by first | (simp; done) | (simp; omega) | omega) _))) H_mm.out).mono ?_
  rintro e w11 ⟨rfl, hc11⟩
  have hb11 : Below w.heap.size w w11 := bchain (by repeat' (first | with_reducible exact hb10 | with_reducible refine Below.drew ?_ | with_reducible refine below_drewN ?_ _ | with_reducible refine Below.alloc ?_ (by have := hb10.size; first | (simp; done) | (simp; omega) | omega) _ | with_reducible refine Below.setCell ?_ (by first | (simp; done) | (simp; omega) | omega) _)) hc11
  have hst11 : Below w10.heap.size w10 w11 := bchain (by repeat' (first | with_reducible exact Below.refl _ _ | with_reducible refine Below.drew ?_ | with_reducible refine below_drewN ?_ _ | with_reducible refine Below.alloc ?_ (by first | (simp; done) | (simp; omega) | omega) _ | with_reducible refine Below.setCell ?_ (by first | (simp; done) | (simp; omega) | omega) _)) hc11
  replace X_0 := cell_later hst11 X_0
  replace X_1 := cell_later hst11 X_1
  replace X_2 := cell_later hst11 X_2
  replace X_3 := cell_later hst11 X_3
  replace X_4 := cell_later hst11 X_4
  replace X_5 := cell_later hst11 X_5
  replace X_6 := cell_later hst11 X_6
  replace X_7 := cell_later hst11 X_7
  replace X_8 := cell_later hst11 X_8
  replace X_9 := cell_later hst11 X_9
  replace X_10 := cell_later hst11 X_10
  replace X_l := Nat.lt_of_lt_of_le X_l hst11.size
  replace P_0 := cell_later hst11 P_0
  replace P_1 := cell_later hst11 P_1
  replace P_l := Nat.lt_of_lt_of_le P_l hst11.size
  replace A_0 := cell_later hst11 A_0
  replace A_1 := cell_later hst11 A_1
  replace A_2 := cell_later hst11 A_2
  replace A_3 := cell_later hst11 A_3
  replace A_4 := cell_later hst11 A_4
  replace A_5 := cell_later hst11 A_5
  replace A_6 := cell_later hst11 A_6
  replace A_7 := cell_later hst11 A_7
  replace A_8 := cell_later hst11 A_8
  replace A_9 := cell_later hst11 A_9
  replace A_10 := cell_later hst11 A_10
  replace A_l := Nat.lt_of_lt_of_le A_l hst11.size
  replace B_0 := cell_later hst11 B_0
  replace B_1 := cell_later hst11 B_1
  replace B_2 := cell_later hst11 B_2
  replace B_3 := cell_later hst11 B_3
  replace B_4 := cell_later hst11 B_4
  replace B_5 := cell_later hst11 B_5
  replace B_6 := cell_later hst11 B_6
  replace B_7 := cell_later hst11 B_7
  replace B_8 := cell_later hst11 B_8
  replace B_9 := cell_later hst11 B_9
  replace B_10 := cell_later hst11 B_10
  replace B_l := Nat.lt_of_lt_of_le B_l hst11.size
  replace C_0 := cell_later hst11 C_0
  replace C_1 := cell_later hst11 C_1
  replace C_2 := cell_later hst11 C_2
  replace C_3 := cell_later hst11 C_3
  replace C_4 := cell_later hst11 C_4
  replace C_5 := cell_later hst11 C_5
  replace C_6 := cell_later hst11 C_6
  replace C_7 := cell_later hst11 C_7
  replace C_8 := cell_later hst11 C_8
  replace C_9 := cell_later hst11 C_9
  replace C_10 := cell_later hst11 C_10
  replace C_l := Nat.lt_of_lt_of_le C_l hst11.size
  have D_0 : w11.cell? ⟨w10.heap.size, 0, none⟩ = some (.int .i64 d0) := (hc11.cell (p := ⟨w10.heap.size, 0, none⟩) (by first | (simp; done) | (simp; omega))).trans (by first | (simp; done) | go_simp)
  have D_1 : w11.cell? ⟨w10.heap.size, 1, none⟩ = some (.int .i64 d1) := (hc11.cell (p := ⟨w10.heap.size, 1, none⟩) (by first | (simp; done) | (simp; omega))).trans (by first | (simp; done) | go_simp)
  have D_2 : w11.cell? ⟨w10.heap.size, 2, none⟩ = some (.int .i64 d2) := (hc11.cell (p := ⟨w10.heap.size, 2, none⟩) (by first | (simp; done) | (simp; omega))).trans (by first | (simp; done) | go_simp)
  have D_3 : w11.cell? ⟨w10.heap.size, 3, none⟩ = some (.int .i64 d3) := (hc11.cell (p := ⟨w10.heap.size, 3, none⟩) (by first | (simp; done) | (simp; omega))).trans (by first | (simp; done) | go_simp)
  have D_4 : w11.cell? ⟨w10.heap.size, 4, none⟩ = some (.int .i64 d4) := (hc11.cell (p := ⟨w10.heap.size, 4, none⟩) (by first | (simp; done) | (simp; omega))).trans (by first | (simp; done) | go_simp)
  have D_5 : w11.cell? ⟨w10.heap.size, 5, none⟩ = some (.int .i64 d5) := (hc11.cell (p := ⟨w10.heap.size, 5, none⟩) (by first | (simp; done) | (simp; omega))).trans (by first | (simp; done) | go_simp)
  have D_6 : w11.cell? ⟨w10.heap.size, 6, none⟩ = some (.int .i64 d6) := (hc11.cell (p := ⟨w10.heap.size, 6, none⟩) (by first | (simp; done) | (simp; omega))).trans (by first | (simp; done) | go_simp)
  have D_7 : w11.cell? ⟨w10.heap.size, 7, none⟩ = some (.int .i64 d7) := (hc11.cell (p := ⟨w10.heap.size, 7, none⟩) (by first | (simp; done) | (simp; omega))).trans (by first | (simp; done) | go_simp)
  have D_8 : w11.cell? ⟨w10.heap.size, 8, none⟩ = some (.int .i64 d8) := (hc11.cell (p := ⟨w10.heap.size, 8, none⟩) (by first | (simp; done) | (simp; omega))).trans (by first | (simp; done) | go_simp)
  have D_9 : w11.cell? ⟨w10.heap.size, 9, none⟩ = some (.int .u32 ds) := (hc11.cell (p := ⟨w10.heap.size, 9, none⟩) (by first | (simp; done) | (simp; omega))).trans (by first | (simp; done) | go_simp)
  have D_10 : w11.cell? ⟨w10.heap.size, 10, none⟩ = some (.slice a4 dq.length c4) := (hc11.cell (p := ⟨w10.heap.size, 10, none⟩) (by first | (simp; done) | (simp; omega))).trans (by first | (simp; done) | go_simp)
  have D_l : w10.heap.size < w11.heap.size := Nat.lt_of_lt_of_le (by first | (simp; done) | (simp; omega)) hc11.size
  have O_0 : w11.cell? ⟨w10.heap.size + 1, 0, none⟩ = some (.int .i64 l0) := (hc11.cell (p := ⟨w10.heap.size + 1, 0, none⟩) (by first | (simp; done) | (simp; omega))).trans (by first | (simp; done) | go_simp)
  have O_1 : w11.cell? ⟨w10.heap.size + 1, 1, none⟩ = some (.int .i64 l1) := (hc11.cell (p := ⟨w10.heap.size + 1, 1, none⟩) (by first | (simp; done) | (simp; omega))).trans (by first | (simp; done) | go_simp)
  have O_2 : w11.cell? ⟨w10.heap.size + 1, 2, none⟩ = some (.int .i64 l2) := (hc11.cell (p := ⟨w10.heap.size + 1, 2, none⟩) (by first | (simp; done) | (simp; omega))).trans (by first | (simp; done) | go_simp)
  have O_3 : w11.cell? ⟨w10.heap.size + 1, 3, none⟩ = some (.int .i64 l3) := (hc11.cell (p := ⟨w10.heap.size + 1, 3, none⟩) (by first | (simp; done) | (simp; omega))).trans (by first | (simp; done) | go_simp)
  have O_4 : w11.cell? ⟨w10.heap.size + 1, 4, none⟩ = some (.int .i64 l4) := (hc11.cell (p := ⟨w10.heap.size + 1, 4, none⟩) (by first | (simp; done) | (simp; omega))).trans (by first | (simp; done) | go_simp)
  have O_5 : w11.cell? ⟨w10.heap.size + 1, 5, none⟩ = some (.int .i64 l5) := (hc11.cell (p := ⟨w10.heap.size + 1, 5, none⟩) (by first | (simp; done) | (simp; omega))).trans (by first | (simp; done) | go_simp)
  have O_6 : w11.cell? ⟨w10.heap.size + 1, 6, none⟩ = some (.int .i64 l6) := (hc11.cell (p := ⟨w10.heap.size + 1, 6, none⟩) (by first | (simp; done) | (simp; omega))).trans (by first | (simp; done) | go_simp)
  have O_7 : w11.cell? ⟨w10.heap.size + 1, 7, none⟩ = some (.int .i64 l7) := (hc11.cell (p := ⟨w10.heap.size + 1, 7, none⟩) (by first | (simp; done) | (simp; omega))).trans (by first | (simp; done) | go_simp)
  have O_8 : w11.cell? ⟨w10.heap.size + 1, 8, none⟩ = some (.int .i64 l8) := (hc11.cell (p := ⟨w10.heap.size + 1, 8, none⟩) (by first | (simp; done) | (simp; omega))).trans (by first | (simp; done) | go_simp)
  have O_9 : w11.cell? ⟨w10.heap.size + 1, 9, none⟩ = some (.int .u32 s) := (hc11.cell (p := ⟨w10.heap.size + 1, 9, none⟩) (by first | (simp; done) | (simp; omega))).trans (by first | (simp; done) | go_simp)
  have O_10 : w11.cell? ⟨w10.heap.size + 1, 10, none⟩ = some (.slice a' ps.length c') := (hc11.cell (p := ⟨w10.heap.size + 1, 10, none⟩) (by first | (simp; done) | (simp; omega))).trans (by first | (simp; done) | go_simp)
  have O_l : w10.heap.size + 1 < w11.heap.size := Nat.lt_of_lt_of_le (by first | (simp; done) | (simp; omega)) hc11.size
  replace hS := hS.later hst11
  replace kw := kw.later hst11
  replace k1 := k1.later hst11
  replace k2 := k2.later hst11
  replace k3 := k3.later hst11
  replace k4 := k4.later hst11
  clear hst11
  clear hc11 hb10
  go_wp2_with fail
  with_reducible refine (same_any d0 d1 d2 d3 d4 d5 d6 d7 d8 ds dq a3 a4 c3 c4 dq.length _ rfl (k3.later (by repeat' (first | with_reducible exact Below.refl _ _ | with_reducible refine Below.drew ?_ | with_reducible refine Below.setCell ?_ (by first | (simp; done) | (simp; omega) | omega) _ | with_reducible refine Below.alloc ?_ (by first | (simp; done) | (simp; omega) | omega) _))) (k4.later (by repeat' (first | with_reducible exact Below.refl _ _ | with_reducible refine Below.drew ?_ | with_reducible refine Below.setCell ?_ (by first | (simp; done) | (simp; omega) | omega) _ | with_reducible refine Below.alloc ?_ (by first | (simp; done) | (simp; omega) | omega) _))) H_dd.out).mono ?_
  rintro e w12 ⟨rfl, hc12⟩
  have hb12 : Below w.heap.size w w12 := bchain (by repeat' (first | with_reducible exact hb11 | with_reducible refine Below.drew ?_ | with_reducible refine below_drewN ?_ _ | with_reducible refine Below.alloc ?_ (by have := hb11.size; first | (simp; done) | (simp; omega) | omega) _ | with_reducible refine Below.setCell ?_ (by first | (simp; done) | (simp; omega) | omega) _)) hc12
  have hst12 : Below w11.heap.size w11 w12 := bchain (by repeat' (first | with_reducible exact Below.refl _ _ | with_reducible refine Below.drew ?_ | with_reducible refine below_drewN ?_ _ | with_reducible refine Below.alloc ?_ (by first | (simp; done) | (simp; omega) | omega) _ | with_reducible refine Below.setCell ?_ (by first | (simp; done) | (simp; omega) | omega) _)) hc12
  replace X_0 := cell_later hst12 X_0
  replace X_1 := cell_later hst12 X_1
  replace X_2 := cell_later hst12 X_2
  replace X_3 := cell_later hst12 X_3
  replace X_4 := cell_later hst12 X_4
  replace X_5 := cell_later hst12 X_5
  replace X_6 := cell_later hst12 X_6
  replace X_7 := cell_later hst12 X_7
  replace X_8 := cell_later hst12 X_8
  replace X_9 := cell_later hst12 X_9
  replace X_10 := cell_later hst12 X_10
  replace X_l := Nat.lt_of_lt_of_le X_l hst12.size
  replace P_0 := cell_later hst12 P_0
  replace P_1 := cell_later hst12 P_1
  replace P_l := Nat.lt_of_lt_of_le P_l hst12.size
  replace A_0 := cell_later hst12 A_0
  replace A_1 := cell_later hst12 A_1
  replace A_2 := cell_later hst12 A_2
  replace A_3 := cell_later hst12 A_3
  replace A_4 := cell_later hst12 A_4
  replace A_5 := cell_later hst12 A_5
  replace A_6 := cell_later hst12 A_6
  replace A_7 := cell_later hst12 A_7
  replace A_8 := cell_later hst12 A_8
  replace A_9 := cell_later hst12 A_9
  replace A_10 := cell_later hst12 A_10
  replace A_l := Nat.lt_of_lt_of_le A_l hst12.size
  replace B_0 := cell_later hst12 B_0
  replace B_1 := cell_later hst12 B_1
  replace B_2 := cell_later hst12 B_2
  replace B_3 := cell_later hst12 B_3
  replace B_4 := cell_later hst12 B_4
  replace B_5 := cell_later hst12 B_5
  replace B_6 := cell_later hst12 B_6
  replace B_7 := cell_later hst12 B_7
  replace B_8 := cell_later hst12 B_8
  replace B_9 := cell_later hst12 B_9
  replace B_10 := cell_later hst12 B_10
  replace B_l := Nat.lt_of_lt_of_le B_l hst12.size
  replace C_0 := cell_later hst12 C_0
  replace C_1 := cell_later hst12 C_1
  replace C_2 := cell_later hst12 C_2
  replace C_3 := cell_later hst12 C_3
  replace C_4 := cell_later hst12 C_4
  replace C_5 := cell_later hst12 C_5
  replace C_6 := cell_later hst12 C_6
  replace C_7 := cell_later hst12 C_7
  replace C_8 := cell_later hst12 C_8
  replace C_9 := cell_later hst12 C_9
  replace C_10 := cell_later hst12 C_10
  replace C_l := Nat.lt_of_lt_of_le C_l hst12.size
  replace D_0 := cell_later hst12 D_0
  replace D_1 := cell_later hst12 D_1
  replace D_2 := cell_later hst12 D_2
  replace D_3 := cell_later hst12 D_3
  replace D_4 := cell_later hst12 D_4
  replace D_5 := cell_later hst12 D_5
  replace D_6 := cell_later hst12 D_6
  replace D_7 := cell_later hst12 D_7
  replace D_8 := cell_later hst12 D_8
  replace D_9 := cell_later hst12 D_9
  replace D_10 := cell_later hst12 D_10
  replace D_l := Nat.lt_of_lt_of_le D_l hst12.size
  replace O_0 := cell_later hst12 O_0
  replace O_1 := cell_later hst12 O_1
  replace O_2 := cell_later hst12 O_2
  replace O_3 := cell_later hst12 O_3
  replace O_4 := cell_later hst12 O_4
  replace O_5 := cell_later hst12 O_5
  replace O_6 := cell_later hst12 O_6
  replace O_7 := cell_later hst12 O_7
  replace O_8 := cell_later hst12 O_8
  replace O_9 := cell_later hst12 O_9
  replace O_10 := cell_later hst12 O_10
  replace O_l := Nat.lt_of_lt_of_le O_l hst12.size
  replace hS := hS.later hst12
  replace kw := kw.later hst12
  replace k1 := k1.later hst12
  replace k2 := k2.later hst12
  replace k3 := k3.later hst12
  replace k4 := k4.later hst12
  clear hst12
  clear hc12 hb11
  go_wp2_with fail
  with_reducible refine (same_any l0 l1 l2 l3 l4 l5 l6 l7 l8 s ps a a' c c' ps.length _ rfl (hS.cells.later (by repeat' (first | with_reducible exact Below.refl _ _ | with_reducible refine Below.drew ?_ | with_reducible refine Below.setCell ?_ (by first | (simp; done) | (simp; omega) | omega) _ | with_reducible refine Below.alloc ?_ (by first | (simp; done) | (simp; omega) | omega) _))) (kw.later (by repeat' (first | with_reducible exact Below.refl _ _ | with_reducible refine Below.drew ?_ | with_reducible refine Below.setCell ?_ (by first | (simp; done) | (simp; omega) | omega) _ | with_reducible refine Below.alloc ?_ (by first | (simp; done) | (simp; omega) | omega) _))) H_hml.out).mono ?_
  rintro e w13 ⟨rfl, hc13⟩
  have hb13 : Below w.heap.size w w13 := bchain (by repeat' (first | with_reducible exact hb12 | with_reducible refine Below.drew ?_ | with_reducible refine below_drewN ?_ _ | with_reducible refine Below.alloc ?_ (by have := hb12.size; first | (simp; done) | (simp; omega) | omega) _ | with_reducible refine Below.setCell ?_ (by first | (simp; done) | (simp; omega) | omega) _)) hc13
  have hst13 : Below w12.heap.size w12 w13 := bchain (by repeat' (first | with_reducible exact Below.refl _ _ | with_reducible refine Below.drew ?_ | with_reducible refine below_drewN ?_ _ | with_reducible refine Below.alloc ?_ (by first | (simp; done) | (simp; omega) | omega) _ | with_reducible refine Below.setCell ?_ (by first | (simp; done) | (simp; omega) | omega) _)) hc13
  replace X_0 := cell_later hst13 X_0
  replace X_1 := cell_later hst13 X_1
  replace X_2 := cell_later hst13 X_2
  replace X_3 := cell_later hst13 X_3
  replace X_4 := cell_later hst13 X_4
  replace X_5 := cell_later hst13 X_5
  replace X_6 := cell_later hst13 X_6
  replace X_7 := cell_later hst13 X_7
  replace X_8 := cell_later hst13 X_8
  replace X_9 := cell_later hst13 X_9
  replace X_10 := cell_later hst13 X_10
  replace X_l := Nat.lt_of_lt_of_le X_l hst13.size
  replace P_0 := cell_later hst13 P_0
  replace P_1 := cell_later hst13 P_1
  replace P_l := Nat.lt_of_lt_of_le P_l hst13.size
  replace A_0 := cell_later hst13 A_0
  replace A_1 := cell_later hst13 A_1
  replace A_2 := cell_later hst13 A_2
  replace A_3 := cell_later hst13 A_3
  replace A_4 := cell_later hst13 A_4
  replace A_5 := cell_later hst13 A_5
  replace A_6 := cell_later hst13 A_6
  replace A_7 := cell_later hst13 A_7
  replace A_8 := cell_later hst13 A_8
  replace A_9 := cell_later hst13 A_9
  replace A_10 := cell_later hst13 A_10
  replace A_l := Nat.lt_of_lt_of_le A_l hst13.size
  replace B_0 := cell_later hst13 B_0
  replace B_1 := cell_later hst13 B_1
  replace B_2 := cell_later hst13 B_2
  replace B_3 := cell_later hst13 B_3
  replace B_4 := cell_later hst13 B_4
  replace B_5 := cell_later hst13 B_5
  replace B_6 := cell_later hst13 B_6
  replace B_7 := cell_later hst13 B_7
  replace B_8 := cell_later hst13 B_8
  replace B_9 := cell_later hst13 B_9
  replace B_10 := cell_later hst13 B_10
  replace B_l := Nat.lt_of_lt_of_le B_l hst13.size
  replace C_0 := cell_later hst13 C_0
  replace C_1 := cell_later hst13 C_1
  replace C_2 := cell_later hst13 C_2
  replace C_3 := cell_later hst13 C_3
  replace C_4 := cell_later hst13 C_4
  replace C_5 := cell_later hst13 C_5
  replace C_6 := cell_later hst13 C_6
  replace C_7 := cell_later hst13 C_7
  replace C_8 := cell_later hst13 C_8
  replace C_9 := cell_later hst13 C_9
  replace C_10 := cell_later hst13 C_10
  replace C_l := Nat.lt_of_lt_of_le C_l hst13.size
  replace D_0 := cell_later hst13 D_0
  replace D_1 := cell_later hst13 D_1
  replace D_2 := cell_later hst13 D_2
  replace D_3 := cell_later hst13 D_3
  replace D_4 := cell_later hst13 D_4
  replace D_5 := cell_later hst13 D_5
  replace D_6 := cell_later hst13 D_6
  replace D_7 := cell_later hst13 D_7
  replace D_8 := cell_later hst13 D_8
  replace D_9 := cell_later hst13 D_9
  replace D_10 := cell_later hst13 D_10
  replace D_l := Nat.lt_of_lt_of_le D_l hst13.size
  replace O_0 := cell_later hst13 O_0
  replace O_1 := cell_later hst13 O_1
  replace O_2 := cell_later hst13 O_2
  replace O_3 := cell_later hst13 O_3
  replace O_4 := cell_later hst13 O_4
  replace O_5 := cell_later hst13 O_5
  replace O_6 := cell_later hst13 O_6
  replace O_7 := cell_later hst13 O_7
  replace O_8 := cell_later hst13 O_8
  replace O_9 := cell_later hst13 O_9
  replace O_10 := cell_later hst13 O_10
  replace O_l := Nat.lt_of_lt_of_le O_l hst13.size
  replace hS := hS.later hst13
  replace kw := kw.later hst13
  replace k1 := k1.later hst13
  replace k2 := k2.later hst13
  replace k3 := k3.later hst13
  replace k4 := k4.later hst13
  clear hst13
  clear hc13 hb12
  go_wp2_with fail
  go_ret
  exact ⟨rfl, (by repeat' (first | with_reducible exact hb13 | with_reducible refine Below.drew ?_ | with_reducible refine below_drewN ?_ _ | with_reducible refine Below.alloc ?_ (by have := hb13.size; first | (simp; done) | (simp; omega) | omega) _ | with_reducible refine Below.setCell ?_ (by first | (simp; done) | (simp; omega) | omega) _))⟩
theorem peers_full (l0 l1 l2 l3 l4 l5 l6 l7 l8 : Int) (s : Int) (ps : Peers) (a : Option Addr) (c : Nat) (x : ByteArray) (pk : Int) (n : ByteArray) (q : Int) (w : World) (h : SetIn w s ps a c) (_ : x.size ≤ maxLen) (hp : (Lit.int .u32 pk).wf = true) (hq : 0 ≤ q ∧ q < 4294967296) :
    Calls Try.prog 3 #[.agg #[.int .i64 l0, .int .i64 l1, .int .i64 l2, .int .i64 l3, .int .i64 l4, .int .i64 l5, .int .i64 l6, .int .i64 l7, .int .i64 l8, .int .u32 s, .slice a ps.length c], .string x, .int .u32 pk, .agg #[.string n, .int .u32 q]] w fun e w' =>
      e = .returned (.bool true) ∧ Below w.heap.size w w' :=
  peers_walk l0 l1 l2 l3 l4 l5 l6 l7 l8 s ps a c x pk n q w h hq.1 hq.2 (rng_u32 hp).1 (rng_u32 hp).2
end Go.Proofs.Ythdldmkeoglflaa
