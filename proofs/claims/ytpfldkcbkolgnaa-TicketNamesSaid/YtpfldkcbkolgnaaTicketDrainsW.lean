/- The law TicketDrains: draining is popping. -/
import Derived.Test.YtpfldkcbkolgnaaTicketAlive
namespace Go.Proofs.Ytpfldkcbkolgnaa
set_option linter.unusedSimpArgs false
set_option linter.unusedVariables false
set_option linter.unnecessarySimpa false
open Go.RowKit

theorem dpop_k (g o r : Int) (hs : Slips) (k : Nat) (a : Option Addr) (n c : Nat) (w : World) (V : DV g o r hs) (hk : k < run o hs) (hn : n = (hs.drop k).length) (hc : CellsAt w a (cel (hs.drop k))) (hb : hs.length ≤ 8796093022206) :
    Calls Try.prog 21 #[.agg #[.int .i64 g, .int .i64 (o + k), .int .i64 r, .slice a n c]] w fun e w' =>
      ∃ a' c', e = .returned (.tuple #[.agg #[.int .i64 g, .int .i64 (o + (k + 1 : Nat)), .int .i64 r, .slice a' (hs.length - (k + 1)) c'], .agg #[.int .i64 (o + k), .int .u64 (wg hs k)], .int .i64 0]) ∧ CellsAt w' a' (cel (hs.drop (k + 1))) ∧ Fresh w.heap.size a' ∧ Below w.heap.size w w' := by
  subst hn
  refine (dpop_any g (o + k) r (hs.drop k) a c w hc (by rw [List.length_drop]; omega)).mono fun e w' ⟨⟨a', c', h1, h2, h3⟩, h4⟩ => ?_
  rw [pop_at V hk] at h1 h2
  simp only [List.length_drop] at h1
  exact ⟨a', c', h1, h2, h3, h4⟩
theorem dpop_end (g o r : Int) (hs : Slips) (a : Option Addr) (n c : Nat) (w : World) (V : DV g o r hs) (hn : n = (hs.drop (run o hs)).length) (hc : CellsAt w a (cel (hs.drop (run o hs)))) (hb : hs.length ≤ 8796093022206) :
    Calls Try.prog 21 #[.agg #[.int .i64 g, .int .i64 (o + (run o hs : Nat)), .int .i64 r, .slice a n c]] w fun e w' =>
      (∃ a' c', e = .returned (.tuple #[.agg #[.int .i64 0, .int .i64 0, .int .i64 0, .slice a' 0 c'], .agg #[.int .i64 0, .int .u64 0], .int .i64 38])) ∧ Below w.heap.size w w' := by
  subst hn
  refine (dpop_any g _ r _ a c w hc (by rw [List.length_drop]; omega)).mono fun e w' ⟨⟨a', c', h1, h2, h3⟩, h4⟩ => ?_
  rw [(pop_stop V).1] at h1 h2
  exact ⟨⟨a', c', h1⟩, h4⟩
theorem ddrain_v (g o r : Int) (hs : Slips) (a : Option Addr) (c : Nat) (w : World) (V : DV g o r hs) (hc : CellsAt w a (cel hs)) (hb : hs.length ≤ 8796093022206) :
    Calls Try.prog 13 #[.agg #[.int .i64 g, .int .i64 o, .int .i64 r, .slice a hs.length c]] w fun e w' =>
      ∃ a' c' b d, e = .returned (.tuple #[.agg #[.int .i64 g, .int .i64 (o + (run o hs : Nat)), .int .i64 r, .slice a' (hs.length - run o hs) c'], .slice b (run o hs) d, .int .i64 0]) ∧ CellsAt w' a' (cel (hs.drop (run o hs))) ∧ CellsAt w' b (cel (hs.take (run o hs))) ∧ Fresh w.heap.size a' ∧ Fresh w.heap.size b ∧ Below w.heap.size w w' := by
  refine (ddrain_any g o r hs a c w hc hb).mono fun e w' ⟨⟨a', c', b, d, h1, h2, h3, h4, h5⟩, h6⟩ => ?_
  have he : dDrain ⟨g, o, r, hs⟩ = (⟨g, o + (run o hs : Nat), r, hs.drop (run o hs)⟩, hs.take (run o hs), 0) := by unfold dDrain Dk.err; rw [if_pos V.err]
  rw [he] at h1 h2 h3
  have hl : (hs.take (run o hs)).length = run o hs := by have := run_le hs o; rw [List.length_take]; omega
  simp only [List.length_drop, hl] at h1
  exact ⟨a', c', b, d, h1, h2, h3, h4, h5, h6⟩
theorem dsame_n (g o r : Int) (hs : Slips) (n m : Nat) (a b : Option Addr) (c d : Nat) (w : World) (hn : n = hs.length) (hm : m = hs.length) (hx : CellsAt w a (cel hs)) (hy : CellsAt w b (cel hs)) (hml : hs.length ≤ maxLen) :
    Calls Try.prog 20 #[.agg #[.int .i64 g, .int .i64 o, .int .i64 r, .slice a n c], .agg #[.int .i64 g, .int .i64 o, .int .i64 r, .slice b m d]] w fun e w' =>
      e = .returned (.bool true) ∧ Below w.heap.size w w' := by
  subst hm
  obtain rfl := hn
  exact dsame_self g o r hs a b c d w hx hy hml

theorem cellsAt_lt {w : World} {a : Option Addr} {cs : List Value} (h : CellsAt w a cs) : ∀ ad, a = some ad → cs = [] ∨ ad.block < w.heap.size := by
  intro ad e
  rcases h with h | ⟨b, o, rfl, h⟩
  · exact .inl h
  · cases e
    match cs with
    | [] => exact .inl rfl
    | u :: cs => exact .inr (World.block_lt_of_cell? _ _ (h 0 u rfl))
theorem CellsAt.past {w0 w w' : World} {a : Option Addr} {cs : List Value} {B : Nat} (h0 : CellsAt w0 a cs) (hw : w0.heap.size ≤ B) (h : CellsAt w a cs) (hb : Below B w w') : CellsAt w' a cs := by
  cases a with
  | none =>
    rcases h with h | ⟨b, o, e, _⟩
    · exact .inl h
    · cases e
  | some ad =>
    rcases cellsAt_lt h0 ad rfl with h1 | h1
    · exact .inl h1
    · exact h.below hb (fun b o e => by cases e; simp at h1; omega)

set_option maxRecDepth 100000 in
set_option maxHeartbeats 8000000 in
theorem drains_walk (g o r : Int) (hs : Slips) (a : Option Addr) (c : Nat) (w : World) (hc : CellsAt w a (cel hs)) (hml : hs.length ≤ maxLen) :
    Calls Try.prog 7 #[.agg #[.int .i64 g, .int .i64 o, .int .i64 r, .slice a hs.length c]] w fun e w' =>
      e = .returned (.bool true) ∧ Below w.heap.size w w' := by
  have Hml := hid hml
  clear hml
  rcases dErr_cases g o r hs with h8 | h8
  · have V := DV.of h8
    have hle := V.len
    have hrl := run_le hs o
    have hg1 := V.o1
    have hg2 := V.o2
    have hg3 := V.g1
    have HV := hid V
    obtain ⟨i0, ii, iz0, iz1, iz2⟩ := info_parts info_slip
    have hb : hs.length ≤ 8796093022206 := by omega
    have hlen : hs.length - run o hs = (hs.drop (run o hs)).length := by rw [List.length_drop]
    have htl : run o hs = (hs.take (run o hs)).length := by rw [List.length_take]; omega
    have hdm : (hs.drop (run o hs)).length ≤ maxLen := by rw [List.length_drop]; unfold maxLen; omega
    have htm : (hs.take (run o hs)).length ≤ maxLen := by rw [List.length_take]; unfold maxLen; omega
    have hat : atI (o + (run o hs : Nat)) (hs.drop (run o hs)) = -1 := atI_none (V.popN _ (Nat.le_refl _)) (pop_stop V).2
    clear V
    have H_h8 := hid h8
    have H_hlen := hid hlen
    have H_htl := hid htl
    have H_hdm := hid hdm
    have H_htm := hid htm
    have H_hat := hid hat
    clear h8 hlen htl hdm htm hat
    have pa0 : ∀ ad, a = some ad → cel hs = [] ∨ ad.block < w.heap.size := cellsAt_lt hc
    go_enter Try.func7, Try.ntmps7
    have hb0 := Below.refl w.heap.size w
    go_wp2_with fail
    with_reducible refine (alive_any _).mono ?_
    rintro e w1 ⟨rfl, hc1⟩
    have hb1 : Below w.heap.size w w1 := bchain (by repeat' (first | with_reducible exact hb0 | with_reducible refine Below.drew ?_ | with_reducible refine below_drewN ?_ _ | with_reducible refine Below.alloc ?_ (by have := hb0.size; first | (simp; done) | (simp; omega) | omega) _ | with_reducible refine Below.setCell ?_ (by first | (simp; done) | (simp; omega) | omega) _)) hc1
    have hst1 : Below w.heap.size w w1 := bchain (by repeat' (first | with_reducible exact Below.refl _ _ | with_reducible refine Below.drew ?_ | with_reducible refine below_drewN ?_ _ | with_reducible refine Below.alloc ?_ (by first | (simp; done) | (simp; omega) | omega) _ | with_reducible refine Below.setCell ?_ (by first | (simp; done) | (simp; omega) | omega) _)) hc1
    have D_0 : w1.cell? ⟨w.heap.size, 0, none⟩ = some (.int .i64 g) := (hc1.cell (p := ⟨w.heap.size, 0, none⟩) (by first | (simp; done) | (simp; omega))).trans (by first | (simp; done) | go_simp)
    have D_1 : w1.cell? ⟨w.heap.size, 1, none⟩ = some (.int .i64 o) := (hc1.cell (p := ⟨w.heap.size, 1, none⟩) (by first | (simp; done) | (simp; omega))).trans (by first | (simp; done) | go_simp)
    have D_2 : w1.cell? ⟨w.heap.size, 2, none⟩ = some (.int .i64 r) := (hc1.cell (p := ⟨w.heap.size, 2, none⟩) (by first | (simp; done) | (simp; omega))).trans (by first | (simp; done) | go_simp)
    have D_3 : w1.cell? ⟨w.heap.size, 3, none⟩ = some (.slice a hs.length c) := (hc1.cell (p := ⟨w.heap.size, 3, none⟩) (by first | (simp; done) | (simp; omega))).trans (by first | (simp; done) | go_simp)
    have D_l : w.heap.size < w1.heap.size := Nat.lt_of_lt_of_le (by first | (simp; done) | (simp; omega)) hc1.size
    replace hc := hc.later hst1
    clear hst1
    clear hc1 hb0
    go_wp2_with fail
    with_reducible refine (rdcheck_any g o r hs a c _ hc Hml.out).mono ?_
    rintro e w2 ⟨rfl, hc2⟩
    have hb2 : Below w.heap.size w w2 := bchain (by repeat' (first | with_reducible exact hb1 | with_reducible refine Below.drew ?_ | with_reducible refine below_drewN ?_ _ | with_reducible refine Below.alloc ?_ (by have := hb1.size; first | (simp; done) | (simp; omega) | omega) _ | with_reducible refine Below.setCell ?_ (by first | (simp; done) | (simp; omega) | omega) _)) hc2
    have hst2 : Below w1.heap.size w1 w2 := bchain (by repeat' (first | with_reducible exact Below.refl _ _ | with_reducible refine Below.drew ?_ | with_reducible refine below_drewN ?_ _ | with_reducible refine Below.alloc ?_ (by first | (simp; done) | (simp; omega) | omega) _ | with_reducible refine Below.setCell ?_ (by first | (simp; done) | (simp; omega) | omega) _)) hc2
    replace D_0 := cell_later hst2 D_0
    replace D_1 := cell_later hst2 D_1
    replace D_2 := cell_later hst2 D_2
    replace D_3 := cell_later hst2 D_3
    replace D_l := Nat.lt_of_lt_of_le D_l hst2.size
    replace hc := hc.later hst2
    clear hst2
    clear hc2 hb1
    rw [H_h8.out]
    go_wp2_with fail
    with_reducible refine (ddrain_v g o r hs a c _ HV.out hc hb).mono ?_
    rintro e w3 ⟨a3, c3, b3, d3, rfl, k3, m3, _, _, hc3⟩
    have hb3 : Below w.heap.size w w3 := bchain (by repeat' (first | with_reducible exact hb2 | with_reducible refine Below.drew ?_ | with_reducible refine below_drewN ?_ _ | with_reducible refine Below.alloc ?_ (by have := hb2.size; first | (simp; done) | (simp; omega) | omega) _ | with_reducible refine Below.setCell ?_ (by first | (simp; done) | (simp; omega) | omega) _)) hc3
    have hst3 : Below w2.heap.size w2 w3 := bchain (by repeat' (first | with_reducible exact Below.refl _ _ | with_reducible refine Below.drew ?_ | with_reducible refine below_drewN ?_ _ | with_reducible refine Below.alloc ?_ (by first | (simp; done) | (simp; omega) | omega) _ | with_reducible refine Below.setCell ?_ (by first | (simp; done) | (simp; omega) | omega) _)) hc3
    replace D_0 := cell_later hst3 D_0
    replace D_1 := cell_later hst3 D_1
    replace D_2 := cell_later hst3 D_2
    replace D_3 := cell_later hst3 D_3
    replace D_l := Nat.lt_of_lt_of_le D_l hst3.size
    replace hc := hc.later hst3
    clear hst3
    clear hc3 hb2
    have zD3 : w.heap.size < w3.heap.size := D_l
    go_wp2_with fail
    have k30 := k3
    have m30 := m3
    refine wp_gen fun w4 hc4 => ?_
    have hb4 : Below w.heap.size w w4 := bchain (by repeat' (first | with_reducible exact hb3 | with_reducible refine Below.drew ?_ | with_reducible refine below_drewN ?_ _ | with_reducible refine Below.alloc ?_ (by have := hb3.size; first | (simp; done) | (simp; omega) | omega) _ | with_reducible refine Below.setCell ?_ (by first | (simp; done) | (simp; omega) | omega) _)) hc4
    have hst4 : Below w3.heap.size w3 w4 := bchain (by repeat' (first | with_reducible exact Below.refl _ _ | with_reducible refine Below.drew ?_ | with_reducible refine below_drewN ?_ _ | with_reducible refine Below.alloc ?_ (by first | (simp; done) | (simp; omega) | omega) _ | with_reducible refine Below.setCell ?_ (by first | (simp; done) | (simp; omega) | omega) _)) hc4
    replace D_0 := cell_later hst4 D_0
    replace D_1 := cell_later hst4 D_1
    replace D_2 := cell_later hst4 D_2
    replace D_3 := cell_later hst4 D_3
    replace D_l := Nat.lt_of_lt_of_le D_l hst4.size
    have X_0 : w4.cell? ⟨w3.heap.size, 0, none⟩ = some (.int .i64 g) := (hc4.cell (p := ⟨w3.heap.size, 0, none⟩) (by first | (simp; done) | (simp; omega))).trans (by first | (simp; done) | go_simp)
    have X_1 : w4.cell? ⟨w3.heap.size, 1, none⟩ = some (.int .i64 (o + (run o hs : Nat))) := (hc4.cell (p := ⟨w3.heap.size, 1, none⟩) (by first | (simp; done) | (simp; omega))).trans (by first | (simp; done) | go_simp)
    have X_2 : w4.cell? ⟨w3.heap.size, 2, none⟩ = some (.int .i64 r) := (hc4.cell (p := ⟨w3.heap.size, 2, none⟩) (by first | (simp; done) | (simp; omega))).trans (by first | (simp; done) | go_simp)
    have X_3 : w4.cell? ⟨w3.heap.size, 3, none⟩ = some (.slice a3 (hs.length - run o hs) c3) := (hc4.cell (p := ⟨w3.heap.size, 3, none⟩) (by first | (simp; done) | (simp; omega))).trans (by first | (simp; done) | go_simp)
    have X_l : w3.heap.size < w4.heap.size := Nat.lt_of_lt_of_le (by first | (simp; done) | (simp; omega)) hc4.size
    have N_0 : w4.cell? ⟨w3.heap.size + 1, 0, none⟩ = some (.int .i64 g) := (hc4.cell (p := ⟨w3.heap.size + 1, 0, none⟩) (by first | (simp; done) | (simp; omega))).trans (by first | (simp; done) | go_simp)
    have N_1 : w4.cell? ⟨w3.heap.size + 1, 1, none⟩ = some (.int .i64 o) := (hc4.cell (p := ⟨w3.heap.size + 1, 1, none⟩) (by first | (simp; done) | (simp; omega))).trans (by first | (simp; done) | go_simp)
    have N_2 : w4.cell? ⟨w3.heap.size + 1, 2, none⟩ = some (.int .i64 r) := (hc4.cell (p := ⟨w3.heap.size + 1, 2, none⟩) (by first | (simp; done) | (simp; omega))).trans (by first | (simp; done) | go_simp)
    have N_3 : w4.cell? ⟨w3.heap.size + 1, 3, none⟩ = some (.slice a hs.length c) := (hc4.cell (p := ⟨w3.heap.size + 1, 3, none⟩) (by first | (simp; done) | (simp; omega))).trans (by first | (simp; done) | go_simp)
    have N_f0 : w4.frozen? ⟨w3.heap.size + 1, 0, none⟩ = false := (hc4.frozen (p := ⟨w3.heap.size + 1, 0, none⟩) (by first | (simp; done) | (simp; omega))).trans (by first | (simp; done) | go_simp)
    have N_f1 : w4.frozen? ⟨w3.heap.size + 1, 1, none⟩ = false := (hc4.frozen (p := ⟨w3.heap.size + 1, 1, none⟩) (by first | (simp; done) | (simp; omega))).trans (by first | (simp; done) | go_simp)
    have N_f2 : w4.frozen? ⟨w3.heap.size + 1, 2, none⟩ = false := (hc4.frozen (p := ⟨w3.heap.size + 1, 2, none⟩) (by first | (simp; done) | (simp; omega))).trans (by first | (simp; done) | go_simp)
    have N_f3 : w4.frozen? ⟨w3.heap.size + 1, 3, none⟩ = false := (hc4.frozen (p := ⟨w3.heap.size + 1, 3, none⟩) (by first | (simp; done) | (simp; omega))).trans (by first | (simp; done) | go_simp)
    have N_l : w3.heap.size + 1 < w4.heap.size := Nat.lt_of_lt_of_le (by first | (simp; done) | (simp; omega)) hc4.size
    replace hc := hc.later hst4
    replace k3 := k3.later hst4
    replace m3 := m3.later hst4
    clear hst4
    have zN4 : w3.heap.size + 1 < w4.heap.size := N_l
    have zD : w.heap.size < w3.heap.size + 1 := by omega
    go_loopw [8, 9] (fun v i wr => ∃ (k : Nat) (av : Option Addr) (cv : Nat) (ak : Option Addr) (ck : Nat), k ≤ run o hs ∧ v = .slice av k cv ∧ i = .int .i64 k ∧ Below (w3.heap.size + 1) w4 wr ∧ (wr.cell? ⟨w3.heap.size + 1, 0, none⟩ = some (.int .i64 g) ∧ wr.cell? ⟨w3.heap.size + 1, 1, none⟩ = some (.int .i64 (o + k)) ∧ wr.cell? ⟨w3.heap.size + 1, 2, none⟩ = some (.int .i64 r) ∧ wr.cell? ⟨w3.heap.size + 1, 3, none⟩ = some (.slice ak (hs.length - k) ck)) ∧ (wr.frozen? ⟨w3.heap.size + 1, 0, none⟩ = false ∧ wr.frozen? ⟨w3.heap.size + 1, 1, none⟩ = false ∧ wr.frozen? ⟨w3.heap.size + 1, 2, none⟩ = false ∧ wr.frozen? ⟨w3.heap.size + 1, 3, none⟩ = false) ∧ CellsAt wr ak (cel (hs.drop k)) ∧ OwnX wr w4.heap.size 38 2 (.slice av k cv) k (cel (hs.take k))) (fun _ i _ => hs.length + 1 - (intOf i).toNat)
    case atStart => exact ⟨0, none, 0, a, c, Nat.zero_le _, rfl, rfl, Below.refl _ _, ⟨N_0, by simpa using N_1, N_2, N_3⟩, ⟨N_f0, N_f1, N_f2, N_f3⟩, hc, OwnX.nil _ _ _ _⟩
    case round =>
      clear N_0 N_1 N_2 N_3 N_f0 N_f1 N_f2 N_f3
      obtain ⟨k, av, cv, ak, ck, hk, rfl, rfl, hbw, ⟨N_0, N_1, N_2, N_3⟩, ⟨N_f0, N_f1, N_f2, N_f3⟩, k1, o1⟩ := hrel
      have hbwr : Below w.heap.size w wr := hb4.trans (hbw.mono (by omega))
      replace D_0 := (hbw.cell (p := ⟨w.heap.size, 0, none⟩) (show w.heap.size < w3.heap.size + 1 by omega)).trans D_0
      replace D_1 := (hbw.cell (p := ⟨w.heap.size, 1, none⟩) (show w.heap.size < w3.heap.size + 1 by omega)).trans D_1
      replace D_2 := (hbw.cell (p := ⟨w.heap.size, 2, none⟩) (show w.heap.size < w3.heap.size + 1 by omega)).trans D_2
      replace D_3 := (hbw.cell (p := ⟨w.heap.size, 3, none⟩) (show w.heap.size < w3.heap.size + 1 by omega)).trans D_3
      replace X_0 := (hbw.cell (p := ⟨w3.heap.size, 0, none⟩) (show w3.heap.size < w3.heap.size + 1 by omega)).trans X_0
      replace X_1 := (hbw.cell (p := ⟨w3.heap.size, 1, none⟩) (show w3.heap.size < w3.heap.size + 1 by omega)).trans X_1
      replace X_2 := (hbw.cell (p := ⟨w3.heap.size, 2, none⟩) (show w3.heap.size < w3.heap.size + 1 by omega)).trans X_2
      replace X_3 := (hbw.cell (p := ⟨w3.heap.size, 3, none⟩) (show w3.heap.size < w3.heap.size + 1 by omega)).trans X_3
      replace k3 := CellsAt.past k30 (show w3.heap.size ≤ w3.heap.size + 1 by omega) k3 hbw
      replace m3 := CellsAt.past m30 (show w3.heap.size ≤ w3.heap.size + 1 by omega) m3 hbw
      clear hc
      replace D_l : w.heap.size < wr.heap.size := World.block_lt_of_cell? _ _ D_0
      replace X_l : w3.heap.size < wr.heap.size := World.block_lt_of_cell? _ _ X_0
      replace N_l : w3.heap.size + 1 < wr.heap.size := World.block_lt_of_cell? _ _ N_0
      have zN := N_l
      have hdl : hs.length - k = (hs.drop k).length := by rw [List.length_drop]
      have H_hdl := hid hdl
      clear hdl
      have hki : (k : Int) ≤ (hs.length : Int) := by omega
      by_cases hlt : k < run o hs
      · have o1w := o1
        go_wp2_with fail
        with_reducible refine (dpop_k g o r hs k ak (hs.length - k) ck _ HV.out hlt H_hdl.out k1 hb).mono ?_
        rintro e w6 ⟨a4, c4, rfl, k4, f4, hc6⟩
        have hb6 : Below w.heap.size w w6 := bchain (by repeat' (first | with_reducible exact hbwr | with_reducible refine Below.drew ?_ | with_reducible refine below_drewN ?_ _ | with_reducible refine Below.alloc ?_ (by have := hbwr.size; first | (simp; done) | (simp; omega) | omega) _ | with_reducible refine Below.setCell ?_ (by first | (simp; done) | (simp; omega) | omega) _)) hc6
        have hst6 : Below wr.heap.size wr w6 := bchain (by repeat' (first | with_reducible exact Below.refl _ _ | with_reducible refine Below.drew ?_ | with_reducible refine below_drewN ?_ _ | with_reducible refine Below.alloc ?_ (by first | (simp; done) | (simp; omega) | omega) _ | with_reducible refine Below.setCell ?_ (by first | (simp; done) | (simp; omega) | omega) _)) hc6
        replace D_0 := cell_later hst6 D_0
        replace D_1 := cell_later hst6 D_1
        replace D_2 := cell_later hst6 D_2
        replace D_3 := cell_later hst6 D_3
        replace D_l := Nat.lt_of_lt_of_le D_l hst6.size
        replace X_0 := cell_later hst6 X_0
        replace X_1 := cell_later hst6 X_1
        replace X_2 := cell_later hst6 X_2
        replace X_3 := cell_later hst6 X_3
        replace X_l := Nat.lt_of_lt_of_le X_l hst6.size
        replace N_0 := cell_later hst6 N_0
        replace N_1 := cell_later hst6 N_1
        replace N_2 := cell_later hst6 N_2
        replace N_3 := cell_later hst6 N_3
        replace N_f0 := frozen_later hst6 N_l N_f0
        replace N_f1 := frozen_later hst6 N_l N_f1
        replace N_f2 := frozen_later hst6 N_l N_f2
        replace N_f3 := frozen_later hst6 N_l N_f3
        replace N_l := Nat.lt_of_lt_of_le N_l hst6.size
        replace k3 := k3.later hst6
        replace m3 := m3.later hst6
        replace k1 := k1.later hst6
        replace o1 := o1.later hst6
        clear hst6
        obtain ⟨hcell6, hfroz6⟩ := bcell hc6
        have hz6 := hc6.size
        have hn6 : Below (w3.heap.size + 1) w4 w6 := hbw.trans (hc6.mono (by omega))
        have zz6 := hc6.size
        clear hcell6 hfroz6 hc6
        clear D_0 D_1 D_2 D_3 D_l
        clear X_0 X_1 X_2 X_3 X_l
        clear k3
        clear m3
        clear k1
        have q1 : w3.heap.size + 1 < w6.heap.size := N_l
        go_wp2_with fail
        refine wp_gen fun w7 hc7 => ?_
        have hb7 : Below w.heap.size w w7 := bchain (by repeat' (first | with_reducible exact hb6 | with_reducible refine Below.drew ?_ | with_reducible refine below_drewN ?_ _ | with_reducible refine Below.alloc ?_ (by have := hb6.size; first | (simp; done) | (simp; omega) | omega) _ | with_reducible refine Below.setCell ?_ (by first | (simp; done) | (simp; omega) | omega) _)) hc7
        have hst7 : Below w6.heap.size w6 w7 := bchain (by repeat' (first | with_reducible exact Below.refl _ _ | with_reducible refine Below.drew ?_ | with_reducible refine below_drewN ?_ _ | with_reducible refine Below.alloc ?_ (by first | (simp; done) | (simp; omega) | omega) _ | with_reducible refine Below.setCell ?_ (by first | (simp; done) | (simp; omega) | omega) _)) hc7
        replace N_0 := cell_later hst7 N_0
        replace N_1 := cell_later hst7 N_1
        replace N_2 := cell_later hst7 N_2
        replace N_3 := cell_later hst7 N_3
        replace N_f0 := frozen_later hst7 N_l N_f0
        replace N_f1 := frozen_later hst7 N_l N_f1
        replace N_f2 := frozen_later hst7 N_l N_f2
        replace N_f3 := frozen_later hst7 N_l N_f3
        replace N_l := Nat.lt_of_lt_of_le N_l hst7.size
        have A_0 : w7.cell? ⟨w6.heap.size, 0, none⟩ = some (.int .i64 g) := (hc7.cell (p := ⟨w6.heap.size, 0, none⟩) (by first | (simp; done) | (simp; omega))).trans (by first | (simp; done) | go_simp)
        have A_1 : w7.cell? ⟨w6.heap.size, 1, none⟩ = some (.int .i64 (o + (k + 1))) := (hc7.cell (p := ⟨w6.heap.size, 1, none⟩) (by first | (simp; done) | (simp; omega))).trans (by first | (simp; done) | go_simp)
        have A_2 : w7.cell? ⟨w6.heap.size, 2, none⟩ = some (.int .i64 r) := (hc7.cell (p := ⟨w6.heap.size, 2, none⟩) (by first | (simp; done) | (simp; omega))).trans (by first | (simp; done) | go_simp)
        have A_3 : w7.cell? ⟨w6.heap.size, 3, none⟩ = some (.slice a4 (hs.length - (k + 1)) c4) := (hc7.cell (p := ⟨w6.heap.size, 3, none⟩) (by first | (simp; done) | (simp; omega))).trans (by first | (simp; done) | go_simp)
        have A_f0 : w7.frozen? ⟨w6.heap.size, 0, none⟩ = false := (hc7.frozen (p := ⟨w6.heap.size, 0, none⟩) (by first | (simp; done) | (simp; omega))).trans (by first | (simp; done) | go_simp)
        have A_f1 : w7.frozen? ⟨w6.heap.size, 1, none⟩ = false := (hc7.frozen (p := ⟨w6.heap.size, 1, none⟩) (by first | (simp; done) | (simp; omega))).trans (by first | (simp; done) | go_simp)
        have A_f2 : w7.frozen? ⟨w6.heap.size, 2, none⟩ = false := (hc7.frozen (p := ⟨w6.heap.size, 2, none⟩) (by first | (simp; done) | (simp; omega))).trans (by first | (simp; done) | go_simp)
        have A_f3 : w7.frozen? ⟨w6.heap.size, 3, none⟩ = false := (hc7.frozen (p := ⟨w6.heap.size, 3, none⟩) (by first | (simp; done) | (simp; omega))).trans (by first | (simp; done) | go_simp)
        have A_l : w6.heap.size < w7.heap.size := Nat.lt_of_lt_of_le (by first | (simp; done) | (simp; omega)) hc7.size
        have S_0 : w7.cell? ⟨w6.heap.size + 1, 0, none⟩ = some (.int .i64 (o + k)) := (hc7.cell (p := ⟨w6.heap.size + 1, 0, none⟩) (by first | (simp; done) | (simp; omega))).trans (by first | (simp; done) | go_simp)
        have S_1 : w7.cell? ⟨w6.heap.size + 1, 1, none⟩ = some (.int .u64 (wg hs k)) := (hc7.cell (p := ⟨w6.heap.size + 1, 1, none⟩) (by first | (simp; done) | (simp; omega))).trans (by first | (simp; done) | go_simp)
        have S_f0 : w7.frozen? ⟨w6.heap.size + 1, 0, none⟩ = false := (hc7.frozen (p := ⟨w6.heap.size + 1, 0, none⟩) (by first | (simp; done) | (simp; omega))).trans (by first | (simp; done) | go_simp)
        have S_f1 : w7.frozen? ⟨w6.heap.size + 1, 1, none⟩ = false := (hc7.frozen (p := ⟨w6.heap.size + 1, 1, none⟩) (by first | (simp; done) | (simp; omega))).trans (by first | (simp; done) | go_simp)
        have S_l : w6.heap.size + 1 < w7.heap.size := Nat.lt_of_lt_of_le (by first | (simp; done) | (simp; omega)) hc7.size
        replace o1 := o1.later hst7
        replace k4 := k4.later hst7
        clear hst7
        have hn7 : Below (w3.heap.size + 1) w4 w7 := ((hn6.alloc (by first | (simp; done) | (simp; omega) | omega) _).alloc (by first | (simp; done) | (simp; omega) | omega) _).trans (hc7.mono (by first | (simp; done) | (simp; omega) | omega))
        have zz7 := hn7.size
        have n1 : w3.heap.size + 1 ≠ w7.heap.size := by omega
        have n3 : w6.heap.size ≠ w7.heap.size := by omega
        have n4 : w6.heap.size + 1 ≠ w7.heap.size := by omega
        have n5 : w3.heap.size + 1 ≠ w6.heap.size := by omega
        have n6 : w3.heap.size ≠ w6.heap.size := by omega
        have n7 : w6.heap.size ≠ w3.heap.size + 1 := by omega
        have n8 : w6.heap.size ≠ w3.heap.size := by omega
        have hox : (Value.slice av k cv).ownBlock ≠ some (w3.heap.size + 1) := fun e => by have := o1w.lt _ e; omega
        have p4 : ∀ ad, a4 = some ad → ad.block ≠ w3.heap.size + 1 := fun ad e => by have := f4 ad e; omega
        have p5 : ∀ ad, a4 = some ad → (Value.slice av k cv).ownBlock ≠ some ad.block := fun ad e h => by have := f4 ad e; have := o1w.lt _ h; omega
        go_region_held3 (fun w' => w'.cell? ⟨w6.heap.size, 0, none⟩ = some (.int .i64 g) ∧ w'.cell? ⟨w6.heap.size, 1, none⟩ = some (.int .i64 (o + (k + 1))) ∧ w'.cell? ⟨w6.heap.size, 2, none⟩ = some (.int .i64 r) ∧ w'.cell? ⟨w6.heap.size, 3, none⟩ = some (.slice a4 (hs.length - (k + 1)) c4) ∧ w'.cell? ⟨w6.heap.size + 1, 0, none⟩ = some (.int .i64 (o + k)) ∧ w'.cell? ⟨w6.heap.size + 1, 1, none⟩ = some (.int .u64 (wg hs k))) (first | go_keep | exact ⟨A_0a, A_1a, A_2a, A_3a, S_0a, S_1a⟩) ((first | (refine step_append_x _ (by rfl) _ _ _ (by rfl) w4.heap.size 38 i0 (.agg #[.int .i64 0, .int .u64 0]) 2 16 Try.underlying24 ii iz0 iz1 iz2 rfl (by omega) (.slice av k cv) k (cel (hs.take k)) (by rfl) ?_ (some ⟨w7.heap.size, 0, none⟩) 1 1 [.int .i64 (o + k), .int .u64 (wg hs k)] (by rfl) rfl ?_ (slip_one _ _) (by unfold maxLen; omega) (by omega) ?_ ?_; (focus (repeat' (first | with_reducible exact o1 | with_reducible refine OwnX.alloc ?_ _ | with_reducible refine OwnX.drew ?_ | with_reducible refine OwnX.setFar ?_ hox _))); (focus (repeat' (first | with_reducible refine CellsAt.setFar ?_ ?_ _ | with_reducible refine CellsAt.drew ?_ | with_reducible refine cellsAt_top ?_ | (simp; done) | (simp; omega)))); (focus (simp; omega)); intro a8 c8 w8 o8 hg8 hk8; replace hg8 : World.grownBy _ w8 (Value.slice av k cv).ownBlock := hg8; obtain ⟨hcell8, hfroz8⟩ := gcell hg8 o1w; (have A_0a : w8.cell? ⟨w6.heap.size, 0, none⟩ = some (.int .i64 g) := (hcell8 (w6.heap.size) 0 (by first | (simp; done) | (simp; omega) | omega) (.inr (by omega))).trans (by go_simp)); (have A_1a : w8.cell? ⟨w6.heap.size, 1, none⟩ = some (.int .i64 (o + (k + 1))) := (hcell8 (w6.heap.size) 1 (by first | (simp; done) | (simp; omega) | omega) (.inr (by omega))).trans (by go_simp)); (have A_2a : w8.cell? ⟨w6.heap.size, 2, none⟩ = some (.int .i64 r) := (hcell8 (w6.heap.size) 2 (by first | (simp; done) | (simp; omega) | omega) (.inr (by omega))).trans (by go_simp)); (have A_3a : w8.cell? ⟨w6.heap.size, 3, none⟩ = some (.slice a4 (hs.length - (k + 1)) c4) := (hcell8 (w6.heap.size) 3 (by first | (simp; done) | (simp; omega) | omega) (.inr (by omega))).trans (by go_simp)); (have S_0a : w8.cell? ⟨w6.heap.size + 1, 0, none⟩ = some (.int .i64 (o + k)) := (hcell8 (w6.heap.size + 1) 0 (by first | (simp; done) | (simp; omega) | omega) (.inr (by omega))).trans (by go_simp)); (have S_1a : w8.cell? ⟨w6.heap.size + 1, 1, none⟩ = some (.int .u64 (wg hs k)) := (hcell8 (w6.heap.size + 1) 1 (by first | (simp; done) | (simp; omega) | omega) (.inr (by omega))).trans (by go_simp)); (first | (have N_0a : w8.cell? ⟨w3.heap.size + 1, 0, none⟩ = some (.int .i64 g) := (hcell8 (w3.heap.size + 1) 0 (by first | (simp; done) | (simp; omega) | omega) (.inl (by omega))).trans (by go_simp)) | skip); (have N_f0a : w8.frozen? ⟨w3.heap.size + 1, 0, none⟩ = false := (hfroz8 (w3.heap.size + 1) 0 (by first | (simp; done) | (simp; omega) | omega) (.inl (by omega))).trans (by go_simp)); (first | (have N_1a : w8.cell? ⟨w3.heap.size + 1, 1, none⟩ = some (.int .i64 (o + k)) := (hcell8 (w3.heap.size + 1) 1 (by first | (simp; done) | (simp; omega) | omega) (.inl (by omega))).trans (by go_simp)) | skip); (have N_f1a : w8.frozen? ⟨w3.heap.size + 1, 1, none⟩ = false := (hfroz8 (w3.heap.size + 1) 1 (by first | (simp; done) | (simp; omega) | omega) (.inl (by omega))).trans (by go_simp)); (first | (have N_2a : w8.cell? ⟨w3.heap.size + 1, 2, none⟩ = some (.int .i64 r) := (hcell8 (w3.heap.size + 1) 2 (by first | (simp; done) | (simp; omega) | omega) (.inl (by omega))).trans (by go_simp)) | skip); (have N_f2a : w8.frozen? ⟨w3.heap.size + 1, 2, none⟩ = false := (hfroz8 (w3.heap.size + 1) 2 (by first | (simp; done) | (simp; omega) | omega) (.inl (by omega))).trans (by go_simp)); (first | (have N_3a : w8.cell? ⟨w3.heap.size + 1, 3, none⟩ = some (.slice ak (hs.length - k) ck) := (hcell8 (w3.heap.size + 1) 3 (by first | (simp; done) | (simp; omega) | omega) (.inl (by omega))).trans (by go_simp)) | skip); (have N_f3a : w8.frozen? ⟨w3.heap.size + 1, 3, none⟩ = false := (hfroz8 (w3.heap.size + 1) 3 (by first | (simp; done) | (simp; omega) | omega) (.inl (by omega))).trans (by go_simp)); (have k8 : CellsAt w8 a4 (cel (hs.drop (k + 1))) := CellsAt.grown (by repeat' (first | with_reducible exact k4 | with_reducible refine CellsAt.alloc ?_ _ | with_reducible refine CellsAt.drew ?_ | with_reducible refine CellsAt.setFarG ?_ p4 _)) hg8 p5); (have hb8 : Below (w3.heap.size + 1) w4 w8 := below_grownX (by repeat' (first | with_reducible exact hn7 | with_reducible refine Below.drew ?_ | with_reducible refine Below.alloc ?_ (by first | (simp; done) | (simp; omega) | omega) _ | with_reducible refine Below.setCell ?_ (by first | (simp; done) | (simp; omega) | omega) _)) hg8 (by simp; omega) (fun q h => by have := (o1w.lt q h).1; omega)); (have z8 := hg8.size))))
        all_goals
          clear hcell8 hfroz8
          go_wp2_with fail
          have ho8 : cel (hs.take k) ++ [.int .i64 (o + k), .int .u64 (wg hs k)] = cel (hs.take (k + 1)) := by
            rw [List.take_succ_eq_append_getElem (by omega), cel_append, hs_at (by omega), run_at hs o k hlt]; rfl
          have hox8 : (Value.slice a8 (k + 1) c8).ownBlock ≠ some (w3.heap.size + 1) := fun e => by
            rcases hk8 _ e with h | h
            · exact hox h
            · simp at h; omega
          rw [ho8] at o8
          have ecast : (o + ((k + 1 : Nat) : Int)) = o + ((k : Int) + 1) := by omega
          have H_ho8 := hid ho8
          clear ho8
          go_roundw
          case rel => exact ⟨k + 1, a8, c8, a4, c4, by omega, rfl, by go_num, by repeat' (first | with_reducible exact hb8 | with_reducible refine Below.drew ?_ | with_reducible refine Below.setCell ?_ (by first | (simp; done) | (simp; omega) | omega) _), ⟨by go_simp, by rw [ecast]; go_simp, by go_simp, by go_simp⟩, ⟨by go_simp, by go_simp, by go_simp, by go_simp⟩, by repeat' (first | with_reducible exact k8 | with_reducible refine CellsAt.drew ?_ | with_reducible refine CellsAt.setFarG ?_ p4 _), by repeat' (first | with_reducible exact o8 | with_reducible refine OwnX.drew ?_ | with_reducible refine OwnX.setFar ?_ hox8 _)⟩
          case measure => simp [intOf]; omega
      · obtain rfl : k = run o hs := by omega
        have k2 := o1.cellsAt
        clear o1
        go_wp2_with fail
        with_reducible refine (dpop_end g o r hs ak (hs.length - run o hs) ck _ HV.out H_hdl.out k1 hb).mono ?_
        rintro e w6 ⟨⟨a5, c5, rfl⟩, hc6⟩
        have hb6 : Below w.heap.size w w6 := bchain (by repeat' (first | with_reducible exact hbwr | with_reducible refine Below.drew ?_ | with_reducible refine below_drewN ?_ _ | with_reducible refine Below.alloc ?_ (by have := hbwr.size; first | (simp; done) | (simp; omega) | omega) _ | with_reducible refine Below.setCell ?_ (by first | (simp; done) | (simp; omega) | omega) _)) hc6
        have hst6 : Below wr.heap.size wr w6 := bchain (by repeat' (first | with_reducible exact Below.refl _ _ | with_reducible refine Below.drew ?_ | with_reducible refine below_drewN ?_ _ | with_reducible refine Below.alloc ?_ (by first | (simp; done) | (simp; omega) | omega) _ | with_reducible refine Below.setCell ?_ (by first | (simp; done) | (simp; omega) | omega) _)) hc6
        replace D_0 := cell_later hst6 D_0
        replace D_1 := cell_later hst6 D_1
        replace D_2 := cell_later hst6 D_2
        replace D_3 := cell_later hst6 D_3
        replace D_l := Nat.lt_of_lt_of_le D_l hst6.size
        replace X_0 := cell_later hst6 X_0
        replace X_1 := cell_later hst6 X_1
        replace X_2 := cell_later hst6 X_2
        replace X_3 := cell_later hst6 X_3
        replace X_l := Nat.lt_of_lt_of_le X_l hst6.size
        replace N_0 := cell_later hst6 N_0
        replace N_1 := cell_later hst6 N_1
        replace N_2 := cell_later hst6 N_2
        replace N_3 := cell_later hst6 N_3
        replace N_f0 := frozen_later hst6 N_l N_f0
        replace N_f1 := frozen_later hst6 N_l N_f1
        replace N_f2 := frozen_later hst6 N_l N_f2
        replace N_f3 := frozen_later hst6 N_l N_f3
        replace N_l := Nat.lt_of_lt_of_le N_l hst6.size
        replace k3 := k3.later hst6
        replace m3 := m3.later hst6
        replace k1 := k1.later hst6
        replace k2 := k2.later hst6
        clear hst6
        clear hc6 hbwr
        go_wp2_with fail
        with_reducible refine (dsame_n g (o + (run o hs : Nat)) r (hs.drop (run o hs)) (hs.length - run o hs) (hs.length - run o hs) a3 ak c3 ck _ H_hdl.out H_hdl.out (by repeat' (first | with_reducible exact k3 | with_reducible refine CellsAt.setFar ?_ ?_ _ | with_reducible refine CellsAt.alloc ?_ _ | with_reducible refine CellsAt.drew ?_ | with_reducible refine CellsAt.drewN ?_ _ | assumption | (simp; omega) | omega)) (by repeat' (first | with_reducible exact k1 | with_reducible refine CellsAt.setFar ?_ ?_ _ | with_reducible refine CellsAt.alloc ?_ _ | with_reducible refine CellsAt.drew ?_ | with_reducible refine CellsAt.drewN ?_ _ | assumption | (simp; omega) | omega)) H_hdm.out).mono ?_
        rintro e w7 ⟨rfl, hc7⟩
        have hb7 : Below w.heap.size w w7 := bchain (by repeat' (first | with_reducible exact hb6 | with_reducible refine Below.drew ?_ | with_reducible refine below_drewN ?_ _ | with_reducible refine Below.alloc ?_ (by have := hb6.size; first | (simp; done) | (simp; omega) | omega) _ | with_reducible refine Below.setCell ?_ (by first | (simp; done) | (simp; omega) | omega) _)) hc7
        have hst7 : Below w6.heap.size w6 w7 := bchain (by repeat' (first | with_reducible exact Below.refl _ _ | with_reducible refine Below.drew ?_ | with_reducible refine below_drewN ?_ _ | with_reducible refine Below.alloc ?_ (by first | (simp; done) | (simp; omega) | omega) _ | with_reducible refine Below.setCell ?_ (by first | (simp; done) | (simp; omega) | omega) _)) hc7
        replace D_0 := cell_later hst7 D_0
        replace D_1 := cell_later hst7 D_1
        replace D_2 := cell_later hst7 D_2
        replace D_3 := cell_later hst7 D_3
        replace D_l := Nat.lt_of_lt_of_le D_l hst7.size
        replace X_0 := cell_later hst7 X_0
        replace X_1 := cell_later hst7 X_1
        replace X_2 := cell_later hst7 X_2
        replace X_3 := cell_later hst7 X_3
        replace X_l := Nat.lt_of_lt_of_le X_l hst7.size
        replace N_0 := cell_later hst7 N_0
        replace N_1 := cell_later hst7 N_1
        replace N_2 := cell_later hst7 N_2
        replace N_3 := cell_later hst7 N_3
        replace N_f0 := frozen_later hst7 N_l N_f0
        replace N_f1 := frozen_later hst7 N_l N_f1
        replace N_f2 := frozen_later hst7 N_l N_f2
        replace N_f3 := frozen_later hst7 N_l N_f3
        replace N_l := Nat.lt_of_lt_of_le N_l hst7.size
        replace k3 := k3.later hst7
        replace m3 := m3.later hst7
        replace k1 := k1.later hst7
        replace k2 := k2.later hst7
        clear hst7
        clear hc7 hb6
        go_wp2_with fail
        with_reducible refine (sameSlips_r (hs.take (run o hs)) (run o hs) (run o hs) b3 av d3 cv _ H_htl.out H_htl.out m3 k2 H_htm.out).mono ?_
        rintro e w8 ⟨rfl, hc8⟩
        have hb8 : Below w.heap.size w w8 := bchain (by repeat' (first | with_reducible exact hb7 | with_reducible refine Below.drew ?_ | with_reducible refine below_drewN ?_ _ | with_reducible refine Below.alloc ?_ (by have := hb7.size; first | (simp; done) | (simp; omega) | omega) _ | with_reducible refine Below.setCell ?_ (by first | (simp; done) | (simp; omega) | omega) _)) hc8
        have hst8 : Below w7.heap.size w7 w8 := bchain (by repeat' (first | with_reducible exact Below.refl _ _ | with_reducible refine Below.drew ?_ | with_reducible refine below_drewN ?_ _ | with_reducible refine Below.alloc ?_ (by first | (simp; done) | (simp; omega) | omega) _ | with_reducible refine Below.setCell ?_ (by first | (simp; done) | (simp; omega) | omega) _)) hc8
        replace D_0 := cell_later hst8 D_0
        replace D_1 := cell_later hst8 D_1
        replace D_2 := cell_later hst8 D_2
        replace D_3 := cell_later hst8 D_3
        replace D_l := Nat.lt_of_lt_of_le D_l hst8.size
        replace X_0 := cell_later hst8 X_0
        replace X_1 := cell_later hst8 X_1
        replace X_2 := cell_later hst8 X_2
        replace X_3 := cell_later hst8 X_3
        replace X_l := Nat.lt_of_lt_of_le X_l hst8.size
        replace N_0 := cell_later hst8 N_0
        replace N_1 := cell_later hst8 N_1
        replace N_2 := cell_later hst8 N_2
        replace N_3 := cell_later hst8 N_3
        replace N_f0 := frozen_later hst8 N_l N_f0
        replace N_f1 := frozen_later hst8 N_l N_f1
        replace N_f2 := frozen_later hst8 N_l N_f2
        replace N_f3 := frozen_later hst8 N_l N_f3
        replace N_l := Nat.lt_of_lt_of_le N_l hst8.size
        replace k3 := k3.later hst8
        replace m3 := m3.later hst8
        replace k1 := k1.later hst8
        replace k2 := k2.later hst8
        clear hst8
        clear hc8 hb7
        go_wp2_with fail
        with_reducible refine (at_n g (o + (run o hs : Nat)) r (o + (run o hs : Nat)) (hs.drop (run o hs)) a3 (hs.length - run o hs) c3 _ H_hdl.out k3 H_hdm.out).mono ?_
        rintro e w9 ⟨rfl, hc9⟩
        have hb9 : Below w.heap.size w w9 := bchain (by repeat' (first | with_reducible exact hb8 | with_reducible refine Below.drew ?_ | with_reducible refine below_drewN ?_ _ | with_reducible refine Below.alloc ?_ (by have := hb8.size; first | (simp; done) | (simp; omega) | omega) _ | with_reducible refine Below.setCell ?_ (by first | (simp; done) | (simp; omega) | omega) _)) hc9
        have hst9 : Below w8.heap.size w8 w9 := bchain (by repeat' (first | with_reducible exact Below.refl _ _ | with_reducible refine Below.drew ?_ | with_reducible refine below_drewN ?_ _ | with_reducible refine Below.alloc ?_ (by first | (simp; done) | (simp; omega) | omega) _ | with_reducible refine Below.setCell ?_ (by first | (simp; done) | (simp; omega) | omega) _)) hc9
        replace D_0 := cell_later hst9 D_0
        replace D_1 := cell_later hst9 D_1
        replace D_2 := cell_later hst9 D_2
        replace D_3 := cell_later hst9 D_3
        replace D_l := Nat.lt_of_lt_of_le D_l hst9.size
        replace X_0 := cell_later hst9 X_0
        replace X_1 := cell_later hst9 X_1
        replace X_2 := cell_later hst9 X_2
        replace X_3 := cell_later hst9 X_3
        replace X_l := Nat.lt_of_lt_of_le X_l hst9.size
        replace N_0 := cell_later hst9 N_0
        replace N_1 := cell_later hst9 N_1
        replace N_2 := cell_later hst9 N_2
        replace N_3 := cell_later hst9 N_3
        replace N_f0 := frozen_later hst9 N_l N_f0
        replace N_f1 := frozen_later hst9 N_l N_f1
        replace N_f2 := frozen_later hst9 N_l N_f2
        replace N_f3 := frozen_later hst9 N_l N_f3
        replace N_l := Nat.lt_of_lt_of_le N_l hst9.size
        replace k3 := k3.later hst9
        replace m3 := m3.later hst9
        replace k1 := k1.later hst9
        replace k2 := k2.later hst9
        clear hst9
        clear hc9 hb8
        rw [H_hat.out]
        have hcast : (hs.length : Int) - ((run o hs : Nat) : Int) = ((hs.length - run o hs : Nat) : Int) := by omega
        go_wp2_with fail
        go_ret
        exact ⟨rfl, by repeat' (first | with_reducible exact hb9 | with_reducible refine Below.drew ?_ | with_reducible refine below_drewN ?_ _ | with_reducible refine Below.alloc ?_ (by have := hb9.size; first | (simp; done) | (simp; omega) | omega) _ | with_reducible refine Below.setCell ?_ (by first | (simp; done) | (simp; omega) | omega) _)⟩
  · have Hh8 := hid h8
    clear h8
    go_enter Try.func7, Try.ntmps7
    have hb0 := Below.refl w.heap.size w
    go_wp2_with fail
    with_reducible refine (alive_any _).mono ?_
    rintro e w1 ⟨rfl, hc1⟩
    have hb1 : Below w.heap.size w w1 := bchain (by repeat' (first | with_reducible exact hb0 | with_reducible refine Below.drew ?_ | with_reducible refine below_drewN ?_ _ | with_reducible refine Below.alloc ?_ (by have := hb0.size; first | (simp; done) | (simp; omega) | omega) _ | with_reducible refine Below.setCell ?_ (by first | (simp; done) | (simp; omega) | omega) _)) hc1
    have hst1 : Below w.heap.size w w1 := bchain (by repeat' (first | with_reducible exact Below.refl _ _ | with_reducible refine Below.drew ?_ | with_reducible refine below_drewN ?_ _ | with_reducible refine Below.alloc ?_ (by first | (simp; done) | (simp; omega) | omega) _ | with_reducible refine Below.setCell ?_ (by first | (simp; done) | (simp; omega) | omega) _)) hc1
    have D_0 : w1.cell? ⟨w.heap.size, 0, none⟩ = some (.int .i64 g) := (hc1.cell (p := ⟨w.heap.size, 0, none⟩) (by first | (simp; done) | (simp; omega))).trans (by first | (simp; done) | go_simp)
    have D_1 : w1.cell? ⟨w.heap.size, 1, none⟩ = some (.int .i64 o) := (hc1.cell (p := ⟨w.heap.size, 1, none⟩) (by first | (simp; done) | (simp; omega))).trans (by first | (simp; done) | go_simp)
    have D_2 : w1.cell? ⟨w.heap.size, 2, none⟩ = some (.int .i64 r) := (hc1.cell (p := ⟨w.heap.size, 2, none⟩) (by first | (simp; done) | (simp; omega))).trans (by first | (simp; done) | go_simp)
    have D_3 : w1.cell? ⟨w.heap.size, 3, none⟩ = some (.slice a hs.length c) := (hc1.cell (p := ⟨w.heap.size, 3, none⟩) (by first | (simp; done) | (simp; omega))).trans (by first | (simp; done) | go_simp)
    have D_l : w.heap.size < w1.heap.size := Nat.lt_of_lt_of_le (by first | (simp; done) | (simp; omega)) hc1.size
    replace hc := hc.later hst1
    clear hst1
    clear hc1 hb0
    go_wp2_with fail
    with_reducible refine (rdcheck_any g o r hs a c _ hc Hml.out).mono ?_
    rintro e w2 ⟨rfl, hc2⟩
    have hb2 : Below w.heap.size w w2 := bchain (by repeat' (first | with_reducible exact hb1 | with_reducible refine Below.drew ?_ | with_reducible refine below_drewN ?_ _ | with_reducible refine Below.alloc ?_ (by have := hb1.size; first | (simp; done) | (simp; omega) | omega) _ | with_reducible refine Below.setCell ?_ (by first | (simp; done) | (simp; omega) | omega) _)) hc2
    have hst2 : Below w1.heap.size w1 w2 := bchain (by repeat' (first | with_reducible exact Below.refl _ _ | with_reducible refine Below.drew ?_ | with_reducible refine below_drewN ?_ _ | with_reducible refine Below.alloc ?_ (by first | (simp; done) | (simp; omega) | omega) _ | with_reducible refine Below.setCell ?_ (by first | (simp; done) | (simp; omega) | omega) _)) hc2
    replace D_0 := cell_later hst2 D_0
    replace D_1 := cell_later hst2 D_1
    replace D_2 := cell_later hst2 D_2
    replace D_3 := cell_later hst2 D_3
    replace D_l := Nat.lt_of_lt_of_le D_l hst2.size
    replace hc := hc.later hst2
    clear hst2
    clear hc2 hb1
    rw [Hh8.out]
    go_wp2_with fail
    go_ret
    exact ⟨rfl, by repeat' (first | with_reducible exact hb2 | with_reducible refine Below.drew ?_ | with_reducible refine below_drewN ?_ _ | with_reducible refine Below.alloc ?_ (by have := hb2.size; first | (simp; done) | (simp; omega) | omega) _ | with_reducible refine Below.setCell ?_ (by first | (simp; done) | (simp; omega) | omega) _)⟩

theorem drains_full (g o r : Int) (hs : Slips) (a : Option Addr) (c : Nat) (w : World) (h1 : DeskIn w g o r hs a) :
    Calls Try.prog 7 #[.agg #[.int .i64 g, .int .i64 o, .int .i64 r, .slice a hs.length c]] w fun e w' =>
      e = .returned (.bool true) ∧ Below w.heap.size w w' :=
  drains_walk g o r hs a c w h1.cells h1.len

end Go.Proofs.Ytpfldkcbkolgnaa
