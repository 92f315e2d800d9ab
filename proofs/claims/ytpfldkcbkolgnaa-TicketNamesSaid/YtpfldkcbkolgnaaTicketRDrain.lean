/- What the reference's Drain returns. -/
import Derived.Test.YtpfldkcbkolgnaaTicketRPut
import Derived.Deep.RegionHeld3
namespace Go.Proofs.Ytpfldkcbkolgnaa
set_option linter.unusedSimpArgs false
set_option linter.unusedVariables false
set_option linter.unnecessarySimpa false
open Go.RowKit

theorem at_n (g o r t : Int) (hs : Slips) (a : Option Addr) (n c : Nat) (w : World) (hn : n = hs.length) (hc : CellsAt w a (cel hs)) (hml : hs.length ≤ maxLen) :
    Calls Try.prog 26 #[.agg #[.int .i64 g, .int .i64 o, .int .i64 r, .slice a n c], .int .i64 t] w fun e w' =>
      e = .returned (.int .i64 (atI t hs)) ∧ Below w.heap.size w w' := by
  subst hn; exact at_any g o r t hs a c w hc hml
theorem rdpop_k (g o r : Int) (hs : Slips) (k : Nat) (a : Option Addr) (n c : Nat) (w : World) (V : DV g o r hs) (hk : k < run o hs) (hn : n = (hs.drop k).length) (hc : CellsAt w a (cel (hs.drop k))) (hb : hs.length ≤ 8796093022206) :
    Calls Try.prog 22 #[.agg #[.int .i64 g, .int .i64 (o + k), .int .i64 r, .slice a n c]] w fun e w' =>
      ∃ a' c', e = .returned (.tuple #[.agg #[.int .i64 g, .int .i64 (o + (k + 1 : Nat)), .int .i64 r, .slice a' (hs.length - (k + 1)) c'], .agg #[.int .i64 (o + k), .int .u64 (wg hs k)], .int .i64 0]) ∧ CellsAt w' a' (cel (hs.drop (k + 1))) ∧ Fresh w.heap.size a' ∧ Below w.heap.size w w' := by
  subst hn
  refine (rdpop_any g (o + k) r (hs.drop k) a c w hc (by rw [List.length_drop]; omega)).mono fun e w' ⟨⟨a', c', h1, h2, h3⟩, h4⟩ => ?_
  rw [pop_at V hk] at h1 h2
  simp only [List.length_drop] at h1
  exact ⟨a', c', h1, h2, h3, h4⟩
theorem cellsAt_top {w : World} {n : Nat} {xs : List Value} {t : TypeId} (h : w.heap.size = n) : CellsAt (w.alloc (.cells xs.toArray t)) (some ⟨n, 0, none⟩) xs := by
  subst h
  exact cellsAt_blk (heap_alloc_new w _)
def sliceLen : Value → Nat
  | .slice _ n _ => n
  | _ => 0

set_option maxHeartbeats 4000000 in
theorem rddrain_any (g o r : Int) (hs : Slips) (a : Option Addr) (c : Nat) (w : World) (hc : CellsAt w a (cel hs)) (hb : hs.length ≤ 8796093022206) :
    Calls Try.prog 23 #[.agg #[.int .i64 g, .int .i64 o, .int .i64 r, .slice a hs.length c]] w fun e w' =>
      RetDL w.heap.size w' e (dDrain ⟨g, o, r, hs⟩) ∧ Below w.heap.size w w' := by
  obtain ⟨i0, ii, iz0, iz1, iz2⟩ := info_parts info_slip
  have Hml := hid (show hs.length ≤ maxLen from by unfold maxLen; omega)
  rcases dErr_cases g o r hs with h8 | h8
  · have he : ((⟨g, o + (run o hs : Nat), r, hs.drop (run o hs)⟩, hs.take (run o hs), (0 : Int)) : Dk × Slips × Int) = dDrain ⟨g, o, r, hs⟩ := by unfold dDrain Dk.err; rw [if_pos h8]
    have HV := hid (DV.of h8)
    have hg1 := (DV.of h8).o1
    have hg2 := (DV.of h8).o2
    have hg3 := (DV.of h8).g1
    have hlen : hs.length - run o hs = (hs.drop (run o hs)).length := by rw [List.length_drop]
    have htl : run o hs = (hs.take (run o hs)).length := by have := run_le hs o; rw [List.length_take]; omega
    have hrl := run_le hs o
    have H_he := hid he
    have H_h8 := hid h8
    have H_hlen := hid hlen
    have H_htl := hid htl
    clear he h8 hlen htl
    go_enter Try.func23, Try.ntmps23
    have hb0 := Below.refl w.heap.size w
    go_wp2_with fail
    with_reducible refine (rdcheck_any g o r hs a c _ ((hc.alloc _).alloc _) Hml.out).mono ?_
    rintro e w1 ⟨rfl, hc1⟩
    have hb1 : Below w.heap.size w w1 := bchain (by repeat' (first | with_reducible exact hb0 | with_reducible refine Below.drew ?_ | with_reducible refine below_drewN ?_ _ | with_reducible refine Below.alloc ?_ (by have := hb0.size; first | (simp; done) | (simp; omega) | omega) _ | with_reducible refine Below.setCell ?_ (by first | (simp; done) | (simp; omega) | omega) _)) hc1
    have hst1 : Below w.heap.size w w1 := bchain (by repeat' (first | with_reducible exact Below.refl _ _ | with_reducible refine Below.drew ?_ | with_reducible refine below_drewN ?_ _ | with_reducible refine Below.alloc ?_ (by first | (simp; done) | (simp; omega) | omega) _ | with_reducible refine Below.setCell ?_ (by first | (simp; done) | (simp; omega) | omega) _)) hc1
    have D_0 : w1.cell? ⟨w.heap.size, 0, none⟩ = some (.int .i64 g) := (hc1.cell (p := ⟨w.heap.size, 0, none⟩) (by first | (simp; done) | (simp; omega))).trans (by first | (simp; done) | go_simp)
    have D_1 : w1.cell? ⟨w.heap.size, 1, none⟩ = some (.int .i64 o) := (hc1.cell (p := ⟨w.heap.size, 1, none⟩) (by first | (simp; done) | (simp; omega))).trans (by first | (simp; done) | go_simp)
    have D_2 : w1.cell? ⟨w.heap.size, 2, none⟩ = some (.int .i64 r) := (hc1.cell (p := ⟨w.heap.size, 2, none⟩) (by first | (simp; done) | (simp; omega))).trans (by first | (simp; done) | go_simp)
    have D_3 : w1.cell? ⟨w.heap.size, 3, none⟩ = some (.slice a hs.length c) := (hc1.cell (p := ⟨w.heap.size, 3, none⟩) (by first | (simp; done) | (simp; omega))).trans (by first | (simp; done) | go_simp)
    have D_l : w.heap.size < w1.heap.size := Nat.lt_of_lt_of_le (by first | (simp; done) | (simp; omega)) hc1.size
    have E_0 : w1.cell? ⟨w.heap.size + 1, 0, none⟩ = some (.int .i64 0) := (hc1.cell (p := ⟨w.heap.size + 1, 0, none⟩) (by first | (simp; done) | (simp; omega))).trans (by first | (simp; done) | go_simp)
    have E_1 : w1.cell? ⟨w.heap.size + 1, 1, none⟩ = some (.int .i64 0) := (hc1.cell (p := ⟨w.heap.size + 1, 1, none⟩) (by first | (simp; done) | (simp; omega))).trans (by first | (simp; done) | go_simp)
    have E_2 : w1.cell? ⟨w.heap.size + 1, 2, none⟩ = some (.int .i64 0) := (hc1.cell (p := ⟨w.heap.size + 1, 2, none⟩) (by first | (simp; done) | (simp; omega))).trans (by first | (simp; done) | go_simp)
    have E_3 : w1.cell? ⟨w.heap.size + 1, 3, none⟩ = some (.slice none 0 0) := (hc1.cell (p := ⟨w.heap.size + 1, 3, none⟩) (by first | (simp; done) | (simp; omega))).trans (by first | (simp; done) | go_simp)
    have E_f0 : w1.frozen? ⟨w.heap.size + 1, 0, none⟩ = false := (hc1.frozen (p := ⟨w.heap.size + 1, 0, none⟩) (by first | (simp; done) | (simp; omega))).trans (by first | (simp; done) | go_simp)
    have E_f1 : w1.frozen? ⟨w.heap.size + 1, 1, none⟩ = false := (hc1.frozen (p := ⟨w.heap.size + 1, 1, none⟩) (by first | (simp; done) | (simp; omega))).trans (by first | (simp; done) | go_simp)
    have E_f2 : w1.frozen? ⟨w.heap.size + 1, 2, none⟩ = false := (hc1.frozen (p := ⟨w.heap.size + 1, 2, none⟩) (by first | (simp; done) | (simp; omega))).trans (by first | (simp; done) | go_simp)
    have E_f3 : w1.frozen? ⟨w.heap.size + 1, 3, none⟩ = false := (hc1.frozen (p := ⟨w.heap.size + 1, 3, none⟩) (by first | (simp; done) | (simp; omega))).trans (by first | (simp; done) | go_simp)
    have E_l : w.heap.size + 1 < w1.heap.size := Nat.lt_of_lt_of_le (by first | (simp; done) | (simp; omega)) hc1.size
    replace hc := hc.later hst1
    clear hst1
    clear hc1 hb0
    rw [H_h8.out]
    have z1 := E_l
    go_wp2_with fail
    with_reducible refine (rdtwin_any g o r hs a c _ hc (by omega)).mono ?_
    rintro e w2 ⟨a1, c1, rfl, o1, hc2⟩
    have hb2 : Below w.heap.size w w2 := bchain (by repeat' (first | with_reducible exact hb1 | with_reducible refine Below.drew ?_ | with_reducible refine below_drewN ?_ _ | with_reducible refine Below.alloc ?_ (by have := hb1.size; first | (simp; done) | (simp; omega) | omega) _ | with_reducible refine Below.setCell ?_ (by first | (simp; done) | (simp; omega) | omega) _)) hc2
    have hst2 : Below w1.heap.size w1 w2 := bchain (by repeat' (first | with_reducible exact Below.refl _ _ | with_reducible refine Below.drew ?_ | with_reducible refine below_drewN ?_ _ | with_reducible refine Below.alloc ?_ (by first | (simp; done) | (simp; omega) | omega) _ | with_reducible refine Below.setCell ?_ (by first | (simp; done) | (simp; omega) | omega) _)) hc2
    replace D_0 := cell_later hst2 D_0
    replace D_1 := cell_later hst2 D_1
    replace D_2 := cell_later hst2 D_2
    replace D_3 := cell_later hst2 D_3
    replace D_l := Nat.lt_of_lt_of_le D_l hst2.size
    replace E_0 := cell_later hst2 E_0
    replace E_1 := cell_later hst2 E_1
    replace E_2 := cell_later hst2 E_2
    replace E_3 := cell_later hst2 E_3
    replace E_f0 := frozen_later hst2 E_l E_f0
    replace E_f1 := frozen_later hst2 E_l E_f1
    replace E_f2 := frozen_later hst2 E_l E_f2
    replace E_f3 := frozen_later hst2 E_l E_f3
    replace E_l := Nat.lt_of_lt_of_le E_l hst2.size
    replace hc := hc.later hst2
    clear hst2
    clear hc2 hb1
    have k1 := o1.cellsAt
    have p0 : ∀ ad, a1 = some ad → ad.block ≠ w2.heap.size := fun ad e => by have := (o1.addr ad e).2; omega
    have p7 : ∀ ad, a1 = some ad → ad.block ≠ w.heap.size + 1 := fun ad e => by have := (o1.addr ad e).1; omega
    have f1 : Fresh w.heap.size a1 := fun ad e => by have := (o1.addr ad e).1; omega
    have z2 := E_l
    clear o1
    clear hc
    clear D_0 D_1 D_2 D_3 D_l
    go_wp2_with fail
    go_loopw [6] (fun v wr => ∃ (k : Nat) (av : Option Addr) (cv : Nat) (ak : Option Addr) (ck : Nat), k ≤ run o hs ∧ v = .slice av k cv ∧ Below w.heap.size w wr ∧ (wr.cell? ⟨w2.heap.size, 0, none⟩ = some (.int .i64 g) ∧ wr.cell? ⟨w2.heap.size, 1, none⟩ = some (.int .i64 (o + k)) ∧ wr.cell? ⟨w2.heap.size, 2, none⟩ = some (.int .i64 r) ∧ wr.cell? ⟨w2.heap.size, 3, none⟩ = some (.slice ak (hs.length - k) ck)) ∧ (wr.frozen? ⟨w2.heap.size, 0, none⟩ = false ∧ wr.frozen? ⟨w2.heap.size, 1, none⟩ = false ∧ wr.frozen? ⟨w2.heap.size, 2, none⟩ = false ∧ wr.frozen? ⟨w2.heap.size, 3, none⟩ = false) ∧ (wr.cell? ⟨w.heap.size + 1, 0, none⟩ = some (.int .i64 0) ∧ wr.cell? ⟨w.heap.size + 1, 1, none⟩ = some (.int .i64 0) ∧ wr.cell? ⟨w.heap.size + 1, 2, none⟩ = some (.int .i64 0) ∧ wr.cell? ⟨w.heap.size + 1, 3, none⟩ = some (.slice none 0 0)) ∧ (wr.frozen? ⟨w.heap.size + 1, 0, none⟩ = false ∧ wr.frozen? ⟨w.heap.size + 1, 1, none⟩ = false ∧ wr.frozen? ⟨w.heap.size + 1, 2, none⟩ = false ∧ wr.frozen? ⟨w.heap.size + 1, 3, none⟩ = false) ∧ CellsAt wr ak (cel (hs.drop k)) ∧ (∀ ad, ak = some ad → ad.block ≠ w2.heap.size) ∧ (∀ ad, ak = some ad → ad.block ≠ w.heap.size + 1) ∧ Fresh w.heap.size ak ∧ OwnX wr (w2.heap.size + 1) 38 2 (.slice av k cv) k (cel (hs.take k))) (fun v _ => hs.length - sliceLen v)
    case atStart => exact ⟨0, none, 0, a1, c1, Nat.zero_le _, rfl, (by repeat' (first | with_reducible exact hb2 | with_reducible refine Below.drew ?_ | with_reducible refine below_drewN ?_ _ | with_reducible refine Below.alloc ?_ (by have := hb2.size; first | (simp; done) | (simp; omega) | omega) _ | with_reducible refine Below.setCell ?_ (by first | (simp; done) | (simp; omega) | omega) _)), ⟨by go_simp, by go_simp, by go_simp, by go_simp⟩, ⟨by go_simp, by go_simp, by go_simp, by go_simp⟩, ⟨by go_simp, by go_simp, by go_simp, by go_simp⟩, ⟨by go_simp, by go_simp, by go_simp, by go_simp⟩, k1.alloc _, p0, p7, f1, OwnX.nil _ _ _ _⟩
    case round =>
      clear E_0 E_1 E_2 E_3 E_f0 E_f1 E_f2 E_f3 E_l k1 p0 p7 f1
      obtain ⟨k, av, cv, ak, ck, hk, rfl, hbw, ⟨X_0, X_1, X_2, X_3⟩, ⟨X_f0, X_f1, X_f2, X_f3⟩, ⟨E_0, E_1, E_2, E_3⟩, ⟨E_f0, E_f1, E_f2, E_f3⟩, k1, p0, p7, f1, o1⟩ := hrel
      have y1 : w2.heap.size < wr.heap.size := World.block_lt_of_cell? _ _ X_0
      have y2 : w.heap.size + 1 < wr.heap.size := World.block_lt_of_cell? _ _ E_0
      have hdl : hs.length - k = (hs.drop k).length := by rw [List.length_drop]
      have hdm : (hs.drop k).length ≤ maxLen := by have := Hml.out; rw [List.length_drop]; omega
      have H_hdl := hid hdl
      have H_hdm := hid hdm
      clear hdl hdm
      have X_l := y1
      have E_l := y2
      by_cases hlt : k < run o hs
      · have hat : atI (o + k) (hs.drop k) = 0 := atI_zero (by rw [List.length_drop]; omega) (by rw [(tg_drop hs k).1]; exact run_at hs o k hlt)
        have H_hat := hid hat
        clear hat
        have o1w := o1
        go_wp2_with fail
        with_reducible refine (at_n g (o + k) r (o + k) (hs.drop k) ak (hs.length - k) ck _ H_hdl.out k1 H_hdm.out).mono ?_
        rintro e w3 ⟨rfl, hc3⟩
        have hb3 : Below w.heap.size w w3 := bchain (by repeat' (first | with_reducible exact hbw | with_reducible refine Below.drew ?_ | with_reducible refine below_drewN ?_ _ | with_reducible refine Below.alloc ?_ (by have := hbw.size; first | (simp; done) | (simp; omega) | omega) _ | with_reducible refine Below.setCell ?_ (by first | (simp; done) | (simp; omega) | omega) _)) hc3
        have hst3 : Below wr.heap.size wr w3 := bchain (by repeat' (first | with_reducible exact Below.refl _ _ | with_reducible refine Below.drew ?_ | with_reducible refine below_drewN ?_ _ | with_reducible refine Below.alloc ?_ (by first | (simp; done) | (simp; omega) | omega) _ | with_reducible refine Below.setCell ?_ (by first | (simp; done) | (simp; omega) | omega) _)) hc3
        replace X_0 := cell_later hst3 X_0
        replace X_1 := cell_later hst3 X_1
        replace X_2 := cell_later hst3 X_2
        replace X_3 := cell_later hst3 X_3
        replace X_f0 := frozen_later hst3 X_l X_f0
        replace X_f1 := frozen_later hst3 X_l X_f1
        replace X_f2 := frozen_later hst3 X_l X_f2
        replace X_f3 := frozen_later hst3 X_l X_f3
        replace X_l := Nat.lt_of_lt_of_le X_l hst3.size
        replace E_0 := cell_later hst3 E_0
        replace E_1 := cell_later hst3 E_1
        replace E_2 := cell_later hst3 E_2
        replace E_3 := cell_later hst3 E_3
        replace E_f0 := frozen_later hst3 E_l E_f0
        replace E_f1 := frozen_later hst3 E_l E_f1
        replace E_f2 := frozen_later hst3 E_l E_f2
        replace E_f3 := frozen_later hst3 E_l E_f3
        replace E_l := Nat.lt_of_lt_of_le E_l hst3.size
        replace k1 := k1.later hst3
        replace o1 := o1.later hst3
        clear hst3
        obtain ⟨hcell3, hfroz3⟩ := bcell hc3
        have hz3 := hc3.size
        clear hcell3 hfroz3 hc3
        rw [H_hat.out]
        go_wp2_with fail
        with_reducible refine (rdpop_k g o r hs k ak (hs.length - k) ck _ HV.out hlt H_hdl.out k1 hb).mono ?_
        rintro e w4 ⟨a4, c4, rfl, k4, f4, hc4⟩
        have hb4 : Below w.heap.size w w4 := bchain (by repeat' (first | with_reducible exact hb3 | with_reducible refine Below.drew ?_ | with_reducible refine below_drewN ?_ _ | with_reducible refine Below.alloc ?_ (by have := hb3.size; first | (simp; done) | (simp; omega) | omega) _ | with_reducible refine Below.setCell ?_ (by first | (simp; done) | (simp; omega) | omega) _)) hc4
        have hst4 : Below w3.heap.size w3 w4 := bchain (by repeat' (first | with_reducible exact Below.refl _ _ | with_reducible refine Below.drew ?_ | with_reducible refine below_drewN ?_ _ | with_reducible refine Below.alloc ?_ (by first | (simp; done) | (simp; omega) | omega) _ | with_reducible refine Below.setCell ?_ (by first | (simp; done) | (simp; omega) | omega) _)) hc4
        replace X_0 := cell_later hst4 X_0
        replace X_1 := cell_later hst4 X_1
        replace X_2 := cell_later hst4 X_2
        replace X_3 := cell_later hst4 X_3
        replace X_f0 := frozen_later hst4 X_l X_f0
        replace X_f1 := frozen_later hst4 X_l X_f1
        replace X_f2 := frozen_later hst4 X_l X_f2
        replace X_f3 := frozen_later hst4 X_l X_f3
        replace X_l := Nat.lt_of_lt_of_le X_l hst4.size
        replace E_0 := cell_later hst4 E_0
        replace E_1 := cell_later hst4 E_1
        replace E_2 := cell_later hst4 E_2
        replace E_3 := cell_later hst4 E_3
        replace E_f0 := frozen_later hst4 E_l E_f0
        replace E_f1 := frozen_later hst4 E_l E_f1
        replace E_f2 := frozen_later hst4 E_l E_f2
        replace E_f3 := frozen_later hst4 E_l E_f3
        replace E_l := Nat.lt_of_lt_of_le E_l hst4.size
        replace k1 := k1.later hst4
        replace o1 := o1.later hst4
        clear hst4
        obtain ⟨hcell4, hfroz4⟩ := bcell hc4
        have hz4 := hc4.size
        clear hcell4 hfroz4 hc4
        clear k1
        have q1 : w2.heap.size < w4.heap.size := X_l
        have q2 : w.heap.size + 1 < w4.heap.size := E_l
        go_wp2_with fail
        refine wp_gen fun w5 hc5 => ?_
        have hb5 : Below w.heap.size w w5 := bchain (by repeat' (first | with_reducible exact hb4 | with_reducible refine Below.drew ?_ | with_reducible refine below_drewN ?_ _ | with_reducible refine Below.alloc ?_ (by have := hb4.size; first | (simp; done) | (simp; omega) | omega) _ | with_reducible refine Below.setCell ?_ (by first | (simp; done) | (simp; omega) | omega) _)) hc5
        have hst5 : Below w4.heap.size w4 w5 := bchain (by repeat' (first | with_reducible exact Below.refl _ _ | with_reducible refine Below.drew ?_ | with_reducible refine below_drewN ?_ _ | with_reducible refine Below.alloc ?_ (by first | (simp; done) | (simp; omega) | omega) _ | with_reducible refine Below.setCell ?_ (by first | (simp; done) | (simp; omega) | omega) _)) hc5
        replace X_0 := cell_later hst5 X_0
        replace X_1 := cell_later hst5 X_1
        replace X_2 := cell_later hst5 X_2
        replace X_3 := cell_later hst5 X_3
        replace X_f0 := frozen_later hst5 X_l X_f0
        replace X_f1 := frozen_later hst5 X_l X_f1
        replace X_f2 := frozen_later hst5 X_l X_f2
        replace X_f3 := frozen_later hst5 X_l X_f3
        replace X_l := Nat.lt_of_lt_of_le X_l hst5.size
        replace E_0 := cell_later hst5 E_0
        replace E_1 := cell_later hst5 E_1
        replace E_2 := cell_later hst5 E_2
        replace E_3 := cell_later hst5 E_3
        replace E_f0 := frozen_later hst5 E_l E_f0
        replace E_f1 := frozen_later hst5 E_l E_f1
        replace E_f2 := frozen_later hst5 E_l E_f2
        replace E_f3 := frozen_later hst5 E_l E_f3
        replace E_l := Nat.lt_of_lt_of_le E_l hst5.size
        have A_0 : w5.cell? ⟨w4.heap.size, 0, none⟩ = some (.int .i64 g) := (hc5.cell (p := ⟨w4.heap.size, 0, none⟩) (by first | (simp; done) | (simp; omega))).trans (by first | (simp; done) | go_simp)
        have A_1 : w5.cell? ⟨w4.heap.size, 1, none⟩ = some (.int .i64 (o + (k + 1))) := (hc5.cell (p := ⟨w4.heap.size, 1, none⟩) (by first | (simp; done) | (simp; omega))).trans (by first | (simp; done) | go_simp)
        have A_2 : w5.cell? ⟨w4.heap.size, 2, none⟩ = some (.int .i64 r) := (hc5.cell (p := ⟨w4.heap.size, 2, none⟩) (by first | (simp; done) | (simp; omega))).trans (by first | (simp; done) | go_simp)
        have A_3 : w5.cell? ⟨w4.heap.size, 3, none⟩ = some (.slice a4 (hs.length - (k + 1)) c4) := (hc5.cell (p := ⟨w4.heap.size, 3, none⟩) (by first | (simp; done) | (simp; omega))).trans (by first | (simp; done) | go_simp)
        have A_f0 : w5.frozen? ⟨w4.heap.size, 0, none⟩ = false := (hc5.frozen (p := ⟨w4.heap.size, 0, none⟩) (by first | (simp; done) | (simp; omega))).trans (by first | (simp; done) | go_simp)
        have A_f1 : w5.frozen? ⟨w4.heap.size, 1, none⟩ = false := (hc5.frozen (p := ⟨w4.heap.size, 1, none⟩) (by first | (simp; done) | (simp; omega))).trans (by first | (simp; done) | go_simp)
        have A_f2 : w5.frozen? ⟨w4.heap.size, 2, none⟩ = false := (hc5.frozen (p := ⟨w4.heap.size, 2, none⟩) (by first | (simp; done) | (simp; omega))).trans (by first | (simp; done) | go_simp)
        have A_f3 : w5.frozen? ⟨w4.heap.size, 3, none⟩ = false := (hc5.frozen (p := ⟨w4.heap.size, 3, none⟩) (by first | (simp; done) | (simp; omega))).trans (by first | (simp; done) | go_simp)
        have A_l : w4.heap.size < w5.heap.size := Nat.lt_of_lt_of_le (by first | (simp; done) | (simp; omega)) hc5.size
        have S_0 : w5.cell? ⟨w4.heap.size + 1, 0, none⟩ = some (.int .i64 (o + k)) := (hc5.cell (p := ⟨w4.heap.size + 1, 0, none⟩) (by first | (simp; done) | (simp; omega))).trans (by first | (simp; done) | go_simp)
        have S_1 : w5.cell? ⟨w4.heap.size + 1, 1, none⟩ = some (.int .u64 (wg hs k)) := (hc5.cell (p := ⟨w4.heap.size + 1, 1, none⟩) (by first | (simp; done) | (simp; omega))).trans (by first | (simp; done) | go_simp)
        have S_f0 : w5.frozen? ⟨w4.heap.size + 1, 0, none⟩ = false := (hc5.frozen (p := ⟨w4.heap.size + 1, 0, none⟩) (by first | (simp; done) | (simp; omega))).trans (by first | (simp; done) | go_simp)
        have S_f1 : w5.frozen? ⟨w4.heap.size + 1, 1, none⟩ = false := (hc5.frozen (p := ⟨w4.heap.size + 1, 1, none⟩) (by first | (simp; done) | (simp; omega))).trans (by first | (simp; done) | go_simp)
        have S_l : w4.heap.size + 1 < w5.heap.size := Nat.lt_of_lt_of_le (by first | (simp; done) | (simp; omega)) hc5.size
        replace o1 := o1.later hst5
        replace k4 := k4.later hst5
        clear hst5
        have n1 : w2.heap.size ≠ w5.heap.size := by omega
        have n2 : w.heap.size + 1 ≠ w5.heap.size := by omega
        have n3 : w4.heap.size ≠ w5.heap.size := by omega
        have n4 : w4.heap.size + 1 ≠ w5.heap.size := by omega
        have n5 : w2.heap.size ≠ w4.heap.size := by omega
        have n6 : w2.heap.size ≠ w4.heap.size + 1 := by omega
        have hox : (Value.slice av k cv).ownBlock ≠ some w2.heap.size := fun e => by have := o1.lt _ e; omega
        have p4 : ∀ ad, a4 = some ad → ad.block ≠ w2.heap.size := fun ad e => by have := f4 ad e; omega
        have p5 : ∀ ad, a4 = some ad → (Value.slice av k cv).ownBlock ≠ some ad.block := fun ad e h => by have := f4 ad e; have := o1w.lt _ h; omega
        have f5 : Fresh w.heap.size a4 := fun ad e => by have := f4 ad e; omega
        go_region_held3 (fun w' => w'.cell? ⟨w4.heap.size, 0, none⟩ = some (.int .i64 g) ∧ w'.cell? ⟨w4.heap.size, 1, none⟩ = some (.int .i64 (o + (k + 1))) ∧ w'.cell? ⟨w4.heap.size, 2, none⟩ = some (.int .i64 r) ∧ w'.cell? ⟨w4.heap.size, 3, none⟩ = some (.slice a4 (hs.length - (k + 1)) c4) ∧ w'.cell? ⟨w4.heap.size + 1, 0, none⟩ = some (.int .i64 (o + k)) ∧ w'.cell? ⟨w4.heap.size + 1, 1, none⟩ = some (.int .u64 (wg hs k))) (first | go_keep | exact ⟨A_0a, A_1a, A_2a, A_3a, S_0a, S_1a⟩) ((first | (refine step_append_x _ (by rfl) _ _ _ (by rfl) (w2.heap.size + 1) 38 i0 (.agg #[.int .i64 0, .int .u64 0]) 2 16 Try.underlying24 ii iz0 iz1 iz2 rfl (by omega) (.slice av k cv) k (cel (hs.take k)) (by rfl) ?_ (some ⟨w5.heap.size, 0, none⟩) 1 1 [.int .i64 (o + k), .int .u64 (wg hs k)] (by rfl) rfl ?_ (slip_one _ _) (by unfold maxLen; omega) (by omega) ?_ ?_; (focus (repeat' (first | with_reducible exact o1 | with_reducible refine OwnX.alloc ?_ _ | with_reducible refine OwnX.drew ?_ | with_reducible refine OwnX.setFar ?_ hox _))); (focus (repeat' (first | with_reducible refine CellsAt.setFar ?_ ?_ _ | with_reducible refine CellsAt.drew ?_ | with_reducible refine cellsAt_top ?_ | (simp; done) | (simp; omega)))); (focus (simp; omega)); intro a6 c6 w6 o6 hg6 hk6; replace hg6 : World.grownBy _ w6 (Value.slice av k cv).ownBlock := hg6; obtain ⟨hcell6, hfroz6⟩ := gcell hg6 o1w; (have E_0a : w6.cell? ⟨w.heap.size + 1, 0, none⟩ = some (.int .i64 0) := (hcell6 (w.heap.size + 1) 0 (by first | (simp; done) | (simp; omega) | omega) (.inl (by omega))).trans (by go_simp)); (have E_f0a : w6.frozen? ⟨w.heap.size + 1, 0, none⟩ = false := (hfroz6 (w.heap.size + 1) 0 (by first | (simp; done) | (simp; omega) | omega) (.inl (by omega))).trans (by go_simp)); (have E_1a : w6.cell? ⟨w.heap.size + 1, 1, none⟩ = some (.int .i64 0) := (hcell6 (w.heap.size + 1) 1 (by first | (simp; done) | (simp; omega) | omega) (.inl (by omega))).trans (by go_simp)); (have E_f1a : w6.frozen? ⟨w.heap.size + 1, 1, none⟩ = false := (hfroz6 (w.heap.size + 1) 1 (by first | (simp; done) | (simp; omega) | omega) (.inl (by omega))).trans (by go_simp)); (have E_2a : w6.cell? ⟨w.heap.size + 1, 2, none⟩ = some (.int .i64 0) := (hcell6 (w.heap.size + 1) 2 (by first | (simp; done) | (simp; omega) | omega) (.inl (by omega))).trans (by go_simp)); (have E_f2a : w6.frozen? ⟨w.heap.size + 1, 2, none⟩ = false := (hfroz6 (w.heap.size + 1) 2 (by first | (simp; done) | (simp; omega) | omega) (.inl (by omega))).trans (by go_simp)); (have E_3a : w6.cell? ⟨w.heap.size + 1, 3, none⟩ = some (.slice none 0 0) := (hcell6 (w.heap.size + 1) 3 (by first | (simp; done) | (simp; omega) | omega) (.inl (by omega))).trans (by go_simp)); (have E_f3a : w6.frozen? ⟨w.heap.size + 1, 3, none⟩ = false := (hfroz6 (w.heap.size + 1) 3 (by first | (simp; done) | (simp; omega) | omega) (.inl (by omega))).trans (by go_simp)); (have k6 : CellsAt w6 a4 (cel (hs.drop (k + 1))) := CellsAt.grown (by repeat' (first | with_reducible exact k4 | with_reducible refine CellsAt.alloc ?_ _ | with_reducible refine CellsAt.drew ?_ | with_reducible refine CellsAt.setFarG ?_ p4 _)) hg6 p5); (have hb6 : Below w.heap.size w w6 := below_grownX (by repeat' (first | with_reducible exact hb5 | with_reducible refine Below.drew ?_ | with_reducible refine below_drewN ?_ _ | with_reducible refine Below.alloc ?_ (by have := hb5.size; first | (simp; done) | (simp; omega) | omega) _ | with_reducible refine Below.setCell ?_ (by first | (simp; done) | (simp; omega) | omega) _)) hg6 (by simp; omega) (fun q h => by have := (o1w.lt q h).1; omega)); (have z6 := hg6.size); (have A_0a : w6.cell? ⟨w4.heap.size, 0, none⟩ = some (.int .i64 g) := (hcell6 (w4.heap.size) 0 (by first | (simp; done) | (simp; omega) | omega) (.inr (by omega))).trans (by go_simp)); (have A_1a : w6.cell? ⟨w4.heap.size, 1, none⟩ = some (.int .i64 (o + (k + 1))) := (hcell6 (w4.heap.size) 1 (by first | (simp; done) | (simp; omega) | omega) (.inr (by omega))).trans (by go_simp)); (have A_2a : w6.cell? ⟨w4.heap.size, 2, none⟩ = some (.int .i64 r) := (hcell6 (w4.heap.size) 2 (by first | (simp; done) | (simp; omega) | omega) (.inr (by omega))).trans (by go_simp)); (have A_3a : w6.cell? ⟨w4.heap.size, 3, none⟩ = some (.slice a4 (hs.length - (k + 1)) c4) := (hcell6 (w4.heap.size) 3 (by first | (simp; done) | (simp; omega) | omega) (.inr (by omega))).trans (by go_simp)); (have S_0a : w6.cell? ⟨w4.heap.size + 1, 0, none⟩ = some (.int .i64 (o + k)) := (hcell6 (w4.heap.size + 1) 0 (by first | (simp; done) | (simp; omega) | omega) (.inr (by omega))).trans (by go_simp)); (have S_1a : w6.cell? ⟨w4.heap.size + 1, 1, none⟩ = some (.int .u64 (wg hs k)) := (hcell6 (w4.heap.size + 1) 1 (by first | (simp; done) | (simp; omega) | omega) (.inr (by omega))).trans (by go_simp)); (first | (have X_0a : w6.cell? ⟨w2.heap.size, 0, none⟩ = some (.int .i64 g) := (hcell6 w2.heap.size 0 (by first | (simp; done) | (simp; omega) | omega) (.inl (by omega))).trans (by go_simp)) | skip); (have X_f0a : w6.frozen? ⟨w2.heap.size, 0, none⟩ = false := (hfroz6 w2.heap.size 0 (by first | (simp; done) | (simp; omega) | omega) (.inl (by omega))).trans (by go_simp)); (first | (have X_1a : w6.cell? ⟨w2.heap.size, 1, none⟩ = some (.int .i64 (o + k)) := (hcell6 w2.heap.size 1 (by first | (simp; done) | (simp; omega) | omega) (.inl (by omega))).trans (by go_simp)) | skip); (have X_f1a : w6.frozen? ⟨w2.heap.size, 1, none⟩ = false := (hfroz6 w2.heap.size 1 (by first | (simp; done) | (simp; omega) | omega) (.inl (by omega))).trans (by go_simp)); (first | (have X_2a : w6.cell? ⟨w2.heap.size, 2, none⟩ = some (.int .i64 r) := (hcell6 w2.heap.size 2 (by first | (simp; done) | (simp; omega) | omega) (.inl (by omega))).trans (by go_simp)) | skip); (have X_f2a : w6.frozen? ⟨w2.heap.size, 2, none⟩ = false := (hfroz6 w2.heap.size 2 (by first | (simp; done) | (simp; omega) | omega) (.inl (by omega))).trans (by go_simp)); (first | (have X_3a : w6.cell? ⟨w2.heap.size, 3, none⟩ = some (.slice ak (hs.length - k) ck) := (hcell6 w2.heap.size 3 (by first | (simp; done) | (simp; omega) | omega) (.inl (by omega))).trans (by go_simp)) | skip); (have X_f3a : w6.frozen? ⟨w2.heap.size, 3, none⟩ = false := (hfroz6 w2.heap.size 3 (by first | (simp; done) | (simp; omega) | omega) (.inl (by omega))).trans (by go_simp)))))
        all_goals
          clear hcell6 hfroz6
          go_wp2_with fail
          have ho6 : cel (hs.take k) ++ [.int .i64 (o + k), .int .u64 (wg hs k)] = cel (hs.take (k + 1)) := by
            rw [List.take_succ_eq_append_getElem (by omega), cel_append, hs_at (by omega), run_at hs o k hlt]; rfl
          have hox6 : (Value.slice a6 (k + 1) c6).ownBlock ≠ some w2.heap.size := fun e => by
            rcases hk6 _ e with h | h
            · exact hox h
            · simp at h; omega
          rw [ho6] at o6
          have ecast : (o + ((k + 1 : Nat) : Int)) = o + ((k : Int) + 1) := by omega
          have H_ho6 := hid ho6
          clear ho6
          go_roundw
          case rel => exact ⟨k + 1, a6, c6, a4, c4, by omega, rfl, (by repeat' (first | with_reducible exact hb6 | with_reducible refine Below.drew ?_ | with_reducible refine below_drewN ?_ _ | with_reducible refine Below.alloc ?_ (by have := hb6.size; first | (simp; done) | (simp; omega) | omega) _ | with_reducible refine Below.setCell ?_ (by first | (simp; done) | (simp; omega) | omega) _)), ⟨by go_simp, by rw [ecast]; go_simp, by go_simp, by go_simp⟩, ⟨by go_simp, by go_simp, by go_simp, by go_simp⟩, ⟨by go_simp, by go_simp, by go_simp, by go_simp⟩, ⟨by go_simp, by go_simp, by go_simp, by go_simp⟩, by repeat' (first | with_reducible exact k6 | with_reducible refine CellsAt.drew ?_ | with_reducible refine CellsAt.setFarG ?_ p4 _), p4, (fun ad e => by have := f4 ad e; omega), f5, by repeat' (first | with_reducible exact o6 | with_reducible refine OwnX.drew ?_ | with_reducible refine OwnX.setFar ?_ hox6 _)⟩
          case measure => simp [sliceLen]; omega
      · obtain rfl : k = run o hs := by omega
        have hat : atI (o + (run o hs : Nat)) (hs.drop (run o hs)) = -1 := atI_none (HV.out.popN _ (Nat.le_refl _)) (pop_stop HV.out).2
        have H_hat := hid hat
        clear hat
        have f2 : Fresh w.heap.size av := fun ad e => by have := (o1.addr ad e).1; omega
        have p6 : ∀ ad, av = some ad → ad.block ≠ w.heap.size + 1 := fun ad e => by have := (o1.addr ad e).1; omega
        have k2 := o1.cellsAt
        have hcp : ∀ ad, ak = some ad → ad.block ≠ w.heap.size + 1 := p7
        clear o1
        go_wp2_with fail
        with_reducible refine (at_n g (o + (run o hs : Nat)) r (o + (run o hs : Nat)) (hs.drop (run o hs)) ak (hs.length - run o hs) ck _ H_hdl.out k1 H_hdm.out).mono ?_
        rintro e w3 ⟨rfl, hc3⟩
        have hb3 : Below w.heap.size w w3 := bchain (by repeat' (first | with_reducible exact hbw | with_reducible refine Below.drew ?_ | with_reducible refine below_drewN ?_ _ | with_reducible refine Below.alloc ?_ (by have := hbw.size; first | (simp; done) | (simp; omega) | omega) _ | with_reducible refine Below.setCell ?_ (by first | (simp; done) | (simp; omega) | omega) _)) hc3
        have hst3 : Below wr.heap.size wr w3 := bchain (by repeat' (first | with_reducible exact Below.refl _ _ | with_reducible refine Below.drew ?_ | with_reducible refine below_drewN ?_ _ | with_reducible refine Below.alloc ?_ (by first | (simp; done) | (simp; omega) | omega) _ | with_reducible refine Below.setCell ?_ (by first | (simp; done) | (simp; omega) | omega) _)) hc3
        replace X_0 := cell_later hst3 X_0
        replace X_1 := cell_later hst3 X_1
        replace X_2 := cell_later hst3 X_2
        replace X_3 := cell_later hst3 X_3
        replace X_f0 := frozen_later hst3 X_l X_f0
        replace X_f1 := frozen_later hst3 X_l X_f1
        replace X_f2 := frozen_later hst3 X_l X_f2
        replace X_f3 := frozen_later hst3 X_l X_f3
        replace X_l := Nat.lt_of_lt_of_le X_l hst3.size
        replace E_0 := cell_later hst3 E_0
        replace E_1 := cell_later hst3 E_1
        replace E_2 := cell_later hst3 E_2
        replace E_3 := cell_later hst3 E_3
        replace E_f0 := frozen_later hst3 E_l E_f0
        replace E_f1 := frozen_later hst3 E_l E_f1
        replace E_f2 := frozen_later hst3 E_l E_f2
        replace E_f3 := frozen_later hst3 E_l E_f3
        replace E_l := Nat.lt_of_lt_of_le E_l hst3.size
        replace k2 := k2.later hst3
        replace k1 := k1.later hst3
        clear hst3
        clear hc3 hbw
        rw [H_hat.out]
        go_wp2_with fail
        exact bodyPost_ret (v := .tuple #[.agg #[.int .i64 g, .int .i64 (o + (run o hs : Nat)), .int .i64 r, .slice ak (hs.length - run o hs) ck], .slice av (run o hs) cv, .int .i64 0]) (by simp [results, Try.results23, go_sem, *]) rfl ⟨RetDL.of (RetDL.mk' H_hlen.out H_htl.out rfl (by repeat' (first | with_reducible exact k1 | with_reducible refine CellsAt.setFarG ?_ hcp _)) (by repeat' (first | with_reducible exact k2 | with_reducible refine CellsAt.setFarG ?_ p6 _)) f1 f2) H_he.out, (by repeat' (first | with_reducible exact hb3 | with_reducible refine Below.drew ?_ | with_reducible refine below_drewN ?_ _ | with_reducible refine Below.alloc ?_ (by have := hb3.size; first | (simp; done) | (simp; omega) | omega) _ | with_reducible refine Below.setCell ?_ (by first | (simp; done) | (simp; omega) | omega) _))⟩
  · have he : (Dk.zero, ([] : Slips), (8 : Int)) = dDrain ⟨g, o, r, hs⟩ := by unfold dDrain Dk.err; rw [if_neg (by simp only; omega)]
    have H_he := hid he
    have H_h8 := hid h8
    clear he h8
    go_enter Try.func23, Try.ntmps23
    have hb0 := Below.refl w.heap.size w
    go_wp2_with fail
    with_reducible refine (rdcheck_any g o r hs a c _ ((hc.alloc _).alloc _) Hml.out).mono ?_
    rintro e w1 ⟨rfl, hc1⟩
    have hb1 : Below w.heap.size w w1 := bchain (by repeat' (first | with_reducible exact hb0 | with_reducible refine Below.drew ?_ | with_reducible refine below_drewN ?_ _ | with_reducible refine Below.alloc ?_ (by have := hb0.size; first | (simp; done) | (simp; omega) | omega) _ | with_reducible refine Below.setCell ?_ (by first | (simp; done) | (simp; omega) | omega) _)) hc1
    have hst1 : Below w.heap.size w w1 := bchain (by repeat' (first | with_reducible exact Below.refl _ _ | with_reducible refine Below.drew ?_ | with_reducible refine below_drewN ?_ _ | with_reducible refine Below.alloc ?_ (by first | (simp; done) | (simp; omega) | omega) _ | with_reducible refine Below.setCell ?_ (by first | (simp; done) | (simp; omega) | omega) _)) hc1
    have D_0 : w1.cell? ⟨w.heap.size, 0, none⟩ = some (.int .i64 g) := (hc1.cell (p := ⟨w.heap.size, 0, none⟩) (by first | (simp; done) | (simp; omega))).trans (by first | (simp; done) | go_simp)
    have D_1 : w1.cell? ⟨w.heap.size, 1, none⟩ = some (.int .i64 o) := (hc1.cell (p := ⟨w.heap.size, 1, none⟩) (by first | (simp; done) | (simp; omega))).trans (by first | (simp; done) | go_simp)
    have D_2 : w1.cell? ⟨w.heap.size, 2, none⟩ = some (.int .i64 r) := (hc1.cell (p := ⟨w.heap.size, 2, none⟩) (by first | (simp; done) | (simp; omega))).trans (by first | (simp; done) | go_simp)
    have D_3 : w1.cell? ⟨w.heap.size, 3, none⟩ = some (.slice a hs.length c) := (hc1.cell (p := ⟨w.heap.size, 3, none⟩) (by first | (simp; done) | (simp; omega))).trans (by first | (simp; done) | go_simp)
    have D_l : w.heap.size < w1.heap.size := Nat.lt_of_lt_of_le (by first | (simp; done) | (simp; omega)) hc1.size
    have E_0 : w1.cell? ⟨w.heap.size + 1, 0, none⟩ = some (.int .i64 0) := (hc1.cell (p := ⟨w.heap.size + 1, 0, none⟩) (by first | (simp; done) | (simp; omega))).trans (by first | (simp; done) | go_simp)
    have E_1 : w1.cell? ⟨w.heap.size + 1, 1, none⟩ = some (.int .i64 0) := (hc1.cell (p := ⟨w.heap.size + 1, 1, none⟩) (by first | (simp; done) | (simp; omega))).trans (by first | (simp; done) | go_simp)
    have E_2 : w1.cell? ⟨w.heap.size + 1, 2, none⟩ = some (.int .i64 0) := (hc1.cell (p := ⟨w.heap.size + 1, 2, none⟩) (by first | (simp; done) | (simp; omega))).trans (by first | (simp; done) | go_simp)
    have E_3 : w1.cell? ⟨w.heap.size + 1, 3, none⟩ = some (.slice none 0 0) := (hc1.cell (p := ⟨w.heap.size + 1, 3, none⟩) (by first | (simp; done) | (simp; omega))).trans (by first | (simp; done) | go_simp)
    have E_f0 : w1.frozen? ⟨w.heap.size + 1, 0, none⟩ = false := (hc1.frozen (p := ⟨w.heap.size + 1, 0, none⟩) (by first | (simp; done) | (simp; omega))).trans (by first | (simp; done) | go_simp)
    have E_f1 : w1.frozen? ⟨w.heap.size + 1, 1, none⟩ = false := (hc1.frozen (p := ⟨w.heap.size + 1, 1, none⟩) (by first | (simp; done) | (simp; omega))).trans (by first | (simp; done) | go_simp)
    have E_f2 : w1.frozen? ⟨w.heap.size + 1, 2, none⟩ = false := (hc1.frozen (p := ⟨w.heap.size + 1, 2, none⟩) (by first | (simp; done) | (simp; omega))).trans (by first | (simp; done) | go_simp)
    have E_f3 : w1.frozen? ⟨w.heap.size + 1, 3, none⟩ = false := (hc1.frozen (p := ⟨w.heap.size + 1, 3, none⟩) (by first | (simp; done) | (simp; omega))).trans (by first | (simp; done) | go_simp)
    have E_l : w.heap.size + 1 < w1.heap.size := Nat.lt_of_lt_of_le (by first | (simp; done) | (simp; omega)) hc1.size
    replace hc := hc.later hst1
    clear hst1
    clear hc1 hb0
    rw [H_h8.out]
    have z1 := E_l
    go_wp2_with fail
    with_reducible refine (rdcheck_any g o r hs a c _ hc Hml.out).mono ?_
    rintro e w2 ⟨rfl, hc2⟩
    have hb2 : Below w.heap.size w w2 := bchain (by repeat' (first | with_reducible exact hb1 | with_reducible refine Below.drew ?_ | with_reducible refine below_drewN ?_ _ | with_reducible refine Below.alloc ?_ (by have := hb1.size; first | (simp; done) | (simp; omega) | omega) _ | with_reducible refine Below.setCell ?_ (by first | (simp; done) | (simp; omega) | omega) _)) hc2
    have hst2 : Below w1.heap.size w1 w2 := bchain (by repeat' (first | with_reducible exact Below.refl _ _ | with_reducible refine Below.drew ?_ | with_reducible refine below_drewN ?_ _ | with_reducible refine Below.alloc ?_ (by first | (simp; done) | (simp; omega) | omega) _ | with_reducible refine Below.setCell ?_ (by first | (simp; done) | (simp; omega) | omega) _)) hc2
    replace D_0 := cell_later hst2 D_0
    replace D_1 := cell_later hst2 D_1
    replace D_2 := cell_later hst2 D_2
    replace D_3 := cell_later hst2 D_3
    replace D_l := Nat.lt_of_lt_of_le D_l hst2.size
    replace E_0 := cell_later hst2 E_0
    replace E_1 := cell_later hst2 E_1
    replace E_2 := cell_later hst2 E_2
    replace E_3 := cell_later hst2 E_3
    replace E_f0 := frozen_later hst2 E_l E_f0
    replace E_f1 := frozen_later hst2 E_l E_f1
    replace E_f2 := frozen_later hst2 E_l E_f2
    replace E_f3 := frozen_later hst2 E_l E_f3
    replace E_l := Nat.lt_of_lt_of_le E_l hst2.size
    replace hc := hc.later hst2
    clear hst2
    clear hc2 hb1
    rw [H_h8.out]
    go_wp2_with fail
    exact bodyPost_ret (v := .tuple #[.agg #[.int .i64 0, .int .i64 0, .int .i64 0, .slice none 0 0], .slice none 0 0, .int .i64 8]) (by simp [results, Try.results23, go_sem, *]) rfl ⟨RetDL.of ⟨_, _, _, _, rfl, .inl rfl, .inl rfl, fresh_none _, fresh_none _⟩ H_he.out, (by repeat' (first | with_reducible exact hb2 | with_reducible refine Below.drew ?_ | with_reducible refine below_drewN ?_ _ | with_reducible refine Below.alloc ?_ (by have := hb2.size; first | (simp; done) | (simp; omega) | omega) _ | with_reducible refine Below.setCell ?_ (by first | (simp; done) | (simp; omega) | omega) _))⟩

end Go.Proofs.Ytpfldkcbkolgnaa
