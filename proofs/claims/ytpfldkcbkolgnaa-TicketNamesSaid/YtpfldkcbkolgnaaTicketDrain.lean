/- What Drain returns. -/
import Derived.Test.YtpfldkcbkolgnaaTicketOps
namespace Go.Proofs.Ytpfldkcbkolgnaa
set_option linter.unusedSimpArgs false
set_option linter.unusedVariables false
set_option linter.unnecessarySimpa false
open Go.RowKit

theorem dtwin0 (g o r : Int) (a : Option Addr) (c : Nat) (w : World) (hc : CellsAt w a (cel [])) :
    Calls Try.prog 30 #[.agg #[.int .i64 g, .int .i64 o, .int .i64 r, .slice a 0 c]] w fun e w' =>
      ∃ a' c', e = .returned (.agg #[.int .i64 g, .int .i64 o, .int .i64 r, .slice a' 0 c']) ∧ OwnX w' w.heap.size 38 2 (.slice a' 0 c') 0 (cel []) ∧ Below w.heap.size w w' := dtwin_any g o r [] a c w hc (Nat.zero_le _)
theorem cloneS0 (a : Option Addr) (c : Nat) (w : World) :
    Calls Try.prog 32 #[.slice a 0 c] w fun e w' =>
      ∃ a' c', e = .returned (.slice a' 0 c') ∧ OwnX w' w.heap.size 38 2 (.slice a' 0 c') 0 (cel []) ∧ Below w.heap.size w w' := cloneS_any a 0 c [] w rfl (.inl rfl) (Nat.zero_le _)

/- Behind the twin: $1 the address; $2 the length, $3 its cast; $4 the address of what is left. -/

set_option maxHeartbeats 4000000 in
theorem ddrain_ne (g o r : Int) (hs : Slips) (a : Option Addr) (c : Nat) (w : World) (hc : CellsAt w a (cel hs)) (hb : hs.length ≤ 8796093022206) (h0 : 0 < hs.length) (h8 : dErr g o r hs = 0) :
    Calls Try.prog 13 #[.agg #[.int .i64 g, .int .i64 o, .int .i64 r, .slice a hs.length c]] w fun e w' =>
      RetDL w.heap.size w' e (dDrain ⟨g, o, r, hs⟩) ∧ Below w.heap.size w w' := by
  have Hml := hid (show hs.length ≤ maxLen from by unfold maxLen; omega)
  have he : ((⟨g, o + (run o hs : Nat), r, hs.drop (run o hs)⟩, hs.take (run o hs), (0 : Int)) : Dk × Slips × Int) = dDrain ⟨g, o, r, hs⟩ := by unfold dDrain Dk.err; rw [if_pos h8]
  have hg1 := (DV.of h8).o1
  have hg2 := (DV.of h8).o2
  have hg3 := (DV.of h8).g1
  have hlen : hs.length - run o hs = (hs.drop (run o hs)).length := by rw [List.length_drop]
  have htl : run o hs = (hs.take (run o hs)).length := by have := run_le hs o; rw [List.length_take]; omega
  have H_he := hid he
  have H_h8 := hid h8
  have H_hlen := hid hlen
  have H_htl := hid htl
  clear he h8 hlen htl
  go_enter Try.func13, Try.ntmps13
  have hb0 := Below.refl w.heap.size w
  go_wp2_with fail
  with_reducible refine (dcheck_any g o r hs a c _ ((hc.alloc _).alloc _) Hml.out).mono ?_
  rintro e w1 ⟨rfl, hc1⟩
  have hb1 : Below w.heap.size w w1 := bchain (by repeat' (first | with_reducible exact hb0 | with_reducible refine Below.drew ?_ | with_reducible refine below_drewN ?_ _ | with_reducible refine Below.alloc ?_ (by have := hb0.size; first | (simp; done) | (simp; omega) | omega) _ | with_reducible refine Below.setCell ?_ (by first | (simp; done) | (simp; omega) | omega) _)) hc1
  have hst1 : Below w.heap.size w w1 := bchain (by repeat' (first | with_reducible exact Below.refl _ _ | with_reducible refine Below.drew ?_ | with_reducible refine below_drewN ?_ _ | with_reducible refine Below.alloc ?_ (by first | (simp; done) | (simp; omega) | omega) _ | with_reducible refine Below.setCell ?_ (by first | (simp; done) | (simp; omega) | omega) _)) hc1
  have D_0 : w1.cell? ⟨w.heap.size, 0, none⟩ = some (.int .i64 g) := (hc1.cell (p := ⟨w.heap.size, 0, none⟩) (by first | (simp; done) | (simp; omega))).trans (by first | (simp; done) | go_simp)
  have D_1 : w1.cell? ⟨w.heap.size, 1, none⟩ = some (.int .i64 o) := (hc1.cell (p := ⟨w.heap.size, 1, none⟩) (by first | (simp; done) | (simp; omega))).trans (by first | (simp; done) | go_simp)
  have D_2 : w1.cell? ⟨w.heap.size, 2, none⟩ = some (.int .i64 r) := (hc1.cell (p := ⟨w.heap.size, 2, none⟩) (by first | (simp; done) | (simp; omega))).trans (by first | (simp; done) | go_simp)
  have D_3 : w1.cell? ⟨w.heap.size, 3, none⟩ = some (.slice a hs.length c) := (hc1.cell (p := ⟨w.heap.size, 3, none⟩) (by first | (simp; done) | (simp; omega))).trans (by first | (simp; done) | go_simp)
  have D_l : w.heap.size < w1.heap.size := Nat.lt_of_lt_of_le (by first | (simp; done) | (simp; omega)) hc1.size
  have E_0 : w1.cell? ⟨w.heap.size + 1, 0, none⟩ = some (.int .i64 0) := (hc1.cell (p := ⟨w.heap.size + 1, 0, none⟩) (by first | (simp; done) | (simp; omega))).trans (by first | (simp; done) | go_simp)
  have E_1 : w1.cell? ⟨w.heap.size + 1, 1, none⟩ = some (.int .i64 0) := (hc1.cell (p := ⟨w.heap.size + 1, 1, none⟩) (by first | (simp; done) | (simp; omega))).trans (by first | (simp; done) | go_simp)
  have E_2 : w1.cell? ⟨w.heap.size + 1, 2, none⟩ = some (.int .i64 0) := (hc1.cell (p := ⟨w.heap.size + 1, 2, none⟩) (by first | (simp; done) | (simp; omega))).trans (by first | (simp; done) | go_simp)
  have E_3 : w1.cell? ⟨w.heap.size + 1, 3, none⟩ = some (.slice none 0 0) := (hc1.cell (p := ⟨w.heap.size + 1, 3, none⟩) (by first | (simp; done) | (simp; omega))).trans (by first | (simp; done) | go_simp)
  have E_f0 : w1.frozen? ⟨w.heap.size + 1, 0, none⟩ = false := (hc1.frozen (p := ⟨w.heap.size + 1, 0, none⟩) (by first | (simp; done) | (simp; omega))).trans (by first | (simp; done) | go_simp)
  have E_f1 : w1.frozen? ⟨w.heap.size + 1, 1, none⟩ = false := (hc1.frozen (p := ⟨w.heap.size + 1, 1, none⟩) (by first | (simp; done) | (simp; omega))).trans (by first | (simp; done) | go_simp)
  have E_f2 : w1.frozen? ⟨w.heap.size + 1, 2, none⟩ = false := (hc1.frozen (p := ⟨w.heap.size + 1, 2, none⟩) (by first | (simp; done) | (simp; omega))).trans (by first | (simp; done) | go_simp)
  have E_f3 : w1.frozen? ⟨w.heap.size + 1, 3, none⟩ = false := (hc1.frozen (p := ⟨w.heap.size + 1, 3, none⟩) (by first | (simp; done) | (simp; omega))).trans (by first | (simp; done) | go_simp)
  have E_l : w.heap.size + 1 < w1.heap.size := Nat.lt_of_lt_of_le (by first | (simp; done) | (simp; omega)) hc1.size
  replace hc := hc.later hst1
  clear hst1
  clear hc1 hb0
  rw [H_h8.out]
  have z1 := E_l
  go_wp2_with fail
  with_reducible refine (dtwin_any g o r hs a c _ hc (by omega)).mono ?_
  rintro e w2 ⟨a1, c2, rfl, o1, hc2⟩
  have hb2 : Below w.heap.size w w2 := bchain (by repeat' (first | with_reducible exact hb1 | with_reducible refine Below.drew ?_ | with_reducible refine below_drewN ?_ _ | with_reducible refine Below.alloc ?_ (by have := hb1.size; first | (simp; done) | (simp; omega) | omega) _ | with_reducible refine Below.setCell ?_ (by first | (simp; done) | (simp; omega) | omega) _)) hc2
  have hst2 : Below w1.heap.size w1 w2 := bchain (by repeat' (first | with_reducible exact Below.refl _ _ | with_reducible refine Below.drew ?_ | with_reducible refine below_drewN ?_ _ | with_reducible refine Below.alloc ?_ (by first | (simp; done) | (simp; omega) | omega) _ | with_reducible refine Below.setCell ?_ (by first | (simp; done) | (simp; omega) | omega) _)) hc2
  replace D_0 := cell_later hst2 D_0
  replace D_1 := cell_later hst2 D_1
  replace D_2 := cell_later hst2 D_2
  replace D_3 := cell_later hst2 D_3
  replace D_l := Nat.lt_of_lt_of_le D_l hst2.size
  replace E_0 := cell_later hst2 E_0
  replace E_1 := cell_later hst2 E_1
  replace E_2 := cell_later hst2 E_2
  replace E_3 := cell_later hst2 E_3
  replace E_f0 := frozen_later hst2 E_l E_f0
  replace E_f1 := frozen_later hst2 E_l E_f1
  replace E_f2 := frozen_later hst2 E_l E_f2
  replace E_f3 := frozen_later hst2 E_l E_f3
  replace E_l := Nat.lt_of_lt_of_le E_l hst2.size
  replace hc := hc.later hst2
  clear hst2
  clear hc2 hb1
  have k1 := o1.cellsAt
  have q1 := o1.addr
  have hcl : hs.length ≤ c2 := by obtain ⟨_, _, e0, e1, _⟩ := o1.cells; cases e0; exact e1
  obtain ⟨b1, oo1, rfl, y1, y2, hcell⟩ := k1.slips h0
  have p0 := (q1 _ rfl).1
  have p5 : w1.heap.size ≤ b1 := (q1 _ rfl).1
  have p6 : b1 < w2.heap.size := (q1 _ rfl).2
  clear q1 o1 hcell
  clear hc
  go_wp2_with fail
  refine wp_gen fun w3 hc3 => ?_
  have hb3 : Below w.heap.size w w3 := bchain (by repeat' (first | with_reducible exact hb2 | with_reducible refine Below.drew ?_ | with_reducible refine below_drewN ?_ _ | with_reducible refine Below.alloc ?_ (by have := hb2.size; first | (simp; done) | (simp; omega) | omega) _ | with_reducible refine Below.setCell ?_ (by first | (simp; done) | (simp; omega) | omega) _)) hc3
  have hst3 : Below w2.heap.size w2 w3 := bchain (by repeat' (first | with_reducible exact Below.refl _ _ | with_reducible refine Below.drew ?_ | with_reducible refine below_drewN ?_ _ | with_reducible refine Below.alloc ?_ (by first | (simp; done) | (simp; omega) | omega) _ | with_reducible refine Below.setCell ?_ (by first | (simp; done) | (simp; omega) | omega) _)) hc3
  replace D_0 := cell_later hst3 D_0
  replace D_1 := cell_later hst3 D_1
  replace D_2 := cell_later hst3 D_2
  replace D_3 := cell_later hst3 D_3
  replace D_l := Nat.lt_of_lt_of_le D_l hst3.size
  replace E_0 := cell_later hst3 E_0
  replace E_1 := cell_later hst3 E_1
  replace E_2 := cell_later hst3 E_2
  replace E_3 := cell_later hst3 E_3
  replace E_f0 := frozen_later hst3 E_l E_f0
  replace E_f1 := frozen_later hst3 E_l E_f1
  replace E_f2 := frozen_later hst3 E_l E_f2
  replace E_f3 := frozen_later hst3 E_l E_f3
  replace E_l := Nat.lt_of_lt_of_le E_l hst3.size
  have X_0 : w3.cell? ⟨w2.heap.size, 0, none⟩ = some (.int .i64 g) := (hc3.cell (p := ⟨w2.heap.size, 0, none⟩) (by first | (simp; done) | (simp; omega))).trans (by first | (simp; done) | go_simp)
  have X_1 : w3.cell? ⟨w2.heap.size, 1, none⟩ = some (.int .i64 o) := (hc3.cell (p := ⟨w2.heap.size, 1, none⟩) (by first | (simp; done) | (simp; omega))).trans (by first | (simp; done) | go_simp)
  have X_2 : w3.cell? ⟨w2.heap.size, 2, none⟩ = some (.int .i64 r) := (hc3.cell (p := ⟨w2.heap.size, 2, none⟩) (by first | (simp; done) | (simp; omega))).trans (by first | (simp; done) | go_simp)
  have X_3 : w3.cell? ⟨w2.heap.size, 3, none⟩ = some (.slice (some ⟨b1, oo1, none⟩) hs.length c2) := (hc3.cell (p := ⟨w2.heap.size, 3, none⟩) (by first | (simp; done) | (simp; omega))).trans (by first | (simp; done) | go_simp)
  have X_f0 : w3.frozen? ⟨w2.heap.size, 0, none⟩ = false := (hc3.frozen (p := ⟨w2.heap.size, 0, none⟩) (by first | (simp; done) | (simp; omega))).trans (by first | (simp; done) | go_simp)
  have X_f1 : w3.frozen? ⟨w2.heap.size, 1, none⟩ = false := (hc3.frozen (p := ⟨w2.heap.size, 1, none⟩) (by first | (simp; done) | (simp; omega))).trans (by first | (simp; done) | go_simp)
  have X_f2 : w3.frozen? ⟨w2.heap.size, 2, none⟩ = false := (hc3.frozen (p := ⟨w2.heap.size, 2, none⟩) (by first | (simp; done) | (simp; omega))).trans (by first | (simp; done) | go_simp)
  have X_f3 : w3.frozen? ⟨w2.heap.size, 3, none⟩ = false := (hc3.frozen (p := ⟨w2.heap.size, 3, none⟩) (by first | (simp; done) | (simp; omega))).trans (by first | (simp; done) | go_simp)
  have X_l : w2.heap.size < w3.heap.size := Nat.lt_of_lt_of_le (by first | (simp; done) | (simp; omega)) hc3.size
  replace k1 := k1.later hst3
  clear hst3
  go_loopw [7] (fun i wr => ∃ k : Nat, k ≤ hs.length ∧ i = .int .i64 k ∧ Below w3.heap.size w3 wr ∧ Hid (∀ j, j < k → tg hs j = o + j)) (fun i _ => hs.length - (intOf i).toNat)
  case atStart => exact ⟨0, Nat.zero_le _, rfl, Below.refl _ _, hid (fun j hj => by omega)⟩
  case round =>
    obtain ⟨k, hk, rfl, hc4, Hall⟩ := hrel
    obtain ⟨w4, hw4⟩ : ∃ w4, w4 = wr := ⟨wr, rfl⟩
    subst hw4
    have hb4 : Below w.heap.size w w4 := bchain (by repeat' (first | with_reducible exact hb3 | with_reducible refine Below.drew ?_ | with_reducible refine below_drewN ?_ _ | with_reducible refine Below.alloc ?_ (by have := hb3.size; first | (simp; done) | (simp; omega) | omega) _ | with_reducible refine Below.setCell ?_ (by first | (simp; done) | (simp; omega) | omega) _)) hc4
    have hst4 : Below w3.heap.size w3 w4 := bchain (by repeat' (first | with_reducible exact Below.refl _ _ | with_reducible refine Below.drew ?_ | with_reducible refine below_drewN ?_ _ | with_reducible refine Below.alloc ?_ (by first | (simp; done) | (simp; omega) | omega) _ | with_reducible refine Below.setCell ?_ (by first | (simp; done) | (simp; omega) | omega) _)) hc4
    replace D_0 := cell_later hst4 D_0
    replace D_1 := cell_later hst4 D_1
    replace D_2 := cell_later hst4 D_2
    replace D_3 := cell_later hst4 D_3
    replace D_l := Nat.lt_of_lt_of_le D_l hst4.size
    replace E_0 := cell_later hst4 E_0
    replace E_1 := cell_later hst4 E_1
    replace E_2 := cell_later hst4 E_2
    replace E_3 := cell_later hst4 E_3
    replace E_f0 := frozen_later hst4 E_l E_f0
    replace E_f1 := frozen_later hst4 E_l E_f1
    replace E_f2 := frozen_later hst4 E_l E_f2
    replace E_f3 := frozen_later hst4 E_l E_f3
    replace E_l := Nat.lt_of_lt_of_le E_l hst4.size
    replace X_0 := cell_later hst4 X_0
    replace X_1 := cell_later hst4 X_1
    replace X_2 := cell_later hst4 X_2
    replace X_3 := cell_later hst4 X_3
    replace X_f0 := frozen_later hst4 X_l X_f0
    replace X_f1 := frozen_later hst4 X_l X_f1
    replace X_f2 := frozen_later hst4 X_l X_f2
    replace X_f3 := frozen_later hst4 X_l X_f3
    replace X_l := Nat.lt_of_lt_of_le X_l hst4.size
    replace k1 := k1.later hst4
    clear hst4
    by_cases hlt : k < hs.length ∧ tg hs k = o + k
    · obtain ⟨hlt, ht⟩ := hlt
      have hlt' : (k : Int) < (hs.length : Int) := by omega
      obtain ⟨_, _, e0, x1, x2, hcell⟩ := k1.slips h0
      cases e0
      have c0 := (hcell k hlt).1
      clear hcell
      rw [ht] at c0
      have Ht := hid ht
      clear ht
      go_wp2_with fail
      go_quiet (fail)
      go_wp2_with fail
      go_roundw
      case rel => exact ⟨k + 1, by omega, by go_num, below_drewN hc4 _, hid (fun j hj => by
        by_cases hjk : j < k
        · exact Hall.out j hjk
        · obtain rfl : j = k := by omega
          exact Ht.out)⟩
      case measure => simp [intOf]; omega
    · have hrun : k = run o hs := (run_char hk Hall.out (fun h1 h2 => hlt ⟨h1, h2⟩)).symm
      subst hrun
      have hr1 := run_le hs o
      have hq1 : (0 : Int) ≤ ((run o hs : Nat) : Int) := by omega
      have hq2 : ((run o hs : Nat) : Int) ≤ (c2 : Int) := by omega
      have hq3 : ((run o hs : Nat) : Int) ≤ (hs.length : Int) := by omega
      have hq4 : o + ((run o hs : Nat) : Int) ≤ 9223372036854775807 := by have := (DV.of H_h8.out).len; omega
      have kt : CellsAt w4 (some ⟨b1, oo1, none⟩) (cel (hs.take (run o hs))) := by rw [cel_take]; exact k1.take _
      have kr : CellsAt w4 (some ⟨b1, oo1 + run o hs * 2, none⟩) (cel (hs.drop (run o hs))) := by rw [cel_drop]; exact k1.drop _
      have k1' := k1
      have x4 := X_l
      clear k1 Hall
      by_cases hfull : run o hs = hs.length
      · have hd1 : decide (((run o hs : Nat) : Int) < (hs.length : Int)) = false := decide_eq_false (by omega)
        have hd2 : decide (run o hs < hs.length) = false := decide_eq_false (by omega)
        have hsub : hs.length - run o hs = 0 := by omega
        clear k1' hlt
        by_cases hcap : c2 = run o hs
        · subst hcap
          replace kr : CellsAt w4 (some ⟨b1, oo1, none⟩) (cel (hs.drop (run o hs))) := .inl (by rw [List.drop_of_length_le (by omega)]; rfl)
          have H_hfull := hid hfull
          clear hfull
          go_wp2_with fail
          go_quiet (fail)
          go_wp2_with fail
          with_reducible refine (cloneS_any (some ⟨b1, oo1, none⟩) (run o hs) (run o hs) (hs.take (run o hs)) _ H_htl.out (kt.drewN _) (by rw [← H_htl.out]; omega)).mono ?_
          rintro e w5 ⟨a3, c3, rfl, o3, hc5⟩
          have hb5 : Below w.heap.size w w5 := bchain (by repeat' (first | with_reducible exact hb4 | with_reducible refine Below.drew ?_ | with_reducible refine below_drewN ?_ _ | with_reducible refine Below.alloc ?_ (by have := hb4.size; first | (simp; done) | (simp; omega) | omega) _ | with_reducible refine Below.setCell ?_ (by first | (simp; done) | (simp; omega) | omega) _)) hc5
          have hst5 : Below w4.heap.size w4 w5 := bchain (by repeat' (first | with_reducible exact Below.refl _ _ | with_reducible refine Below.drew ?_ | with_reducible refine below_drewN ?_ _ | with_reducible refine Below.alloc ?_ (by first | (simp; done) | (simp; omega) | omega) _ | with_reducible refine Below.setCell ?_ (by first | (simp; done) | (simp; omega) | omega) _)) hc5
          replace D_0 := cell_later hst5 D_0
          replace D_1 := cell_later hst5 D_1
          replace D_2 := cell_later hst5 D_2
          replace D_3 := cell_later hst5 D_3
          replace D_l := Nat.lt_of_lt_of_le D_l hst5.size
          replace E_0 := cell_later hst5 E_0
          replace E_1 := cell_later hst5 E_1
          replace E_2 := cell_later hst5 E_2
          replace E_3 := cell_later hst5 E_3
          replace E_f0 := frozen_later hst5 E_l E_f0
          replace E_f1 := frozen_later hst5 E_l E_f1
          replace E_f2 := frozen_later hst5 E_l E_f2
          replace E_f3 := frozen_later hst5 E_l E_f3
          replace E_l := Nat.lt_of_lt_of_le E_l hst5.size
          replace X_0 := cell_later hst5 X_0
          replace X_1 := cell_later hst5 X_1
          replace X_2 := cell_later hst5 X_2
          replace X_3 := cell_later hst5 X_3
          replace X_f0 := frozen_later hst5 X_l X_f0
          replace X_f1 := frozen_later hst5 X_l X_f1
          replace X_f2 := frozen_later hst5 X_l X_f2
          replace X_f3 := frozen_later hst5 X_l X_f3
          replace X_l := Nat.lt_of_lt_of_le X_l hst5.size
          replace kr := kr.later hst5
          clear hst5
          clear hc5 hb4
          have k3 := o3.cellsAt
          have q3 := o3.addr
          clear o3
          have p1 : ∀ ad : Addr, ((some ⟨b1, oo1, none⟩) : Option Addr) = some ad → ad.block ≠ w.heap.size + 1 := fun ad e => by cases e; simp; omega
          have p2 : ∀ ad : Addr, ((some ⟨b1, oo1, none⟩) : Option Addr) = some ad → ad.block ≠ w2.heap.size := fun ad e => by cases e; simp; omega
          have p7 : Fresh w.heap.size ((some ⟨b1, oo1, none⟩) : Option Addr) := fun ad e => by cases e; simp; omega
          have p8 : Fresh w.heap.size a3 := fun ad e => by have := (q3 ad e).1; simp only [World.heap_drewN] at this; omega
          have p3 : ∀ ad, a3 = some ad → ad.block ≠ w.heap.size + 1 := fun ad e => by have := (q3 ad e).1; simp only [World.heap_drewN] at this; omega
          have p4 : ∀ ad, a3 = some ad → ad.block ≠ w2.heap.size := fun ad e => by have := (q3 ad e).1; simp only [World.heap_drewN] at this; omega
          go_wp2_with fail
          exact bodyPost_ret (v := .tuple #[.agg #[.int .i64 g, .int .i64 (o + (run o hs : Nat)), .int .i64 r, .slice (some ⟨b1, oo1, none⟩) (hs.length - run o hs) 0], .slice a3 (run o hs) c3, .int .i64 0]) (by simp [results, Try.results13, go_sem, *]) rfl ⟨RetDL.of (RetDL.mk' H_hlen.out H_htl.out rfl (by repeat' (first | with_reducible exact kr | with_reducible refine CellsAt.setFarG ?_ ?_ _ | exact p1 | exact p2)) (by repeat' (first | with_reducible exact k3 | with_reducible refine CellsAt.setFarG ?_ ?_ _ | exact p3 | exact p4)) p7 p8) H_he.out, (by repeat' (first | with_reducible exact hb5 | with_reducible refine Below.drew ?_ | with_reducible refine below_drewN ?_ _ | with_reducible refine Below.alloc ?_ (by have := hb5.size; first | (simp; done) | (simp; omega) | omega) _ | with_reducible refine Below.setCell ?_ (by first | (simp; done) | (simp; omega) | omega) _))⟩
        · have hne : ¬ (c2 = run o hs) := hcap
          have H_hfull := hid hfull
          clear hfull
          go_wp2_with fail
          go_quiet (fail)
          go_wp2_with fail
          with_reducible refine (cloneS_any (some ⟨b1, oo1, none⟩) (run o hs) c2 (hs.take (run o hs)) _ H_htl.out (kt.drewN _) (by rw [← H_htl.out]; omega)).mono ?_
          rintro e w5 ⟨a3, c3, rfl, o3, hc5⟩
          have hb5 : Below w.heap.size w w5 := bchain (by repeat' (first | with_reducible exact hb4 | with_reducible refine Below.drew ?_ | with_reducible refine below_drewN ?_ _ | with_reducible refine Below.alloc ?_ (by have := hb4.size; first | (simp; done) | (simp; omega) | omega) _ | with_reducible refine Below.setCell ?_ (by first | (simp; done) | (simp; omega) | omega) _)) hc5
          have hst5 : Below w4.heap.size w4 w5 := bchain (by repeat' (first | with_reducible exact Below.refl _ _ | with_reducible refine Below.drew ?_ | with_reducible refine below_drewN ?_ _ | with_reducible refine Below.alloc ?_ (by first | (simp; done) | (simp; omega) | omega) _ | with_reducible refine Below.setCell ?_ (by first | (simp; done) | (simp; omega) | omega) _)) hc5
          replace D_0 := cell_later hst5 D_0
          replace D_1 := cell_later hst5 D_1
          replace D_2 := cell_later hst5 D_2
          replace D_3 := cell_later hst5 D_3
          replace D_l := Nat.lt_of_lt_of_le D_l hst5.size
          replace E_0 := cell_later hst5 E_0
          replace E_1 := cell_later hst5 E_1
          replace E_2 := cell_later hst5 E_2
          replace E_3 := cell_later hst5 E_3
          replace E_f0 := frozen_later hst5 E_l E_f0
          replace E_f1 := frozen_later hst5 E_l E_f1
          replace E_f2 := frozen_later hst5 E_l E_f2
          replace E_f3 := frozen_later hst5 E_l E_f3
          replace E_l := Nat.lt_of_lt_of_le E_l hst5.size
          replace X_0 := cell_later hst5 X_0
          replace X_1 := cell_later hst5 X_1
          replace X_2 := cell_later hst5 X_2
          replace X_3 := cell_later hst5 X_3
          replace X_f0 := frozen_later hst5 X_l X_f0
          replace X_f1 := frozen_later hst5 X_l X_f1
          replace X_f2 := frozen_later hst5 X_l X_f2
          replace X_f3 := frozen_later hst5 X_l X_f3
          replace X_l := Nat.lt_of_lt_of_le X_l hst5.size
          replace kr := kr.later hst5
          clear hst5
          clear hc5 hb4
          have k3 := o3.cellsAt
          have q3 := o3.addr
          clear o3
          have p1 : ∀ ad : Addr, ((some ⟨b1, oo1 + run o hs * 2, none⟩) : Option Addr) = some ad → ad.block ≠ w.heap.size + 1 := fun ad e => by cases e; simp; omega
          have p2 : ∀ ad : Addr, ((some ⟨b1, oo1 + run o hs * 2, none⟩) : Option Addr) = some ad → ad.block ≠ w2.heap.size := fun ad e => by cases e; simp; omega
          have p7 : Fresh w.heap.size ((some ⟨b1, oo1 + run o hs * 2, none⟩) : Option Addr) := fun ad e => by cases e; simp; omega
          have p8 : Fresh w.heap.size a3 := fun ad e => by have := (q3 ad e).1; simp only [World.heap_drewN] at this; omega
          have p3 : ∀ ad, a3 = some ad → ad.block ≠ w.heap.size + 1 := fun ad e => by have := (q3 ad e).1; simp only [World.heap_drewN] at this; omega
          have p4 : ∀ ad, a3 = some ad → ad.block ≠ w2.heap.size := fun ad e => by have := (q3 ad e).1; simp only [World.heap_drewN] at this; omega
          go_wp2_with fail
          exact bodyPost_ret (v := .tuple #[.agg #[.int .i64 g, .int .i64 (o + (run o hs : Nat)), .int .i64 r, .slice (some ⟨b1, oo1 + run o hs * 2, none⟩) (hs.length - run o hs) (c2 - run o hs)], .slice a3 (run o hs) c3, .int .i64 0]) (by simp [results, Try.results13, go_sem, *]) rfl ⟨RetDL.of (RetDL.mk' H_hlen.out H_htl.out rfl (by repeat' (first | with_reducible exact kr | with_reducible refine CellsAt.setFarG ?_ ?_ _ | exact p1 | exact p2)) (by repeat' (first | with_reducible exact k3 | with_reducible refine CellsAt.setFarG ?_ ?_ _ | exact p3 | exact p4)) p7 p8) H_he.out, (by repeat' (first | with_reducible exact hb5 | with_reducible refine Below.drew ?_ | with_reducible refine below_drewN ?_ _ | with_reducible refine Below.alloc ?_ (by have := hb5.size; first | (simp; done) | (simp; omega) | omega) _ | with_reducible refine Below.setCell ?_ (by first | (simp; done) | (simp; omega) | omega) _))⟩
      · have hlt' : ((run o hs : Nat) : Int) < (hs.length : Int) := by omega
        have hne : ¬ (c2 = run o hs) := by omega
        obtain ⟨_, _, e0, x1, x2, hcell⟩ := k1'.slips h0
        cases e0
        have c0 := (hcell (run o hs) (by omega)).1
        have hcmp : (tg hs (run o hs) == o + ((run o hs : Nat) : Int)) = false := beq_eq_false_iff_ne.2 (fun h => hlt ⟨by omega, h⟩)
        clear hcell k1' hlt
        go_wp2_with fail
        go_quiet (fail)
        go_wp2_with fail
        with_reducible refine (cloneS_any (some ⟨b1, oo1, none⟩) (run o hs) c2 (hs.take (run o hs)) _ H_htl.out (kt.drewN _) (by rw [← H_htl.out]; omega)).mono ?_
        rintro e w5 ⟨a3, c3, rfl, o3, hc5⟩
        have hb5 : Below w.heap.size w w5 := bchain (by repeat' (first | with_reducible exact hb4 | with_reducible refine Below.drew ?_ | with_reducible refine below_drewN ?_ _ | with_reducible refine Below.alloc ?_ (by have := hb4.size; first | (simp; done) | (simp; omega) | omega) _ | with_reducible refine Below.setCell ?_ (by first | (simp; done) | (simp; omega) | omega) _)) hc5
        have hst5 : Below w4.heap.size w4 w5 := bchain (by repeat' (first | with_reducible exact Below.refl _ _ | with_reducible refine Below.drew ?_ | with_reducible refine below_drewN ?_ _ | with_reducible refine Below.alloc ?_ (by first | (simp; done) | (simp; omega) | omega) _ | with_reducible refine Below.setCell ?_ (by first | (simp; done) | (simp; omega) | omega) _)) hc5
        replace D_0 := cell_later hst5 D_0
        replace D_1 := cell_later hst5 D_1
        replace D_2 := cell_later hst5 D_2
        replace D_3 := cell_later hst5 D_3
        replace D_l := Nat.lt_of_lt_of_le D_l hst5.size
        replace E_0 := cell_later hst5 E_0
        replace E_1 := cell_later hst5 E_1
        replace E_2 := cell_later hst5 E_2
        replace E_3 := cell_later hst5 E_3
        replace E_f0 := frozen_later hst5 E_l E_f0
        replace E_f1 := frozen_later hst5 E_l E_f1
        replace E_f2 := frozen_later hst5 E_l E_f2
        replace E_f3 := frozen_later hst5 E_l E_f3
        replace E_l := Nat.lt_of_lt_of_le E_l hst5.size
        replace X_0 := cell_later hst5 X_0
        replace X_1 := cell_later hst5 X_1
        replace X_2 := cell_later hst5 X_2
        replace X_3 := cell_later hst5 X_3
        replace X_f0 := frozen_later hst5 X_l X_f0
        replace X_f1 := frozen_later hst5 X_l X_f1
        replace X_f2 := frozen_later hst5 X_l X_f2
        replace X_f3 := frozen_later hst5 X_l X_f3
        replace X_l := Nat.lt_of_lt_of_le X_l hst5.size
        replace kr := kr.later hst5
        clear hst5
        clear hc5 hb4
        have k3 := o3.cellsAt
        have q3 := o3.addr
        clear o3
        have p1 : ∀ ad : Addr, ((some ⟨b1, oo1 + run o hs * 2, none⟩) : Option Addr) = some ad → ad.block ≠ w.heap.size + 1 := fun ad e => by cases e; simp; omega
        have p2 : ∀ ad : Addr, ((some ⟨b1, oo1 + run o hs * 2, none⟩) : Option Addr) = some ad → ad.block ≠ w2.heap.size := fun ad e => by cases e; simp; omega
        have p7 : Fresh w.heap.size ((some ⟨b1, oo1 + run o hs * 2, none⟩) : Option Addr) := fun ad e => by cases e; simp; omega
        have p8 : Fresh w.heap.size a3 := fun ad e => by have := (q3 ad e).1; simp only [World.heap_drewN] at this; omega
        have p3 : ∀ ad, a3 = some ad → ad.block ≠ w.heap.size + 1 := fun ad e => by have := (q3 ad e).1; simp only [World.heap_drewN] at this; omega
        have p4 : ∀ ad, a3 = some ad → ad.block ≠ w2.heap.size := fun ad e => by have := (q3 ad e).1; simp only [World.heap_drewN] at this; omega
        go_wp2_with fail
        exact bodyPost_ret (v := .tuple #[.agg #[.int .i64 g, .int .i64 (o + (run o hs : Nat)), .int .i64 r, .slice (some ⟨b1, oo1 + run o hs * 2, none⟩) (hs.length - run o hs) (c2 - run o hs)], .slice a3 (run o hs) c3, .int .i64 0]) (by simp [results, Try.results13, go_sem, *]) rfl ⟨RetDL.of (RetDL.mk' H_hlen.out H_htl.out rfl (by repeat' (first | with_reducible exact kr | with_reducible refine CellsAt.setFarG ?_ ?_ _ | exact p1 | exact p2)) (by repeat' (first | with_reducible exact k3 | with_reducible refine CellsAt.setFarG ?_ ?_ _ | exact p3 | exact p4)) p7 p8) H_he.out, (by repeat' (first | with_reducible exact hb5 | with_reducible refine Below.drew ?_ | with_reducible refine below_drewN ?_ _ | with_reducible refine Below.alloc ?_ (by have := hb5.size; first | (simp; done) | (simp; omega) | omega) _ | with_reducible refine Below.setCell ?_ (by first | (simp; done) | (simp; omega) | omega) _))⟩

set_option maxHeartbeats 4000000 in
theorem ddrain_e (g o r : Int) (a : Option Addr) (c : Nat) (w : World) (h8 : dErr g o r [] = 0) :
    Calls Try.prog 13 #[.agg #[.int .i64 g, .int .i64 o, .int .i64 r, .slice a 0 c]] w fun e w' =>
      RetDL w.heap.size w' e (dDrain ⟨g, o, r, []⟩) ∧ Below w.heap.size w w' := by
  have he : ((⟨g, o, r, []⟩, [], (0 : Int)) : Dk × Slips × Int) = dDrain ⟨g, o, r, []⟩ := by unfold dDrain Dk.err; rw [if_pos h8]; simp [run]
  have hg1 := (DV.of h8).o1
  have hg2 := (DV.of h8).o2
  have hg3 := (DV.of h8).g1
  have hc : CellsAt w a (cel []) := .inl rfl
  have H_he := hid he
  have H_h8 := hid h8
  clear he h8
  go_enter Try.func13, Try.ntmps13
  have hb0 := Below.refl w.heap.size w
  go_wp2_with fail
  with_reducible refine (dcheck0 g o r a c _).mono ?_
  rintro e w1 ⟨rfl, hc1⟩
  have hb1 : Below w.heap.size w w1 := bchain (by repeat' (first | with_reducible exact hb0 | with_reducible refine Below.drew ?_ | with_reducible refine below_drewN ?_ _ | with_reducible refine Below.alloc ?_ (by have := hb0.size; first | (simp; done) | (simp; omega) | omega) _ | with_reducible refine Below.setCell ?_ (by first | (simp; done) | (simp; omega) | omega) _)) hc1
  have hst1 : Below w.heap.size w w1 := bchain (by repeat' (first | with_reducible exact Below.refl _ _ | with_reducible refine Below.drew ?_ | with_reducible refine below_drewN ?_ _ | with_reducible refine Below.alloc ?_ (by first | (simp; done) | (simp; omega) | omega) _ | with_reducible refine Below.setCell ?_ (by first | (simp; done) | (simp; omega) | omega) _)) hc1
  have D_0 : w1.cell? ⟨w.heap.size, 0, none⟩ = some (.int .i64 g) := (hc1.cell (p := ⟨w.heap.size, 0, none⟩) (by first | (simp; done) | (simp; omega))).trans (by first | (simp; done) | go_simp)
  have D_1 : w1.cell? ⟨w.heap.size, 1, none⟩ = some (.int .i64 o) := (hc1.cell (p := ⟨w.heap.size, 1, none⟩) (by first | (simp; done) | (simp; omega))).trans (by first | (simp; done) | go_simp)
  have D_2 : w1.cell? ⟨w.heap.size, 2, none⟩ = some (.int .i64 r) := (hc1.cell (p := ⟨w.heap.size, 2, none⟩) (by first | (simp; done) | (simp; omega))).trans (by first | (simp; done) | go_simp)
  have D_3 : w1.cell? ⟨w.heap.size, 3, none⟩ = some (.slice a 0 c) := (hc1.cell (p := ⟨w.heap.size, 3, none⟩) (by first | (simp; done) | (simp; omega))).trans (by first | (simp; done) | go_simp)
  have D_l : w.heap.size < w1.heap.size := Nat.lt_of_lt_of_le (by first | (simp; done) | (simp; omega)) hc1.size
  have E_0 : w1.cell? ⟨w.heap.size + 1, 0, none⟩ = some (.int .i64 0) := (hc1.cell (p := ⟨w.heap.size + 1, 0, none⟩) (by first | (simp; done) | (simp; omega))).trans (by first | (simp; done) | go_simp)
  have E_1 : w1.cell? ⟨w.heap.size + 1, 1, none⟩ = some (.int .i64 0) := (hc1.cell (p := ⟨w.heap.size + 1, 1, none⟩) (by first | (simp; done) | (simp; omega))).trans (by first | (simp; done) | go_simp)
  have E_2 : w1.cell? ⟨w.heap.size + 1, 2, none⟩ = some (.int .i64 0) := (hc1.cell (p := ⟨w.heap.size + 1, 2, none⟩) (by first | (simp; done) | (simp; omega))).trans (by first | (simp; done) | go_simp)
  have E_3 : w1.cell? ⟨w.heap.size + 1, 3, none⟩ = some (.slice none 0 0) := (hc1.cell (p := ⟨w.heap.size + 1, 3, none⟩) (by first | (simp; done) | (simp; omega))).trans (by first | (simp; done) | go_simp)
  have E_f0 : w1.frozen? ⟨w.heap.size + 1, 0, none⟩ = false := (hc1.frozen (p := ⟨w.heap.size + 1, 0, none⟩) (by first | (simp; done) | (simp; omega))).trans (by first | (simp; done) | go_simp)
  have E_f1 : w1.frozen? ⟨w.heap.size + 1, 1, none⟩ = false := (hc1.frozen (p := ⟨w.heap.size + 1, 1, none⟩) (by first | (simp; done) | (simp; omega))).trans (by first | (simp; done) | go_simp)
  have E_f2 : w1.frozen? ⟨w.heap.size + 1, 2, none⟩ = false := (hc1.frozen (p := ⟨w.heap.size + 1, 2, none⟩) (by first | (simp; done) | (simp; omega))).trans (by first | (simp; done) | go_simp)
  have E_f3 : w1.frozen? ⟨w.heap.size + 1, 3, none⟩ = false := (hc1.frozen (p := ⟨w.heap.size + 1, 3, none⟩) (by first | (simp; done) | (simp; omega))).trans (by first | (simp; done) | go_simp)
  have E_l : w.heap.size + 1 < w1.heap.size := Nat.lt_of_lt_of_le (by first | (simp; done) | (simp; omega)) hc1.size
  replace hc := hc.later hst1
  clear hst1
  clear hc1 hb0
  rw [H_h8.out]
  have z1 := E_l
  go_wp2_with fail
  with_reducible refine (dtwin0 g o r a c _ hc).mono ?_
  rintro e w2 ⟨a1, c2, rfl, o1, hc2⟩
  have hb2 : Below w.heap.size w w2 := bchain (by repeat' (first | with_reducible exact hb1 | with_reducible refine Below.drew ?_ | with_reducible refine below_drewN ?_ _ | with_reducible refine Below.alloc ?_ (by have := hb1.size; first | (simp; done) | (simp; omega) | omega) _ | with_reducible refine Below.setCell ?_ (by first | (simp; done) | (simp; omega) | omega) _)) hc2
  have hst2 : Below w1.heap.size w1 w2 := bchain (by repeat' (first | with_reducible exact Below.refl _ _ | with_reducible refine Below.drew ?_ | with_reducible refine below_drewN ?_ _ | with_reducible refine Below.alloc ?_ (by first | (simp; done) | (simp; omega) | omega) _ | with_reducible refine Below.setCell ?_ (by first | (simp; done) | (simp; omega) | omega) _)) hc2
  replace D_0 := cell_later hst2 D_0
  replace D_1 := cell_later hst2 D_1
  replace D_2 := cell_later hst2 D_2
  replace D_3 := cell_later hst2 D_3
  replace D_l := Nat.lt_of_lt_of_le D_l hst2.size
  replace E_0 := cell_later hst2 E_0
  replace E_1 := cell_later hst2 E_1
  replace E_2 := cell_later hst2 E_2
  replace E_3 := cell_later hst2 E_3
  replace E_f0 := frozen_later hst2 E_l E_f0
  replace E_f1 := frozen_later hst2 E_l E_f1
  replace E_f2 := frozen_later hst2 E_l E_f2
  replace E_f3 := frozen_later hst2 E_l E_f3
  replace E_l := Nat.lt_of_lt_of_le E_l hst2.size
  replace hc := hc.later hst2
  clear hst2
  clear hc2 hb1
  cases a1 with
  | none =>
    obtain rfl : c2 = 0 := by
      rcases o1.2 with ⟨e0, _⟩ | ⟨_, _, _, e0, _⟩ <;> cases e0
      rfl
    clear o1
    have fr1 : Fresh w.heap.size none := fresh_none _
    clear hc
    have z3 := E_l
    go_wp2_with fail
    refine wp_gen fun w3 hc3 => ?_
    have hb3 : Below w.heap.size w w3 := bchain (by repeat' (first | with_reducible exact hb2 | with_reducible refine Below.drew ?_ | with_reducible refine below_drewN ?_ _ | with_reducible refine Below.alloc ?_ (by have := hb2.size; first | (simp; done) | (simp; omega) | omega) _ | with_reducible refine Below.setCell ?_ (by first | (simp; done) | (simp; omega) | omega) _)) hc3
    have hst3 : Below w2.heap.size w2 w3 := bchain (by repeat' (first | with_reducible exact Below.refl _ _ | with_reducible refine Below.drew ?_ | with_reducible refine below_drewN ?_ _ | with_reducible refine Below.alloc ?_ (by first | (simp; done) | (simp; omega) | omega) _ | with_reducible refine Below.setCell ?_ (by first | (simp; done) | (simp; omega) | omega) _)) hc3
    replace D_0 := cell_later hst3 D_0
    replace D_1 := cell_later hst3 D_1
    replace D_2 := cell_later hst3 D_2
    replace D_3 := cell_later hst3 D_3
    replace D_l := Nat.lt_of_lt_of_le D_l hst3.size
    replace E_0 := cell_later hst3 E_0
    replace E_1 := cell_later hst3 E_1
    replace E_2 := cell_later hst3 E_2
    replace E_3 := cell_later hst3 E_3
    replace E_f0 := frozen_later hst3 E_l E_f0
    replace E_f1 := frozen_later hst3 E_l E_f1
    replace E_f2 := frozen_later hst3 E_l E_f2
    replace E_f3 := frozen_later hst3 E_l E_f3
    replace E_l := Nat.lt_of_lt_of_le E_l hst3.size
    have X_0 : w3.cell? ⟨w2.heap.size, 0, none⟩ = some (.int .i64 g) := (hc3.cell (p := ⟨w2.heap.size, 0, none⟩) (by first | (simp; done) | (simp; omega))).trans (by first | (simp; done) | go_simp)
    have X_1 : w3.cell? ⟨w2.heap.size, 1, none⟩ = some (.int .i64 o) := (hc3.cell (p := ⟨w2.heap.size, 1, none⟩) (by first | (simp; done) | (simp; omega))).trans (by first | (simp; done) | go_simp)
    have X_2 : w3.cell? ⟨w2.heap.size, 2, none⟩ = some (.int .i64 r) := (hc3.cell (p := ⟨w2.heap.size, 2, none⟩) (by first | (simp; done) | (simp; omega))).trans (by first | (simp; done) | go_simp)
    have X_3 : w3.cell? ⟨w2.heap.size, 3, none⟩ = some (.slice none 0 0) := (hc3.cell (p := ⟨w2.heap.size, 3, none⟩) (by first | (simp; done) | (simp; omega))).trans (by first | (simp; done) | go_simp)
    have X_f0 : w3.frozen? ⟨w2.heap.size, 0, none⟩ = false := (hc3.frozen (p := ⟨w2.heap.size, 0, none⟩) (by first | (simp; done) | (simp; omega))).trans (by first | (simp; done) | go_simp)
    have X_f1 : w3.frozen? ⟨w2.heap.size, 1, none⟩ = false := (hc3.frozen (p := ⟨w2.heap.size, 1, none⟩) (by first | (simp; done) | (simp; omega))).trans (by first | (simp; done) | go_simp)
    have X_f2 : w3.frozen? ⟨w2.heap.size, 2, none⟩ = false := (hc3.frozen (p := ⟨w2.heap.size, 2, none⟩) (by first | (simp; done) | (simp; omega))).trans (by first | (simp; done) | go_simp)
    have X_f3 : w3.frozen? ⟨w2.heap.size, 3, none⟩ = false := (hc3.frozen (p := ⟨w2.heap.size, 3, none⟩) (by first | (simp; done) | (simp; omega))).trans (by first | (simp; done) | go_simp)
    have X_l : w2.heap.size < w3.heap.size := Nat.lt_of_lt_of_le (by first | (simp; done) | (simp; omega)) hc3.size
    clear hst3
    have x4 := X_l
    go_loopw [7] (fun i wr => i = .int .i64 0 ∧ Below w3.heap.size w3 wr) (fun _ _ => 0)
    case atStart => exact ⟨rfl, Below.refl _ _⟩
    case round =>
      obtain ⟨rfl, hc4⟩ := hrel
      obtain ⟨w4, hw4⟩ : ∃ w4, w4 = wr := ⟨wr, rfl⟩
      subst hw4
      have hb4 : Below w.heap.size w w4 := bchain (by repeat' (first | with_reducible exact hb3 | with_reducible refine Below.drew ?_ | with_reducible refine below_drewN ?_ _ | with_reducible refine Below.alloc ?_ (by have := hb3.size; first | (simp; done) | (simp; omega) | omega) _ | with_reducible refine Below.setCell ?_ (by first | (simp; done) | (simp; omega) | omega) _)) hc4
      have hst4 : Below w3.heap.size w3 w4 := bchain (by repeat' (first | with_reducible exact Below.refl _ _ | with_reducible refine Below.drew ?_ | with_reducible refine below_drewN ?_ _ | with_reducible refine Below.alloc ?_ (by first | (simp; done) | (simp; omega) | omega) _ | with_reducible refine Below.setCell ?_ (by first | (simp; done) | (simp; omega) | omega) _)) hc4
      replace D_0 := cell_later hst4 D_0
      replace D_1 := cell_later hst4 D_1
      replace D_2 := cell_later hst4 D_2
      replace D_3 := cell_later hst4 D_3
      replace D_l := Nat.lt_of_lt_of_le D_l hst4.size
      replace E_0 := cell_later hst4 E_0
      replace E_1 := cell_later hst4 E_1
      replace E_2 := cell_later hst4 E_2
      replace E_3 := cell_later hst4 E_3
      replace E_f0 := frozen_later hst4 E_l E_f0
      replace E_f1 := frozen_later hst4 E_l E_f1
      replace E_f2 := frozen_later hst4 E_l E_f2
      replace E_f3 := frozen_later hst4 E_l E_f3
      replace E_l := Nat.lt_of_lt_of_le E_l hst4.size
      replace X_0 := cell_later hst4 X_0
      replace X_1 := cell_later hst4 X_1
      replace X_2 := cell_later hst4 X_2
      replace X_3 := cell_later hst4 X_3
      replace X_f0 := frozen_later hst4 X_l X_f0
      replace X_f1 := frozen_later hst4 X_l X_f1
      replace X_f2 := frozen_later hst4 X_l X_f2
      replace X_f3 := frozen_later hst4 X_l X_f3
      replace X_l := Nat.lt_of_lt_of_le X_l hst4.size
      clear hst4
      have s4 := hb4.size
      go_wp2_with fail
      go_quiet (fail)
      go_wp2_with fail
      with_reducible refine (cloneS0 none 0 _).mono ?_
      rintro e w5 ⟨a3, c3, rfl, o3, hc5⟩
      have hb5 : Below w.heap.size w w5 := bchain (by repeat' (first | with_reducible exact hb4 | with_reducible refine Below.drew ?_ | with_reducible refine below_drewN ?_ _ | with_reducible refine Below.alloc ?_ (by have := hb4.size; first | (simp; done) | (simp; omega) | omega) _ | with_reducible refine Below.setCell ?_ (by first | (simp; done) | (simp; omega) | omega) _)) hc5
      have hst5 : Below w4.heap.size w4 w5 := bchain (by repeat' (first | with_reducible exact Below.refl _ _ | with_reducible refine Below.drew ?_ | with_reducible refine below_drewN ?_ _ | with_reducible refine Below.alloc ?_ (by first | (simp; done) | (simp; omega) | omega) _ | with_reducible refine Below.setCell ?_ (by first | (simp; done) | (simp; omega) | omega) _)) hc5
      replace D_0 := cell_later hst5 D_0
      replace D_1 := cell_later hst5 D_1
      replace D_2 := cell_later hst5 D_2
      replace D_3 := cell_later hst5 D_3
      replace D_l := Nat.lt_of_lt_of_le D_l hst5.size
      replace E_0 := cell_later hst5 E_0
      replace E_1 := cell_later hst5 E_1
      replace E_2 := cell_later hst5 E_2
      replace E_3 := cell_later hst5 E_3
      replace E_f0 := frozen_later hst5 E_l E_f0
      replace E_f1 := frozen_later hst5 E_l E_f1
      replace E_f2 := frozen_later hst5 E_l E_f2
      replace E_f3 := frozen_later hst5 E_l E_f3
      replace E_l := Nat.lt_of_lt_of_le E_l hst5.size
      replace X_0 := cell_later hst5 X_0
      replace X_1 := cell_later hst5 X_1
      replace X_2 := cell_later hst5 X_2
      replace X_3 := cell_later hst5 X_3
      replace X_f0 := frozen_later hst5 X_l X_f0
      replace X_f1 := frozen_later hst5 X_l X_f1
      replace X_f2 := frozen_later hst5 X_l X_f2
      replace X_f3 := frozen_later hst5 X_l X_f3
      replace X_l := Nat.lt_of_lt_of_le X_l hst5.size
      clear hst5
      clear hc5 hb4
      have p8 : Fresh w.heap.size a3 := fun ad e => by have := (o3.addr ad e).1; simp only [World.heap_drewN] at this; omega
      clear o3
      go_wp2_with fail
      exact bodyPost_ret (v := .tuple #[.agg #[.int .i64 g, .int .i64 o, .int .i64 r, .slice none 0 0], .slice a3 0 c3, .int .i64 0]) (by simp [results, Try.results13, go_sem, *]) rfl ⟨RetDL.of (RetDL.mk' (r := ((⟨g, o, r, []⟩ : Dk), ([] : Slips), (0 : Int))) rfl rfl rfl (.inl rfl) (.inl rfl) fr1 p8) H_he.out, (by repeat' (first | with_reducible exact hb5 | with_reducible refine Below.drew ?_ | with_reducible refine below_drewN ?_ _ | with_reducible refine Below.alloc ?_ (by have := hb5.size; first | (simp; done) | (simp; omega) | omega) _ | with_reducible refine Below.setCell ?_ (by first | (simp; done) | (simp; omega) | omega) _))⟩
  | some ad =>
    obtain ⟨b1, rfl⟩ : ∃ b, ad = ⟨b, 0, none⟩ := by
      rcases o1.2 with ⟨e0, _⟩ | ⟨b, _, _, e0, _⟩ <;> cases e0
      exact ⟨_, rfl⟩
    have fr1 : Fresh w.heap.size (some ⟨b1, 0, none⟩) := fun ad e => by have := (o1.addr ad e).1; omega
    clear o1
    by_cases hcap : c2 = 0
    · subst hcap
      have z3 := E_l
      go_wp2_with fail
      refine wp_gen fun w3 hc3 => ?_
      have hb3 : Below w.heap.size w w3 := bchain (by repeat' (first | with_reducible exact hb2 | with_reducible refine Below.drew ?_ | with_reducible refine below_drewN ?_ _ | with_reducible refine Below.alloc ?_ (by have := hb2.size; first | (simp; done) | (simp; omega) | omega) _ | with_reducible refine Below.setCell ?_ (by first | (simp; done) | (simp; omega) | omega) _)) hc3
      have hst3 : Below w2.heap.size w2 w3 := bchain (by repeat' (first | with_reducible exact Below.refl _ _ | with_reducible refine Below.drew ?_ | with_reducible refine below_drewN ?_ _ | with_reducible refine Below.alloc ?_ (by first | (simp; done) | (simp; omega) | omega) _ | with_reducible refine Below.setCell ?_ (by first | (simp; done) | (simp; omega) | omega) _)) hc3
      replace D_0 := cell_later hst3 D_0
      replace D_1 := cell_later hst3 D_1
      replace D_2 := cell_later hst3 D_2
      replace D_3 := cell_later hst3 D_3
      replace D_l := Nat.lt_of_lt_of_le D_l hst3.size
      replace E_0 := cell_later hst3 E_0
      replace E_1 := cell_later hst3 E_1
      replace E_2 := cell_later hst3 E_2
      replace E_3 := cell_later hst3 E_3
      replace E_f0 := frozen_later hst3 E_l E_f0
      replace E_f1 := frozen_later hst3 E_l E_f1
      replace E_f2 := frozen_later hst3 E_l E_f2
      replace E_f3 := frozen_later hst3 E_l E_f3
      replace E_l := Nat.lt_of_lt_of_le E_l hst3.size
      have X_0 : w3.cell? ⟨w2.heap.size, 0, none⟩ = some (.int .i64 g) := (hc3.cell (p := ⟨w2.heap.size, 0, none⟩) (by first | (simp; done) | (simp; omega))).trans (by first | (simp; done) | go_simp)
      have X_1 : w3.cell? ⟨w2.heap.size, 1, none⟩ = some (.int .i64 o) := (hc3.cell (p := ⟨w2.heap.size, 1, none⟩) (by first | (simp; done) | (simp; omega))).trans (by first | (simp; done) | go_simp)
      have X_2 : w3.cell? ⟨w2.heap.size, 2, none⟩ = some (.int .i64 r) := (hc3.cell (p := ⟨w2.heap.size, 2, none⟩) (by first | (simp; done) | (simp; omega))).trans (by first | (simp; done) | go_simp)
      have X_3 : w3.cell? ⟨w2.heap.size, 3, none⟩ = some (.slice (some ⟨b1, 0, none⟩) 0 0) := (hc3.cell (p := ⟨w2.heap.size, 3, none⟩) (by first | (simp; done) | (simp; omega))).trans (by first | (simp; done) | go_simp)
      have X_f0 : w3.frozen? ⟨w2.heap.size, 0, none⟩ = false := (hc3.frozen (p := ⟨w2.heap.size, 0, none⟩) (by first | (simp; done) | (simp; omega))).trans (by first | (simp; done) | go_simp)
      have X_f1 : w3.frozen? ⟨w2.heap.size, 1, none⟩ = false := (hc3.frozen (p := ⟨w2.heap.size, 1, none⟩) (by first | (simp; done) | (simp; omega))).trans (by first | (simp; done) | go_simp)
      have X_f2 : w3.frozen? ⟨w2.heap.size, 2, none⟩ = false := (hc3.frozen (p := ⟨w2.heap.size, 2, none⟩) (by first | (simp; done) | (simp; omega))).trans (by first | (simp; done) | go_simp)
      have X_f3 : w3.frozen? ⟨w2.heap.size, 3, none⟩ = false := (hc3.frozen (p := ⟨w2.heap.size, 3, none⟩) (by first | (simp; done) | (simp; omega))).trans (by first | (simp; done) | go_simp)
      have X_l : w2.heap.size < w3.heap.size := Nat.lt_of_lt_of_le (by first | (simp; done) | (simp; omega)) hc3.size
      clear hst3
      have x4 := X_l
      go_loopw [7] (fun i wr => i = .int .i64 0 ∧ Below w3.heap.size w3 wr) (fun _ _ => 0)
      case atStart => exact ⟨rfl, Below.refl _ _⟩
      case round =>
        obtain ⟨rfl, hc4⟩ := hrel
        obtain ⟨w4, hw4⟩ : ∃ w4, w4 = wr := ⟨wr, rfl⟩
        subst hw4
        have hb4 : Below w.heap.size w w4 := bchain (by repeat' (first | with_reducible exact hb3 | with_reducible refine Below.drew ?_ | with_reducible refine below_drewN ?_ _ | with_reducible refine Below.alloc ?_ (by have := hb3.size; first | (simp; done) | (simp; omega) | omega) _ | with_reducible refine Below.setCell ?_ (by first | (simp; done) | (simp; omega) | omega) _)) hc4
        have hst4 : Below w3.heap.size w3 w4 := bchain (by repeat' (first | with_reducible exact Below.refl _ _ | with_reducible refine Below.drew ?_ | with_reducible refine below_drewN ?_ _ | with_reducible refine Below.alloc ?_ (by first | (simp; done) | (simp; omega) | omega) _ | with_reducible refine Below.setCell ?_ (by first | (simp; done) | (simp; omega) | omega) _)) hc4
        replace D_0 := cell_later hst4 D_0
        replace D_1 := cell_later hst4 D_1
        replace D_2 := cell_later hst4 D_2
        replace D_3 := cell_later hst4 D_3
        replace D_l := Nat.lt_of_lt_of_le D_l hst4.size
        replace E_0 := cell_later hst4 E_0
        replace E_1 := cell_later hst4 E_1
        replace E_2 := cell_later hst4 E_2
        replace E_3 := cell_later hst4 E_3
        replace E_f0 := frozen_later hst4 E_l E_f0
        replace E_f1 := frozen_later hst4 E_l E_f1
        replace E_f2 := frozen_later hst4 E_l E_f2
        replace E_f3 := frozen_later hst4 E_l E_f3
        replace E_l := Nat.lt_of_lt_of_le E_l hst4.size
        replace X_0 := cell_later hst4 X_0
        replace X_1 := cell_later hst4 X_1
        replace X_2 := cell_later hst4 X_2
        replace X_3 := cell_later hst4 X_3
        replace X_f0 := frozen_later hst4 X_l X_f0
        replace X_f1 := frozen_later hst4 X_l X_f1
        replace X_f2 := frozen_later hst4 X_l X_f2
        replace X_f3 := frozen_later hst4 X_l X_f3
        replace X_l := Nat.lt_of_lt_of_le X_l hst4.size
        clear hst4
        have s4 := hb4.size
        go_wp2_with fail
        go_quiet (fail)
        go_wp2_with fail
        with_reducible refine (cloneS0 (some ⟨b1, 0, none⟩) 0 _).mono ?_
        rintro e w5 ⟨a3, c3, rfl, o3, hc5⟩
        have hb5 : Below w.heap.size w w5 := bchain (by repeat' (first | with_reducible exact hb4 | with_reducible refine Below.drew ?_ | with_reducible refine below_drewN ?_ _ | with_reducible refine Below.alloc ?_ (by have := hb4.size; first | (simp; done) | (simp; omega) | omega) _ | with_reducible refine Below.setCell ?_ (by first | (simp; done) | (simp; omega) | omega) _)) hc5
        have hst5 : Below w4.heap.size w4 w5 := bchain (by repeat' (first | with_reducible exact Below.refl _ _ | with_reducible refine Below.drew ?_ | with_reducible refine below_drewN ?_ _ | with_reducible refine Below.alloc ?_ (by first | (simp; done) | (simp; omega) | omega) _ | with_reducible refine Below.setCell ?_ (by first | (simp; done) | (simp; omega) | omega) _)) hc5
        replace D_0 := cell_later hst5 D_0
        replace D_1 := cell_later hst5 D_1
        replace D_2 := cell_later hst5 D_2
        replace D_3 := cell_later hst5 D_3
        replace D_l := Nat.lt_of_lt_of_le D_l hst5.size
        replace E_0 := cell_later hst5 E_0
        replace E_1 := cell_later hst5 E_1
        replace E_2 := cell_later hst5 E_2
        replace E_3 := cell_later hst5 E_3
        replace E_f0 := frozen_later hst5 E_l E_f0
        replace E_f1 := frozen_later hst5 E_l E_f1
        replace E_f2 := frozen_later hst5 E_l E_f2
        replace E_f3 := frozen_later hst5 E_l E_f3
        replace E_l := Nat.lt_of_lt_of_le E_l hst5.size
        replace X_0 := cell_later hst5 X_0
        replace X_1 := cell_later hst5 X_1
        replace X_2 := cell_later hst5 X_2
        replace X_3 := cell_later hst5 X_3
        replace X_f0 := frozen_later hst5 X_l X_f0
        replace X_f1 := frozen_later hst5 X_l X_f1
        replace X_f2 := frozen_later hst5 X_l X_f2
        replace X_f3 := frozen_later hst5 X_l X_f3
        replace X_l := Nat.lt_of_lt_of_le X_l hst5.size
        clear hst5
        clear hc5 hb4
        have p8 : Fresh w.heap.size a3 := fun ad e => by have := (o3.addr ad e).1; simp only [World.heap_drewN] at this; omega
        clear o3
        go_wp2_with fail
        exact bodyPost_ret (v := .tuple #[.agg #[.int .i64 g, .int .i64 o, .int .i64 r, .slice (some ⟨b1, 0, none⟩) 0 0], .slice a3 0 c3, .int .i64 0]) (by simp [results, Try.results13, go_sem, *]) rfl ⟨RetDL.of (RetDL.mk' (r := ((⟨g, o, r, []⟩ : Dk), ([] : Slips), (0 : Int))) rfl rfl rfl (.inl rfl) (.inl rfl) fr1 p8) H_he.out, (by repeat' (first | with_reducible exact hb5 | with_reducible refine Below.drew ?_ | with_reducible refine below_drewN ?_ _ | with_reducible refine Below.alloc ?_ (by have := hb5.size; first | (simp; done) | (simp; omega) | omega) _ | with_reducible refine Below.setCell ?_ (by first | (simp; done) | (simp; omega) | omega) _))⟩
    · skip
      have z3 := E_l
      go_wp2_with fail
      refine wp_gen fun w3 hc3 => ?_
      have hb3 : Below w.heap.size w w3 := bchain (by repeat' (first | with_reducible exact hb2 | with_reducible refine Below.drew ?_ | with_reducible refine below_drewN ?_ _ | with_reducible refine Below.alloc ?_ (by have := hb2.size; first | (simp; done) | (simp; omega) | omega) _ | with_reducible refine Below.setCell ?_ (by first | (simp; done) | (simp; omega) | omega) _)) hc3
      have hst3 : Below w2.heap.size w2 w3 := bchain (by repeat' (first | with_reducible exact Below.refl _ _ | with_reducible refine Below.drew ?_ | with_reducible refine below_drewN ?_ _ | with_reducible refine Below.alloc ?_ (by first | (simp; done) | (simp; omega) | omega) _ | with_reducible refine Below.setCell ?_ (by first | (simp; done) | (simp; omega) | omega) _)) hc3
      replace D_0 := cell_later hst3 D_0
      replace D_1 := cell_later hst3 D_1
      replace D_2 := cell_later hst3 D_2
      replace D_3 := cell_later hst3 D_3
      replace D_l := Nat.lt_of_lt_of_le D_l hst3.size
      replace E_0 := cell_later hst3 E_0
      replace E_1 := cell_later hst3 E_1
      replace E_2 := cell_later hst3 E_2
      replace E_3 := cell_later hst3 E_3
      replace E_f0 := frozen_later hst3 E_l E_f0
      replace E_f1 := frozen_later hst3 E_l E_f1
      replace E_f2 := frozen_later hst3 E_l E_f2
      replace E_f3 := frozen_later hst3 E_l E_f3
      replace E_l := Nat.lt_of_lt_of_le E_l hst3.size
      have X_0 : w3.cell? ⟨w2.heap.size, 0, none⟩ = some (.int .i64 g) := (hc3.cell (p := ⟨w2.heap.size, 0, none⟩) (by first | (simp; done) | (simp; omega))).trans (by first | (simp; done) | go_simp)
      have X_1 : w3.cell? ⟨w2.heap.size, 1, none⟩ = some (.int .i64 o) := (hc3.cell (p := ⟨w2.heap.size, 1, none⟩) (by first | (simp; done) | (simp; omega))).trans (by first | (simp; done) | go_simp)
      have X_2 : w3.cell? ⟨w2.heap.size, 2, none⟩ = some (.int .i64 r) := (hc3.cell (p := ⟨w2.heap.size, 2, none⟩) (by first | (simp; done) | (simp; omega))).trans (by first | (simp; done) | go_simp)
      have X_3 : w3.cell? ⟨w2.heap.size, 3, none⟩ = some (.slice (some ⟨b1, 0, none⟩) 0 c2) := (hc3.cell (p := ⟨w2.heap.size, 3, none⟩) (by first | (simp; done) | (simp; omega))).trans (by first | (simp; done) | go_simp)
      have X_f0 : w3.frozen? ⟨w2.heap.size, 0, none⟩ = false := (hc3.frozen (p := ⟨w2.heap.size, 0, none⟩) (by first | (simp; done) | (simp; omega))).trans (by first | (simp; done) | go_simp)
      have X_f1 : w3.frozen? ⟨w2.heap.size, 1, none⟩ = false := (hc3.frozen (p := ⟨w2.heap.size, 1, none⟩) (by first | (simp; done) | (simp; omega))).trans (by first | (simp; done) | go_simp)
      have X_f2 : w3.frozen? ⟨w2.heap.size, 2, none⟩ = false := (hc3.frozen (p := ⟨w2.heap.size, 2, none⟩) (by first | (simp; done) | (simp; omega))).trans (by first | (simp; done) | go_simp)
      have X_f3 : w3.frozen? ⟨w2.heap.size, 3, none⟩ = false := (hc3.frozen (p := ⟨w2.heap.size, 3, none⟩) (by first | (simp; done) | (simp; omega))).trans (by first | (simp; done) | go_simp)
      have X_l : w2.heap.size < w3.heap.size := Nat.lt_of_lt_of_le (by first | (simp; done) | (simp; omega)) hc3.size
      clear hst3
      have x4 := X_l
      go_loopw [7] (fun i wr => i = .int .i64 0 ∧ Below w3.heap.size w3 wr) (fun _ _ => 0)
      case atStart => exact ⟨rfl, Below.refl _ _⟩
      case round =>
        obtain ⟨rfl, hc4⟩ := hrel
        obtain ⟨w4, hw4⟩ : ∃ w4, w4 = wr := ⟨wr, rfl⟩
        subst hw4
        have hb4 : Below w.heap.size w w4 := bchain (by repeat' (first | with_reducible exact hb3 | with_reducible refine Below.drew ?_ | with_reducible refine below_drewN ?_ _ | with_reducible refine Below.alloc ?_ (by have := hb3.size; first | (simp; done) | (simp; omega) | omega) _ | with_reducible refine Below.setCell ?_ (by first | (simp; done) | (simp; omega) | omega) _)) hc4
        have hst4 : Below w3.heap.size w3 w4 := bchain (by repeat' (first | with_reducible exact Below.refl _ _ | with_reducible refine Below.drew ?_ | with_reducible refine below_drewN ?_ _ | with_reducible refine Below.alloc ?_ (by first | (simp; done) | (simp; omega) | omega) _ | with_reducible refine Below.setCell ?_ (by first | (simp; done) | (simp; omega) | omega) _)) hc4
        replace D_0 := cell_later hst4 D_0
        replace D_1 := cell_later hst4 D_1
        replace D_2 := cell_later hst4 D_2
        replace D_3 := cell_later hst4 D_3
        replace D_l := Nat.lt_of_lt_of_le D_l hst4.size
        replace E_0 := cell_later hst4 E_0
        replace E_1 := cell_later hst4 E_1
        replace E_2 := cell_later hst4 E_2
        replace E_3 := cell_later hst4 E_3
        replace E_f0 := frozen_later hst4 E_l E_f0
        replace E_f1 := frozen_later hst4 E_l E_f1
        replace E_f2 := frozen_later hst4 E_l E_f2
        replace E_f3 := frozen_later hst4 E_l E_f3
        replace E_l := Nat.lt_of_lt_of_le E_l hst4.size
        replace X_0 := cell_later hst4 X_0
        replace X_1 := cell_later hst4 X_1
        replace X_2 := cell_later hst4 X_2
        replace X_3 := cell_later hst4 X_3
        replace X_f0 := frozen_later hst4 X_l X_f0
        replace X_f1 := frozen_later hst4 X_l X_f1
        replace X_f2 := frozen_later hst4 X_l X_f2
        replace X_f3 := frozen_later hst4 X_l X_f3
        replace X_l := Nat.lt_of_lt_of_le X_l hst4.size
        clear hst4
        have s4 := hb4.size
        go_wp2_with fail
        go_quiet (fail)
        go_wp2_with fail
        with_reducible refine (cloneS0 (some ⟨b1, 0, none⟩) c2 _).mono ?_
        rintro e w5 ⟨a3, c3, rfl, o3, hc5⟩
        have hb5 : Below w.heap.size w w5 := bchain (by repeat' (first | with_reducible exact hb4 | with_reducible refine Below.drew ?_ | with_reducible refine below_drewN ?_ _ | with_reducible refine Below.alloc ?_ (by have := hb4.size; first | (simp; done) | (simp; omega) | omega) _ | with_reducible refine Below.setCell ?_ (by first | (simp; done) | (simp; omega) | omega) _)) hc5
        have hst5 : Below w4.heap.size w4 w5 := bchain (by repeat' (first | with_reducible exact Below.refl _ _ | with_reducible refine Below.drew ?_ | with_reducible refine below_drewN ?_ _ | with_reducible refine Below.alloc ?_ (by first | (simp; done) | (simp; omega) | omega) _ | with_reducible refine Below.setCell ?_ (by first | (simp; done) | (simp; omega) | omega) _)) hc5
        replace D_0 := cell_later hst5 D_0
        replace D_1 := cell_later hst5 D_1
        replace D_2 := cell_later hst5 D_2
        replace D_3 := cell_later hst5 D_3
        replace D_l := Nat.lt_of_lt_of_le D_l hst5.size
        replace E_0 := cell_later hst5 E_0
        replace E_1 := cell_later hst5 E_1
        replace E_2 := cell_later hst5 E_2
        replace E_3 := cell_later hst5 E_3
        replace E_f0 := frozen_later hst5 E_l E_f0
        replace E_f1 := frozen_later hst5 E_l E_f1
        replace E_f2 := frozen_later hst5 E_l E_f2
        replace E_f3 := frozen_later hst5 E_l E_f3
        replace E_l := Nat.lt_of_lt_of_le E_l hst5.size
        replace X_0 := cell_later hst5 X_0
        replace X_1 := cell_later hst5 X_1
        replace X_2 := cell_later hst5 X_2
        replace X_3 := cell_later hst5 X_3
        replace X_f0 := frozen_later hst5 X_l X_f0
        replace X_f1 := frozen_later hst5 X_l X_f1
        replace X_f2 := frozen_later hst5 X_l X_f2
        replace X_f3 := frozen_later hst5 X_l X_f3
        replace X_l := Nat.lt_of_lt_of_le X_l hst5.size
        clear hst5
        clear hc5 hb4
        have p8 : Fresh w.heap.size a3 := fun ad e => by have := (o3.addr ad e).1; simp only [World.heap_drewN] at this; omega
        clear o3
        go_wp2_with fail
        exact bodyPost_ret (v := .tuple #[.agg #[.int .i64 g, .int .i64 o, .int .i64 r, .slice (some ⟨b1, 0, none⟩) 0 c2], .slice a3 0 c3, .int .i64 0]) (by simp [results, Try.results13, go_sem, *]) rfl ⟨RetDL.of (RetDL.mk' (r := ((⟨g, o, r, []⟩ : Dk), ([] : Slips), (0 : Int))) rfl rfl rfl (.inl rfl) (.inl rfl) fr1 p8) H_he.out, (by repeat' (first | with_reducible exact hb5 | with_reducible refine Below.drew ?_ | with_reducible refine below_drewN ?_ _ | with_reducible refine Below.alloc ?_ (by have := hb5.size; first | (simp; done) | (simp; omega) | omega) _ | with_reducible refine Below.setCell ?_ (by first | (simp; done) | (simp; omega) | omega) _))⟩

set_option maxHeartbeats 1000000 in
theorem ddrain_any (g o r : Int) (hs : Slips) (a : Option Addr) (c : Nat) (w : World) (hc : CellsAt w a (cel hs)) (hb : hs.length ≤ 8796093022206) :
    Calls Try.prog 13 #[.agg #[.int .i64 g, .int .i64 o, .int .i64 r, .slice a hs.length c]] w fun e w' =>
      RetDL w.heap.size w' e (dDrain ⟨g, o, r, hs⟩) ∧ Below w.heap.size w w' := by
  have Hml := hid (show hs.length ≤ maxLen from by unfold maxLen; omega)
  rcases dErr_cases g o r hs with h8 | h8
  · by_cases h0 : 0 < hs.length
    · exact ddrain_ne g o r hs a c w hc hb h0 h8
    · obtain rfl : hs = [] := List.eq_nil_of_length_eq_zero (by omega)
      exact ddrain_e g o r a c w h8
  · have he : (Dk.zero, ([] : Slips), (8 : Int)) = dDrain ⟨g, o, r, hs⟩ := by unfold dDrain Dk.err; rw [if_neg (by simp only; omega)]
    have H_he := hid he
    have H_h8 := hid h8
    clear he h8
    go_enter Try.func13, Try.ntmps13
    have hb0 := Below.refl w.heap.size w
    go_wp2_with fail
    with_reducible refine (dcheck_any g o r hs a c _ ((hc.alloc _).alloc _) Hml.out).mono ?_
    rintro e w1 ⟨rfl, hc1⟩
    have hb1 : Below w.heap.size w w1 := bchain (by repeat' (first | with_reducible exact hb0 | with_reducible refine Below.drew ?_ | with_reducible refine below_drewN ?_ _ | with_reducible refine Below.alloc ?_ (by have := hb0.size; first | (simp; done) | (simp; omega) | omega) _ | with_reducible refine Below.setCell ?_ (by first | (simp; done) | (simp; omega) | omega) _)) hc1
    have hst1 : Below w.heap.size w w1 := bchain (by repeat' (first | with_reducible exact Below.refl _ _ | with_reducible refine Below.drew ?_ | with_reducible refine below_drewN ?_ _ | with_reducible refine Below.alloc ?_ (by first | (simp; done) | (simp; omega) | omega) _ | with_reducible refine Below.setCell ?_ (by first | (simp; done) | (simp; omega) | omega) _)) hc1
    have D_0 : w1.cell? ⟨w.heap.size, 0, none⟩ = some (.int .i64 g) := (hc1.cell (p := ⟨w.heap.size, 0, none⟩) (by first | (simp; done) | (simp; omega))).trans (by first | (simp; done) | go_simp)
    have D_1 : w1.cell? ⟨w.heap.size, 1, none⟩ = some (.int .i64 o) := (hc1.cell (p := ⟨w.heap.size, 1, none⟩) (by first | (simp; done) | (simp; omega))).trans (by first | (simp; done) | go_simp)
    have D_2 : w1.cell? ⟨w.heap.size, 2, none⟩ = some (.int .i64 r) := (hc1.cell (p := ⟨w.heap.size, 2, none⟩) (by first | (simp; done) | (simp; omega))).trans (by first | (simp; done) | go_simp)
    have D_3 : w1.cell? ⟨w.heap.size, 3, none⟩ = some (.slice a hs.length c) := (hc1.cell (p := ⟨w.heap.size, 3, none⟩) (by first | (simp; done) | (simp; omega))).trans (by first | (simp; done) | go_simp)
    have D_l : w.heap.size < w1.heap.size := Nat.lt_of_lt_of_le (by first | (simp; done) | (simp; omega)) hc1.size
    have E_0 : w1.cell? ⟨w.heap.size + 1, 0, none⟩ = some (.int .i64 0) := (hc1.cell (p := ⟨w.heap.size + 1, 0, none⟩) (by first | (simp; done) | (simp; omega))).trans (by first | (simp; done) | go_simp)
    have E_1 : w1.cell? ⟨w.heap.size + 1, 1, none⟩ = some (.int .i64 0) := (hc1.cell (p := ⟨w.heap.size + 1, 1, none⟩) (by first | (simp; done) | (simp; omega))).trans (by first | (simp; done) | go_simp)
    have E_2 : w1.cell? ⟨w.heap.size + 1, 2, none⟩ = some (.int .i64 0) := (hc1.cell (p := ⟨w.heap.size + 1, 2, none⟩) (by first | (simp; done) | (simp; omega))).trans (by first | (simp; done) | go_simp)
    have E_3 : w1.cell? ⟨w.heap.size + 1, 3, none⟩ = some (.slice none 0 0) := (hc1.cell (p := ⟨w.heap.size + 1, 3, none⟩) (by first | (simp; done) | (simp; omega))).trans (by first | (simp; done) | go_simp)
    have E_f0 : w1.frozen? ⟨w.heap.size + 1, 0, none⟩ = false := (hc1.frozen (p := ⟨w.heap.size + 1, 0, none⟩) (by first | (simp; done) | (simp; omega))).trans (by first | (simp; done) | go_simp)
    have E_f1 : w1.frozen? ⟨w.heap.size + 1, 1, none⟩ = false := (hc1.frozen (p := ⟨w.heap.size + 1, 1, none⟩) (by first | (simp; done) | (simp; omega))).trans (by first | (simp; done) | go_simp)
    have E_f2 : w1.frozen? ⟨w.heap.size + 1, 2, none⟩ = false := (hc1.frozen (p := ⟨w.heap.size + 1, 2, none⟩) (by first | (simp; done) | (simp; omega))).trans (by first | (simp; done) | go_simp)
    have E_f3 : w1.frozen? ⟨w.heap.size + 1, 3, none⟩ = false := (hc1.frozen (p := ⟨w.heap.size + 1, 3, none⟩) (by first | (simp; done) | (simp; omega))).trans (by first | (simp; done) | go_simp)
    have E_l : w.heap.size + 1 < w1.heap.size := Nat.lt_of_lt_of_le (by first | (simp; done) | (simp; omega)) hc1.size
    replace hc := hc.later hst1
    clear hst1
    clear hc1 hb0
    rw [H_h8.out]
    have z1 := E_l
    go_wp2_with fail
    exact bodyPost_ret (v := .tuple #[.agg #[.int .i64 0, .int .i64 0, .int .i64 0, .slice none 0 0], .slice none 0 0, .int .i64 8]) (by simp [results, Try.results13, go_sem, *]) rfl ⟨RetDL.of ⟨_, _, _, _, rfl, .inl rfl, .inl rfl, fresh_none _, fresh_none _⟩ H_he.out, (by repeat' (first | with_reducible exact hb1 | with_reducible refine Below.drew ?_ | with_reducible refine below_drewN ?_ _ | with_reducible refine Below.alloc ?_ (by have := hb1.size; first | (simp; done) | (simp; omega) | omega) _ | with_reducible refine Below.setCell ?_ (by first | (simp; done) | (simp; omega) | omega) _))⟩

end Go.Proofs.Ytpfldkcbkolgnaa
