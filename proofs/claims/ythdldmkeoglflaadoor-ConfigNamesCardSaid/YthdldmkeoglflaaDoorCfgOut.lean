/- config.Without. -/
import Derived.Test.YthdldmkeoglflaaDoorCfgWith
namespace Go.Proofs.YthdldmkeoglflaaDoor
set_option maxRecDepth 100000
set_option linter.unusedSimpArgs false
set_option linter.unusedVariables false
set_option linter.unnecessarySimpa false
open Go.RowKit

def withoutR (L : Lim) (s : Int) (ps : Peers) (x : ByteArray) (E : Int) : SOut :=
  if E = 0 then (if hasN ps x then ⟨L, s, ps.eraseIdx (lb ps x), 0⟩ else zOut 6) else zOut E
set_option maxHeartbeats 4000000 in
theorem Without_any (l0 l1 l2 l3 l4 l5 l6 l7 l8 : Int) (s : Int) (x : ByteArray) (ps : Peers) (a : Option Addr) (c : Nat) (w : World) (hS : SIn w s ps a) (E : Int) (hE : chkS (⟨l0, l1, l2, l3, l4, l5, l6, l7, l8⟩ : Lim) s ps = E) :
    Calls Tryd.prog 22 #[.agg #[.int .i64 l0, .int .i64 l1, .int .i64 l2, .int .i64 l3, .int .i64 l4, .int .i64 l5, .int .i64 l6, .int .i64 l7, .int .i64 l8, .int .u32 s, .slice a ps.length c], .string x] w fun e w' =>
      RetS w' e (withoutR (⟨l0, l1, l2, l3, l4, l5, l6, l7, l8⟩ : Lim) s ps x E) ∧ Below w.heap.size w w' := by
  have hchk := fun W (h : SIn W s ps a) => hE ▸ Check_any l0 l1 l2 l3 l4 l5 l6 l7 l8 s ps a c W h.cells h.s0 h.s4 h.keys h.ml
  obtain ⟨R, hR⟩ : ∃ R, withoutR (⟨l0, l1, l2, l3, l4, l5, l6, l7, l8⟩ : Lim) s ps x E = R := ⟨_, rfl⟩
  rw [hR]
  by_cases h0 : E = 0
  · subst h0
    have hinc := (CV.of hE).inc
    have hl8 := (CV.of hE).len
    have hnm := fun W (h : SIn W s ps a) => named_any l0 l1 l2 l3 l4 l5 l6 l7 l8 s x ps a c W h.cells h.len hinc
    cases hh : hasN ps x with
    | false =>
      have hr2 : zOut 6 = R := by rw [← hR]; unfold withoutR; rw [if_pos rfl, hh]; rfl
      rw [hh] at hnm
      have H_hR := Box.mk hR
      have H_hE := Box.mk hE
      have H_hr2 := Box.mk hr2
      have H_hchk := Box.mk hchk
      have H_hnm := Box.mk hnm
      have H_hinc := Box.mk hinc
      have H_hh := Box.mk hh
      clear hR hE hr2 hchk hnm hinc hh
      go_enter Tryd.func22, Tryd.ntmps22
      have hb0 := Below.refl w.heap.size w
      go_wp2_with fail
      with_reducible refine (H_hchk.out _ ((hS.alloc _).alloc _)).mono ?_
      rintro e w1 ⟨rfl, hc1⟩
      have hb1 : Below w.heap.size w w1 := bchain (by repeat' (first | with_reducible exact hb0 | with_reducible refine Below.drew ?_ | with_reducible refine below_drewN ?_ _ | with_reducible refine Below.alloc ?_ (by have := hb0.size; first | (simp; done) | (simp; omega) | omega) _ | with_reducible refine Below.setCell ?_ (by first | (simp; done) | (simp; omega) | omega) _)) hc1
      have hst1 : Below w.heap.size w w1 := bchain (by repeat' (first | with_reducible exact Below.refl _ _ | with_reducible refine Below.drew ?_ | with_reducible refine below_drewN ?_ _ | with_reducible refine Below.alloc ?_ (by first | (simp; done) | (simp; omega) | omega) _ | with_reducible refine Below.setCell ?_ (by first | (simp; done) | (simp; omega) | omega) _)) hc1
      have X_0 : w1.cell? ⟨w.heap.size, 0, none⟩ = some (.int .i64 l0) := (hc1.cell (p := ⟨w.heap.size, 0, none⟩) (by first | (simp; done) | (simp; omega))).trans (by first | (simp; done) | go_simp)
      have X_1 : w1.cell? ⟨w.heap.size, 1, none⟩ = some (.int .i64 l1) := (hc1.cell (p := ⟨w.heap.size, 1, none⟩) (by first | (simp; done) | (simp; omega))).trans (by first | (simp; done) | go_simp)
      have X_2 : w1.cell? ⟨w.heap.size, 2, none⟩ = some (.int .i64 l2) := (hc1.cell (p := ⟨w.heap.size, 2, none⟩) (by first | (simp; done) | (simp; omega))).trans (by first | (simp; done) | go_simp)
      have X_3 : w1.cell? ⟨w.heap.size, 3, none⟩ = some (.int .i64 l3) := (hc1.cell (p := ⟨w.heap.size, 3, none⟩) (by first | (simp; done) | (simp; omega))).trans (by first | (simp; done) | go_simp)
      have X_4 : w1.cell? ⟨w.heap.size, 4, none⟩ = some (.int .i64 l4) := (hc1.cell (p := ⟨w.heap.size, 4, none⟩) (by first | (simp; done) | (simp; omega))).trans (by first | (simp; done) | go_simp)
      have X_5 : w1.cell? ⟨w.heap.size, 5, none⟩ = some (.int .i64 l5) := (hc1.cell (p := ⟨w.heap.size, 5, none⟩) (by first | (simp; done) | (simp; omega))).trans (by first | (simp; done) | go_simp)
      have X_6 : w1.cell? ⟨w.heap.size, 6, none⟩ = some (.int .i64 l6) := (hc1.cell (p := ⟨w.heap.size, 6, none⟩) (by first | (simp; done) | (simp; omega))).trans (by first | (simp; done) | go_simp)
      have X_7 : w1.cell? ⟨w.heap.size, 7, none⟩ = some (.int .i64 l7) := (hc1.cell (p := ⟨w.heap.size, 7, none⟩) (by first | (simp; done) | (simp; omega))).trans (by first | (simp; done) | go_simp)
      have X_8 : w1.cell? ⟨w.heap.size, 8, none⟩ = some (.int .i64 l8) := (hc1.cell (p := ⟨w.heap.size, 8, none⟩) (by first | (simp; done) | (simp; omega))).trans (by first | (simp; done) | go_simp)
      have X_9 : w1.cell? ⟨w.heap.size, 9, none⟩ = some (.int .u32 s) := (hc1.cell (p := ⟨w.heap.size, 9, none⟩) (by first | (simp; done) | (simp; omega))).trans (by first | (simp; done) | go_simp)
      have X_10 : w1.cell? ⟨w.heap.size, 10, none⟩ = some (.slice a ps.length c) := (hc1.cell (p := ⟨w.heap.size, 10, none⟩) (by first | (simp; done) | (simp; omega))).trans (by first | (simp; done) | go_simp)
      have X_f0 : w1.frozen? ⟨w.heap.size, 0, none⟩ = false := (hc1.frozen (p := ⟨w.heap.size, 0, none⟩) (by first | (simp; done) | (simp; omega))).trans (by first | (simp; done) | go_simp)
      have X_f1 : w1.frozen? ⟨w.heap.size, 1, none⟩ = false := (hc1.frozen (p := ⟨w.heap.size, 1, none⟩) (by first | (simp; done) | (simp; omega))).trans (by first | (simp; done) | go_simp)
      have X_f2 : w1.frozen? ⟨w.heap.size, 2, none⟩ = false := (hc1.frozen (p := ⟨w.heap.size, 2, none⟩) (by first | (simp; done) | (simp; omega))).trans (by first | (simp; done) | go_simp)
      have X_f3 : w1.frozen? ⟨w.heap.size, 3, none⟩ = false := (hc1.frozen (p := ⟨w.heap.size, 3, none⟩) (by first | (simp; done) | (simp; omega))).trans (by first | (simp; done) | go_simp)
      have X_f4 : w1.frozen? ⟨w.heap.size, 4, none⟩ = false := (hc1.frozen (p := ⟨w.heap.size, 4, none⟩) (by first | (simp; done) | (simp; omega))).trans (by first | (simp; done) | go_simp)
      have X_f5 : w1.frozen? ⟨w.heap.size, 5, none⟩ = false := (hc1.frozen (p := ⟨w.heap.size, 5, none⟩) (by first | (simp; done) | (simp; omega))).trans (by first | (simp; done) | go_simp)
      have X_f6 : w1.frozen? ⟨w.heap.size, 6, none⟩ = false := (hc1.frozen (p := ⟨w.heap.size, 6, none⟩) (by first | (simp; done) | (simp; omega))).trans (by first | (simp; done) | go_simp)
      have X_f7 : w1.frozen? ⟨w.heap.size, 7, none⟩ = false := (hc1.frozen (p := ⟨w.heap.size, 7, none⟩) (by first | (simp; done) | (simp; omega))).trans (by first | (simp; done) | go_simp)
      have X_f8 : w1.frozen? ⟨w.heap.size, 8, none⟩ = false := (hc1.frozen (p := ⟨w.heap.size, 8, none⟩) (by first | (simp; done) | (simp; omega))).trans (by first | (simp; done) | go_simp)
      have X_f9 : w1.frozen? ⟨w.heap.size, 9, none⟩ = false := (hc1.frozen (p := ⟨w.heap.size, 9, none⟩) (by first | (simp; done) | (simp; omega))).trans (by first | (simp; done) | go_simp)
      have X_f10 : w1.frozen? ⟨w.heap.size, 10, none⟩ = false := (hc1.frozen (p := ⟨w.heap.size, 10, none⟩) (by first | (simp; done) | (simp; omega))).trans (by first | (simp; done) | go_simp)
      have X_l : w.heap.size < w1.heap.size := Nat.lt_of_lt_of_le (by first | (simp; done) | (simp; omega)) hc1.size
      have R_0 : w1.cell? ⟨w.heap.size + 1, 0, none⟩ = some (.int .i64 0) := (hc1.cell (p := ⟨w.heap.size + 1, 0, none⟩) (by first | (simp; done) | (simp; omega))).trans (by first | (simp; done) | go_simp)
      have R_1 : w1.cell? ⟨w.heap.size + 1, 1, none⟩ = some (.int .i64 0) := (hc1.cell (p := ⟨w.heap.size + 1, 1, none⟩) (by first | (simp; done) | (simp; omega))).trans (by first | (simp; done) | go_simp)
      have R_2 : w1.cell? ⟨w.heap.size + 1, 2, none⟩ = some (.int .i64 0) := (hc1.cell (p := ⟨w.heap.size + 1, 2, none⟩) (by first | (simp; done) | (simp; omega))).trans (by first | (simp; done) | go_simp)
      have R_3 : w1.cell? ⟨w.heap.size + 1, 3, none⟩ = some (.int .i64 0) := (hc1.cell (p := ⟨w.heap.size + 1, 3, none⟩) (by first | (simp; done) | (simp; omega))).trans (by first | (simp; done) | go_simp)
      have R_4 : w1.cell? ⟨w.heap.size + 1, 4, none⟩ = some (.int .i64 0) := (hc1.cell (p := ⟨w.heap.size + 1, 4, none⟩) (by first | (simp; done) | (simp; omega))).trans (by first | (simp; done) | go_simp)
      have R_5 : w1.cell? ⟨w.heap.size + 1, 5, none⟩ = some (.int .i64 0) := (hc1.cell (p := ⟨w.heap.size + 1, 5, none⟩) (by first | (simp; done) | (simp; omega))).trans (by first | (simp; done) | go_simp)
      have R_6 : w1.cell? ⟨w.heap.size + 1, 6, none⟩ = some (.int .i64 0) := (hc1.cell (p := ⟨w.heap.size + 1, 6, none⟩) (by first | (simp; done) | (simp; omega))).trans (by first | (simp; done) | go_simp)
      have R_7 : w1.cell? ⟨w.heap.size + 1, 7, none⟩ = some (.int .i64 0) := (hc1.cell (p := ⟨w.heap.size + 1, 7, none⟩) (by first | (simp; done) | (simp; omega))).trans (by first | (simp; done) | go_simp)
      have R_8 : w1.cell? ⟨w.heap.size + 1, 8, none⟩ = some (.int .i64 0) := (hc1.cell (p := ⟨w.heap.size + 1, 8, none⟩) (by first | (simp; done) | (simp; omega))).trans (by first | (simp; done) | go_simp)
      have R_9 : w1.cell? ⟨w.heap.size + 1, 9, none⟩ = some (.int .u32 0) := (hc1.cell (p := ⟨w.heap.size + 1, 9, none⟩) (by first | (simp; done) | (simp; omega))).trans (by first | (simp; done) | go_simp)
      have R_10 : w1.cell? ⟨w.heap.size + 1, 10, none⟩ = some (.slice none 0 0) := (hc1.cell (p := ⟨w.heap.size + 1, 10, none⟩) (by first | (simp; done) | (simp; omega))).trans (by first | (simp; done) | go_simp)
      have R_f0 : w1.frozen? ⟨w.heap.size + 1, 0, none⟩ = false := (hc1.frozen (p := ⟨w.heap.size + 1, 0, none⟩) (by first | (simp; done) | (simp; omega))).trans (by first | (simp; done) | go_simp)
      have R_f1 : w1.frozen? ⟨w.heap.size + 1, 1, none⟩ = false := (hc1.frozen (p := ⟨w.heap.size + 1, 1, none⟩) (by first | (simp; done) | (simp; omega))).trans (by first | (simp; done) | go_simp)
      have R_f2 : w1.frozen? ⟨w.heap.size + 1, 2, none⟩ = false := (hc1.frozen (p := ⟨w.heap.size + 1, 2, none⟩) (by first | (simp; done) | (simp; omega))).trans (by first | (simp; done) | go_simp)
      have R_f3 : w1.frozen? ⟨w.heap.size + 1, 3, none⟩ = false := (hc1.frozen (p := ⟨w.heap.size + 1, 3, none⟩) (by first | (simp; done) | (simp; omega))).trans (by first | (simp; done) | go_simp)
      have R_f4 : w1.frozen? ⟨w.heap.size + 1, 4, none⟩ = false := (hc1.frozen (p := ⟨w.heap.size + 1, 4, none⟩) (by first | (simp; done) | (simp; omega))).trans (by first | (simp; done) | go_simp)
      have R_f5 : w1.frozen? ⟨w.heap.size + 1, 5, none⟩ = false := (hc1.frozen (p := ⟨w.heap.size + 1, 5, none⟩) (by first | (simp; done) | (simp; omega))).trans (by first | (simp; done) | go_simp)
      have R_f6 : w1.frozen? ⟨w.heap.size + 1, 6, none⟩ = false := (hc1.frozen (p := ⟨w.heap.size + 1, 6, none⟩) (by first | (simp; done) | (simp; omega))).trans (by first | (simp; done) | go_simp)
      have R_f7 : w1.frozen? ⟨w.heap.size + 1, 7, none⟩ = false := (hc1.frozen (p := ⟨w.heap.size + 1, 7, none⟩) (by first | (simp; done) | (simp; omega))).trans (by first | (simp; done) | go_simp)
      have R_f8 : w1.frozen? ⟨w.heap.size + 1, 8, none⟩ = false := (hc1.frozen (p := ⟨w.heap.size + 1, 8, none⟩) (by first | (simp; done) | (simp; omega))).trans (by first | (simp; done) | go_simp)
      have R_f9 : w1.frozen? ⟨w.heap.size + 1, 9, none⟩ = false := (hc1.frozen (p := ⟨w.heap.size + 1, 9, none⟩) (by first | (simp; done) | (simp; omega))).trans (by first | (simp; done) | go_simp)
      have R_f10 : w1.frozen? ⟨w.heap.size + 1, 10, none⟩ = false := (hc1.frozen (p := ⟨w.heap.size + 1, 10, none⟩) (by first | (simp; done) | (simp; omega))).trans (by first | (simp; done) | go_simp)
      have R_l : w.heap.size + 1 < w1.heap.size := Nat.lt_of_lt_of_le (by first | (simp; done) | (simp; omega)) hc1.size
      replace hS := hS.later hst1
      clear hst1
      clear hc1 hb0
      go_wp2_with fail
      with_reducible refine (H_hnm.out _ hS).mono ?_
      rintro e w2 ⟨rfl, hc2⟩
      have hb2 : Below w.heap.size w w2 := bchain (by repeat' (first | with_reducible exact hb1 | with_reducible refine Below.drew ?_ | with_reducible refine below_drewN ?_ _ | with_reducible refine Below.alloc ?_ (by have := hb1.size; first | (simp; done) | (simp; omega) | omega) _ | with_reducible refine Below.setCell ?_ (by first | (simp; done) | (simp; omega) | omega) _)) hc2
      have hst2 : Below w1.heap.size w1 w2 := bchain (by repeat' (first | with_reducible exact Below.refl _ _ | with_reducible refine Below.drew ?_ | with_reducible refine below_drewN ?_ _ | with_reducible refine Below.alloc ?_ (by first | (simp; done) | (simp; omega) | omega) _ | with_reducible refine Below.setCell ?_ (by first | (simp; done) | (simp; omega) | omega) _)) hc2
      replace X_0 := cell_later hst2 X_0
      replace X_1 := cell_later hst2 X_1
      replace X_2 := cell_later hst2 X_2
      replace X_3 := cell_later hst2 X_3
      replace X_4 := cell_later hst2 X_4
      replace X_5 := cell_later hst2 X_5
      replace X_6 := cell_later hst2 X_6
      replace X_7 := cell_later hst2 X_7
      replace X_8 := cell_later hst2 X_8
      replace X_9 := cell_later hst2 X_9
      replace X_10 := cell_later hst2 X_10
      replace X_f0 := frozen_later hst2 X_l X_f0
      replace X_f1 := frozen_later hst2 X_l X_f1
      replace X_f2 := frozen_later hst2 X_l X_f2
      replace X_f3 := frozen_later hst2 X_l X_f3
      replace X_f4 := frozen_later hst2 X_l X_f4
      replace X_f5 := frozen_later hst2 X_l X_f5
      replace X_f6 := frozen_later hst2 X_l X_f6
      replace X_f7 := frozen_later hst2 X_l X_f7
      replace X_f8 := frozen_later hst2 X_l X_f8
      replace X_f9 := frozen_later hst2 X_l X_f9
      replace X_f10 := frozen_later hst2 X_l X_f10
      replace X_l := Nat.lt_of_lt_of_le X_l hst2.size
      replace R_0 := cell_later hst2 R_0
      replace R_1 := cell_later hst2 R_1
      replace R_2 := cell_later hst2 R_2
      replace R_3 := cell_later hst2 R_3
      replace R_4 := cell_later hst2 R_4
      replace R_5 := cell_later hst2 R_5
      replace R_6 := cell_later hst2 R_6
      replace R_7 := cell_later hst2 R_7
      replace R_8 := cell_later hst2 R_8
      replace R_9 := cell_later hst2 R_9
      replace R_10 := cell_later hst2 R_10
      replace R_f0 := frozen_later hst2 R_l R_f0
      replace R_f1 := frozen_later hst2 R_l R_f1
      replace R_f2 := frozen_later hst2 R_l R_f2
      replace R_f3 := frozen_later hst2 R_l R_f3
      replace R_f4 := frozen_later hst2 R_l R_f4
      replace R_f5 := frozen_later hst2 R_l R_f5
      replace R_f6 := frozen_later hst2 R_l R_f6
      replace R_f7 := frozen_later hst2 R_l R_f7
      replace R_f8 := frozen_later hst2 R_l R_f8
      replace R_f9 := frozen_later hst2 R_l R_f9
      replace R_f10 := frozen_later hst2 R_l R_f10
      replace R_l := Nat.lt_of_lt_of_le R_l hst2.size
      replace hS := hS.later hst2
      clear hst2
      clear hc2 hb1
      go_wp2_with fail
      refine bodyPost_ret (v := .tuple #[.agg #[.int .i64 0, .int .i64 0, .int .i64 0, .int .i64 0, .int .i64 0, .int .i64 0, .int .i64 0, .int .i64 0, .int .i64 0, .int .u32 0, .slice none 0 0], .int .i64 6]) (by simp [results, Tryd.results22, go_sem, *]) rfl ⟨RetS.of (r := zOut 6) ⟨none, 0, rfl, .inl rfl⟩ H_hr2.out, (by repeat' (first | with_reducible exact hb2 | with_reducible refine Below.drew ?_ | with_reducible refine below_drewN ?_ _ | with_reducible refine Below.alloc ?_ (by have := hb2.size; first | (simp; done) | (simp; omega) | omega) _ | with_reducible refine Below.setCell ?_ (by first | (simp; done) | (simp; omega) | omega) _))⟩
    | true =>
      have hr2 : (⟨(⟨l0, l1, l2, l3, l4, l5, l6, l7, l8⟩ : Lim), s, ps.eraseIdx (lb ps x), 0⟩ : SOut) = R := by rw [← hR]; unfold withoutR; rw [if_pos rfl, hh]; rfl
      have hlt := (hasN_iff.1 hh).1
      rw [hh] at hnm
      obtain ⟨k, hk⟩ : ∃ k, lb ps x = k := ⟨_, rfl⟩
      simp only [hk] at hnm
      rw [hk] at hlt hr2
      have hlen : (ps.eraseIdx k).length = ps.length - 1 := List.length_eraseIdx_of_lt hlt
      have hcl := fun W (h : SIn W s ps a) => cloneS_any a ps.length c ps W rfl h.cells (by omega)
      have H_hR := Box.mk hR
      have H_hE := Box.mk hE
      have H_hr2 := Box.mk hr2
      have H_hchk := Box.mk hchk
      have H_hnm := Box.mk hnm
      have H_hinc := Box.mk hinc
      have H_hh := Box.mk hh
      have H_hk := Box.mk hk
      have H_hlen := Box.mk hlen
      have H_hcl := Box.mk hcl
      clear hR hE hr2 hchk hnm hinc hh hk hlen hcl
      go_enter Tryd.func22, Tryd.ntmps22
      have hb0 := Below.refl w.heap.size w
      go_wp2_with fail
      with_reducible refine (H_hchk.out _ ((hS.alloc _).alloc _)).mono ?_
      rintro e w1 ⟨rfl, hc1⟩
      have hb1 : Below w.heap.size w w1 := bchain (by repeat' (first | with_reducible exact hb0 | with_reducible refine Below.drew ?_ | with_reducible refine below_drewN ?_ _ | with_reducible refine Below.alloc ?_ (by have := hb0.size; first | (simp; done) | (simp; omega) | omega) _ | with_reducible refine Below.setCell ?_ (by first | (simp; done) | (simp; omega) | omega) _)) hc1
      have hst1 : Below w.heap.size w w1 := bchain (by repeat' (first | with_reducible exact Below.refl _ _ | with_reducible refine Below.drew ?_ | with_reducible refine below_drewN ?_ _ | with_reducible refine Below.alloc ?_ (by first | (simp; done) | (simp; omega) | omega) _ | with_reducible refine Below.setCell ?_ (by first | (simp; done) | (simp; omega) | omega) _)) hc1
      have X_0 : w1.cell? ⟨w.heap.size, 0, none⟩ = some (.int .i64 l0) := (hc1.cell (p := ⟨w.heap.size, 0, none⟩) (by first | (simp; done) | (simp; omega))).trans (by first | (simp; done) | go_simp)
      have X_1 : w1.cell? ⟨w.heap.size, 1, none⟩ = some (.int .i64 l1) := (hc1.cell (p := ⟨w.heap.size, 1, none⟩) (by first | (simp; done) | (simp; omega))).trans (by first | (simp; done) | go_simp)
      have X_2 : w1.cell? ⟨w.heap.size, 2, none⟩ = some (.int .i64 l2) := (hc1.cell (p := ⟨w.heap.size, 2, none⟩) (by first | (simp; done) | (simp; omega))).trans (by first | (simp; done) | go_simp)
      have X_3 : w1.cell? ⟨w.heap.size, 3, none⟩ = some (.int .i64 l3) := (hc1.cell (p := ⟨w.heap.size, 3, none⟩) (by first | (simp; done) | (simp; omega))).trans (by first | (simp; done) | go_simp)
      have X_4 : w1.cell? ⟨w.heap.size, 4, none⟩ = some (.int .i64 l4) := (hc1.cell (p := ⟨w.heap.size, 4, none⟩) (by first | (simp; done) | (simp; omega))).trans (by first | (simp; done) | go_simp)
      have X_5 : w1.cell? ⟨w.heap.size, 5, none⟩ = some (.int .i64 l5) := (hc1.cell (p := ⟨w.heap.size, 5, none⟩) (by first | (simp; done) | (simp; omega))).trans (by first | (simp; done) | go_simp)
      have X_6 : w1.cell? ⟨w.heap.size, 6, none⟩ = some (.int .i64 l6) := (hc1.cell (p := ⟨w.heap.size, 6, none⟩) (by first | (simp; done) | (simp; omega))).trans (by first | (simp; done) | go_simp)
      have X_7 : w1.cell? ⟨w.heap.size, 7, none⟩ = some (.int .i64 l7) := (hc1.cell (p := ⟨w.heap.size, 7, none⟩) (by first | (simp; done) | (simp; omega))).trans (by first | (simp; done) | go_simp)
      have X_8 : w1.cell? ⟨w.heap.size, 8, none⟩ = some (.int .i64 l8) := (hc1.cell (p := ⟨w.heap.size, 8, none⟩) (by first | (simp; done) | (simp; omega))).trans (by first | (simp; done) | go_simp)
      have X_9 : w1.cell? ⟨w.heap.size, 9, none⟩ = some (.int .u32 s) := (hc1.cell (p := ⟨w.heap.size, 9, none⟩) (by first | (simp; done) | (simp; omega))).trans (by first | (simp; done) | go_simp)
      have X_10 : w1.cell? ⟨w.heap.size, 10, none⟩ = some (.slice a ps.length c) := (hc1.cell (p := ⟨w.heap.size, 10, none⟩) (by first | (simp; done) | (simp; omega))).trans (by first | (simp; done) | go_simp)
      have X_f0 : w1.frozen? ⟨w.heap.size, 0, none⟩ = false := (hc1.frozen (p := ⟨w.heap.size, 0, none⟩) (by first | (simp; done) | (simp; omega))).trans (by first | (simp; done) | go_simp)
      have X_f1 : w1.frozen? ⟨w.heap.size, 1, none⟩ = false := (hc1.frozen (p := ⟨w.heap.size, 1, none⟩) (by first | (simp; done) | (simp; omega))).trans (by first | (simp; done) | go_simp)
      have X_f2 : w1.frozen? ⟨w.heap.size, 2, none⟩ = false := (hc1.frozen (p := ⟨w.heap.size, 2, none⟩) (by first | (simp; done) | (simp; omega))).trans (by first | (simp; done) | go_simp)
      have X_f3 : w1.frozen? ⟨w.heap.size, 3, none⟩ = false := (hc1.frozen (p := ⟨w.heap.size, 3, none⟩) (by first | (simp; done) | (simp; omega))).trans (by first | (simp; done) | go_simp)
      have X_f4 : w1.frozen? ⟨w.heap.size, 4, none⟩ = false := (hc1.frozen (p := ⟨w.heap.size, 4, none⟩) (by first | (simp; done) | (simp; omega))).trans (by first | (simp; done) | go_simp)
      have X_f5 : w1.frozen? ⟨w.heap.size, 5, none⟩ = false := (hc1.frozen (p := ⟨w.heap.size, 5, none⟩) (by first | (simp; done) | (simp; omega))).trans (by first | (simp; done) | go_simp)
      have X_f6 : w1.frozen? ⟨w.heap.size, 6, none⟩ = false := (hc1.frozen (p := ⟨w.heap.size, 6, none⟩) (by first | (simp; done) | (simp; omega))).trans (by first | (simp; done) | go_simp)
      have X_f7 : w1.frozen? ⟨w.heap.size, 7, none⟩ = false := (hc1.frozen (p := ⟨w.heap.size, 7, none⟩) (by first | (simp; done) | (simp; omega))).trans (by first | (simp; done) | go_simp)
      have X_f8 : w1.frozen? ⟨w.heap.size, 8, none⟩ = false := (hc1.frozen (p := ⟨w.heap.size, 8, none⟩) (by first | (simp; done) | (simp; omega))).trans (by first | (simp; done) | go_simp)
      have X_f9 : w1.frozen? ⟨w.heap.size, 9, none⟩ = false := (hc1.frozen (p := ⟨w.heap.size, 9, none⟩) (by first | (simp; done) | (simp; omega))).trans (by first | (simp; done) | go_simp)
      have X_f10 : w1.frozen? ⟨w.heap.size, 10, none⟩ = false := (hc1.frozen (p := ⟨w.heap.size, 10, none⟩) (by first | (simp; done) | (simp; omega))).trans (by first | (simp; done) | go_simp)
      have X_l : w.heap.size < w1.heap.size := Nat.lt_of_lt_of_le (by first | (simp; done) | (simp; omega)) hc1.size
      have R_0 : w1.cell? ⟨w.heap.size + 1, 0, none⟩ = some (.int .i64 0) := (hc1.cell (p := ⟨w.heap.size + 1, 0, none⟩) (by first | (simp; done) | (simp; omega))).trans (by first | (simp; done) | go_simp)
      have R_1 : w1.cell? ⟨w.heap.size + 1, 1, none⟩ = some (.int .i64 0) := (hc1.cell (p := ⟨w.heap.size + 1, 1, none⟩) (by first | (simp; done) | (simp; omega))).trans (by first | (simp; done) | go_simp)
      have R_2 : w1.cell? ⟨w.heap.size + 1, 2, none⟩ = some (.int .i64 0) := (hc1.cell (p := ⟨w.heap.size + 1, 2, none⟩) (by first | (simp; done) | (simp; omega))).trans (by first | (simp; done) | go_simp)
      have R_3 : w1.cell? ⟨w.heap.size + 1, 3, none⟩ = some (.int .i64 0) := (hc1.cell (p := ⟨w.heap.size + 1, 3, none⟩) (by first | (simp; done) | (simp; omega))).trans (by first | (simp; done) | go_simp)
      have R_4 : w1.cell? ⟨w.heap.size + 1, 4, none⟩ = some (.int .i64 0) := (hc1.cell (p := ⟨w.heap.size + 1, 4, none⟩) (by first | (simp; done) | (simp; omega))).trans (by first | (simp; done) | go_simp)
      have R_5 : w1.cell? ⟨w.heap.size + 1, 5, none⟩ = some (.int .i64 0) := (hc1.cell (p := ⟨w.heap.size + 1, 5, none⟩) (by first | (simp; done) | (simp; omega))).trans (by first | (simp; done) | go_simp)
      have R_6 : w1.cell? ⟨w.heap.size + 1, 6, none⟩ = some (.int .i64 0) := (hc1.cell (p := ⟨w.heap.size + 1, 6, none⟩) (by first | (simp; done) | (simp; omega))).trans (by first | (simp; done) | go_simp)
      have R_7 : w1.cell? ⟨w.heap.size + 1, 7, none⟩ = some (.int .i64 0) := (hc1.cell (p := ⟨w.heap.size + 1, 7, none⟩) (by first | (simp; done) | (simp; omega))).trans (by first | (simp; done) | go_simp)
      have R_8 : w1.cell? ⟨w.heap.size + 1, 8, none⟩ = some (.int .i64 0) := (hc1.cell (p := ⟨w.heap.size + 1, 8, none⟩) (by first | (simp; done) | (simp; omega))).trans (by first | (simp; done) | go_simp)
      have R_9 : w1.cell? ⟨w.heap.size + 1, 9, none⟩ = some (.int .u32 0) := (hc1.cell (p := ⟨w.heap.size + 1, 9, none⟩) (by first | (simp; done) | (simp; omega))).trans (by first | (simp; done) | go_simp)
      have R_10 : w1.cell? ⟨w.heap.size + 1, 10, none⟩ = some (.slice none 0 0) := (hc1.cell (p := ⟨w.heap.size + 1, 10, none⟩) (by first | (simp; done) | (simp; omega))).trans (by first | (simp; done) | go_simp)
      have R_f0 : w1.frozen? ⟨w.heap.size + 1, 0, none⟩ = false := (hc1.frozen (p := ⟨w.heap.size + 1, 0, none⟩) (by first | (simp; done) | (simp; omega))).trans (by first | (simp; done) | go_simp)
      have R_f1 : w1.frozen? ⟨w.heap.size + 1, 1, none⟩ = false := (hc1.frozen (p := ⟨w.heap.size + 1, 1, none⟩) (by first | (simp; done) | (simp; omega))).trans (by first | (simp; done) | go_simp)
      have R_f2 : w1.frozen? ⟨w.heap.size + 1, 2, none⟩ = false := (hc1.frozen (p := ⟨w.heap.size + 1, 2, none⟩) (by first | (simp; done) | (simp; omega))).trans (by first | (simp; done) | go_simp)
      have R_f3 : w1.frozen? ⟨w.heap.size + 1, 3, none⟩ = false := (hc1.frozen (p := ⟨w.heap.size + 1, 3, none⟩) (by first | (simp; done) | (simp; omega))).trans (by first | (simp; done) | go_simp)
      have R_f4 : w1.frozen? ⟨w.heap.size + 1, 4, none⟩ = false := (hc1.frozen (p := ⟨w.heap.size + 1, 4, none⟩) (by first | (simp; done) | (simp; omega))).trans (by first | (simp; done) | go_simp)
      have R_f5 : w1.frozen? ⟨w.heap.size + 1, 5, none⟩ = false := (hc1.frozen (p := ⟨w.heap.size + 1, 5, none⟩) (by first | (simp; done) | (simp; omega))).trans (by first | (simp; done) | go_simp)
      have R_f6 : w1.frozen? ⟨w.heap.size + 1, 6, none⟩ = false := (hc1.frozen (p := ⟨w.heap.size + 1, 6, none⟩) (by first | (simp; done) | (simp; omega))).trans (by first | (simp; done) | go_simp)
      have R_f7 : w1.frozen? ⟨w.heap.size + 1, 7, none⟩ = false := (hc1.frozen (p := ⟨w.heap.size + 1, 7, none⟩) (by first | (simp; done) | (simp; omega))).trans (by first | (simp; done) | go_simp)
      have R_f8 : w1.frozen? ⟨w.heap.size + 1, 8, none⟩ = false := (hc1.frozen (p := ⟨w.heap.size + 1, 8, none⟩) (by first | (simp; done) | (simp; omega))).trans (by first | (simp; done) | go_simp)
      have R_f9 : w1.frozen? ⟨w.heap.size + 1, 9, none⟩ = false := (hc1.frozen (p := ⟨w.heap.size + 1, 9, none⟩) (by first | (simp; done) | (simp; omega))).trans (by first | (simp; done) | go_simp)
      have R_f10 : w1.frozen? ⟨w.heap.size + 1, 10, none⟩ = false := (hc1.frozen (p := ⟨w.heap.size + 1, 10, none⟩) (by first | (simp; done) | (simp; omega))).trans (by first | (simp; done) | go_simp)
      have R_l : w.heap.size + 1 < w1.heap.size := Nat.lt_of_lt_of_le (by first | (simp; done) | (simp; omega)) hc1.size
      replace hS := hS.later hst1
      clear hst1
      clear hc1 hb0
      go_wp2_with fail
      with_reducible refine (H_hnm.out _ hS).mono ?_
      rintro e w2 ⟨rfl, hc2⟩
      have hb2 : Below w.heap.size w w2 := bchain (by repeat' (first | with_reducible exact hb1 | with_reducible refine Below.drew ?_ | with_reducible refine below_drewN ?_ _ | with_reducible refine Below.alloc ?_ (by have := hb1.size; first | (simp; done) | (simp; omega) | omega) _ | with_reducible refine Below.setCell ?_ (by first | (simp; done) | (simp; omega) | omega) _)) hc2
      have hst2 : Below w1.heap.size w1 w2 := bchain (by repeat' (first | with_reducible exact Below.refl _ _ | with_reducible refine Below.drew ?_ | with_reducible refine below_drewN ?_ _ | with_reducible refine Below.alloc ?_ (by first | (simp; done) | (simp; omega) | omega) _ | with_reducible refine Below.setCell ?_ (by first | (simp; done) | (simp; omega) | omega) _)) hc2
      replace X_0 := cell_later hst2 X_0
      replace X_1 := cell_later hst2 X_1
      replace X_2 := cell_later hst2 X_2
      replace X_3 := cell_later hst2 X_3
      replace X_4 := cell_later hst2 X_4
      replace X_5 := cell_later hst2 X_5
      replace X_6 := cell_later hst2 X_6
      replace X_7 := cell_later hst2 X_7
      replace X_8 := cell_later hst2 X_8
      replace X_9 := cell_later hst2 X_9
      replace X_10 := cell_later hst2 X_10
      replace X_f0 := frozen_later hst2 X_l X_f0
      replace X_f1 := frozen_later hst2 X_l X_f1
      replace X_f2 := frozen_later hst2 X_l X_f2
      replace X_f3 := frozen_later hst2 X_l X_f3
      replace X_f4 := frozen_later hst2 X_l X_f4
      replace X_f5 := frozen_later hst2 X_l X_f5
      replace X_f6 := frozen_later hst2 X_l X_f6
      replace X_f7 := frozen_later hst2 X_l X_f7
      replace X_f8 := frozen_later hst2 X_l X_f8
      replace X_f9 := frozen_later hst2 X_l X_f9
      replace X_f10 := frozen_later hst2 X_l X_f10
      replace X_l := Nat.lt_of_lt_of_le X_l hst2.size
      replace R_0 := cell_later hst2 R_0
      replace R_1 := cell_later hst2 R_1
      replace R_2 := cell_later hst2 R_2
      replace R_3 := cell_later hst2 R_3
      replace R_4 := cell_later hst2 R_4
      replace R_5 := cell_later hst2 R_5
      replace R_6 := cell_later hst2 R_6
      replace R_7 := cell_later hst2 R_7
      replace R_8 := cell_later hst2 R_8
      replace R_9 := cell_later hst2 R_9
      replace R_10 := cell_later hst2 R_10
      replace R_f0 := frozen_later hst2 R_l R_f0
      replace R_f1 := frozen_later hst2 R_l R_f1
      replace R_f2 := frozen_later hst2 R_l R_f2
      replace R_f3 := frozen_later hst2 R_l R_f3
      replace R_f4 := frozen_later hst2 R_l R_f4
      replace R_f5 := frozen_later hst2 R_l R_f5
      replace R_f6 := frozen_later hst2 R_l R_f6
      replace R_f7 := frozen_later hst2 R_l R_f7
      replace R_f8 := frozen_later hst2 R_l R_f8
      replace R_f9 := frozen_later hst2 R_l R_f9
      replace R_f10 := frozen_later hst2 R_l R_f10
      replace R_l := Nat.lt_of_lt_of_le R_l hst2.size
      replace hS := hS.later hst2
      clear hst2
      clear hc2 hb1
      have z3 := R_l
      go_wp2_with fail
      with_reducible refine (H_hcl.out _ hS).mono ?_
      rintro e w3 ⟨a2, c2, rfl, o2, hc3⟩
      have hb3 : Below w.heap.size w w3 := bchain (by repeat' (first | with_reducible exact hb2 | with_reducible refine Below.drew ?_ | with_reducible refine below_drewN ?_ _ | with_reducible refine Below.alloc ?_ (by have := hb2.size; first | (simp; done) | (simp; omega) | omega) _ | with_reducible refine Below.setCell ?_ (by first | (simp; done) | (simp; omega) | omega) _)) hc3
      have hst3 : Below w2.heap.size w2 w3 := bchain (by repeat' (first | with_reducible exact Below.refl _ _ | with_reducible refine Below.drew ?_ | with_reducible refine below_drewN ?_ _ | with_reducible refine Below.alloc ?_ (by first | (simp; done) | (simp; omega) | omega) _ | with_reducible refine Below.setCell ?_ (by first | (simp; done) | (simp; omega) | omega) _)) hc3
      replace X_0 := cell_later hst3 X_0
      replace X_1 := cell_later hst3 X_1
      replace X_2 := cell_later hst3 X_2
      replace X_3 := cell_later hst3 X_3
      replace X_4 := cell_later hst3 X_4
      replace X_5 := cell_later hst3 X_5
      replace X_6 := cell_later hst3 X_6
      replace X_7 := cell_later hst3 X_7
      replace X_8 := cell_later hst3 X_8
      replace X_9 := cell_later hst3 X_9
      replace X_10 := cell_later hst3 X_10
      replace X_f0 := frozen_later hst3 X_l X_f0
      replace X_f1 := frozen_later hst3 X_l X_f1
      replace X_f2 := frozen_later hst3 X_l X_f2
      replace X_f3 := frozen_later hst3 X_l X_f3
      replace X_f4 := frozen_later hst3 X_l X_f4
      replace X_f5 := frozen_later hst3 X_l X_f5
      replace X_f6 := frozen_later hst3 X_l X_f6
      replace X_f7 := frozen_later hst3 X_l X_f7
      replace X_f8 := frozen_later hst3 X_l X_f8
      replace X_f9 := frozen_later hst3 X_l X_f9
      replace X_f10 := frozen_later hst3 X_l X_f10
      replace X_l := Nat.lt_of_lt_of_le X_l hst3.size
      replace R_0 := cell_later hst3 R_0
      replace R_1 := cell_later hst3 R_1
      replace R_2 := cell_later hst3 R_2
      replace R_3 := cell_later hst3 R_3
      replace R_4 := cell_later hst3 R_4
      replace R_5 := cell_later hst3 R_5
      replace R_6 := cell_later hst3 R_6
      replace R_7 := cell_later hst3 R_7
      replace R_8 := cell_later hst3 R_8
      replace R_9 := cell_later hst3 R_9
      replace R_10 := cell_later hst3 R_10
      replace R_f0 := frozen_later hst3 R_l R_f0
      replace R_f1 := frozen_later hst3 R_l R_f1
      replace R_f2 := frozen_later hst3 R_l R_f2
      replace R_f3 := frozen_later hst3 R_l R_f3
      replace R_f4 := frozen_later hst3 R_l R_f4
      replace R_f5 := frozen_later hst3 R_l R_f5
      replace R_f6 := frozen_later hst3 R_l R_f6
      replace R_f7 := frozen_later hst3 R_l R_f7
      replace R_f8 := frozen_later hst3 R_l R_f8
      replace R_f9 := frozen_later hst3 R_l R_f9
      replace R_f10 := frozen_later hst3 R_l R_f10
      replace R_l := Nat.lt_of_lt_of_le R_l hst3.size
      replace hS := hS.later hst3
      clear hst3
      clear hc3 hb2
      go_wp2_with fail
      refine (delP_any ps k a2 ps.length c2 _ _ o2 rfl hlt (by omega)).mono ?_
      rintro e w5 ⟨rfl, kk, hcd, -⟩
      have p6 := o2.addr
      have p1 : ∀ ad, a2 = some ad → ad.block ≠ w.heap.size := fun ad e => by have := (p6 ad e).1; omega
      have p2 : ∀ ad, a2 = some ad → ad.block ≠ w.heap.size + 1 := fun ad e => by have := (p6 ad e).1; omega
      have hb5 : Below w.heap.size w w5 := hb3.trans (hcd.mono (by omega))
      have X_0' := (hcd.cell (p := ⟨w.heap.size, 0, none⟩) (by simp; omega)).trans X_0
      have X_f0' := (hcd.frozen (p := ⟨w.heap.size, 0, none⟩) (by simp; omega)).trans X_f0
      have X_1' := (hcd.cell (p := ⟨w.heap.size, 1, none⟩) (by simp; omega)).trans X_1
      have X_f1' := (hcd.frozen (p := ⟨w.heap.size, 1, none⟩) (by simp; omega)).trans X_f1
      have X_2' := (hcd.cell (p := ⟨w.heap.size, 2, none⟩) (by simp; omega)).trans X_2
      have X_f2' := (hcd.frozen (p := ⟨w.heap.size, 2, none⟩) (by simp; omega)).trans X_f2
      have X_3' := (hcd.cell (p := ⟨w.heap.size, 3, none⟩) (by simp; omega)).trans X_3
      have X_f3' := (hcd.frozen (p := ⟨w.heap.size, 3, none⟩) (by simp; omega)).trans X_f3
      have X_4' := (hcd.cell (p := ⟨w.heap.size, 4, none⟩) (by simp; omega)).trans X_4
      have X_f4' := (hcd.frozen (p := ⟨w.heap.size, 4, none⟩) (by simp; omega)).trans X_f4
      have X_5' := (hcd.cell (p := ⟨w.heap.size, 5, none⟩) (by simp; omega)).trans X_5
      have X_f5' := (hcd.frozen (p := ⟨w.heap.size, 5, none⟩) (by simp; omega)).trans X_f5
      have X_6' := (hcd.cell (p := ⟨w.heap.size, 6, none⟩) (by simp; omega)).trans X_6
      have X_f6' := (hcd.frozen (p := ⟨w.heap.size, 6, none⟩) (by simp; omega)).trans X_f6
      have X_7' := (hcd.cell (p := ⟨w.heap.size, 7, none⟩) (by simp; omega)).trans X_7
      have X_f7' := (hcd.frozen (p := ⟨w.heap.size, 7, none⟩) (by simp; omega)).trans X_f7
      have X_8' := (hcd.cell (p := ⟨w.heap.size, 8, none⟩) (by simp; omega)).trans X_8
      have X_f8' := (hcd.frozen (p := ⟨w.heap.size, 8, none⟩) (by simp; omega)).trans X_f8
      have X_9' := (hcd.cell (p := ⟨w.heap.size, 9, none⟩) (by simp; omega)).trans X_9
      have X_f9' := (hcd.frozen (p := ⟨w.heap.size, 9, none⟩) (by simp; omega)).trans X_f9
      have X_10' := (hcd.cell (p := ⟨w.heap.size, 10, none⟩) (by simp; omega)).trans X_10
      have X_f10' := (hcd.frozen (p := ⟨w.heap.size, 10, none⟩) (by simp; omega)).trans X_f10
      have R_0' := (hcd.cell (p := ⟨w.heap.size + 1, 0, none⟩) (by simp; omega)).trans R_0
      have R_f0' := (hcd.frozen (p := ⟨w.heap.size + 1, 0, none⟩) (by simp; omega)).trans R_f0
      have R_1' := (hcd.cell (p := ⟨w.heap.size + 1, 1, none⟩) (by simp; omega)).trans R_1
      have R_f1' := (hcd.frozen (p := ⟨w.heap.size + 1, 1, none⟩) (by simp; omega)).trans R_f1
      have R_2' := (hcd.cell (p := ⟨w.heap.size + 1, 2, none⟩) (by simp; omega)).trans R_2
      have R_f2' := (hcd.frozen (p := ⟨w.heap.size + 1, 2, none⟩) (by simp; omega)).trans R_f2
      have R_3' := (hcd.cell (p := ⟨w.heap.size + 1, 3, none⟩) (by simp; omega)).trans R_3
      have R_f3' := (hcd.frozen (p := ⟨w.heap.size + 1, 3, none⟩) (by simp; omega)).trans R_f3
      have R_4' := (hcd.cell (p := ⟨w.heap.size + 1, 4, none⟩) (by simp; omega)).trans R_4
      have R_f4' := (hcd.frozen (p := ⟨w.heap.size + 1, 4, none⟩) (by simp; omega)).trans R_f4
      have R_5' := (hcd.cell (p := ⟨w.heap.size + 1, 5, none⟩) (by simp; omega)).trans R_5
      have R_f5' := (hcd.frozen (p := ⟨w.heap.size + 1, 5, none⟩) (by simp; omega)).trans R_f5
      have R_6' := (hcd.cell (p := ⟨w.heap.size + 1, 6, none⟩) (by simp; omega)).trans R_6
      have R_f6' := (hcd.frozen (p := ⟨w.heap.size + 1, 6, none⟩) (by simp; omega)).trans R_f6
      have R_7' := (hcd.cell (p := ⟨w.heap.size + 1, 7, none⟩) (by simp; omega)).trans R_7
      have R_f7' := (hcd.frozen (p := ⟨w.heap.size + 1, 7, none⟩) (by simp; omega)).trans R_f7
      have R_8' := (hcd.cell (p := ⟨w.heap.size + 1, 8, none⟩) (by simp; omega)).trans R_8
      have R_f8' := (hcd.frozen (p := ⟨w.heap.size + 1, 8, none⟩) (by simp; omega)).trans R_f8
      have R_9' := (hcd.cell (p := ⟨w.heap.size + 1, 9, none⟩) (by simp; omega)).trans R_9
      have R_f9' := (hcd.frozen (p := ⟨w.heap.size + 1, 9, none⟩) (by simp; omega)).trans R_f9
      have R_10' := (hcd.cell (p := ⟨w.heap.size + 1, 10, none⟩) (by simp; omega)).trans R_10
      have R_f10' := (hcd.frozen (p := ⟨w.heap.size + 1, 10, none⟩) (by simp; omega)).trans R_f10
      clear X_0 X_f0 X_1 X_f1 X_2 X_f2 X_3 X_f3 X_4 X_f4 X_5 X_f5 X_6 X_f6 X_7 X_f7 X_8 X_f8 X_9 X_f9 X_10 X_f10 R_0 R_f0 R_1 R_f1 R_2 R_f2 R_3 R_f3 R_4 R_f4 R_5 R_f5 R_6 R_f6 R_7 R_f7 R_8 R_f8 R_9 R_f9 R_10 R_f10
      clear p6 o2
      go_wp2_with fail
      refine bodyPost_ret (v := .tuple #[.agg #[.int .i64 l0, .int .i64 l1, .int .i64 l2, .int .i64 l3, .int .i64 l4, .int .i64 l5, .int .i64 l6, .int .i64 l7, .int .i64 l8, .int .u32 s, .slice a2 (ps.length - 1) c2], .int .i64 0]) (by simp [results, Tryd.results22, go_sem, *]) rfl ⟨RetS.of (r := ⟨(⟨l0, l1, l2, l3, l4, l5, l6, l7, l8⟩ : Lim), s, ps.eraseIdx k, 0⟩) ⟨a2, c2, by
        show _ = Ending.returned (.tuple #[.agg #[.int .i64 l0, .int .i64 l1, .int .i64 l2, .int .i64 l3, .int .i64 l4, .int .i64 l5, .int .i64 l6, .int .i64 l7, .int .i64 l8, .int .u32 s, .slice a2 (ps.eraseIdx k).length c2], .int .i64 0])
        rw [H_hlen.out], (by repeat' (first | with_reducible exact kk | with_reducible refine CellsAt.setFarG ?_ p2 _ | with_reducible refine CellsAt.setFarG ?_ p1 _ | with_reducible refine CellsAt.drewN ?_ _))⟩ H_hr2.out, (by repeat' (first | with_reducible exact hb5 | with_reducible refine Below.drew ?_ | with_reducible refine below_drewN ?_ _ | with_reducible refine Below.alloc ?_ (by have := hb5.size; first | (simp; done) | (simp; omega) | omega) _ | with_reducible refine Below.setCell ?_ (by first | (simp; done) | (simp; omega) | omega) _))⟩
  · have hr2 : zOut E = R := by rw [← hR]; unfold withoutR; rw [if_neg h0]
    have b1 : (E != 0) = true := bne_iff_ne.2 h0
    have H_hR := Box.mk hR
    have H_hE := Box.mk hE
    have H_hr2 := Box.mk hr2
    have H_hchk := Box.mk hchk
    clear hR hE hr2 hchk
    go_enter Tryd.func22, Tryd.ntmps22
    have hb0 := Below.refl w.heap.size w
    go_wp2_with fail
    with_reducible refine (H_hchk.out _ ((hS.alloc _).alloc _)).mono ?_
    rintro e w1 ⟨rfl, hc1⟩
    have hb1 : Below w.heap.size w w1 := bchain (by repeat' (first | with_reducible exact hb0 | with_reducible refine Below.drew ?_ | with_reducible refine below_drewN ?_ _ | with_reducible refine Below.alloc ?_ (by have := hb0.size; first | (simp; done) | (simp; omega) | omega) _ | with_reducible refine Below.setCell ?_ (by first | (simp; done) | (simp; omega) | omega) _)) hc1
    have hst1 : Below w.heap.size w w1 := bchain (by repeat' (first | with_reducible exact Below.refl _ _ | with_reducible refine Below.drew ?_ | with_reducible refine below_drewN ?_ _ | with_reducible refine Below.alloc ?_ (by first | (simp; done) | (simp; omega) | omega) _ | with_reducible refine Below.setCell ?_ (by first | (simp; done) | (simp; omega) | omega) _)) hc1
    have X_0 : w1.cell? ⟨w.heap.size, 0, none⟩ = some (.int .i64 l0) := (hc1.cell (p := ⟨w.heap.size, 0, none⟩) (by first | (simp; done) | (simp; omega))).trans (by first | (simp; done) | go_simp)
    have X_1 : w1.cell? ⟨w.heap.size, 1, none⟩ = some (.int .i64 l1) := (hc1.cell (p := ⟨w.heap.size, 1, none⟩) (by first | (simp; done) | (simp; omega))).trans (by first | (simp; done) | go_simp)
    have X_2 : w1.cell? ⟨w.heap.size, 2, none⟩ = some (.int .i64 l2) := (hc1.cell (p := ⟨w.heap.size, 2, none⟩) (by first | (simp; done) | (simp; omega))).trans (by first | (simp; done) | go_simp)
    have X_3 : w1.cell? ⟨w.heap.size, 3, none⟩ = some (.int .i64 l3) := (hc1.cell (p := ⟨w.heap.size, 3, none⟩) (by first | (simp; done) | (simp; omega))).trans (by first | (simp; done) | go_simp)
    have X_4 : w1.cell? ⟨w.heap.size, 4, none⟩ = some (.int .i64 l4) := (hc1.cell (p := ⟨w.heap.size, 4, none⟩) (by first | (simp; done) | (simp; omega))).trans (by first | (simp; done) | go_simp)
    have X_5 : w1.cell? ⟨w.heap.size, 5, none⟩ = some (.int .i64 l5) := (hc1.cell (p := ⟨w.heap.size, 5, none⟩) (by first | (simp; done) | (simp; omega))).trans (by first | (simp; done) | go_simp)
    have X_6 : w1.cell? ⟨w.heap.size, 6, none⟩ = some (.int .i64 l6) := (hc1.cell (p := ⟨w.heap.size, 6, none⟩) (by first | (simp; done) | (simp; omega))).trans (by first | (simp; done) | go_simp)
    have X_7 : w1.cell? ⟨w.heap.size, 7, none⟩ = some (.int .i64 l7) := (hc1.cell (p := ⟨w.heap.size, 7, none⟩) (by first | (simp; done) | (simp; omega))).trans (by first | (simp; done) | go_simp)
    have X_8 : w1.cell? ⟨w.heap.size, 8, none⟩ = some (.int .i64 l8) := (hc1.cell (p := ⟨w.heap.size, 8, none⟩) (by first | (simp; done) | (simp; omega))).trans (by first | (simp; done) | go_simp)
    have X_9 : w1.cell? ⟨w.heap.size, 9, none⟩ = some (.int .u32 s) := (hc1.cell (p := ⟨w.heap.size, 9, none⟩) (by first | (simp; done) | (simp; omega))).trans (by first | (simp; done) | go_simp)
    have X_10 : w1.cell? ⟨w.heap.size, 10, none⟩ = some (.slice a ps.length c) := (hc1.cell (p := ⟨w.heap.size, 10, none⟩) (by first | (simp; done) | (simp; omega))).trans (by first | (simp; done) | go_simp)
    have X_f0 : w1.frozen? ⟨w.heap.size, 0, none⟩ = false := (hc1.frozen (p := ⟨w.heap.size, 0, none⟩) (by first | (simp; done) | (simp; omega))).trans (by first | (simp; done) | go_simp)
    have X_f1 : w1.frozen? ⟨w.heap.size, 1, none⟩ = false := (hc1.frozen (p := ⟨w.heap.size, 1, none⟩) (by first | (simp; done) | (simp; omega))).trans (by first | (simp; done) | go_simp)
    have X_f2 : w1.frozen? ⟨w.heap.size, 2, none⟩ = false := (hc1.frozen (p := ⟨w.heap.size, 2, none⟩) (by first | (simp; done) | (simp; omega))).trans (by first | (simp; done) | go_simp)
    have X_f3 : w1.frozen? ⟨w.heap.size, 3, none⟩ = false := (hc1.frozen (p := ⟨w.heap.size, 3, none⟩) (by first | (simp; done) | (simp; omega))).trans (by first | (simp; done) | go_simp)
    have X_f4 : w1.frozen? ⟨w.heap.size, 4, none⟩ = false := (hc1.frozen (p := ⟨w.heap.size, 4, none⟩) (by first | (simp; done) | (simp; omega))).trans (by first | (simp; done) | go_simp)
    have X_f5 : w1.frozen? ⟨w.heap.size, 5, none⟩ = false := (hc1.frozen (p := ⟨w.heap.size, 5, none⟩) (by first | (simp; done) | (simp; omega))).trans (by first | (simp; done) | go_simp)
    have X_f6 : w1.frozen? ⟨w.heap.size, 6, none⟩ = false := (hc1.frozen (p := ⟨w.heap.size, 6, none⟩) (by first | (simp; done) | (simp; omega))).trans (by first | (simp; done) | go_simp)
    have X_f7 : w1.frozen? ⟨w.heap.size, 7, none⟩ = false := (hc1.frozen (p := ⟨w.heap.size, 7, none⟩) (by first | (simp; done) | (simp; omega))).trans (by first | (simp; done) | go_simp)
    have X_f8 : w1.frozen? ⟨w.heap.size, 8, none⟩ = false := (hc1.frozen (p := ⟨w.heap.size, 8, none⟩) (by first | (simp; done) | (simp; omega))).trans (by first | (simp; done) | go_simp)
    have X_f9 : w1.frozen? ⟨w.heap.size, 9, none⟩ = false := (hc1.frozen (p := ⟨w.heap.size, 9, none⟩) (by first | (simp; done) | (simp; omega))).trans (by first | (simp; done) | go_simp)
    have X_f10 : w1.frozen? ⟨w.heap.size, 10, none⟩ = false := (hc1.frozen (p := ⟨w.heap.size, 10, none⟩) (by first | (simp; done) | (simp; omega))).trans (by first | (simp; done) | go_simp)
    have X_l : w.heap.size < w1.heap.size := Nat.lt_of_lt_of_le (by first | (simp; done) | (simp; omega)) hc1.size
    have R_0 : w1.cell? ⟨w.heap.size + 1, 0, none⟩ = some (.int .i64 0) := (hc1.cell (p := ⟨w.heap.size + 1, 0, none⟩) (by first | (simp; done) | (simp; omega))).trans (by first | (simp; done) | go_simp)
    have R_1 : w1.cell? ⟨w.heap.size + 1, 1, none⟩ = some (.int .i64 0) := (hc1.cell (p := ⟨w.heap.size + 1, 1, none⟩) (by first | (simp; done) | (simp; omega))).trans (by first | (simp; done) | go_simp)
    have R_2 : w1.cell? ⟨w.heap.size + 1, 2, none⟩ = some (.int .i64 0) := (hc1.cell (p := ⟨w.heap.size + 1, 2, none⟩) (by first | (simp; done) | (simp; omega))).trans (by first | (simp; done) | go_simp)
    have R_3 : w1.cell? ⟨w.heap.size + 1, 3, none⟩ = some (.int .i64 0) := (hc1.cell (p := ⟨w.heap.size + 1, 3, none⟩) (by first | (simp; done) | (simp; omega))).trans (by first | (simp; done) | go_simp)
    have R_4 : w1.cell? ⟨w.heap.size + 1, 4, none⟩ = some (.int .i64 0) := (hc1.cell (p := ⟨w.heap.size + 1, 4, none⟩) (by first | (simp; done) | (simp; omega))).trans (by first | (simp; done) | go_simp)
    have R_5 : w1.cell? ⟨w.heap.size + 1, 5, none⟩ = some (.int .i64 0) := (hc1.cell (p := ⟨w.heap.size + 1, 5, none⟩) (by first | (simp; done) | (simp; omega))).trans (by first | (simp; done) | go_simp)
    have R_6 : w1.cell? ⟨w.heap.size + 1, 6, none⟩ = some (.int .i64 0) := (hc1.cell (p := ⟨w.heap.size + 1, 6, none⟩) (by first | (simp; done) | (simp; omega))).trans (by first | (simp; done) | go_simp)
    have R_7 : w1.cell? ⟨w.heap.size + 1, 7, none⟩ = some (.int .i64 0) := (hc1.cell (p := ⟨w.heap.size + 1, 7, none⟩) (by first | (simp; done) | (simp; omega))).trans (by first | (simp; done) | go_simp)
    have R_8 : w1.cell? ⟨w.heap.size + 1, 8, none⟩ = some (.int .i64 0) := (hc1.cell (p := ⟨w.heap.size + 1, 8, none⟩) (by first | (simp; done) | (simp; omega))).trans (by first | (simp; done) | go_simp)
    have R_9 : w1.cell? ⟨w.heap.size + 1, 9, none⟩ = some (.int .u32 0) := (hc1.cell (p := ⟨w.heap.size + 1, 9, none⟩) (by first | (simp; done) | (simp; omega))).trans (by first | (simp; done) | go_simp)
    have R_10 : w1.cell? ⟨w.heap.size + 1, 10, none⟩ = some (.slice none 0 0) := (hc1.cell (p := ⟨w.heap.size + 1, 10, none⟩) (by first | (simp; done) | (simp; omega))).trans (by first | (simp; done) | go_simp)
    have R_f0 : w1.frozen? ⟨w.heap.size + 1, 0, none⟩ = false := (hc1.frozen (p := ⟨w.heap.size + 1, 0, none⟩) (by first | (simp; done) | (simp; omega))).trans (by first | (simp; done) | go_simp)
    have R_f1 : w1.frozen? ⟨w.heap.size + 1, 1, none⟩ = false := (hc1.frozen (p := ⟨w.heap.size + 1, 1, none⟩) (by first | (simp; done) | (simp; omega))).trans (by first | (simp; done) | go_simp)
    have R_f2 : w1.frozen? ⟨w.heap.size + 1, 2, none⟩ = false := (hc1.frozen (p := ⟨w.heap.size + 1, 2, none⟩) (by first | (simp; done) | (simp; omega))).trans (by first | (simp; done) | go_simp)
    have R_f3 : w1.frozen? ⟨w.heap.size + 1, 3, none⟩ = false := (hc1.frozen (p := ⟨w.heap.size + 1, 3, none⟩) (by first | (simp; done) | (simp; omega))).trans (by first | (simp; done) | go_simp)
    have R_f4 : w1.frozen? ⟨w.heap.size + 1, 4, none⟩ = false := (hc1.frozen (p := ⟨w.heap.size + 1, 4, none⟩) (by first | (simp; done) | (simp; omega))).trans (by first | (simp; done) | go_simp)
    have R_f5 : w1.frozen? ⟨w.heap.size + 1, 5, none⟩ = false := (hc1.frozen (p := ⟨w.heap.size + 1, 5, none⟩) (by first | (simp; done) | (simp; omega))).trans (by first | (simp; done) | go_simp)
    have R_f6 : w1.frozen? ⟨w.heap.size + 1, 6, none⟩ = false := (hc1.frozen (p := ⟨w.heap.size + 1, 6, none⟩) (by first | (simp; done) | (simp; omega))).trans (by first | (simp; done) | go_simp)
    have R_f7 : w1.frozen? ⟨w.heap.size + 1, 7, none⟩ = false := (hc1.frozen (p := ⟨w.heap.size + 1, 7, none⟩) (by first | (simp; done) | (simp; omega))).trans (by first | (simp; done) | go_simp)
    have R_f8 : w1.frozen? ⟨w.heap.size + 1, 8, none⟩ = false := (hc1.frozen (p := ⟨w.heap.size + 1, 8, none⟩) (by first | (simp; done) | (simp; omega))).trans (by first | (simp; done) | go_simp)
    have R_f9 : w1.frozen? ⟨w.heap.size + 1, 9, none⟩ = false := (hc1.frozen (p := ⟨w.heap.size + 1, 9, none⟩) (by first | (simp; done) | (simp; omega))).trans (by first | (simp; done) | go_simp)
    have R_f10 : w1.frozen? ⟨w.heap.size + 1, 10, none⟩ = false := (hc1.frozen (p := ⟨w.heap.size + 1, 10, none⟩) (by first | (simp; done) | (simp; omega))).trans (by first | (simp; done) | go_simp)
    have R_l : w.heap.size + 1 < w1.heap.size := Nat.lt_of_lt_of_le (by first | (simp; done) | (simp; omega)) hc1.size
    replace hS := hS.later hst1
    clear hst1
    clear hc1 hb0
    go_wp2_with fail
    refine bodyPost_ret (v := .tuple #[.agg #[.int .i64 0, .int .i64 0, .int .i64 0, .int .i64 0, .int .i64 0, .int .i64 0, .int .i64 0, .int .i64 0, .int .i64 0, .int .u32 0, .slice none 0 0], .int .i64 E]) (by simp [results, Tryd.results22, go_sem, *]) rfl ⟨RetS.of (r := zOut E) ⟨none, 0, rfl, .inl rfl⟩ H_hr2.out, (by repeat' (first | with_reducible exact hb1 | with_reducible refine Below.drew ?_ | with_reducible refine below_drewN ?_ _ | with_reducible refine Below.alloc ?_ (by have := hb1.size; first | (simp; done) | (simp; omega) | omega) _ | with_reducible refine Below.setCell ?_ (by first | (simp; done) | (simp; omega) | omega) _))⟩

end Go.Proofs.YthdldmkeoglflaaDoor
