/- braidref44.With and Without. -/
import Derived.Test.YthdldmkeoglflaaCfgDrop
namespace Go.Proofs.Ythdldmkeoglflaa
set_option linter.unusedSimpArgs false
set_option linter.unusedVariables false
set_option linter.unnecessarySimpa false
open Go.RowKit

set_option maxHeartbeats 4000000 in
theorem rWith_any (l0 l1 l2 l3 l4 l5 l6 l7 l8 : Int) (s q : Int) (n : ByteArray) (ps : Peers) (a : Option Addr) (c : Nat) (w : World) (hS : SIn w s ps a) (hcap : ps.length ≤ c) (q0 : 0 ≤ q) (q4 : q < 4294967296) (E : Int) (hE : chkS (⟨l0, l1, l2, l3, l4, l5, l6, l7, l8⟩ : Lim) s ps = E) :
    Calls Try.prog 10 #[.agg #[.int .i64 l0, .int .i64 l1, .int .i64 l2, .int .i64 l3, .int .i64 l4, .int .i64 l5, .int .i64 l6, .int .i64 l7, .int .i64 l8, .int .u32 s, .slice a ps.length c], .agg #[.string n, .int .u32 q]] w fun e w' =>
      RetS w' e (withR (⟨l0, l1, l2, l3, l4, l5, l6, l7, l8⟩ : Lim) s ps n q E) ∧ Below w.heap.size w w' := by
  have hchk := fun W (h : SIn W s ps a) => hE ▸ rCheck_any l0 l1 l2 l3 l4 l5 l6 l7 l8 s ps a c W h.cells h.s0 h.s4 h.keys h.ml
  obtain ⟨R, hR⟩ : ∃ R, withR (⟨l0, l1, l2, l3, l4, l5, l6, l7, l8⟩ : Lim) s ps n q E = R := ⟨_, rfl⟩
  rw [hR]
  by_cases h0 : E = 0
  · subst h0
    have hcv := CV.of hE
    have hl8 := hcv.len
    have hat := fun W (h : SIn W s ps a) => rat_any l0 l1 l2 l3 l4 l5 l6 l7 l8 s n ps a c W h.cells h.ml
    have hhas := fun W (h : SIn W s ps a) => rhas_any l0 l1 l2 l3 l4 l5 l6 l7 l8 s n ps a c W h.cells h.ml
    have hwho := fun W (h : SIn W s ps a) => rwho_any l0 l1 l2 l3 l4 l5 l6 l7 l8 s q ps a c W h.cells h.s0 h.s4 h.ml
    have hval := fun W => rvalid_any n q W q0 q4
    cases hb : (okN n && isB q) with
    | false =>
      have hr2 : zOut 8 = R := by rw [← hR]; unfold withR; rw [if_pos rfl, hb]; rfl
      rw [hb] at hval
      have H_hR := Box.mk hR
      have H_hE := Box.mk hE
      have H_hr2 := Box.mk hr2
      have H_hwho := Box.mk hwho
      have H_hval := Box.mk hval
      have H_hhas := Box.mk hhas
      have H_hat := Box.mk hat
      have H_hchk := Box.mk hchk
      have H_hcv := Box.mk hcv
      have H_hb := Box.mk hb
      clear hR hE hr2 hwho hval hhas hat hchk hcv hb
      go_enter Try.func10, Try.ntmps10
      have hb0 := Below.refl w.heap.size w
      go_wp2_with fail
      with_reducible refine (H_hchk.out _ (((hS.alloc _).alloc _).alloc _)).mono ?_
      rintro e w1 ⟨rfl, hc1⟩
      have hb1 : Below w.heap.size w w1 := bchain (by repeat' (first | with_reducible exact hb0 | with_reducible refine Below.drew ?_ | with_reducible refine below_drewN ?_ _ | with_reducible refine Below.alloc ?_ (by have := hb0.size; first | (simp; done) | (simp; omega) | omega) _ | with_reducible refine Below.setCell ?_ (by first | (simp; done) | (simp; omega) | omega) _)) hc1
      have hst1 : Below w.heap.size w w1 := bchain (by repeat' (first | with_reducible exact Below.refl _ _ | with_reducible refine Below.drew ?_ | with_reducible refine below_drewN ?_ _ | with_reducible refine Below.alloc ?_ (by first | (simp; done) | (simp; omega) | omega) _ | with_reducible refine Below.setCell ?_ (by first | (simp; done) | (simp; omega) | omega) _)) hc1
      have X_0 : w1.cell? ⟨w.heap.size, 0, none⟩ = some (.int .i64 l0) := (hc1.cell (p := ⟨w.heap.size, 0, none⟩) (by first | (simp; done) | (simp; omega))).trans (by first | (simp; done) | go_simp)
      have X_1 : w1.cell? ⟨w.heap.size, 1, none⟩ = some (.int .i64 l1) := (hc1.cell (p := ⟨w.heap.size, 1, none⟩) (by first | (simp; done) | (simp; omega))).trans (by first | (simp; done) | go_simp)
      have X_2 : w1.cell? ⟨w.heap.size, 2, none⟩ = some (.int .i64 l2) := (hc1.cell (p := ⟨w.heap.size, 2, none⟩) (by first | (simp; done) | (simp; omega))).trans (by first | (simp; done) | go_simp)
      have X_3 : w1.cell? ⟨w.heap.size, 3, none⟩ = some (.int .i64 l3) := (hc1.cell (p := ⟨w.heap.size, 3, none⟩) (by first | (simp; done) | (simp; omega))).trans (by first | (simp; done) | go_simp)
      have X_4 : w1.cell? ⟨w.heap.size, 4, none⟩ = some (.int .i64 l4) := (hc1.cell (p := ⟨w.heap.size, 4, none⟩) (by first | (simp; done) | (simp; omega))).trans (by first | (simp; done) | go_simp)
      have X_5 : w1.cell? ⟨w.heap.size, 5, none⟩ = some (.int .i64 l5) := (hc1.cell (p := ⟨w.heap.size, 5, none⟩) (by first | (simp; done) | (simp; omega))).trans (by first | (simp; done) | go_simp)
      have X_6 : w1.cell? ⟨w.heap.size, 6, none⟩ = some (.int .i64 l6) := (hc1.cell (p := ⟨w.heap.size, 6, none⟩) (by first | (simp; done) | (simp; omega))).trans (by first | (simp; done) | go_simp)
      have X_7 : w1.cell? ⟨w.heap.size, 7, none⟩ = some (.int .i64 l7) := (hc1.cell (p := ⟨w.heap.size, 7, none⟩) (by first | (simp; done) | (simp; omega))).trans (by first | (simp; done) | go_simp)
      have X_8 : w1.cell? ⟨w.heap.size, 8, none⟩ = some (.int .i64 l8) := (hc1.cell (p := ⟨w.heap.size, 8, none⟩) (by first | (simp; done) | (simp; omega))).trans (by first | (simp; done) | go_simp)
      have X_9 : w1.cell? ⟨w.heap.size, 9, none⟩ = some (.int .u32 s) := (hc1.cell (p := ⟨w.heap.size, 9, none⟩) (by first | (simp; done) | (simp; omega))).trans (by first | (simp; done) | go_simp)
      have X_10 : w1.cell? ⟨w.heap.size, 10, none⟩ = some (.slice a ps.length c) := (hc1.cell (p := ⟨w.heap.size, 10, none⟩) (by first | (simp; done) | (simp; omega))).trans (by first | (simp; done) | go_simp)
      have X_l : w.heap.size < w1.heap.size := Nat.lt_of_lt_of_le (by first | (simp; done) | (simp; omega)) hc1.size
      have P_0 : w1.cell? ⟨w.heap.size + 1, 0, none⟩ = some (.string n) := (hc1.cell (p := ⟨w.heap.size + 1, 0, none⟩) (by first | (simp; done) | (simp; omega))).trans (by first | (simp; done) | go_simp)
      have P_1 : w1.cell? ⟨w.heap.size + 1, 1, none⟩ = some (.int .u32 q) := (hc1.cell (p := ⟨w.heap.size + 1, 1, none⟩) (by first | (simp; done) | (simp; omega))).trans (by first | (simp; done) | go_simp)
      have P_l : w.heap.size + 1 < w1.heap.size := Nat.lt_of_lt_of_le (by first | (simp; done) | (simp; omega)) hc1.size
      have R_0 : w1.cell? ⟨w.heap.size + 2, 0, none⟩ = some (.int .i64 0) := (hc1.cell (p := ⟨w.heap.size + 2, 0, none⟩) (by first | (simp; done) | (simp; omega))).trans (by first | (simp; done) | go_simp)
      have R_1 : w1.cell? ⟨w.heap.size + 2, 1, none⟩ = some (.int .i64 0) := (hc1.cell (p := ⟨w.heap.size + 2, 1, none⟩) (by first | (simp; done) | (simp; omega))).trans (by first | (simp; done) | go_simp)
      have R_2 : w1.cell? ⟨w.heap.size + 2, 2, none⟩ = some (.int .i64 0) := (hc1.cell (p := ⟨w.heap.size + 2, 2, none⟩) (by first | (simp; done) | (simp; omega))).trans (by first | (simp; done) | go_simp)
      have R_3 : w1.cell? ⟨w.heap.size + 2, 3, none⟩ = some (.int .i64 0) := (hc1.cell (p := ⟨w.heap.size + 2, 3, none⟩) (by first | (simp; done) | (simp; omega))).trans (by first | (simp; done) | go_simp)
      have R_4 : w1.cell? ⟨w.heap.size + 2, 4, none⟩ = some (.int .i64 0) := (hc1.cell (p := ⟨w.heap.size + 2, 4, none⟩) (by first | (simp; done) | (simp; omega))).trans (by first | (simp; done) | go_simp)
      have R_5 : w1.cell? ⟨w.heap.size + 2, 5, none⟩ = some (.int .i64 0) := (hc1.cell (p := ⟨w.heap.size + 2, 5, none⟩) (by first | (simp; done) | (simp; omega))).trans (by first | (simp; done) | go_simp)
      have R_6 : w1.cell? ⟨w.heap.size + 2, 6, none⟩ = some (.int .i64 0) := (hc1.cell (p := ⟨w.heap.size + 2, 6, none⟩) (by first | (simp; done) | (simp; omega))).trans (by first | (simp; done) | go_simp)
      have R_7 : w1.cell? ⟨w.heap.size + 2, 7, none⟩ = some (.int .i64 0) := (hc1.cell (p := ⟨w.heap.size + 2, 7, none⟩) (by first | (simp; done) | (simp; omega))).trans (by first | (simp; done) | go_simp)
      have R_8 : w1.cell? ⟨w.heap.size + 2, 8, none⟩ = some (.int .i64 0) := (hc1.cell (p := ⟨w.heap.size + 2, 8, none⟩) (by first | (simp; done) | (simp; omega))).trans (by first | (simp; done) | go_simp)
      have R_9 : w1.cell? ⟨w.heap.size + 2, 9, none⟩ = some (.int .u32 0) := (hc1.cell (p := ⟨w.heap.size + 2, 9, none⟩) (by first | (simp; done) | (simp; omega))).trans (by first | (simp; done) | go_simp)
      have R_10 : w1.cell? ⟨w.heap.size + 2, 10, none⟩ = some (.slice none 0 0) := (hc1.cell (p := ⟨w.heap.size + 2, 10, none⟩) (by first | (simp; done) | (simp; omega))).trans (by first | (simp; done) | go_simp)
      have R_f0 : w1.frozen? ⟨w.heap.size + 2, 0, none⟩ = false := (hc1.frozen (p := ⟨w.heap.size + 2, 0, none⟩) (by first | (simp; done) | (simp; omega))).trans (by first | (simp; done) | go_simp)
      have R_f1 : w1.frozen? ⟨w.heap.size + 2, 1, none⟩ = false := (hc1.frozen (p := ⟨w.heap.size + 2, 1, none⟩) (by first | (simp; done) | (simp; omega))).trans (by first | (simp; done) | go_simp)
      have R_f2 : w1.frozen? ⟨w.heap.size + 2, 2, none⟩ = false := (hc1.frozen (p := ⟨w.heap.size + 2, 2, none⟩) (by first | (simp; done) | (simp; omega))).trans (by first | (simp; done) | go_simp)
      have R_f3 : w1.frozen? ⟨w.heap.size + 2, 3, none⟩ = false := (hc1.frozen (p := ⟨w.heap.size + 2, 3, none⟩) (by first | (simp; done) | (simp; omega))).trans (by first | (simp; done) | go_simp)
      have R_f4 : w1.frozen? ⟨w.heap.size + 2, 4, none⟩ = false := (hc1.frozen (p := ⟨w.heap.size + 2, 4, none⟩) (by first | (simp; done) | (simp; omega))).trans (by first | (simp; done) | go_simp)
      have R_f5 : w1.frozen? ⟨w.heap.size + 2, 5, none⟩ = false := (hc1.frozen (p := ⟨w.heap.size + 2, 5, none⟩) (by first | (simp; done) | (simp; omega))).trans (by first | (simp; done) | go_simp)
      have R_f6 : w1.frozen? ⟨w.heap.size + 2, 6, none⟩ = false := (hc1.frozen (p := ⟨w.heap.size + 2, 6, none⟩) (by first | (simp; done) | (simp; omega))).trans (by first | (simp; done) | go_simp)
      have R_f7 : w1.frozen? ⟨w.heap.size + 2, 7, none⟩ = false := (hc1.frozen (p := ⟨w.heap.size + 2, 7, none⟩) (by first | (simp; done) | (simp; omega))).trans (by first | (simp; done) | go_simp)
      have R_f8 : w1.frozen? ⟨w.heap.size + 2, 8, none⟩ = false := (hc1.frozen (p := ⟨w.heap.size + 2, 8, none⟩) (by first | (simp; done) | (simp; omega))).trans (by first | (simp; done) | go_simp)
      have R_f9 : w1.frozen? ⟨w.heap.size + 2, 9, none⟩ = false := (hc1.frozen (p := ⟨w.heap.size + 2, 9, none⟩) (by first | (simp; done) | (simp; omega))).trans (by first | (simp; done) | go_simp)
      have R_f10 : w1.frozen? ⟨w.heap.size + 2, 10, none⟩ = false := (hc1.frozen (p := ⟨w.heap.size + 2, 10, none⟩) (by first | (simp; done) | (simp; omega))).trans (by first | (simp; done) | go_simp)
      have R_l : w.heap.size + 2 < w1.heap.size := Nat.lt_of_lt_of_le (by first | (simp; done) | (simp; omega)) hc1.size
      replace hS := hS.later hst1
      clear hst1
      clear hc1 hb0
      go_wp2_with fail
      with_reducible refine (H_hval.out _).mono ?_
      rintro e w2 ⟨rfl, hc2⟩
      have hb2 : Below w.heap.size w w2 := bchain (by repeat' (first | with_reducible exact hb1 | with_reducible refine Below.drew ?_ | with_reducible refine below_drewN ?_ _ | with_reducible refine Below.alloc ?_ (by have := hb1.size; first | (simp; done) | (simp; omega) | omega) _ | with_reducible refine Below.setCell ?_ (by first | (simp; done) | (simp; omega) | omega) _)) hc2
      have hst2 : Below w1.heap.size w1 w2 := bchain (by repeat' (first | with_reducible exact Below.refl _ _ | with_reducible refine Below.drew ?_ | with_reducible refine below_drewN ?_ _ | with_reducible refine Below.alloc ?_ (by first | (simp; done) | (simp; omega) | omega) _ | with_reducible refine Below.setCell ?_ (by first | (simp; done) | (simp; omega) | omega) _)) hc2
      replace X_0 := cell_later hst2 X_0
      replace X_1 := cell_later hst2 X_1
      replace X_2 := cell_later hst2 X_2
      replace X_3 := cell_later hst2 X_3
      replace X_4 := cell_later hst2 X_4
      replace X_5 := cell_later hst2 X_5
      replace X_6 := cell_later hst2 X_6
      replace X_7 := cell_later hst2 X_7
      replace X_8 := cell_later hst2 X_8
      replace X_9 := cell_later hst2 X_9
      replace X_10 := cell_later hst2 X_10
      replace X_l := Nat.lt_of_lt_of_le X_l hst2.size
      replace P_0 := cell_later hst2 P_0
      replace P_1 := cell_later hst2 P_1
      replace P_l := Nat.lt_of_lt_of_le P_l hst2.size
      replace R_0 := cell_later hst2 R_0
      replace R_1 := cell_later hst2 R_1
      replace R_2 := cell_later hst2 R_2
      replace R_3 := cell_later hst2 R_3
      replace R_4 := cell_later hst2 R_4
      replace R_5 := cell_later hst2 R_5
      replace R_6 := cell_later hst2 R_6
      replace R_7 := cell_later hst2 R_7
      replace R_8 := cell_later hst2 R_8
      replace R_9 := cell_later hst2 R_9
      replace R_10 := cell_later hst2 R_10
      replace R_f0 := frozen_later hst2 R_l R_f0
      replace R_f1 := frozen_later hst2 R_l R_f1
      replace R_f2 := frozen_later hst2 R_l R_f2
      replace R_f3 := frozen_later hst2 R_l R_f3
      replace R_f4 := frozen_later hst2 R_l R_f4
      replace R_f5 := frozen_later hst2 R_l R_f5
      replace R_f6 := frozen_later hst2 R_l R_f6
      replace R_f7 := frozen_later hst2 R_l R_f7
      replace R_f8 := frozen_later hst2 R_l R_f8
      replace R_f9 := frozen_later hst2 R_l R_f9
      replace R_f10 := frozen_later hst2 R_l R_f10
      replace R_l := Nat.lt_of_lt_of_le R_l hst2.size
      replace hS := hS.later hst2
      clear hst2
      clear hc2 hb1
      go_wp2_with fail
      refine bodyPost_ret (v := .tuple #[.agg #[.int .i64 0, .int .i64 0, .int .i64 0, .int .i64 0, .int .i64 0, .int .i64 0, .int .i64 0, .int .i64 0, .int .i64 0, .int .u32 0, .slice none 0 0], .int .i64 8]) (by simp [results, Try.results10, go_sem, *]) rfl ⟨RetS.of (r := zOut 8) ⟨none, 0, rfl, .inl rfl⟩ H_hr2.out, (by repeat' (first | with_reducible exact hb2 | with_reducible refine Below.drew ?_ | with_reducible refine below_drewN ?_ _ | with_reducible refine Below.alloc ?_ (by have := hb2.size; first | (simp; done) | (simp; omega) | omega) _ | with_reducible refine Below.setCell ?_ (by first | (simp; done) | (simp; omega) | omega) _))⟩
    | true =>
      rw [hb] at hval
      cases hh : hasN ps n with
      | true =>
        have hr2 : zOut 14 = R := by rw [← hR]; unfold withR; rw [if_pos rfl, hb, hh]; rfl
        rw [hh] at hhas
        have H_hR := Box.mk hR
        have H_hE := Box.mk hE
        have H_hr2 := Box.mk hr2
        have H_hwho := Box.mk hwho
        have H_hval := Box.mk hval
        have H_hhas := Box.mk hhas
        have H_hat := Box.mk hat
        have H_hchk := Box.mk hchk
        have H_hcv := Box.mk hcv
        have H_hb := Box.mk hb
        have H_hh := Box.mk hh
        clear hR hE hr2 hwho hval hhas hat hchk hcv hb hh
        go_enter Try.func10, Try.ntmps10
        have hb0 := Below.refl w.heap.size w
        go_wp2_with fail
        with_reducible refine (H_hchk.out _ (((hS.alloc _).alloc _).alloc _)).mono ?_
        rintro e w1 ⟨rfl, hc1⟩
        have hb1 : Below w.heap.size w w1 := bchain (by repeat' (first | with_reducible exact hb0 | with_reducible refine Below.drew ?_ | with_reducible refine below_drewN ?_ _ | with_reducible refine Below.alloc ?_ (by have := hb0.size; first | (simp; done) | (simp; omega) | omega) _ | with_reducible refine Below.setCell ?_ (by first | (simp; done) | (simp; omega) | omega) _)) hc1
        have hst1 : Below w.heap.size w w1 := bchain (by repeat' (first | with_reducible exact Below.refl _ _ | with_reducible refine Below.drew ?_ | with_reducible refine below_drewN ?_ _ | with_reducible refine Below.alloc ?_ (by first | (simp; done) | (simp; omega) | omega) _ | with_reducible refine Below.setCell ?_ (by first | (simp; done) | (simp; omega) | omega) _)) hc1
        have X_0 : w1.cell? ⟨w.heap.size, 0, none⟩ = some (.int .i64 l0) := (hc1.cell (p := ⟨w.heap.size, 0, none⟩) (by first | (simp; done) | (simp; omega))).trans (by first | (simp; done) | go_simp)
        have X_1 : w1.cell? ⟨w.heap.size, 1, none⟩ = some (.int .i64 l1) := (hc1.cell (p := ⟨w.heap.size, 1, none⟩) (by first | (simp; done) | (simp; omega))).trans (by first | (simp; done) | go_simp)
        have X_2 : w1.cell? ⟨w.heap.size, 2, none⟩ = some (.int .i64 l2) := (hc1.cell (p := ⟨w.heap.size, 2, none⟩) (by first | (simp; done) | (simp; omega))).trans (by first | (simp; done) | go_simp)
        have X_3 : w1.cell? ⟨w.heap.size, 3, none⟩ = some (.int .i64 l3) := (hc1.cell (p := ⟨w.heap.size, 3, none⟩) (by first | (simp; done) | (simp; omega))).trans (by first | (simp; done) | go_simp)
        have X_4 : w1.cell? ⟨w.heap.size, 4, none⟩ = some (.int .i64 l4) := (hc1.cell (p := ⟨w.heap.size, 4, none⟩) (by first | (simp; done) | (simp; omega))).trans (by first | (simp; done) | go_simp)
        have X_5 : w1.cell? ⟨w.heap.size, 5, none⟩ = some (.int .i64 l5) := (hc1.cell (p := ⟨w.heap.size, 5, none⟩) (by first | (simp; done) | (simp; omega))).trans (by first | (simp; done) | go_simp)
        have X_6 : w1.cell? ⟨w.heap.size, 6, none⟩ = some (.int .i64 l6) := (hc1.cell (p := ⟨w.heap.size, 6, none⟩) (by first | (simp; done) | (simp; omega))).trans (by first | (simp; done) | go_simp)
        have X_7 : w1.cell? ⟨w.heap.size, 7, none⟩ = some (.int .i64 l7) := (hc1.cell (p := ⟨w.heap.size, 7, none⟩) (by first | (simp; done) | (simp; omega))).trans (by first | (simp; done) | go_simp)
        have X_8 : w1.cell? ⟨w.heap.size, 8, none⟩ = some (.int .i64 l8) := (hc1.cell (p := ⟨w.heap.size, 8, none⟩) (by first | (simp; done) | (simp; omega))).trans (by first | (simp; done) | go_simp)
        have X_9 : w1.cell? ⟨w.heap.size, 9, none⟩ = some (.int .u32 s) := (hc1.cell (p := ⟨w.heap.size, 9, none⟩) (by first | (simp; done) | (simp; omega))).trans (by first | (simp; done) | go_simp)
        have X_10 : w1.cell? ⟨w.heap.size, 10, none⟩ = some (.slice a ps.length c) := (hc1.cell (p := ⟨w.heap.size, 10, none⟩) (by first | (simp; done) | (simp; omega))).trans (by first | (simp; done) | go_simp)
        have X_l : w.heap.size < w1.heap.size := Nat.lt_of_lt_of_le (by first | (simp; done) | (simp; omega)) hc1.size
        have P_0 : w1.cell? ⟨w.heap.size + 1, 0, none⟩ = some (.string n) := (hc1.cell (p := ⟨w.heap.size + 1, 0, none⟩) (by first | (simp; done) | (simp; omega))).trans (by first | (simp; done) | go_simp)
        have P_1 : w1.cell? ⟨w.heap.size + 1, 1, none⟩ = some (.int .u32 q) := (hc1.cell (p := ⟨w.heap.size + 1, 1, none⟩) (by first | (simp; done) | (simp; omega))).trans (by first | (simp; done) | go_simp)
        have P_l : w.heap.size + 1 < w1.heap.size := Nat.lt_of_lt_of_le (by first | (simp; done) | (simp; omega)) hc1.size
        have R_0 : w1.cell? ⟨w.heap.size + 2, 0, none⟩ = some (.int .i64 0) := (hc1.cell (p := ⟨w.heap.size + 2, 0, none⟩) (by first | (simp; done) | (simp; omega))).trans (by first | (simp; done) | go_simp)
        have R_1 : w1.cell? ⟨w.heap.size + 2, 1, none⟩ = some (.int .i64 0) := (hc1.cell (p := ⟨w.heap.size + 2, 1, none⟩) (by first | (simp; done) | (simp; omega))).trans (by first | (simp; done) | go_simp)
        have R_2 : w1.cell? ⟨w.heap.size + 2, 2, none⟩ = some (.int .i64 0) := (hc1.cell (p := ⟨w.heap.size + 2, 2, none⟩) (by first | (simp; done) | (simp; omega))).trans (by first | (simp; done) | go_simp)
        have R_3 : w1.cell? ⟨w.heap.size + 2, 3, none⟩ = some (.int .i64 0) := (hc1.cell (p := ⟨w.heap.size + 2, 3, none⟩) (by first | (simp; done) | (simp; omega))).trans (by first | (simp; done) | go_simp)
        have R_4 : w1.cell? ⟨w.heap.size + 2, 4, none⟩ = some (.int .i64 0) := (hc1.cell (p := ⟨w.heap.size + 2, 4, none⟩) (by first | (simp; done) | (simp; omega))).trans (by first | (simp; done) | go_simp)
        have R_5 : w1.cell? ⟨w.heap.size + 2, 5, none⟩ = some (.int .i64 0) := (hc1.cell (p := ⟨w.heap.size + 2, 5, none⟩) (by first | (simp; done) | (simp; omega))).trans (by first | (simp; done) | go_simp)
        have R_6 : w1.cell? ⟨w.heap.size + 2, 6, none⟩ = some (.int .i64 0) := (hc1.cell (p := ⟨w.heap.size + 2, 6, none⟩) (by first | (simp; done) | (simp; omega))).trans (by first | (simp; done) | go_simp)
        have R_7 : w1.cell? ⟨w.heap.size + 2, 7, none⟩ = some (.int .i64 0) := (hc1.cell (p := ⟨w.heap.size + 2, 7, none⟩) (by first | (simp; done) | (simp; omega))).trans (by first | (simp; done) | go_simp)
        have R_8 : w1.cell? ⟨w.heap.size + 2, 8, none⟩ = some (.int .i64 0) := (hc1.cell (p := ⟨w.heap.size + 2, 8, none⟩) (by first | (simp; done) | (simp; omega))).trans (by first | (simp; done) | go_simp)
        have R_9 : w1.cell? ⟨w.heap.size + 2, 9, none⟩ = some (.int .u32 0) := (hc1.cell (p := ⟨w.heap.size + 2, 9, none⟩) (by first | (simp; done) | (simp; omega))).trans (by first | (simp; done) | go_simp)
        have R_10 : w1.cell? ⟨w.heap.size + 2, 10, none⟩ = some (.slice none 0 0) := (hc1.cell (p := ⟨w.heap.size + 2, 10, none⟩) (by first | (simp; done) | (simp; omega))).trans (by first | (simp; done) | go_simp)
        have R_f0 : w1.frozen? ⟨w.heap.size + 2, 0, none⟩ = false := (hc1.frozen (p := ⟨w.heap.size + 2, 0, none⟩) (by first | (simp; done) | (simp; omega))).trans (by first | (simp; done) | go_simp)
        have R_f1 : w1.frozen? ⟨w.heap.size + 2, 1, none⟩ = false := (hc1.frozen (p := ⟨w.heap.size + 2, 1, none⟩) (by first | (simp; done) | (simp; omega))).trans (by first | (simp; done) | go_simp)
        have R_f2 : w1.frozen? ⟨w.heap.size + 2, 2, none⟩ = false := (hc1.frozen (p := ⟨w.heap.size + 2, 2, none⟩) (by first | (simp; done) | (simp; omega))).trans (by first | (simp; done) | go_simp)
        have R_f3 : w1.frozen? ⟨w.heap.size + 2, 3, none⟩ = false := (hc1.frozen (p := ⟨w.heap.size + 2, 3, none⟩) (by first | (simp; done) | (simp; omega))).trans (by first | (simp; done) | go_simp)
        have R_f4 : w1.frozen? ⟨w.heap.size + 2, 4, none⟩ = false := (hc1.frozen (p := ⟨w.heap.size + 2, 4, none⟩) (by first | (simp; done) | (simp; omega))).trans (by first | (simp; done) | go_simp)
        have R_f5 : w1.frozen? ⟨w.heap.size + 2, 5, none⟩ = false := (hc1.frozen (p := ⟨w.heap.size + 2, 5, none⟩) (by first | (simp; done) | (simp; omega))).trans (by first | (simp; done) | go_simp)
        have R_f6 : w1.frozen? ⟨w.heap.size + 2, 6, none⟩ = false := (hc1.frozen (p := ⟨w.heap.size + 2, 6, none⟩) (by first | (simp; done) | (simp; omega))).trans (by first | (simp; done) | go_simp)
        have R_f7 : w1.frozen? ⟨w.heap.size + 2, 7, none⟩ = false := (hc1.frozen (p := ⟨w.heap.size + 2, 7, none⟩) (by first | (simp; done) | (simp; omega))).trans (by first | (simp; done) | go_simp)
        have R_f8 : w1.frozen? ⟨w.heap.size + 2, 8, none⟩ = false := (hc1.frozen (p := ⟨w.heap.size + 2, 8, none⟩) (by first | (simp; done) | (simp; omega))).trans (by first | (simp; done) | go_simp)
        have R_f9 : w1.frozen? ⟨w.heap.size + 2, 9, none⟩ = false := (hc1.frozen (p := ⟨w.heap.size + 2, 9, none⟩) (by first | (simp; done) | (simp; omega))).trans (by first | (simp; done) | go_simp)
        have R_f10 : w1.frozen? ⟨w.heap.size + 2, 10, none⟩ = false := (hc1.frozen (p := ⟨w.heap.size + 2, 10, none⟩) (by first | (simp; done) | (simp; omega))).trans (by first | (simp; done) | go_simp)
        have R_l : w.heap.size + 2 < w1.heap.size := Nat.lt_of_lt_of_le (by first | (simp; done) | (simp; omega)) hc1.size
        replace hS := hS.later hst1
        clear hst1
        clear hc1 hb0
        go_wp2_with fail
        with_reducible refine (H_hval.out _).mono ?_
        rintro e w2 ⟨rfl, hc2⟩
        have hb2 : Below w.heap.size w w2 := bchain (by repeat' (first | with_reducible exact hb1 | with_reducible refine Below.drew ?_ | with_reducible refine below_drewN ?_ _ | with_reducible refine Below.alloc ?_ (by have := hb1.size; first | (simp; done) | (simp; omega) | omega) _ | with_reducible refine Below.setCell ?_ (by first | (simp; done) | (simp; omega) | omega) _)) hc2
        have hst2 : Below w1.heap.size w1 w2 := bchain (by repeat' (first | with_reducible exact Below.refl _ _ | with_reducible refine Below.drew ?_ | with_reducible refine below_drewN ?_ _ | with_reducible refine Below.alloc ?_ (by first | (simp; done) | (simp; omega) | omega) _ | with_reducible refine Below.setCell ?_ (by first | (simp; done) | (simp; omega) | omega) _)) hc2
        replace X_0 := cell_later hst2 X_0
        replace X_1 := cell_later hst2 X_1
        replace X_2 := cell_later hst2 X_2
        replace X_3 := cell_later hst2 X_3
        replace X_4 := cell_later hst2 X_4
        replace X_5 := cell_later hst2 X_5
        replace X_6 := cell_later hst2 X_6
        replace X_7 := cell_later hst2 X_7
        replace X_8 := cell_later hst2 X_8
        replace X_9 := cell_later hst2 X_9
        replace X_10 := cell_later hst2 X_10
        replace X_l := Nat.lt_of_lt_of_le X_l hst2.size
        replace P_0 := cell_later hst2 P_0
        replace P_1 := cell_later hst2 P_1
        replace P_l := Nat.lt_of_lt_of_le P_l hst2.size
        replace R_0 := cell_later hst2 R_0
        replace R_1 := cell_later hst2 R_1
        replace R_2 := cell_later hst2 R_2
        replace R_3 := cell_later hst2 R_3
        replace R_4 := cell_later hst2 R_4
        replace R_5 := cell_later hst2 R_5
        replace R_6 := cell_later hst2 R_6
        replace R_7 := cell_later hst2 R_7
        replace R_8 := cell_later hst2 R_8
        replace R_9 := cell_later hst2 R_9
        replace R_10 := cell_later hst2 R_10
        replace R_f0 := frozen_later hst2 R_l R_f0
        replace R_f1 := frozen_later hst2 R_l R_f1
        replace R_f2 := frozen_later hst2 R_l R_f2
        replace R_f3 := frozen_later hst2 R_l R_f3
        replace R_f4 := frozen_later hst2 R_l R_f4
        replace R_f5 := frozen_later hst2 R_l R_f5
        replace R_f6 := frozen_later hst2 R_l R_f6
        replace R_f7 := frozen_later hst2 R_l R_f7
        replace R_f8 := frozen_later hst2 R_l R_f8
        replace R_f9 := frozen_later hst2 R_l R_f9
        replace R_f10 := frozen_later hst2 R_l R_f10
        replace R_l := Nat.lt_of_lt_of_le R_l hst2.size
        replace hS := hS.later hst2
        clear hst2
        clear hc2 hb1
        go_wp2_with fail
        refine wp_gen fun w3 hc3 => ?_
        have hb3 : Below w.heap.size w w3 := bchain (by repeat' (first | with_reducible exact hb2 | with_reducible refine Below.drew ?_ | with_reducible refine below_drewN ?_ _ | with_reducible refine Below.alloc ?_ (by have := hb2.size; first | (simp; done) | (simp; omega) | omega) _ | with_reducible refine Below.setCell ?_ (by first | (simp; done) | (simp; omega) | omega) _)) hc3
        have hst3 : Below w2.heap.size w2 w3 := bchain (by repeat' (first | with_reducible exact Below.refl _ _ | with_reducible refine Below.drew ?_ | with_reducible refine below_drewN ?_ _ | with_reducible refine Below.alloc ?_ (by first | (simp; done) | (simp; omega) | omega) _ | with_reducible refine Below.setCell ?_ (by first | (simp; done) | (simp; omega) | omega) _)) hc3
        replace X_0 := cell_later hst3 X_0
        replace X_1 := cell_later hst3 X_1
        replace X_2 := cell_later hst3 X_2
        replace X_3 := cell_later hst3 X_3
        replace X_4 := cell_later hst3 X_4
        replace X_5 := cell_later hst3 X_5
        replace X_6 := cell_later hst3 X_6
        replace X_7 := cell_later hst3 X_7
        replace X_8 := cell_later hst3 X_8
        replace X_9 := cell_later hst3 X_9
        replace X_10 := cell_later hst3 X_10
        replace X_l := Nat.lt_of_lt_of_le X_l hst3.size
        replace P_0 := cell_later hst3 P_0
        replace P_1 := cell_later hst3 P_1
        replace P_l := Nat.lt_of_lt_of_le P_l hst3.size
        replace R_0 := cell_later hst3 R_0
        replace R_1 := cell_later hst3 R_1
        replace R_2 := cell_later hst3 R_2
        replace R_3 := cell_later hst3 R_3
        replace R_4 := cell_later hst3 R_4
        replace R_5 := cell_later hst3 R_5
        replace R_6 := cell_later hst3 R_6
        replace R_7 := cell_later hst3 R_7
        replace R_8 := cell_later hst3 R_8
        replace R_9 := cell_later hst3 R_9
        replace R_10 := cell_later hst3 R_10
        replace R_f0 := frozen_later hst3 R_l R_f0
        replace R_f1 := frozen_later hst3 R_l R_f1
        replace R_f2 := frozen_later hst3 R_l R_f2
        replace R_f3 := frozen_later hst3 R_l R_f3
        replace R_f4 := frozen_later hst3 R_l R_f4
        replace R_f5 := frozen_later hst3 R_l R_f5
        replace R_f6 := frozen_later hst3 R_l R_f6
        replace R_f7 := frozen_later hst3 R_l R_f7
        replace R_f8 := frozen_later hst3 R_l R_f8
        replace R_f9 := frozen_later hst3 R_l R_f9
        replace R_f10 := frozen_later hst3 R_l R_f10
        replace R_l := Nat.lt_of_lt_of_le R_l hst3.size
        replace hS := hS.later hst3
        clear hst3
        have KX_0 := cell_on X_0
        have KX_1 := cell_on X_1
        have KX_2 := cell_on X_2
        have KX_3 := cell_on X_3
        have KX_4 := cell_on X_4
        have KX_5 := cell_on X_5
        have KX_6 := cell_on X_6
        have KX_7 := cell_on X_7
        have KX_8 := cell_on X_8
        have KX_9 := cell_on X_9
        have KX_10 := cell_on X_10
        have KP_0 := cell_on P_0
        have KP_1 := cell_on P_1
        refine wp_region_on (by kernel_rfl) (by kernel_rfl) ?_
        repeat (go_big_quiet_step ((first | (go_at_call 17; with_reducible exact calls_on (H_hhas.out _ (hS.on _))))))
        refine wpQuiet_nil ?_
        intro w4 hc4
        clear KX_0 KX_1 KX_2 KX_3 KX_4 KX_5 KX_6 KX_7 KX_8 KX_9 KX_10 KP_0 KP_1
        have hb4 : Below w.heap.size w w4 := bchain (by repeat' (first | with_reducible exact hb3 | with_reducible refine Below.drew ?_ | with_reducible refine below_drewN ?_ _ | with_reducible refine Below.alloc ?_ (by have := hb3.size; first | (simp; done) | (simp; omega) | omega) _ | with_reducible refine Below.setCell ?_ (by first | (simp; done) | (simp; omega) | omega) _)) hc4
        have hst4 : Below w3.heap.size w3 w4 := bchain (by repeat' (first | with_reducible exact Below.refl _ _ | with_reducible refine Below.drew ?_ | with_reducible refine below_drewN ?_ _ | with_reducible refine Below.alloc ?_ (by first | (simp; done) | (simp; omega) | omega) _ | with_reducible refine Below.setCell ?_ (by first | (simp; done) | (simp; omega) | omega) _)) hc4
        replace X_0 := cell_later hst4 X_0
        replace X_1 := cell_later hst4 X_1
        replace X_2 := cell_later hst4 X_2
        replace X_3 := cell_later hst4 X_3
        replace X_4 := cell_later hst4 X_4
        replace X_5 := cell_later hst4 X_5
        replace X_6 := cell_later hst4 X_6
        replace X_7 := cell_later hst4 X_7
        replace X_8 := cell_later hst4 X_8
        replace X_9 := cell_later hst4 X_9
        replace X_10 := cell_later hst4 X_10
        replace X_l := Nat.lt_of_lt_of_le X_l hst4.size
        replace P_0 := cell_later hst4 P_0
        replace P_1 := cell_later hst4 P_1
        replace P_l := Nat.lt_of_lt_of_le P_l hst4.size
        replace R_0 := cell_later hst4 R_0
        replace R_1 := cell_later hst4 R_1
        replace R_2 := cell_later hst4 R_2
        replace R_3 := cell_later hst4 R_3
        replace R_4 := cell_later hst4 R_4
        replace R_5 := cell_later hst4 R_5
        replace R_6 := cell_later hst4 R_6
        replace R_7 := cell_later hst4 R_7
        replace R_8 := cell_later hst4 R_8
        replace R_9 := cell_later hst4 R_9
        replace R_10 := cell_later hst4 R_10
        replace R_f0 := frozen_later hst4 R_l R_f0
        replace R_f1 := frozen_later hst4 R_l R_f1
        replace R_f2 := frozen_later hst4 R_l R_f2
        replace R_f3 := frozen_later hst4 R_l R_f3
        replace R_f4 := frozen_later hst4 R_l R_f4
        replace R_f5 := frozen_later hst4 R_l R_f5
        replace R_f6 := frozen_later hst4 R_l R_f6
        replace R_f7 := frozen_later hst4 R_l R_f7
        replace R_f8 := frozen_later hst4 R_l R_f8
        replace R_f9 := frozen_later hst4 R_l R_f9
        replace R_f10 := frozen_later hst4 R_l R_f10
        replace R_l := Nat.lt_of_lt_of_le R_l hst4.size
        replace hS := hS.later hst4
        clear hst4
        go_wp2_with fail
        refine bodyPost_ret (v := .tuple #[.agg #[.int .i64 0, .int .i64 0, .int .i64 0, .int .i64 0, .int .i64 0, .int .i64 0, .int .i64 0, .int .i64 0, .int .i64 0, .int .u32 0, .slice none 0 0], .int .i64 14]) (by simp [results, Try.results10, go_sem, *]) rfl ⟨RetS.of (r := zOut 14) ⟨none, 0, rfl, .inl rfl⟩ H_hr2.out, (by repeat' (first | with_reducible exact hb4 | with_reducible refine Below.drew ?_ | with_reducible refine below_drewN ?_ _ | with_reducible refine Below.alloc ?_ (by have := hb4.size; first | (simp; done) | (simp; omega) | omega) _ | with_reducible refine Below.setCell ?_ (by first | (simp; done) | (simp; omega) | omega) _))⟩
      | false =>
        rw [hh] at hhas
        obtain ⟨z, hz⟩ : ∃ z, whoN (pubK s) ps q = z := ⟨_, rfl⟩
        simp only [hz] at hwho
        by_cases hw : z < ps.length
        · have hr2 : zOut 14 = R := by rw [← hR]; unfold withR; rw [if_pos rfl, hb, hh, hz, if_pos hw]; rfl
          have H_hR := Box.mk hR
          have H_hE := Box.mk hE
          have H_hr2 := Box.mk hr2
          have H_hwho := Box.mk hwho
          have H_hval := Box.mk hval
          have H_hhas := Box.mk hhas
          have H_hat := Box.mk hat
          have H_hchk := Box.mk hchk
          have H_hcv := Box.mk hcv
          have H_hb := Box.mk hb
          have H_hh := Box.mk hh
          have H_hz := Box.mk hz
          clear hR hE hr2 hwho hval hhas hat hchk hcv hb hh hz
          go_enter Try.func10, Try.ntmps10
          have hb0 := Below.refl w.heap.size w
          go_wp2_with fail
          with_reducible refine (H_hchk.out _ (((hS.alloc _).alloc _).alloc _)).mono ?_
          rintro e w1 ⟨rfl, hc1⟩
          have hb1 : Below w.heap.size w w1 := bchain (by repeat' (first | with_reducible exact hb0 | with_reducible refine Below.drew ?_ | with_reducible refine below_drewN ?_ _ | with_reducible refine Below.alloc ?_ (by have := hb0.size; first | (simp; done) | (simp; omega) | omega) _ | with_reducible refine Below.setCell ?_ (by first | (simp; done) | (simp; omega) | omega) _)) hc1
          have hst1 : Below w.heap.size w w1 := bchain (by repeat' (first | with_reducible exact Below.refl _ _ | with_reducible refine Below.drew ?_ | with_reducible refine below_drewN ?_ _ | with_reducible refine Below.alloc ?_ (by first | (simp; done) | (simp; omega) | omega) _ | with_reducible refine Below.setCell ?_ (by first | (simp; done) | (simp; omega) | omega) _)) hc1
          have X_0 : w1.cell? ⟨w.heap.size, 0, none⟩ = some (.int .i64 l0) := (hc1.cell (p := ⟨w.heap.size, 0, none⟩) (by first | (simp; done) | (simp; omega))).trans (by first | (simp; done) | go_simp)
          have X_1 : w1.cell? ⟨w.heap.size, 1, none⟩ = some (.int .i64 l1) := (hc1.cell (p := ⟨w.heap.size, 1, none⟩) (by first | (simp; done) | (simp; omega))).trans (by first | (simp; done) | go_simp)
          have X_2 : w1.cell? ⟨w.heap.size, 2, none⟩ = some (.int .i64 l2) := (hc1.cell (p := ⟨w.heap.size, 2, none⟩) (by first | (simp; done) | (simp; omega))).trans (by first | (simp; done) | go_simp)
          have X_3 : w1.cell? ⟨w.heap.size, 3, none⟩ = some (.int .i64 l3) := (hc1.cell (p := ⟨w.heap.size, 3, none⟩) (by first | (simp; done) | (simp; omega))).trans (by first | (simp; done) | go_simp)
          have X_4 : w1.cell? ⟨w.heap.size, 4, none⟩ = some (.int .i64 l4) := (hc1.cell (p := ⟨w.heap.size, 4, none⟩) (by first | (simp; done) | (simp; omega))).trans (by first | (simp; done) | go_simp)
          have X_5 : w1.cell? ⟨w.heap.size, 5, none⟩ = some (.int .i64 l5) := (hc1.cell (p := ⟨w.heap.size, 5, none⟩) (by first | (simp; done) | (simp; omega))).trans (by first | (simp; done) | go_simp)
          have X_6 : w1.cell? ⟨w.heap.size, 6, none⟩ = some (.int .i64 l6) := (hc1.cell (p := ⟨w.heap.size, 6, none⟩) (by first | (simp; done) | (simp; omega))).trans (by first | (simp; done) | go_simp)
          have X_7 : w1.cell? ⟨w.heap.size, 7, none⟩ = some (.int .i64 l7) := (hc1.cell (p := ⟨w.heap.size, 7, none⟩) (by first | (simp; done) | (simp; omega))).trans (by first | (simp; done) | go_simp)
          have X_8 : w1.cell? ⟨w.heap.size, 8, none⟩ = some (.int .i64 l8) := (hc1.cell (p := ⟨w.heap.size, 8, none⟩) (by first | (simp; done) | (simp; omega))).trans (by first | (simp; done) | go_simp)
          have X_9 : w1.cell? ⟨w.heap.size, 9, none⟩ = some (.int .u32 s) := (hc1.cell (p := ⟨w.heap.size, 9, none⟩) (by first | (simp; done) | (simp; omega))).trans (by first | (simp; done) | go_simp)
          have X_10 : w1.cell? ⟨w.heap.size, 10, none⟩ = some (.slice a ps.length c) := (hc1.cell (p := ⟨w.heap.size, 10, none⟩) (by first | (simp; done) | (simp; omega))).trans (by first | (simp; done) | go_simp)
          have X_l : w.heap.size < w1.heap.size := Nat.lt_of_lt_of_le (by first | (simp; done) | (simp; omega)) hc1.size
          have P_0 : w1.cell? ⟨w.heap.size + 1, 0, none⟩ = some (.string n) := (hc1.cell (p := ⟨w.heap.size + 1, 0, none⟩) (by first | (simp; done) | (simp; omega))).trans (by first | (simp; done) | go_simp)
          have P_1 : w1.cell? ⟨w.heap.size + 1, 1, none⟩ = some (.int .u32 q) := (hc1.cell (p := ⟨w.heap.size + 1, 1, none⟩) (by first | (simp; done) | (simp; omega))).trans (by first | (simp; done) | go_simp)
          have P_l : w.heap.size + 1 < w1.heap.size := Nat.lt_of_lt_of_le (by first | (simp; done) | (simp; omega)) hc1.size
          have R_0 : w1.cell? ⟨w.heap.size + 2, 0, none⟩ = some (.int .i64 0) := (hc1.cell (p := ⟨w.heap.size + 2, 0, none⟩) (by first | (simp; done) | (simp; omega))).trans (by first | (simp; done) | go_simp)
          have R_1 : w1.cell? ⟨w.heap.size + 2, 1, none⟩ = some (.int .i64 0) := (hc1.cell (p := ⟨w.heap.size + 2, 1, none⟩) (by first | (simp; done) | (simp; omega))).trans (by first | (simp; done) | go_simp)
          have R_2 : w1.cell? ⟨w.heap.size + 2, 2, none⟩ = some (.int .i64 0) := (hc1.cell (p := ⟨w.heap.size + 2, 2, none⟩) (by first | (simp; done) | (simp; omega))).trans (by first | (simp; done) | go_simp)
          have R_3 : w1.cell? ⟨w.heap.size + 2, 3, none⟩ = some (.int .i64 0) := (hc1.cell (p := ⟨w.heap.size + 2, 3, none⟩) (by first | (simp; done) | (simp; omega))).trans (by first | (simp; done) | go_simp)
          have R_4 : w1.cell? ⟨w.heap.size + 2, 4, none⟩ = some (.int .i64 0) := (hc1.cell (p := ⟨w.heap.size + 2, 4, none⟩) (by first | (simp; done) | (simp; omega))).trans (by first | (simp; done) | go_simp)
          have R_5 : w1.cell? ⟨w.heap.size + 2, 5, none⟩ = some (.int .i64 0) := (hc1.cell (p := ⟨w.heap.size + 2, 5, none⟩) (by first | (simp; done) | (simp; omega))).trans (by first | (simp; done) | go_simp)
          have R_6 : w1.cell? ⟨w.heap.size + 2, 6, none⟩ = some (.int .i64 0) := (hc1.cell (p := ⟨w.heap.size + 2, 6, none⟩) (by first | (simp; done) | (simp; omega))).trans (by first | (simp; done) | go_simp)
          have R_7 : w1.cell? ⟨w.heap.size + 2, 7, none⟩ = some (.int .i64 0) := (hc1.cell (p := ⟨w.heap.size + 2, 7, none⟩) (by first | (simp; done) | (simp; omega))).trans (by first | (simp; done) | go_simp)
          have R_8 : w1.cell? ⟨w.heap.size + 2, 8, none⟩ = some (.int .i64 0) := (hc1.cell (p := ⟨w.heap.size + 2, 8, none⟩) (by first | (simp; done) | (simp; omega))).trans (by first | (simp; done) | go_simp)
          have R_9 : w1.cell? ⟨w.heap.size + 2, 9, none⟩ = some (.int .u32 0) := (hc1.cell (p := ⟨w.heap.size + 2, 9, none⟩) (by first | (simp; done) | (simp; omega))).trans (by first | (simp; done) | go_simp)
          have R_10 : w1.cell? ⟨w.heap.size + 2, 10, none⟩ = some (.slice none 0 0) := (hc1.cell (p := ⟨w.heap.size + 2, 10, none⟩) (by first | (simp; done) | (simp; omega))).trans (by first | (simp; done) | go_simp)
          have R_f0 : w1.frozen? ⟨w.heap.size + 2, 0, none⟩ = false := (hc1.frozen (p := ⟨w.heap.size + 2, 0, none⟩) (by first | (simp; done) | (simp; omega))).trans (by first | (simp; done) | go_simp)
          have R_f1 : w1.frozen? ⟨w.heap.size + 2, 1, none⟩ = false := (hc1.frozen (p := ⟨w.heap.size + 2, 1, none⟩) (by first | (simp; done) | (simp; omega))).trans (by first | (simp; done) | go_simp)
          have R_f2 : w1.frozen? ⟨w.heap.size + 2, 2, none⟩ = false := (hc1.frozen (p := ⟨w.heap.size + 2, 2, none⟩) (by first | (simp; done) | (simp; omega))).trans (by first | (simp; done) | go_simp)
          have R_f3 : w1.frozen? ⟨w.heap.size + 2, 3, none⟩ = false := (hc1.frozen (p := ⟨w.heap.size + 2, 3, none⟩) (by first | (simp; done) | (simp; omega))).trans (by first | (simp; done) | go_simp)
          have R_f4 : w1.frozen? ⟨w.heap.size + 2, 4, none⟩ = false := (hc1.frozen (p := ⟨w.heap.size + 2, 4, none⟩) (by first | (simp; done) | (simp; omega))).trans (by first | (simp; done) | go_simp)
          have R_f5 : w1.frozen? ⟨w.heap.size + 2, 5, none⟩ = false := (hc1.frozen (p := ⟨w.heap.size + 2, 5, none⟩) (by first | (simp; done) | (simp; omega))).trans (by first | (simp; done) | go_simp)
          have R_f6 : w1.frozen? ⟨w.heap.size + 2, 6, none⟩ = false := (hc1.frozen (p := ⟨w.heap.size + 2, 6, none⟩) (by first | (simp; done) | (simp; omega))).trans (by first | (simp; done) | go_simp)
          have R_f7 : w1.frozen? ⟨w.heap.size + 2, 7, none⟩ = false := (hc1.frozen (p := ⟨w.heap.size + 2, 7, none⟩) (by first | (simp; done) | (simp; omega))).trans (by first | (simp; done) | go_simp)
          have R_f8 : w1.frozen? ⟨w.heap.size + 2, 8, none⟩ = false := (hc1.frozen (p := ⟨w.heap.size + 2, 8, none⟩) (by first | (simp; done) | (simp; omega))).trans (by first | (simp; done) | go_simp)
          have R_f9 : w1.frozen? ⟨w.heap.size + 2, 9, none⟩ = false := (hc1.frozen (p := ⟨w.heap.size + 2, 9, none⟩) (by first | (simp; done) | (simp; omega))).trans (by first | (simp; done) | go_simp)
          have R_f10 : w1.frozen? ⟨w.heap.size + 2, 10, none⟩ = false := (hc1.frozen (p := ⟨w.heap.size + 2, 10, none⟩) (by first | (simp; done) | (simp; omega))).trans (by first | (simp; done) | go_simp)
          have R_l : w.heap.size + 2 < w1.heap.size := Nat.lt_of_lt_of_le (by first | (simp; done) | (simp; omega)) hc1.size
          replace hS := hS.later hst1
          clear hst1
          clear hc1 hb0
          go_wp2_with fail
          with_reducible refine (H_hval.out _).mono ?_
          rintro e w2 ⟨rfl, hc2⟩
          have hb2 : Below w.heap.size w w2 := bchain (by repeat' (first | with_reducible exact hb1 | with_reducible refine Below.drew ?_ | with_reducible refine below_drewN ?_ _ | with_reducible refine Below.alloc ?_ (by have := hb1.size; first | (simp; done) | (simp; omega) | omega) _ | with_reducible refine Below.setCell ?_ (by first | (simp; done) | (simp; omega) | omega) _)) hc2
          have hst2 : Below w1.heap.size w1 w2 := bchain (by repeat' (first | with_reducible exact Below.refl _ _ | with_reducible refine Below.drew ?_ | with_reducible refine below_drewN ?_ _ | with_reducible refine Below.alloc ?_ (by first | (simp; done) | (simp; omega) | omega) _ | with_reducible refine Below.setCell ?_ (by first | (simp; done) | (simp; omega) | omega) _)) hc2
          replace X_0 := cell_later hst2 X_0
          replace X_1 := cell_later hst2 X_1
          replace X_2 := cell_later hst2 X_2
          replace X_3 := cell_later hst2 X_3
          replace X_4 := cell_later hst2 X_4
          replace X_5 := cell_later hst2 X_5
          replace X_6 := cell_later hst2 X_6
          replace X_7 := cell_later hst2 X_7
          replace X_8 := cell_later hst2 X_8
          replace X_9 := cell_later hst2 X_9
          replace X_10 := cell_later hst2 X_10
          replace X_l := Nat.lt_of_lt_of_le X_l hst2.size
          replace P_0 := cell_later hst2 P_0
          replace P_1 := cell_later hst2 P_1
          replace P_l := Nat.lt_of_lt_of_le P_l hst2.size
          replace R_0 := cell_later hst2 R_0
          replace R_1 := cell_later hst2 R_1
          replace R_2 := cell_later hst2 R_2
          replace R_3 := cell_later hst2 R_3
          replace R_4 := cell_later hst2 R_4
          replace R_5 := cell_later hst2 R_5
          replace R_6 := cell_later hst2 R_6
          replace R_7 := cell_later hst2 R_7
          replace R_8 := cell_later hst2 R_8
          replace R_9 := cell_later hst2 R_9
          replace R_10 := cell_later hst2 R_10
          replace R_f0 := frozen_later hst2 R_l R_f0
          replace R_f1 := frozen_later hst2 R_l R_f1
          replace R_f2 := frozen_later hst2 R_l R_f2
          replace R_f3 := frozen_later hst2 R_l R_f3
          replace R_f4 := frozen_later hst2 R_l R_f4
          replace R_f5 := frozen_later hst2 R_l R_f5
          replace R_f6 := frozen_later hst2 R_l R_f6
          replace R_f7 := frozen_later hst2 R_l R_f7
          replace R_f8 := frozen_later hst2 R_l R_f8
          replace R_f9 := frozen_later hst2 R_l R_f9
          replace R_f10 := frozen_later hst2 R_l R_f10
          replace R_l := Nat.lt_of_lt_of_le R_l hst2.size
          replace hS := hS.later hst2
          clear hst2
          clear hc2 hb1
          go_wp2_with fail
          refine wp_gen fun w3 hc3 => ?_
          have hb3 : Below w.heap.size w w3 := bchain (by repeat' (first | with_reducible exact hb2 | with_reducible refine Below.drew ?_ | with_reducible refine below_drewN ?_ _ | with_reducible refine Below.alloc ?_ (by have := hb2.size; first | (simp; done) | (simp; omega) | omega) _ | with_reducible refine Below.setCell ?_ (by first | (simp; done) | (simp; omega) | omega) _)) hc3
          have hst3 : Below w2.heap.size w2 w3 := bchain (by repeat' (first | with_reducible exact Below.refl _ _ | with_reducible refine Below.drew ?_ | with_reducible refine below_drewN ?_ _ | with_reducible refine Below.alloc ?_ (by first | (simp; done) | (simp; omega) | omega) _ | with_reducible refine Below.setCell ?_ (by first | (simp; done) | (simp; omega) | omega) _)) hc3
          replace X_0 := cell_later hst3 X_0
          replace X_1 := cell_later hst3 X_1
          replace X_2 := cell_later hst3 X_2
          replace X_3 := cell_later hst3 X_3
          replace X_4 := cell_later hst3 X_4
          replace X_5 := cell_later hst3 X_5
          replace X_6 := cell_later hst3 X_6
          replace X_7 := cell_later hst3 X_7
          replace X_8 := cell_later hst3 X_8
          replace X_9 := cell_later hst3 X_9
          replace X_10 := cell_later hst3 X_10
          replace X_l := Nat.lt_of_lt_of_le X_l hst3.size
          replace P_0 := cell_later hst3 P_0
          replace P_1 := cell_later hst3 P_1
          replace P_l := Nat.lt_of_lt_of_le P_l hst3.size
          replace R_0 := cell_later hst3 R_0
          replace R_1 := cell_later hst3 R_1
          replace R_2 := cell_later hst3 R_2
          replace R_3 := cell_later hst3 R_3
          replace R_4 := cell_later hst3 R_4
          replace R_5 := cell_later hst3 R_5
          replace R_6 := cell_later hst3 R_6
          replace R_7 := cell_later hst3 R_7
          replace R_8 := cell_later hst3 R_8
          replace R_9 := cell_later hst3 R_9
          replace R_10 := cell_later hst3 R_10
          replace R_f0 := frozen_later hst3 R_l R_f0
          replace R_f1 := frozen_later hst3 R_l R_f1
          replace R_f2 := frozen_later hst3 R_l R_f2
          replace R_f3 := frozen_later hst3 R_l R_f3
          replace R_f4 := frozen_later hst3 R_l R_f4
          replace R_f5 := frozen_later hst3 R_l R_f5
          replace R_f6 := frozen_later hst3 R_l R_f6
          replace R_f7 := frozen_later hst3 R_l R_f7
          replace R_f8 := frozen_later hst3 R_l R_f8
          replace R_f9 := frozen_later hst3 R_l R_f9
          replace R_f10 := frozen_later hst3 R_l R_f10
          replace R_l := Nat.lt_of_lt_of_le R_l hst3.size
          replace hS := hS.later hst3
          clear hst3
          have KX_0 := cell_on X_0
          have KX_1 := cell_on X_1
          have KX_2 := cell_on X_2
          have KX_3 := cell_on X_3
          have KX_4 := cell_on X_4
          have KX_5 := cell_on X_5
          have KX_6 := cell_on X_6
          have KX_7 := cell_on X_7
          have KX_8 := cell_on X_8
          have KX_9 := cell_on X_9
          have KX_10 := cell_on X_10
          have KP_0 := cell_on P_0
          have KP_1 := cell_on P_1
          refine wp_region_on (by kernel_rfl) (by kernel_rfl) ?_
          repeat (go_big_quiet_step ((first | (go_at_call 17; with_reducible exact calls_on (H_hhas.out _ (hS.on _))) | (go_at_call 22; with_reducible exact calls_on (H_hwho.out _ (hS.on _))))))
          refine wpQuiet_nil ?_
          intro w4 hc4
          clear KX_0 KX_1 KX_2 KX_3 KX_4 KX_5 KX_6 KX_7 KX_8 KX_9 KX_10 KP_0 KP_1
          have hb4 : Below w.heap.size w w4 := bchain (by repeat' (first | with_reducible exact hb3 | with_reducible refine Below.drew ?_ | with_reducible refine below_drewN ?_ _ | with_reducible refine Below.alloc ?_ (by have := hb3.size; first | (simp; done) | (simp; omega) | omega) _ | with_reducible refine Below.setCell ?_ (by first | (simp; done) | (simp; omega) | omega) _)) hc4
          have hst4 : Below w3.heap.size w3 w4 := bchain (by repeat' (first | with_reducible exact Below.refl _ _ | with_reducible refine Below.drew ?_ | with_reducible refine below_drewN ?_ _ | with_reducible refine Below.alloc ?_ (by first | (simp; done) | (simp; omega) | omega) _ | with_reducible refine Below.setCell ?_ (by first | (simp; done) | (simp; omega) | omega) _)) hc4
          replace X_0 := cell_later hst4 X_0
          replace X_1 := cell_later hst4 X_1
          replace X_2 := cell_later hst4 X_2
          replace X_3 := cell_later hst4 X_3
          replace X_4 := cell_later hst4 X_4
          replace X_5 := cell_later hst4 X_5
          replace X_6 := cell_later hst4 X_6
          replace X_7 := cell_later hst4 X_7
          replace X_8 := cell_later hst4 X_8
          replace X_9 := cell_later hst4 X_9
          replace X_10 := cell_later hst4 X_10
          replace X_l := Nat.lt_of_lt_of_le X_l hst4.size
          replace P_0 := cell_later hst4 P_0
          replace P_1 := cell_later hst4 P_1
          replace P_l := Nat.lt_of_lt_of_le P_l hst4.size
          replace R_0 := cell_later hst4 R_0
          replace R_1 := cell_later hst4 R_1
          replace R_2 := cell_later hst4 R_2
          replace R_3 := cell_later hst4 R_3
          replace R_4 := cell_later hst4 R_4
          replace R_5 := cell_later hst4 R_5
          replace R_6 := cell_later hst4 R_6
          replace R_7 := cell_later hst4 R_7
          replace R_8 := cell_later hst4 R_8
          replace R_9 := cell_later hst4 R_9
          replace R_10 := cell_later hst4 R_10
          replace R_f0 := frozen_later hst4 R_l R_f0
          replace R_f1 := frozen_later hst4 R_l R_f1
          replace R_f2 := frozen_later hst4 R_l R_f2
          replace R_f3 := frozen_later hst4 R_l R_f3
          replace R_f4 := frozen_later hst4 R_l R_f4
          replace R_f5 := frozen_later hst4 R_l R_f5
          replace R_f6 := frozen_later hst4 R_l R_f6
          replace R_f7 := frozen_later hst4 R_l R_f7
          replace R_f8 := frozen_later hst4 R_l R_f8
          replace R_f9 := frozen_later hst4 R_l R_f9
          replace R_f10 := frozen_later hst4 R_l R_f10
          replace R_l := Nat.lt_of_lt_of_le R_l hst4.size
          replace hS := hS.later hst4
          clear hst4
          go_wp2_with fail
          refine bodyPost_ret (v := .tuple #[.agg #[.int .i64 0, .int .i64 0, .int .i64 0, .int .i64 0, .int .i64 0, .int .i64 0, .int .i64 0, .int .i64 0, .int .i64 0, .int .u32 0, .slice none 0 0], .int .i64 14]) (by simp [results, Try.results10, go_sem, *]) rfl ⟨RetS.of (r := zOut 14) ⟨none, 0, rfl, .inl rfl⟩ H_hr2.out, (by repeat' (first | with_reducible exact hb4 | with_reducible refine Below.drew ?_ | with_reducible refine below_drewN ?_ _ | with_reducible refine Below.alloc ?_ (by have := hb4.size; first | (simp; done) | (simp; omega) | omega) _ | with_reducible refine Below.setCell ?_ (by first | (simp; done) | (simp; omega) | omega) _))⟩
        · by_cases h8 : ps.length = 8
          · have hr2 : zOut 18 = R := by rw [← hR]; unfold withR; rw [if_pos rfl, hb, hh, hz, if_neg hw, if_pos h8]; rfl
            have h8' : ((ps.length : Int) == 8) = true := by rw [h8]; rfl
            have H_hR := Box.mk hR
            have H_hE := Box.mk hE
            have H_hr2 := Box.mk hr2
            have H_hwho := Box.mk hwho
            have H_hval := Box.mk hval
            have H_hhas := Box.mk hhas
            have H_hat := Box.mk hat
            have H_hchk := Box.mk hchk
            have H_hcv := Box.mk hcv
            have H_hb := Box.mk hb
            have H_hh := Box.mk hh
            have H_hz := Box.mk hz
            have H_h8 := Box.mk h8
            clear hR hE hr2 hwho hval hhas hat hchk hcv hb hh hz h8
            go_enter Try.func10, Try.ntmps10
            have hb0 := Below.refl w.heap.size w
            go_wp2_with fail
            with_reducible refine (H_hchk.out _ (((hS.alloc _).alloc _).alloc _)).mono ?_
            rintro e w1 ⟨rfl, hc1⟩
            have hb1 : Below w.heap.size w w1 := bchain (by repeat' (first | with_reducible exact hb0 | with_reducible refine Below.drew ?_ | with_reducible refine below_drewN ?_ _ | with_reducible refine Below.alloc ?_ (by have := hb0.size; first | (simp; done) | (simp; omega) | omega) _ | with_reducible refine Below.setCell ?_ (by first | (simp; done) | (simp; omega) | omega) _)) hc1
            have hst1 : Below w.heap.size w w1 := bchain (by repeat' (first | with_reducible exact Below.refl _ _ | with_reducible refine Below.drew ?_ | with_reducible refine below_drewN ?_ _ | with_reducible refine Below.alloc ?_ (by first | (simp; done) | (simp; omega) | omega) _ | with_reducible refine Below.setCell ?_ (by first | (simp; done) | (simp; omega) | omega) _)) hc1
            have X_0 : w1.cell? ⟨w.heap.size, 0, none⟩ = some (.int .i64 l0) := (hc1.cell (p := ⟨w.heap.size, 0, none⟩) (by first | (simp; done) | (simp; omega))).trans (by first | (simp; done) | go_simp)
            have X_1 : w1.cell? ⟨w.heap.size, 1, none⟩ = some (.int .i64 l1) := (hc1.cell (p := ⟨w.heap.size, 1, none⟩) (by first | (simp; done) | (simp; omega))).trans (by first | (simp; done) | go_simp)
            have X_2 : w1.cell? ⟨w.heap.size, 2, none⟩ = some (.int .i64 l2) := (hc1.cell (p := ⟨w.heap.size, 2, none⟩) (by first | (simp; done) | (simp; omega))).trans (by first | (simp; done) | go_simp)
            have X_3 : w1.cell? ⟨w.heap.size, 3, none⟩ = some (.int .i64 l3) := (hc1.cell (p := ⟨w.heap.size, 3, none⟩) (by first | (simp; done) | (simp; omega))).trans (by first | (simp; done) | go_simp)
            have X_4 : w1.cell? ⟨w.heap.size, 4, none⟩ = some (.int .i64 l4) := (hc1.cell (p := ⟨w.heap.size, 4, none⟩) (by first | (simp; done) | (simp; omega))).trans (by first | (simp; done) | go_simp)
            have X_5 : w1.cell? ⟨w.heap.size, 5, none⟩ = some (.int .i64 l5) := (hc1.cell (p := ⟨w.heap.size, 5, none⟩) (by first | (simp; done) | (simp; omega))).trans (by first | (simp; done) | go_simp)
            have X_6 : w1.cell? ⟨w.heap.size, 6, none⟩ = some (.int .i64 l6) := (hc1.cell (p := ⟨w.heap.size, 6, none⟩) (by first | (simp; done) | (simp; omega))).trans (by first | (simp; done) | go_simp)
            have X_7 : w1.cell? ⟨w.heap.size, 7, none⟩ = some (.int .i64 l7) := (hc1.cell (p := ⟨w.heap.size, 7, none⟩) (by first | (simp; done) | (simp; omega))).trans (by first | (simp; done) | go_simp)
            have X_8 : w1.cell? ⟨w.heap.size, 8, none⟩ = some (.int .i64 l8) := (hc1.cell (p := ⟨w.heap.size, 8, none⟩) (by first | (simp; done) | (simp; omega))).trans (by first | (simp; done) | go_simp)
            have X_9 : w1.cell? ⟨w.heap.size, 9, none⟩ = some (.int .u32 s) := (hc1.cell (p := ⟨w.heap.size, 9, none⟩) (by first | (simp; done) | (simp; omega))).trans (by first | (simp; done) | go_simp)
            have X_10 : w1.cell? ⟨w.heap.size, 10, none⟩ = some (.slice a ps.length c) := (hc1.cell (p := ⟨w.heap.size, 10, none⟩) (by first | (simp; done) | (simp; omega))).trans (by first | (simp; done) | go_simp)
            have X_l : w.heap.size < w1.heap.size := Nat.lt_of_lt_of_le (by first | (simp; done) | (simp; omega)) hc1.size
            have P_0 : w1.cell? ⟨w.heap.size + 1, 0, none⟩ = some (.string n) := (hc1.cell (p := ⟨w.heap.size + 1, 0, none⟩) (by first | (simp; done) | (simp; omega))).trans (by first | (simp; done) | go_simp)
            have P_1 : w1.cell? ⟨w.heap.size + 1, 1, none⟩ = some (.int .u32 q) := (hc1.cell (p := ⟨w.heap.size + 1, 1, none⟩) (by first | (simp; done) | (simp; omega))).trans (by first | (simp; done) | go_simp)
            have P_l : w.heap.size + 1 < w1.heap.size := Nat.lt_of_lt_of_le (by first | (simp; done) | (simp; omega)) hc1.size
            have R_0 : w1.cell? ⟨w.heap.size + 2, 0, none⟩ = some (.int .i64 0) := (hc1.cell (p := ⟨w.heap.size + 2, 0, none⟩) (by first | (simp; done) | (simp; omega))).trans (by first | (simp; done) | go_simp)
            have R_1 : w1.cell? ⟨w.heap.size + 2, 1, none⟩ = some (.int .i64 0) := (hc1.cell (p := ⟨w.heap.size + 2, 1, none⟩) (by first | (simp; done) | (simp; omega))).trans (by first | (simp; done) | go_simp)
            have R_2 : w1.cell? ⟨w.heap.size + 2, 2, none⟩ = some (.int .i64 0) := (hc1.cell (p := ⟨w.heap.size + 2, 2, none⟩) (by first | (simp; done) | (simp; omega))).trans (by first | (simp; done) | go_simp)
            have R_3 : w1.cell? ⟨w.heap.size + 2, 3, none⟩ = some (.int .i64 0) := (hc1.cell (p := ⟨w.heap.size + 2, 3, none⟩) (by first | (simp; done) | (simp; omega))).trans (by first | (simp; done) | go_simp)
            have R_4 : w1.cell? ⟨w.heap.size + 2, 4, none⟩ = some (.int .i64 0) := (hc1.cell (p := ⟨w.heap.size + 2, 4, none⟩) (by first | (simp; done) | (simp; omega))).trans (by first | (simp; done) | go_simp)
            have R_5 : w1.cell? ⟨w.heap.size + 2, 5, none⟩ = some (.int .i64 0) := (hc1.cell (p := ⟨w.heap.size + 2, 5, none⟩) (by first | (simp; done) | (simp; omega))).trans (by first | (simp; done) | go_simp)
            have R_6 : w1.cell? ⟨w.heap.size + 2, 6, none⟩ = some (.int .i64 0) := (hc1.cell (p := ⟨w.heap.size + 2, 6, none⟩) (by first | (simp; done) | (simp; omega))).trans (by first | (simp; done) | go_simp)
            have R_7 : w1.cell? ⟨w.heap.size + 2, 7, none⟩ = some (.int .i64 0) := (hc1.cell (p := ⟨w.heap.size + 2, 7, none⟩) (by first | (simp; done) | (simp; omega))).trans (by first | (simp; done) | go_simp)
            have R_8 : w1.cell? ⟨w.heap.size + 2, 8, none⟩ = some (.int .i64 0) := (hc1.cell (p := ⟨w.heap.size + 2, 8, none⟩) (by first | (simp; done) | (simp; omega))).trans (by first | (simp; done) | go_simp)
            have R_9 : w1.cell? ⟨w.heap.size + 2, 9, none⟩ = some (.int .u32 0) := (hc1.cell (p := ⟨w.heap.size + 2, 9, none⟩) (by first | (simp; done) | (simp; omega))).trans (by first | (simp; done) | go_simp)
            have R_10 : w1.cell? ⟨w.heap.size + 2, 10, none⟩ = some (.slice none 0 0) := (hc1.cell (p := ⟨w.heap.size + 2, 10, none⟩) (by first | (simp; done) | (simp; omega))).trans (by first | (simp; done) | go_simp)
            have R_f0 : w1.frozen? ⟨w.heap.size + 2, 0, none⟩ = false := (hc1.frozen (p := ⟨w.heap.size + 2, 0, none⟩) (by first | (simp; done) | (simp; omega))).trans (by first | (simp; done) | go_simp)
            have R_f1 : w1.frozen? ⟨w.heap.size + 2, 1, none⟩ = false := (hc1.frozen (p := ⟨w.heap.size + 2, 1, none⟩) (by first | (simp; done) | (simp; omega))).trans (by first | (simp; done) | go_simp)
            have R_f2 : w1.frozen? ⟨w.heap.size + 2, 2, none⟩ = false := (hc1.frozen (p := ⟨w.heap.size + 2, 2, none⟩) (by first | (simp; done) | (simp; omega))).trans (by first | (simp; done) | go_simp)
            have R_f3 : w1.frozen? ⟨w.heap.size + 2, 3, none⟩ = false := (hc1.frozen (p := ⟨w.heap.size + 2, 3, none⟩) (by first | (simp; done) | (simp; omega))).trans (by first | (simp; done) | go_simp)
            have R_f4 : w1.frozen? ⟨w.heap.size + 2, 4, none⟩ = false := (hc1.frozen (p := ⟨w.heap.size + 2, 4, none⟩) (by first | (simp; done) | (simp; omega))).trans (by first | (simp; done) | go_simp)
            have R_f5 : w1.frozen? ⟨w.heap.size + 2, 5, none⟩ = false := (hc1.frozen (p := ⟨w.heap.size + 2, 5, none⟩) (by first | (simp; done) | (simp; omega))).trans (by first | (simp; done) | go_simp)
            have R_f6 : w1.frozen? ⟨w.heap.size + 2, 6, none⟩ = false := (hc1.frozen (p := ⟨w.heap.size + 2, 6, none⟩) (by first | (simp; done) | (simp; omega))).trans (by first | (simp; done) | go_simp)
            have R_f7 : w1.frozen? ⟨w.heap.size + 2, 7, none⟩ = false := (hc1.frozen (p := ⟨w.heap.size + 2, 7, none⟩) (by first | (simp; done) | (simp; omega))).trans (by first | (simp; done) | go_simp)
            have R_f8 : w1.frozen? ⟨w.heap.size + 2, 8, none⟩ = false := (hc1.frozen (p := ⟨w.heap.size + 2, 8, none⟩) (by first | (simp; done) | (simp; omega))).trans (by first | (simp; done) | go_simp)
            have R_f9 : w1.frozen? ⟨w.heap.size + 2, 9, none⟩ = false := (hc1.frozen (p := ⟨w.heap.size + 2, 9, none⟩) (by first | (simp; done) | (simp; omega))).trans (by first | (simp; done) | go_simp)
            have R_f10 : w1.frozen? ⟨w.heap.size + 2, 10, none⟩ = false := (hc1.frozen (p := ⟨w.heap.size + 2, 10, none⟩) (by first | (simp; done) | (simp; omega))).trans (by first | (simp; done) | go_simp)
            have R_l : w.heap.size + 2 < w1.heap.size := Nat.lt_of_lt_of_le (by first | (simp; done) | (simp; omega)) hc1.size
            replace hS := hS.later hst1
            clear hst1
            clear hc1 hb0
            go_wp2_with fail
            with_reducible refine (H_hval.out _).mono ?_
            rintro e w2 ⟨rfl, hc2⟩
            have hb2 : Below w.heap.size w w2 := bchain (by repeat' (first | with_reducible exact hb1 | with_reducible refine Below.drew ?_ | with_reducible refine below_drewN ?_ _ | with_reducible refine Below.alloc ?_ (by have := hb1.size; first | (simp; done) | (simp; omega) | omega) _ | with_reducible refine Below.setCell ?_ (by first | (simp; done) | (simp; omega) | omega) _)) hc2
            have hst2 : Below w1.heap.size w1 w2 := bchain (by repeat' (first | with_reducible exact Below.refl _ _ | with_reducible refine Below.drew ?_ | with_reducible refine below_drewN ?_ _ | with_reducible refine Below.alloc ?_ (by first | (simp; done) | (simp; omega) | omega) _ | with_reducible refine Below.setCell ?_ (by first | (simp; done) | (simp; omega) | omega) _)) hc2
            replace X_0 := cell_later hst2 X_0
            replace X_1 := cell_later hst2 X_1
            replace X_2 := cell_later hst2 X_2
            replace X_3 := cell_later hst2 X_3
            replace X_4 := cell_later hst2 X_4
            replace X_5 := cell_later hst2 X_5
            replace X_6 := cell_later hst2 X_6
            replace X_7 := cell_later hst2 X_7
            replace X_8 := cell_later hst2 X_8
            replace X_9 := cell_later hst2 X_9
            replace X_10 := cell_later hst2 X_10
            replace X_l := Nat.lt_of_lt_of_le X_l hst2.size
            replace P_0 := cell_later hst2 P_0
            replace P_1 := cell_later hst2 P_1
            replace P_l := Nat.lt_of_lt_of_le P_l hst2.size
            replace R_0 := cell_later hst2 R_0
            replace R_1 := cell_later hst2 R_1
            replace R_2 := cell_later hst2 R_2
            replace R_3 := cell_later hst2 R_3
            replace R_4 := cell_later hst2 R_4
            replace R_5 := cell_later hst2 R_5
            replace R_6 := cell_later hst2 R_6
            replace R_7 := cell_later hst2 R_7
            replace R_8 := cell_later hst2 R_8
            replace R_9 := cell_later hst2 R_9
            replace R_10 := cell_later hst2 R_10
            replace R_f0 := frozen_later hst2 R_l R_f0
            replace R_f1 := frozen_later hst2 R_l R_f1
            replace R_f2 := frozen_later hst2 R_l R_f2
            replace R_f3 := frozen_later hst2 R_l R_f3
            replace R_f4 := frozen_later hst2 R_l R_f4
            replace R_f5 := frozen_later hst2 R_l R_f5
            replace R_f6 := frozen_later hst2 R_l R_f6
            replace R_f7 := frozen_later hst2 R_l R_f7
            replace R_f8 := frozen_later hst2 R_l R_f8
            replace R_f9 := frozen_later hst2 R_l R_f9
            replace R_f10 := frozen_later hst2 R_l R_f10
            replace R_l := Nat.lt_of_lt_of_le R_l hst2.size
            replace hS := hS.later hst2
            clear hst2
            clear hc2 hb1
            go_wp2_with fail
            refine wp_gen fun w3 hc3 => ?_
            have hb3 : Below w.heap.size w w3 := bchain (by repeat' (first | with_reducible exact hb2 | with_reducible refine Below.drew ?_ | with_reducible refine below_drewN ?_ _ | with_reducible refine Below.alloc ?_ (by have := hb2.size; first | (simp; done) | (simp; omega) | omega) _ | with_reducible refine Below.setCell ?_ (by first | (simp; done) | (simp; omega) | omega) _)) hc3
            have hst3 : Below w2.heap.size w2 w3 := bchain (by repeat' (first | with_reducible exact Below.refl _ _ | with_reducible refine Below.drew ?_ | with_reducible refine below_drewN ?_ _ | with_reducible refine Below.alloc ?_ (by first | (simp; done) | (simp; omega) | omega) _ | with_reducible refine Below.setCell ?_ (by first | (simp; done) | (simp; omega) | omega) _)) hc3
            replace X_0 := cell_later hst3 X_0
            replace X_1 := cell_later hst3 X_1
            replace X_2 := cell_later hst3 X_2
            replace X_3 := cell_later hst3 X_3
            replace X_4 := cell_later hst3 X_4
            replace X_5 := cell_later hst3 X_5
            replace X_6 := cell_later hst3 X_6
            replace X_7 := cell_later hst3 X_7
            replace X_8 := cell_later hst3 X_8
            replace X_9 := cell_later hst3 X_9
            replace X_10 := cell_later hst3 X_10
            replace X_l := Nat.lt_of_lt_of_le X_l hst3.size
            replace P_0 := cell_later hst3 P_0
            replace P_1 := cell_later hst3 P_1
            replace P_l := Nat.lt_of_lt_of_le P_l hst3.size
            replace R_0 := cell_later hst3 R_0
            replace R_1 := cell_later hst3 R_1
            replace R_2 := cell_later hst3 R_2
            replace R_3 := cell_later hst3 R_3
            replace R_4 := cell_later hst3 R_4
            replace R_5 := cell_later hst3 R_5
            replace R_6 := cell_later hst3 R_6
            replace R_7 := cell_later hst3 R_7
            replace R_8 := cell_later hst3 R_8
            replace R_9 := cell_later hst3 R_9
            replace R_10 := cell_later hst3 R_10
            replace R_f0 := frozen_later hst3 R_l R_f0
            replace R_f1 := frozen_later hst3 R_l R_f1
            replace R_f2 := frozen_later hst3 R_l R_f2
            replace R_f3 := frozen_later hst3 R_l R_f3
            replace R_f4 := frozen_later hst3 R_l R_f4
            replace R_f5 := frozen_later hst3 R_l R_f5
            replace R_f6 := frozen_later hst3 R_l R_f6
            replace R_f7 := frozen_later hst3 R_l R_f7
            replace R_f8 := frozen_later hst3 R_l R_f8
            replace R_f9 := frozen_later hst3 R_l R_f9
            replace R_f10 := frozen_later hst3 R_l R_f10
            replace R_l := Nat.lt_of_lt_of_le R_l hst3.size
            replace hS := hS.later hst3
            clear hst3
            have KX_0 := cell_on X_0
            have KX_1 := cell_on X_1
            have KX_2 := cell_on X_2
            have KX_3 := cell_on X_3
            have KX_4 := cell_on X_4
            have KX_5 := cell_on X_5
            have KX_6 := cell_on X_6
            have KX_7 := cell_on X_7
            have KX_8 := cell_on X_8
            have KX_9 := cell_on X_9
            have KX_10 := cell_on X_10
            have KP_0 := cell_on P_0
            have KP_1 := cell_on P_1
            refine wp_region_on (by kernel_rfl) (by kernel_rfl) ?_
            repeat (go_big_quiet_step ((first | (go_at_call 17; with_reducible exact calls_on (H_hhas.out _ (hS.on _))) | (go_at_call 22; with_reducible exact calls_on (H_hwho.out _ (hS.on _))))))
            refine wpQuiet_nil ?_
            intro w4 hc4
            clear KX_0 KX_1 KX_2 KX_3 KX_4 KX_5 KX_6 KX_7 KX_8 KX_9 KX_10 KP_0 KP_1
            have hb4 : Below w.heap.size w w4 := bchain (by repeat' (first | with_reducible exact hb3 | with_reducible refine Below.drew ?_ | with_reducible refine below_drewN ?_ _ | with_reducible refine Below.alloc ?_ (by have := hb3.size; first | (simp; done) | (simp; omega) | omega) _ | with_reducible refine Below.setCell ?_ (by first | (simp; done) | (simp; omega) | omega) _)) hc4
            have hst4 : Below w3.heap.size w3 w4 := bchain (by repeat' (first | with_reducible exact Below.refl _ _ | with_reducible refine Below.drew ?_ | with_reducible refine below_drewN ?_ _ | with_reducible refine Below.alloc ?_ (by first | (simp; done) | (simp; omega) | omega) _ | with_reducible refine Below.setCell ?_ (by first | (simp; done) | (simp; omega) | omega) _)) hc4
            replace X_0 := cell_later hst4 X_0
            replace X_1 := cell_later hst4 X_1
            replace X_2 := cell_later hst4 X_2
            replace X_3 := cell_later hst4 X_3
            replace X_4 := cell_later hst4 X_4
            replace X_5 := cell_later hst4 X_5
            replace X_6 := cell_later hst4 X_6
            replace X_7 := cell_later hst4 X_7
            replace X_8 := cell_later hst4 X_8
            replace X_9 := cell_later hst4 X_9
            replace X_10 := cell_later hst4 X_10
            replace X_l := Nat.lt_of_lt_of_le X_l hst4.size
            replace P_0 := cell_later hst4 P_0
            replace P_1 := cell_later hst4 P_1
            replace P_l := Nat.lt_of_lt_of_le P_l hst4.size
            replace R_0 := cell_later hst4 R_0
            replace R_1 := cell_later hst4 R_1
            replace R_2 := cell_later hst4 R_2
            replace R_3 := cell_later hst4 R_3
            replace R_4 := cell_later hst4 R_4
            replace R_5 := cell_later hst4 R_5
            replace R_6 := cell_later hst4 R_6
            replace R_7 := cell_later hst4 R_7
            replace R_8 := cell_later hst4 R_8
            replace R_9 := cell_later hst4 R_9
            replace R_10 := cell_later hst4 R_10
            replace R_f0 := frozen_later hst4 R_l R_f0
            replace R_f1 := frozen_later hst4 R_l R_f1
            replace R_f2 := frozen_later hst4 R_l R_f2
            replace R_f3 := frozen_later hst4 R_l R_f3
            replace R_f4 := frozen_later hst4 R_l R_f4
            replace R_f5 := frozen_later hst4 R_l R_f5
            replace R_f6 := frozen_later hst4 R_l R_f6
            replace R_f7 := frozen_later hst4 R_l R_f7
            replace R_f8 := frozen_later hst4 R_l R_f8
            replace R_f9 := frozen_later hst4 R_l R_f9
            replace R_f10 := frozen_later hst4 R_l R_f10
            replace R_l := Nat.lt_of_lt_of_le R_l hst4.size
            replace hS := hS.later hst4
            clear hst4
            go_wp2_with fail
            refine bodyPost_ret (v := .tuple #[.agg #[.int .i64 0, .int .i64 0, .int .i64 0, .int .i64 0, .int .i64 0, .int .i64 0, .int .i64 0, .int .i64 0, .int .i64 0, .int .u32 0, .slice none 0 0], .int .i64 18]) (by simp [results, Try.results10, go_sem, *]) rfl ⟨RetS.of (r := zOut 18) ⟨none, 0, rfl, .inl rfl⟩ H_hr2.out, (by repeat' (first | with_reducible exact hb4 | with_reducible refine Below.drew ?_ | with_reducible refine below_drewN ?_ _ | with_reducible refine Below.alloc ?_ (by have := hb4.size; first | (simp; done) | (simp; omega) | omega) _ | with_reducible refine Below.setCell ?_ (by first | (simp; done) | (simp; omega) | omega) _))⟩
          · have h8' : ((ps.length : Int) == 8) = false := beq_eq_false_iff_ne.2 (by omega)
            have hr2 : (⟨(⟨l0, l1, l2, l3, l4, l5, l6, l7, l8⟩ : Lim), s, ps.take (lb ps n) ++ (n, q) :: ps.drop (lb ps n), 0⟩ : SOut) = R := by rw [← hR]; unfold withR; rw [if_pos rfl, hb, hh, hz, if_neg hw, if_neg h8]; rfl
            obtain ⟨k, hk⟩ : ∃ k, lb ps n = k := ⟨_, rfl⟩
            have hkl := lb_le ps n
            simp only [hk] at hat
            rw [hk] at hr2 hkl
            obtain ⟨i0, hi, hz0, hz1, hz2⟩ := info_parts info_peer
            have hl1 : (cel (ps.take k)).length = k * 2 := by rw [cel_len, List.length_take]; omega
            have hl2 : (cel (ps.drop k)).length = (ps.length - k) * 2 := by rw [cel_len, List.length_drop]
            have H_hR := Box.mk hR
            have H_hE := Box.mk hE
            have H_hr2 := Box.mk hr2
            have H_hwho := Box.mk hwho
            have H_hval := Box.mk hval
            have H_hhas := Box.mk hhas
            have H_hat := Box.mk hat
            have H_hchk := Box.mk hchk
            have H_hcv := Box.mk hcv
            have H_hb := Box.mk hb
            have H_hh := Box.mk hh
            have H_hz := Box.mk hz
            have H_hk := Box.mk hk
            have H_hl1 := Box.mk hl1
            have H_hl2 := Box.mk hl2
            clear hR hE hr2 hwho hval hhas hat hchk hcv hb hh hz hk hl1 hl2
            go_enter Try.func10, Try.ntmps10
            have hb0 := Below.refl w.heap.size w
            go_wp2_with fail
            with_reducible refine (H_hchk.out _ (((hS.alloc _).alloc _).alloc _)).mono ?_
            rintro e w1 ⟨rfl, hc1⟩
            have hb1 : Below w.heap.size w w1 := bchain (by repeat' (first | with_reducible exact hb0 | with_reducible refine Below.drew ?_ | with_reducible refine below_drewN ?_ _ | with_reducible refine Below.alloc ?_ (by have := hb0.size; first | (simp; done) | (simp; omega) | omega) _ | with_reducible refine Below.setCell ?_ (by first | (simp; done) | (simp; omega) | omega) _)) hc1
            have hst1 : Below w.heap.size w w1 := bchain (by repeat' (first | with_reducible exact Below.refl _ _ | with_reducible refine Below.drew ?_ | with_reducible refine below_drewN ?_ _ | with_reducible refine Below.alloc ?_ (by first | (simp; done) | (simp; omega) | omega) _ | with_reducible refine Below.setCell ?_ (by first | (simp; done) | (simp; omega) | omega) _)) hc1
            have X_0 : w1.cell? ⟨w.heap.size, 0, none⟩ = some (.int .i64 l0) := (hc1.cell (p := ⟨w.heap.size, 0, none⟩) (by first | (simp; done) | (simp; omega))).trans (by first | (simp; done) | go_simp)
            have X_1 : w1.cell? ⟨w.heap.size, 1, none⟩ = some (.int .i64 l1) := (hc1.cell (p := ⟨w.heap.size, 1, none⟩) (by first | (simp; done) | (simp; omega))).trans (by first | (simp; done) | go_simp)
            have X_2 : w1.cell? ⟨w.heap.size, 2, none⟩ = some (.int .i64 l2) := (hc1.cell (p := ⟨w.heap.size, 2, none⟩) (by first | (simp; done) | (simp; omega))).trans (by first | (simp; done) | go_simp)
            have X_3 : w1.cell? ⟨w.heap.size, 3, none⟩ = some (.int .i64 l3) := (hc1.cell (p := ⟨w.heap.size, 3, none⟩) (by first | (simp; done) | (simp; omega))).trans (by first | (simp; done) | go_simp)
            have X_4 : w1.cell? ⟨w.heap.size, 4, none⟩ = some (.int .i64 l4) := (hc1.cell (p := ⟨w.heap.size, 4, none⟩) (by first | (simp; done) | (simp; omega))).trans (by first | (simp; done) | go_simp)
            have X_5 : w1.cell? ⟨w.heap.size, 5, none⟩ = some (.int .i64 l5) := (hc1.cell (p := ⟨w.heap.size, 5, none⟩) (by first | (simp; done) | (simp; omega))).trans (by first | (simp; done) | go_simp)
            have X_6 : w1.cell? ⟨w.heap.size, 6, none⟩ = some (.int .i64 l6) := (hc1.cell (p := ⟨w.heap.size, 6, none⟩) (by first | (simp; done) | (simp; omega))).trans (by first | (simp; done) | go_simp)
            have X_7 : w1.cell? ⟨w.heap.size, 7, none⟩ = some (.int .i64 l7) := (hc1.cell (p := ⟨w.heap.size, 7, none⟩) (by first | (simp; done) | (simp; omega))).trans (by first | (simp; done) | go_simp)
            have X_8 : w1.cell? ⟨w.heap.size, 8, none⟩ = some (.int .i64 l8) := (hc1.cell (p := ⟨w.heap.size, 8, none⟩) (by first | (simp; done) | (simp; omega))).trans (by first | (simp; done) | go_simp)
            have X_9 : w1.cell? ⟨w.heap.size, 9, none⟩ = some (.int .u32 s) := (hc1.cell (p := ⟨w.heap.size, 9, none⟩) (by first | (simp; done) | (simp; omega))).trans (by first | (simp; done) | go_simp)
            have X_10 : w1.cell? ⟨w.heap.size, 10, none⟩ = some (.slice a ps.length c) := (hc1.cell (p := ⟨w.heap.size, 10, none⟩) (by first | (simp; done) | (simp; omega))).trans (by first | (simp; done) | go_simp)
            have X_l : w.heap.size < w1.heap.size := Nat.lt_of_lt_of_le (by first | (simp; done) | (simp; omega)) hc1.size
            have P_0 : w1.cell? ⟨w.heap.size + 1, 0, none⟩ = some (.string n) := (hc1.cell (p := ⟨w.heap.size + 1, 0, none⟩) (by first | (simp; done) | (simp; omega))).trans (by first | (simp; done) | go_simp)
            have P_1 : w1.cell? ⟨w.heap.size + 1, 1, none⟩ = some (.int .u32 q) := (hc1.cell (p := ⟨w.heap.size + 1, 1, none⟩) (by first | (simp; done) | (simp; omega))).trans (by first | (simp; done) | go_simp)
            have P_l : w.heap.size + 1 < w1.heap.size := Nat.lt_of_lt_of_le (by first | (simp; done) | (simp; omega)) hc1.size
            have R_0 : w1.cell? ⟨w.heap.size + 2, 0, none⟩ = some (.int .i64 0) := (hc1.cell (p := ⟨w.heap.size + 2, 0, none⟩) (by first | (simp; done) | (simp; omega))).trans (by first | (simp; done) | go_simp)
            have R_1 : w1.cell? ⟨w.heap.size + 2, 1, none⟩ = some (.int .i64 0) := (hc1.cell (p := ⟨w.heap.size + 2, 1, none⟩) (by first | (simp; done) | (simp; omega))).trans (by first | (simp; done) | go_simp)
            have R_2 : w1.cell? ⟨w.heap.size + 2, 2, none⟩ = some (.int .i64 0) := (hc1.cell (p := ⟨w.heap.size + 2, 2, none⟩) (by first | (simp; done) | (simp; omega))).trans (by first | (simp; done) | go_simp)
            have R_3 : w1.cell? ⟨w.heap.size + 2, 3, none⟩ = some (.int .i64 0) := (hc1.cell (p := ⟨w.heap.size + 2, 3, none⟩) (by first | (simp; done) | (simp; omega))).trans (by first | (simp; done) | go_simp)
            have R_4 : w1.cell? ⟨w.heap.size + 2, 4, none⟩ = some (.int .i64 0) := (hc1.cell (p := ⟨w.heap.size + 2, 4, none⟩) (by first | (simp; done) | (simp; omega))).trans (by first | (simp; done) | go_simp)
            have R_5 : w1.cell? ⟨w.heap.size + 2, 5, none⟩ = some (.int .i64 0) := (hc1.cell (p := ⟨w.heap.size + 2, 5, none⟩) (by first | (simp; done) | (simp; omega))).trans (by first | (simp; done) | go_simp)
            have R_6 : w1.cell? ⟨w.heap.size + 2, 6, none⟩ = some (.int .i64 0) := (hc1.cell (p := ⟨w.heap.size + 2, 6, none⟩) (by first | (simp; done) | (simp; omega))).trans (by first | (simp; done) | go_simp)
            have R_7 : w1.cell? ⟨w.heap.size + 2, 7, none⟩ = some (.int .i64 0) := (hc1.cell (p := ⟨w.heap.size + 2, 7, none⟩) (by first | (simp; done) | (simp; omega))).trans (by first | (simp; done) | go_simp)
            have R_8 : w1.cell? ⟨w.heap.size + 2, 8, none⟩ = some (.int .i64 0) := (hc1.cell (p := ⟨w.heap.size + 2, 8, none⟩) (by first | (simp; done) | (simp; omega))).trans (by first | (simp; done) | go_simp)
            have R_9 : w1.cell? ⟨w.heap.size + 2, 9, none⟩ = some (.int .u32 0) := (hc1.cell (p := ⟨w.heap.size + 2, 9, none⟩) (by first | (simp; done) | (simp; omega))).trans (by first | (simp; done) | go_simp)
            have R_10 : w1.cell? ⟨w.heap.size + 2, 10, none⟩ = some (.slice none 0 0) := (hc1.cell (p := ⟨w.heap.size + 2, 10, none⟩) (by first | (simp; done) | (simp; omega))).trans (by first | (simp; done) | go_simp)
            have R_f0 : w1.frozen? ⟨w.heap.size + 2, 0, none⟩ = false := (hc1.frozen (p := ⟨w.heap.size + 2, 0, none⟩) (by first | (simp; done) | (simp; omega))).trans (by first | (simp; done) | go_simp)
            have R_f1 : w1.frozen? ⟨w.heap.size + 2, 1, none⟩ = false := (hc1.frozen (p := ⟨w.heap.size + 2, 1, none⟩) (by first | (simp; done) | (simp; omega))).trans (by first | (simp; done) | go_simp)
            have R_f2 : w1.frozen? ⟨w.heap.size + 2, 2, none⟩ = false := (hc1.frozen (p := ⟨w.heap.size + 2, 2, none⟩) (by first | (simp; done) | (simp; omega))).trans (by first | (simp; done) | go_simp)
            have R_f3 : w1.frozen? ⟨w.heap.size + 2, 3, none⟩ = false := (hc1.frozen (p := ⟨w.heap.size + 2, 3, none⟩) (by first | (simp; done) | (simp; omega))).trans (by first | (simp; done) | go_simp)
            have R_f4 : w1.frozen? ⟨w.heap.size + 2, 4, none⟩ = false := (hc1.frozen (p := ⟨w.heap.size + 2, 4, none⟩) (by first | (simp; done) | (simp; omega))).trans (by first | (simp; done) | go_simp)
            have R_f5 : w1.frozen? ⟨w.heap.size + 2, 5, none⟩ = false := (hc1.frozen (p := ⟨w.heap.size + 2, 5, none⟩) (by first | (simp; done) | (simp; omega))).trans (by first | (simp; done) | go_simp)
            have R_f6 : w1.frozen? ⟨w.heap.size + 2, 6, none⟩ = false := (hc1.frozen (p := ⟨w.heap.size + 2, 6, none⟩) (by first | (simp; done) | (simp; omega))).trans (by first | (simp; done) | go_simp)
            have R_f7 : w1.frozen? ⟨w.heap.size + 2, 7, none⟩ = false := (hc1.frozen (p := ⟨w.heap.size + 2, 7, none⟩) (by first | (simp; done) | (simp; omega))).trans (by first | (simp; done) | go_simp)
            have R_f8 : w1.frozen? ⟨w.heap.size + 2, 8, none⟩ = false := (hc1.frozen (p := ⟨w.heap.size + 2, 8, none⟩) (by first | (simp; done) | (simp; omega))).trans (by first | (simp; done) | go_simp)
            have R_f9 : w1.frozen? ⟨w.heap.size + 2, 9, none⟩ = false := (hc1.frozen (p := ⟨w.heap.size + 2, 9, none⟩) (by first | (simp; done) | (simp; omega))).trans (by first | (simp; done) | go_simp)
            have R_f10 : w1.frozen? ⟨w.heap.size + 2, 10, none⟩ = false := (hc1.frozen (p := ⟨w.heap.size + 2, 10, none⟩) (by first | (simp; done) | (simp; omega))).trans (by first | (simp; done) | go_simp)
            have R_l : w.heap.size + 2 < w1.heap.size := Nat.lt_of_lt_of_le (by first | (simp; done) | (simp; omega)) hc1.size
            replace hS := hS.later hst1
            clear hst1
            clear hc1 hb0
            go_wp2_with fail
            with_reducible refine (H_hval.out _).mono ?_
            rintro e w2 ⟨rfl, hc2⟩
            have hb2 : Below w.heap.size w w2 := bchain (by repeat' (first | with_reducible exact hb1 | with_reducible refine Below.drew ?_ | with_reducible refine below_drewN ?_ _ | with_reducible refine Below.alloc ?_ (by have := hb1.size; first | (simp; done) | (simp; omega) | omega) _ | with_reducible refine Below.setCell ?_ (by first | (simp; done) | (simp; omega) | omega) _)) hc2
            have hst2 : Below w1.heap.size w1 w2 := bchain (by repeat' (first | with_reducible exact Below.refl _ _ | with_reducible refine Below.drew ?_ | with_reducible refine below_drewN ?_ _ | with_reducible refine Below.alloc ?_ (by first | (simp; done) | (simp; omega) | omega) _ | with_reducible refine Below.setCell ?_ (by first | (simp; done) | (simp; omega) | omega) _)) hc2
            replace X_0 := cell_later hst2 X_0
            replace X_1 := cell_later hst2 X_1
            replace X_2 := cell_later hst2 X_2
            replace X_3 := cell_later hst2 X_3
            replace X_4 := cell_later hst2 X_4
            replace X_5 := cell_later hst2 X_5
            replace X_6 := cell_later hst2 X_6
            replace X_7 := cell_later hst2 X_7
            replace X_8 := cell_later hst2 X_8
            replace X_9 := cell_later hst2 X_9
            replace X_10 := cell_later hst2 X_10
            replace X_l := Nat.lt_of_lt_of_le X_l hst2.size
            replace P_0 := cell_later hst2 P_0
            replace P_1 := cell_later hst2 P_1
            replace P_l := Nat.lt_of_lt_of_le P_l hst2.size
            replace R_0 := cell_later hst2 R_0
            replace R_1 := cell_later hst2 R_1
            replace R_2 := cell_later hst2 R_2
            replace R_3 := cell_later hst2 R_3
            replace R_4 := cell_later hst2 R_4
            replace R_5 := cell_later hst2 R_5
            replace R_6 := cell_later hst2 R_6
            replace R_7 := cell_later hst2 R_7
            replace R_8 := cell_later hst2 R_8
            replace R_9 := cell_later hst2 R_9
            replace R_10 := cell_later hst2 R_10
            replace R_f0 := frozen_later hst2 R_l R_f0
            replace R_f1 := frozen_later hst2 R_l R_f1
            replace R_f2 := frozen_later hst2 R_l R_f2
            replace R_f3 := frozen_later hst2 R_l R_f3
            replace R_f4 := frozen_later hst2 R_l R_f4
            replace R_f5 := frozen_later hst2 R_l R_f5
            replace R_f6 := frozen_later hst2 R_l R_f6
            replace R_f7 := frozen_later hst2 R_l R_f7
            replace R_f8 := frozen_later hst2 R_l R_f8
            replace R_f9 := frozen_later hst2 R_l R_f9
            replace R_f10 := frozen_later hst2 R_l R_f10
            replace R_l := Nat.lt_of_lt_of_le R_l hst2.size
            replace hS := hS.later hst2
            clear hst2
            clear hc2 hb1
            go_wp2_with fail
            refine wp_gen fun w3 hc3 => ?_
            have hb3 : Below w.heap.size w w3 := bchain (by repeat' (first | with_reducible exact hb2 | with_reducible refine Below.drew ?_ | with_reducible refine below_drewN ?_ _ | with_reducible refine Below.alloc ?_ (by have := hb2.size; first | (simp; done) | (simp; omega) | omega) _ | with_reducible refine Below.setCell ?_ (by first | (simp; done) | (simp; omega) | omega) _)) hc3
            have hst3 : Below w2.heap.size w2 w3 := bchain (by repeat' (first | with_reducible exact Below.refl _ _ | with_reducible refine Below.drew ?_ | with_reducible refine below_drewN ?_ _ | with_reducible refine Below.alloc ?_ (by first | (simp; done) | (simp; omega) | omega) _ | with_reducible refine Below.setCell ?_ (by first | (simp; done) | (simp; omega) | omega) _)) hc3
            replace X_0 := cell_later hst3 X_0
            replace X_1 := cell_later hst3 X_1
            replace X_2 := cell_later hst3 X_2
            replace X_3 := cell_later hst3 X_3
            replace X_4 := cell_later hst3 X_4
            replace X_5 := cell_later hst3 X_5
            replace X_6 := cell_later hst3 X_6
            replace X_7 := cell_later hst3 X_7
            replace X_8 := cell_later hst3 X_8
            replace X_9 := cell_later hst3 X_9
            replace X_10 := cell_later hst3 X_10
            replace X_l := Nat.lt_of_lt_of_le X_l hst3.size
            replace P_0 := cell_later hst3 P_0
            replace P_1 := cell_later hst3 P_1
            replace P_l := Nat.lt_of_lt_of_le P_l hst3.size
            replace R_0 := cell_later hst3 R_0
            replace R_1 := cell_later hst3 R_1
            replace R_2 := cell_later hst3 R_2
            replace R_3 := cell_later hst3 R_3
            replace R_4 := cell_later hst3 R_4
            replace R_5 := cell_later hst3 R_5
            replace R_6 := cell_later hst3 R_6
            replace R_7 := cell_later hst3 R_7
            replace R_8 := cell_later hst3 R_8
            replace R_9 := cell_later hst3 R_9
            replace R_10 := cell_later hst3 R_10
            replace R_f0 := frozen_later hst3 R_l R_f0
            replace R_f1 := frozen_later hst3 R_l R_f1
            replace R_f2 := frozen_later hst3 R_l R_f2
            replace R_f3 := frozen_later hst3 R_l R_f3
            replace R_f4 := frozen_later hst3 R_l R_f4
            replace R_f5 := frozen_later hst3 R_l R_f5
            replace R_f6 := frozen_later hst3 R_l R_f6
            replace R_f7 := frozen_later hst3 R_l R_f7
            replace R_f8 := frozen_later hst3 R_l R_f8
            replace R_f9 := frozen_later hst3 R_l R_f9
            replace R_f10 := frozen_later hst3 R_l R_f10
            replace R_l := Nat.lt_of_lt_of_le R_l hst3.size
            replace hS := hS.later hst3
            clear hst3
            have KX_0 := cell_on X_0
            have KX_1 := cell_on X_1
            have KX_2 := cell_on X_2
            have KX_3 := cell_on X_3
            have KX_4 := cell_on X_4
            have KX_5 := cell_on X_5
            have KX_6 := cell_on X_6
            have KX_7 := cell_on X_7
            have KX_8 := cell_on X_8
            have KX_9 := cell_on X_9
            have KX_10 := cell_on X_10
            have KP_0 := cell_on P_0
            have KP_1 := cell_on P_1
            refine wp_region_on (by kernel_rfl) (by kernel_rfl) ?_
            repeat (go_big_quiet_step ((first | (go_at_call 17; with_reducible exact calls_on (H_hhas.out _ (hS.on _))) | (go_at_call 22; with_reducible exact calls_on (H_hwho.out _ (hS.on _))))))
            refine wpQuiet_nil ?_
            intro w4 hc4
            clear KX_0 KX_1 KX_2 KX_3 KX_4 KX_5 KX_6 KX_7 KX_8 KX_9 KX_10 KP_0 KP_1
            have hb4 : Below w.heap.size w w4 := bchain (by repeat' (first | with_reducible exact hb3 | with_reducible refine Below.drew ?_ | with_reducible refine below_drewN ?_ _ | with_reducible refine Below.alloc ?_ (by have := hb3.size; first | (simp; done) | (simp; omega) | omega) _ | with_reducible refine Below.setCell ?_ (by first | (simp; done) | (simp; omega) | omega) _)) hc4
            have hst4 : Below w3.heap.size w3 w4 := bchain (by repeat' (first | with_reducible exact Below.refl _ _ | with_reducible refine Below.drew ?_ | with_reducible refine below_drewN ?_ _ | with_reducible refine Below.alloc ?_ (by first | (simp; done) | (simp; omega) | omega) _ | with_reducible refine Below.setCell ?_ (by first | (simp; done) | (simp; omega) | omega) _)) hc4
            replace X_0 := cell_later hst4 X_0
            replace X_1 := cell_later hst4 X_1
            replace X_2 := cell_later hst4 X_2
            replace X_3 := cell_later hst4 X_3
            replace X_4 := cell_later hst4 X_4
            replace X_5 := cell_later hst4 X_5
            replace X_6 := cell_later hst4 X_6
            replace X_7 := cell_later hst4 X_7
            replace X_8 := cell_later hst4 X_8
            replace X_9 := cell_later hst4 X_9
            replace X_10 := cell_later hst4 X_10
            replace X_l := Nat.lt_of_lt_of_le X_l hst4.size
            replace P_0 := cell_later hst4 P_0
            replace P_1 := cell_later hst4 P_1
            replace P_l := Nat.lt_of_lt_of_le P_l hst4.size
            replace R_0 := cell_later hst4 R_0
            replace R_1 := cell_later hst4 R_1
            replace R_2 := cell_later hst4 R_2
            replace R_3 := cell_later hst4 R_3
            replace R_4 := cell_later hst4 R_4
            replace R_5 := cell_later hst4 R_5
            replace R_6 := cell_later hst4 R_6
            replace R_7 := cell_later hst4 R_7
            replace R_8 := cell_later hst4 R_8
            replace R_9 := cell_later hst4 R_9
            replace R_10 := cell_later hst4 R_10
            replace R_f0 := frozen_later hst4 R_l R_f0
            replace R_f1 := frozen_later hst4 R_l R_f1
            replace R_f2 := frozen_later hst4 R_l R_f2
            replace R_f3 := frozen_later hst4 R_l R_f3
            replace R_f4 := frozen_later hst4 R_l R_f4
            replace R_f5 := frozen_later hst4 R_l R_f5
            replace R_f6 := frozen_later hst4 R_l R_f6
            replace R_f7 := frozen_later hst4 R_l R_f7
            replace R_f8 := frozen_later hst4 R_l R_f8
            replace R_f9 := frozen_later hst4 R_l R_f9
            replace R_f10 := frozen_later hst4 R_l R_f10
            replace R_l := Nat.lt_of_lt_of_le R_l hst4.size
            replace hS := hS.later hst4
            clear hst4
            go_wp2_with fail
            with_reducible refine (H_hat.out _ hS).mono ?_
            rintro e w5 ⟨rfl, hc5⟩
            have hb5 : Below w.heap.size w w5 := bchain (by repeat' (first | with_reducible exact hb4 | with_reducible refine Below.drew ?_ | with_reducible refine below_drewN ?_ _ | with_reducible refine Below.alloc ?_ (by have := hb4.size; first | (simp; done) | (simp; omega) | omega) _ | with_reducible refine Below.setCell ?_ (by first | (simp; done) | (simp; omega) | omega) _)) hc5
            have hst5 : Below w4.heap.size w4 w5 := bchain (by repeat' (first | with_reducible exact Below.refl _ _ | with_reducible refine Below.drew ?_ | with_reducible refine below_drewN ?_ _ | with_reducible refine Below.alloc ?_ (by first | (simp; done) | (simp; omega) | omega) _ | with_reducible refine Below.setCell ?_ (by first | (simp; done) | (simp; omega) | omega) _)) hc5
            replace X_0 := cell_later hst5 X_0
            replace X_1 := cell_later hst5 X_1
            replace X_2 := cell_later hst5 X_2
            replace X_3 := cell_later hst5 X_3
            replace X_4 := cell_later hst5 X_4
            replace X_5 := cell_later hst5 X_5
            replace X_6 := cell_later hst5 X_6
            replace X_7 := cell_later hst5 X_7
            replace X_8 := cell_later hst5 X_8
            replace X_9 := cell_later hst5 X_9
            replace X_10 := cell_later hst5 X_10
            replace X_l := Nat.lt_of_lt_of_le X_l hst5.size
            replace P_0 := cell_later hst5 P_0
            replace P_1 := cell_later hst5 P_1
            replace P_l := Nat.lt_of_lt_of_le P_l hst5.size
            replace R_0 := cell_later hst5 R_0
            replace R_1 := cell_later hst5 R_1
            replace R_2 := cell_later hst5 R_2
            replace R_3 := cell_later hst5 R_3
            replace R_4 := cell_later hst5 R_4
            replace R_5 := cell_later hst5 R_5
            replace R_6 := cell_later hst5 R_6
            replace R_7 := cell_later hst5 R_7
            replace R_8 := cell_later hst5 R_8
            replace R_9 := cell_later hst5 R_9
            replace R_10 := cell_later hst5 R_10
            replace R_f0 := frozen_later hst5 R_l R_f0
            replace R_f1 := frozen_later hst5 R_l R_f1
            replace R_f2 := frozen_later hst5 R_l R_f2
            replace R_f3 := frozen_later hst5 R_l R_f3
            replace R_f4 := frozen_later hst5 R_l R_f4
            replace R_f5 := frozen_later hst5 R_l R_f5
            replace R_f6 := frozen_later hst5 R_l R_f6
            replace R_f7 := frozen_later hst5 R_l R_f7
            replace R_f8 := frozen_later hst5 R_l R_f8
            replace R_f9 := frozen_later hst5 R_l R_f9
            replace R_f10 := frozen_later hst5 R_l R_f10
            replace R_l := Nat.lt_of_lt_of_le R_l hst5.size
            replace hS := hS.later hst5
            clear hst5
            clear hc5 hb4
            have z3 := R_l
            go_wp2_with fail
            refine wp_gen fun w6 hc6 => ?_
            have hb6 : Below w.heap.size w w6 := bchain (by repeat' (first | with_reducible exact hb5 | with_reducible refine Below.drew ?_ | with_reducible refine below_drewN ?_ _ | with_reducible refine Below.alloc ?_ (by have := hb5.size; first | (simp; done) | (simp; omega) | omega) _ | with_reducible refine Below.setCell ?_ (by first | (simp; done) | (simp; omega) | omega) _)) hc6
            have hst6 : Below w5.heap.size w5 w6 := bchain (by repeat' (first | with_reducible exact Below.refl _ _ | with_reducible refine Below.drew ?_ | with_reducible refine below_drewN ?_ _ | with_reducible refine Below.alloc ?_ (by first | (simp; done) | (simp; omega) | omega) _ | with_reducible refine Below.setCell ?_ (by first | (simp; done) | (simp; omega) | omega) _)) hc6
            replace X_0 := cell_later hst6 X_0
            replace X_1 := cell_later hst6 X_1
            replace X_2 := cell_later hst6 X_2
            replace X_3 := cell_later hst6 X_3
            replace X_4 := cell_later hst6 X_4
            replace X_5 := cell_later hst6 X_5
            replace X_6 := cell_later hst6 X_6
            replace X_7 := cell_later hst6 X_7
            replace X_8 := cell_later hst6 X_8
            replace X_9 := cell_later hst6 X_9
            replace X_10 := cell_later hst6 X_10
            replace X_l := Nat.lt_of_lt_of_le X_l hst6.size
            replace P_0 := cell_later hst6 P_0
            replace P_1 := cell_later hst6 P_1
            replace P_l := Nat.lt_of_lt_of_le P_l hst6.size
            replace R_0 := cell_later hst6 R_0
            replace R_1 := cell_later hst6 R_1
            replace R_2 := cell_later hst6 R_2
            replace R_3 := cell_later hst6 R_3
            replace R_4 := cell_later hst6 R_4
            replace R_5 := cell_later hst6 R_5
            replace R_6 := cell_later hst6 R_6
            replace R_7 := cell_later hst6 R_7
            replace R_8 := cell_later hst6 R_8
            replace R_9 := cell_later hst6 R_9
            replace R_10 := cell_later hst6 R_10
            replace R_f0 := frozen_later hst6 R_l R_f0
            replace R_f1 := frozen_later hst6 R_l R_f1
            replace R_f2 := frozen_later hst6 R_l R_f2
            replace R_f3 := frozen_later hst6 R_l R_f3
            replace R_f4 := frozen_later hst6 R_l R_f4
            replace R_f5 := frozen_later hst6 R_l R_f5
            replace R_f6 := frozen_later hst6 R_l R_f6
            replace R_f7 := frozen_later hst6 R_l R_f7
            replace R_f8 := frozen_later hst6 R_l R_f8
            replace R_f9 := frozen_later hst6 R_l R_f9
            replace R_f10 := frozen_later hst6 R_l R_f10
            replace R_l := Nat.lt_of_lt_of_le R_l hst6.size
            have Y_0 : w6.cell? ⟨w5.heap.size, 0, none⟩ = some (.int .i64 l0) := (hc6.cell (p := ⟨w5.heap.size, 0, none⟩) (by first | (simp; done) | (simp; omega))).trans (by first | (simp; done) | go_simp)
            have Y_1 : w6.cell? ⟨w5.heap.size, 1, none⟩ = some (.int .i64 l1) := (hc6.cell (p := ⟨w5.heap.size, 1, none⟩) (by first | (simp; done) | (simp; omega))).trans (by first | (simp; done) | go_simp)
            have Y_2 : w6.cell? ⟨w5.heap.size, 2, none⟩ = some (.int .i64 l2) := (hc6.cell (p := ⟨w5.heap.size, 2, none⟩) (by first | (simp; done) | (simp; omega))).trans (by first | (simp; done) | go_simp)
            have Y_3 : w6.cell? ⟨w5.heap.size, 3, none⟩ = some (.int .i64 l3) := (hc6.cell (p := ⟨w5.heap.size, 3, none⟩) (by first | (simp; done) | (simp; omega))).trans (by first | (simp; done) | go_simp)
            have Y_4 : w6.cell? ⟨w5.heap.size, 4, none⟩ = some (.int .i64 l4) := (hc6.cell (p := ⟨w5.heap.size, 4, none⟩) (by first | (simp; done) | (simp; omega))).trans (by first | (simp; done) | go_simp)
            have Y_5 : w6.cell? ⟨w5.heap.size, 5, none⟩ = some (.int .i64 l5) := (hc6.cell (p := ⟨w5.heap.size, 5, none⟩) (by first | (simp; done) | (simp; omega))).trans (by first | (simp; done) | go_simp)
            have Y_6 : w6.cell? ⟨w5.heap.size, 6, none⟩ = some (.int .i64 l6) := (hc6.cell (p := ⟨w5.heap.size, 6, none⟩) (by first | (simp; done) | (simp; omega))).trans (by first | (simp; done) | go_simp)
            have Y_7 : w6.cell? ⟨w5.heap.size, 7, none⟩ = some (.int .i64 l7) := (hc6.cell (p := ⟨w5.heap.size, 7, none⟩) (by first | (simp; done) | (simp; omega))).trans (by first | (simp; done) | go_simp)
            have Y_8 : w6.cell? ⟨w5.heap.size, 8, none⟩ = some (.int .i64 l8) := (hc6.cell (p := ⟨w5.heap.size, 8, none⟩) (by first | (simp; done) | (simp; omega))).trans (by first | (simp; done) | go_simp)
            have Y_9 : w6.cell? ⟨w5.heap.size, 9, none⟩ = some (.int .u32 s) := (hc6.cell (p := ⟨w5.heap.size, 9, none⟩) (by first | (simp; done) | (simp; omega))).trans (by first | (simp; done) | go_simp)
            have Y_10 : w6.cell? ⟨w5.heap.size, 10, none⟩ = some (.slice a ps.length c) := (hc6.cell (p := ⟨w5.heap.size, 10, none⟩) (by first | (simp; done) | (simp; omega))).trans (by first | (simp; done) | go_simp)
            have Y_f0 : w6.frozen? ⟨w5.heap.size, 0, none⟩ = false := (hc6.frozen (p := ⟨w5.heap.size, 0, none⟩) (by first | (simp; done) | (simp; omega))).trans (by first | (simp; done) | go_simp)
            have Y_f1 : w6.frozen? ⟨w5.heap.size, 1, none⟩ = false := (hc6.frozen (p := ⟨w5.heap.size, 1, none⟩) (by first | (simp; done) | (simp; omega))).trans (by first | (simp; done) | go_simp)
            have Y_f2 : w6.frozen? ⟨w5.heap.size, 2, none⟩ = false := (hc6.frozen (p := ⟨w5.heap.size, 2, none⟩) (by first | (simp; done) | (simp; omega))).trans (by first | (simp; done) | go_simp)
            have Y_f3 : w6.frozen? ⟨w5.heap.size, 3, none⟩ = false := (hc6.frozen (p := ⟨w5.heap.size, 3, none⟩) (by first | (simp; done) | (simp; omega))).trans (by first | (simp; done) | go_simp)
            have Y_f4 : w6.frozen? ⟨w5.heap.size, 4, none⟩ = false := (hc6.frozen (p := ⟨w5.heap.size, 4, none⟩) (by first | (simp; done) | (simp; omega))).trans (by first | (simp; done) | go_simp)
            have Y_f5 : w6.frozen? ⟨w5.heap.size, 5, none⟩ = false := (hc6.frozen (p := ⟨w5.heap.size, 5, none⟩) (by first | (simp; done) | (simp; omega))).trans (by first | (simp; done) | go_simp)
            have Y_f6 : w6.frozen? ⟨w5.heap.size, 6, none⟩ = false := (hc6.frozen (p := ⟨w5.heap.size, 6, none⟩) (by first | (simp; done) | (simp; omega))).trans (by first | (simp; done) | go_simp)
            have Y_f7 : w6.frozen? ⟨w5.heap.size, 7, none⟩ = false := (hc6.frozen (p := ⟨w5.heap.size, 7, none⟩) (by first | (simp; done) | (simp; omega))).trans (by first | (simp; done) | go_simp)
            have Y_f8 : w6.frozen? ⟨w5.heap.size, 8, none⟩ = false := (hc6.frozen (p := ⟨w5.heap.size, 8, none⟩) (by first | (simp; done) | (simp; omega))).trans (by first | (simp; done) | go_simp)
            have Y_f9 : w6.frozen? ⟨w5.heap.size, 9, none⟩ = false := (hc6.frozen (p := ⟨w5.heap.size, 9, none⟩) (by first | (simp; done) | (simp; omega))).trans (by first | (simp; done) | go_simp)
            have Y_f10 : w6.frozen? ⟨w5.heap.size, 10, none⟩ = false := (hc6.frozen (p := ⟨w5.heap.size, 10, none⟩) (by first | (simp; done) | (simp; omega))).trans (by first | (simp; done) | go_simp)
            have Y_l : w5.heap.size < w6.heap.size := Nat.lt_of_lt_of_le (by first | (simp; done) | (simp; omega)) hc6.size
            replace hS := hS.later hst6
            clear hst6
            have KX_0 := cell_on X_0
            have KX_1 := cell_on X_1
            have KX_2 := cell_on X_2
            have KX_3 := cell_on X_3
            have KX_4 := cell_on X_4
            have KX_5 := cell_on X_5
            have KX_6 := cell_on X_6
            have KX_7 := cell_on X_7
            have KX_8 := cell_on X_8
            have KX_9 := cell_on X_9
            have KX_10 := cell_on X_10
            have KP_0 := cell_on P_0
            have KP_1 := cell_on P_1
            have z4 := R_l
            have z5 := Y_l
            refine wp_region_on_spec_tail [(0, [], fun _ => VEmpty), (5, [], fun _ => VCup w6.heap.size 29 2 k (cel (ps.take k))), (7, [], fun _ => VCells 1 [.string n, .int .u32 q]), (8, [], fun _ => VCup w6.heap.size 29 2 (k + 1) (cel (ps.take k) ++ [.string n, .int .u32 q])), (13, [], fun _ => VCup w6.heap.size 29 2 (ps.length + 1) (cel (ps.take k) ++ [.string n, .int .u32 q] ++ cel (ps.drop k)))] [0, 5, 7, 8, 13] [8, 13] [(0, []), (5, []), (7, []), (8, []), (13, [])] 15 (by kernel_rfl) (by kernel_rfl) rfl (by kernel_rfl) rfl (by kernel_rfl) ⟨fun _ => VEmpty.last, fun _ => VCup.last, fun _ => VCells.last, fun _ => VCup.last, fun _ => VCup.last, trivial⟩ ?_
            try simp only [List.take_succ_cons, List.take_zero, List.drop_succ_cons, List.drop_zero]
            refine wpSpec_at [] (VEmpty) rfl (by first | rfl | (simp [viewS, Act.eval]; done)) rfl (by first | rfl | (simp [Region.wanted]; done)) ?_ rfl ?_
            · intro wq hq hfq
              clear hfq
              unfold Oper.gives; go_simp; exact ⟨(Below.refl _ _).alloc (Nat.le_refl _) _, _, rfl⟩
            rintro x0 ⟨_, ⟨a0, rfl⟩⟩
            simp only [Act.put, List.setIfInBounds_toArray, List.set_cons_succ, List.set_cons_zero]
            refine wpSpec_quiet 4 (by kernel_rfl) (by kernel_rfl) ?_
            simp only [List.take_succ_cons, List.take_zero, List.drop_succ_cons, List.drop_zero]
            repeat (go_big_quiet_step (fail))
            refine wpQuiet_nil ?_
            show wpSpec _ _ _ _ _ _ _ _ _ _ _
            refine wpSpec_at [] (VCup w6.heap.size 29 2 k (cel (ps.take k))) rfl (by first | rfl | (simp [viewS, Act.eval]; done)) rfl (by first | rfl | (simp [Region.wanted]; done)) ?_ rfl ?_
            · intro wq hq hfq
              have f0 := hfq 0 (by kernel_rfl)
              simp only [upd, Nat.beq, cond] at f0
              clear hfq
              refine gives_append_c0 _ _ _ rfl (.slice a0 0 0) _ rfl rfl _ _ i0 (.agg #[.string ⟨#[]⟩, .int .u32 0]) 2 24 Try.underlying25 hi hz0 hz1 hz2 rfl (by decide) f0 k (cel (ps.take k)) ⟨_, _, rfl, ?_⟩ H_hl1.out (cel_one _) (by unfold maxLen; omega) (by omega) hq.size
              rw [← cel_take]
              exact (hS.later hq).cells.takeK _
            rintro x5 -
            simp only [Act.put, List.setIfInBounds_toArray, List.set_cons_succ, List.set_cons_zero]
            refine wpSpec_quiet 1 (by kernel_rfl) (by kernel_rfl) ?_
            simp only [List.take_succ_cons, List.take_zero, List.drop_succ_cons, List.drop_zero]
            repeat (go_big_quiet_step (fail))
            refine wpQuiet_nil ?_
            show wpSpec _ _ _ _ _ _ _ _ _ _ _
            refine wpSpec_at [] (VCells 1 [.string n, .int .u32 q]) rfl (by first | rfl | (simp [viewS, Act.eval]; done)) rfl (by first | rfl | (simp [Region.wanted]; done)) ?_ rfl ?_
            · intro wq hq hfq
              clear hfq
              unfold Oper.gives; go_simp; exact ⟨(Below.refl _ _).alloc (Nat.le_refl _) _, VCells.of (by omega) (Blk.cellsRow (Blk.newA wq _ _ _ [.string n, .int .u32 q] rfl rfl))⟩
            rintro x7 -
            simp only [Act.put, List.setIfInBounds_toArray, List.set_cons_succ, List.set_cons_zero]
            refine wpSpec_atD [] (VCup w6.heap.size 29 2 (k + 1) (cel (ps.take k) ++ [.string n, .int .u32 q])) rfl (by first | rfl | (simp [viewS, Act.eval]; done)) rfl (by first | rfl | (simp [Region.wanted]; done)) ?_ rfl ?_
            · intro wq hq hfq
              have f5 := hfq 5 (by kernel_rfl)
              have f7 := hfq 7 (by kernel_rfl)
              simp only [upd, Nat.beq, cond] at f5 f7
              clear hfq
              exact gives_append_cup _ _ _ rfl x5 x7 rfl rfl w6.heap.size _ i0 (.agg #[.string ⟨#[]⟩, .int .u32 0]) 2 24 Try.underlying25 hi hz0 hz1 hz2 rfl (by decide) k _ f5 1 _ f7.row rfl (by intro u hu; simp at hu; rcases hu with rfl | rfl <;> rfl) (k + 1) rfl (by unfold maxLen; omega) (by omega) hq.size
            rintro x8 -
            simp only [Act.put, List.setIfInBounds_toArray, List.set_cons_succ, List.set_cons_zero]
            refine wpSpec_quiet 4 (by kernel_rfl) (by kernel_rfl) ?_
            simp only [List.take_succ_cons, List.take_zero, List.drop_succ_cons, List.drop_zero]
            repeat (go_big_quiet_step (fail))
            refine wpQuiet_nil ?_
            show wpSpec _ _ _ _ _ _ _ _ _ _ _
            refine wpSpec_atD [] (VCup w6.heap.size 29 2 (ps.length + 1) (cel (ps.take k) ++ [.string n, .int .u32 q] ++ cel (ps.drop k))) rfl (by first | rfl | (simp [viewS, Act.eval]; done)) rfl (by first | rfl | (simp [Region.wanted]; done)) ?_ rfl ?_
            · intro wq hq hfq
              have f8 := hfq 8 (by kernel_rfl)
              simp only [upd, Nat.beq, cond] at f8
              clear hfq
              refine gives_append_cup _ _ _ rfl x8 _ rfl rfl w6.heap.size _ i0 (.agg #[.string ⟨#[]⟩, .int .u32 0]) 2 24 Try.underlying25 hi hz0 hz1 hz2 rfl (by decide) (k + 1) _ f8 (ps.length - k) (cel (ps.drop k)) ⟨_, _, rfl, ?_⟩ H_hl2.out (cel_one _) (ps.length + 1) (by omega) (by unfold maxLen; omega) (by omega) hq.size
              exact dropAt (hS.later hq).cells hkl hcap
            rintro x13 ⟨_, ⟨x13a, x13c, rfl, -⟩⟩
            simp only [Act.put, List.setIfInBounds_toArray, List.set_cons_succ, List.set_cons_zero]
            refine wpSpec_quiet 1 (by kernel_rfl) (by kernel_rfl) ?_
            simp only [List.take_succ_cons, List.take_zero, List.drop_succ_cons, List.drop_zero]
            repeat (go_big_quiet_step (fail))
            refine wpQuiet_nil ?_
            show wpSpec _ _ _ _ _ _ _ _ _ _ _
            intro w7 hc7 hfq
            have f13 := hfq 13
            simp only [upd, Nat.beq, cond] at f13
            clear hfq
            clear KX_0 KX_1 KX_2 KX_3 KX_4 KX_5 KX_6 KX_7 KX_8 KX_9 KX_10 KP_0 KP_1
            have hb7 : Below w.heap.size w w7 := bchain (by repeat' (first | with_reducible exact hb6 | with_reducible refine Below.drew ?_ | with_reducible refine below_drewN ?_ _ | with_reducible refine Below.alloc ?_ (by have := hb6.size; first | (simp; done) | (simp; omega) | omega) _ | with_reducible refine Below.setCell ?_ (by first | (simp; done) | (simp; omega) | omega) _)) hc7
            have hst7 : Below w6.heap.size w6 w7 := bchain (by repeat' (first | with_reducible exact Below.refl _ _ | with_reducible refine Below.drew ?_ | with_reducible refine below_drewN ?_ _ | with_reducible refine Below.alloc ?_ (by first | (simp; done) | (simp; omega) | omega) _ | with_reducible refine Below.setCell ?_ (by first | (simp; done) | (simp; omega) | omega) _)) hc7
            replace X_0 := cell_later hst7 X_0
            replace X_1 := cell_later hst7 X_1
            replace X_2 := cell_later hst7 X_2
            replace X_3 := cell_later hst7 X_3
            replace X_4 := cell_later hst7 X_4
            replace X_5 := cell_later hst7 X_5
            replace X_6 := cell_later hst7 X_6
            replace X_7 := cell_later hst7 X_7
            replace X_8 := cell_later hst7 X_8
            replace X_9 := cell_later hst7 X_9
            replace X_10 := cell_later hst7 X_10
            replace X_l := Nat.lt_of_lt_of_le X_l hst7.size
            replace P_0 := cell_later hst7 P_0
            replace P_1 := cell_later hst7 P_1
            replace P_l := Nat.lt_of_lt_of_le P_l hst7.size
            replace R_0 := cell_later hst7 R_0
            replace R_1 := cell_later hst7 R_1
            replace R_2 := cell_later hst7 R_2
            replace R_3 := cell_later hst7 R_3
            replace R_4 := cell_later hst7 R_4
            replace R_5 := cell_later hst7 R_5
            replace R_6 := cell_later hst7 R_6
            replace R_7 := cell_later hst7 R_7
            replace R_8 := cell_later hst7 R_8
            replace R_9 := cell_later hst7 R_9
            replace R_10 := cell_later hst7 R_10
            replace R_f0 := frozen_later hst7 R_l R_f0
            replace R_f1 := frozen_later hst7 R_l R_f1
            replace R_f2 := frozen_later hst7 R_l R_f2
            replace R_f3 := frozen_later hst7 R_l R_f3
            replace R_f4 := frozen_later hst7 R_l R_f4
            replace R_f5 := frozen_later hst7 R_l R_f5
            replace R_f6 := frozen_later hst7 R_l R_f6
            replace R_f7 := frozen_later hst7 R_l R_f7
            replace R_f8 := frozen_later hst7 R_l R_f8
            replace R_f9 := frozen_later hst7 R_l R_f9
            replace R_f10 := frozen_later hst7 R_l R_f10
            replace R_l := Nat.lt_of_lt_of_le R_l hst7.size
            replace Y_0 := cell_later hst7 Y_0
            replace Y_1 := cell_later hst7 Y_1
            replace Y_2 := cell_later hst7 Y_2
            replace Y_3 := cell_later hst7 Y_3
            replace Y_4 := cell_later hst7 Y_4
            replace Y_5 := cell_later hst7 Y_5
            replace Y_6 := cell_later hst7 Y_6
            replace Y_7 := cell_later hst7 Y_7
            replace Y_8 := cell_later hst7 Y_8
            replace Y_9 := cell_later hst7 Y_9
            replace Y_10 := cell_later hst7 Y_10
            replace Y_f0 := frozen_later hst7 Y_l Y_f0
            replace Y_f1 := frozen_later hst7 Y_l Y_f1
            replace Y_f2 := frozen_later hst7 Y_l Y_f2
            replace Y_f3 := frozen_later hst7 Y_l Y_f3
            replace Y_f4 := frozen_later hst7 Y_l Y_f4
            replace Y_f5 := frozen_later hst7 Y_l Y_f5
            replace Y_f6 := frozen_later hst7 Y_l Y_f6
            replace Y_f7 := frozen_later hst7 Y_l Y_f7
            replace Y_f8 := frozen_later hst7 Y_l Y_f8
            replace Y_f9 := frozen_later hst7 Y_l Y_f9
            replace Y_f10 := frozen_later hst7 Y_l Y_f10
            replace Y_l := Nat.lt_of_lt_of_le Y_l hst7.size
            replace hS := hS.later hst7
            clear hst7
            obtain ⟨a6', c6', e6, k6⟩ := f13
            cases e6
            have hlen : (ps.take k ++ (n, q) :: ps.drop k).length = ps.length + 1 := by simp; omega
            have hcat : cel (ps.take k) ++ [.string n, .int .u32 q] ++ cel (ps.drop k) = cel (ps.take k ++ (n, q) :: ps.drop k) := by rw [cel_append, cel_cons]; simp
            rw [hcat] at k6
            have p6 := k6.addr (fun e => by have := cel_len (ps.take k ++ (n, q) :: ps.drop k); rw [e, hlen] at this; simp at this)
            have kk := k6.cells.2
            have p1 : ∀ ad, x13a = some ad → ad.block ≠ w5.heap.size := fun ad e => by have := (p6 ad e).1; omega
            have p2 : ∀ ad, x13a = some ad → ad.block ≠ w.heap.size + 2 := fun ad e => by have := (p6 ad e).1; omega
            have n1 : w5.heap.size ≠ w.heap.size + 2 := by omega
            have n2 : w.heap.size + 2 ≠ w5.heap.size := by omega
            clear p6 k6 X_0 X_1 X_2 X_3 X_4 X_5 X_6 X_7 X_8 X_9 X_10 P_0 P_1
            go_wp2_with fail
            all_goals (
              refine bodyPost_ret (v := .tuple #[.agg #[.int .i64 l0, .int .i64 l1, .int .i64 l2, .int .i64 l3, .int .i64 l4, .int .i64 l5, .int .i64 l6, .int .i64 l7, .int .i64 l8, .int .u32 s, .slice x13a (ps.length + 1) x13c], .int .i64 0]) (by simp [results, Try.results10, go_sem, *]) rfl ⟨RetS.of (r := ⟨(⟨l0, l1, l2, l3, l4, l5, l6, l7, l8⟩ : Lim), s, ps.take k ++ (n, q) :: ps.drop k, 0⟩) ⟨x13a, x13c, by
                show _ = Ending.returned (.tuple #[.agg #[.int .i64 l0, .int .i64 l1, .int .i64 l2, .int .i64 l3, .int .i64 l4, .int .i64 l5, .int .i64 l6, .int .i64 l7, .int .i64 l8, .int .u32 s, .slice x13a (ps.take k ++ (n, q) :: ps.drop k).length x13c], .int .i64 0])
                rw [hlen], (by repeat' (first | with_reducible exact kk | with_reducible refine CellsAt.setFarG ?_ p2 _ | with_reducible refine CellsAt.setFarG ?_ p1 _ | with_reducible refine CellsAt.drewN ?_ _))⟩ H_hr2.out, (by repeat' (first | with_reducible exact hb7 | with_reducible refine Below.drew ?_ | with_reducible refine below_drewN ?_ _ | with_reducible refine Below.alloc ?_ (by have := hb7.size; first | (simp; done) | (simp; omega) | omega) _ | with_reducible refine Below.setCell ?_ (by first | (simp; done) | (simp; omega) | omega) _))⟩)
  · have hr2 : zOut E = R := by rw [← hR]; unfold withR; rw [if_neg h0]
    have b1 : (E != 0) = true := bne_iff_ne.2 h0
    have H_hR := Box.mk hR
    have H_hE := Box.mk hE
    have H_hr2 := Box.mk hr2
    have H_hchk := Box.mk hchk
    clear hR hE hr2 hchk
    go_enter Try.func10, Try.ntmps10
    have hb0 := Below.refl w.heap.size w
    go_wp2_with fail
    with_reducible refine (H_hchk.out _ (((hS.alloc _).alloc _).alloc _)).mono ?_
    rintro e w1 ⟨rfl, hc1⟩
    have hb1 : Below w.heap.size w w1 := bchain (by repeat' (first | with_reducible exact hb0 | with_reducible refine Below.drew ?_ | with_reducible refine below_drewN ?_ _ | with_reducible refine Below.alloc ?_ (by have := hb0.size; first | (simp; done) | (simp; omega) | omega) _ | with_reducible refine Below.setCell ?_ (by first | (simp; done) | (simp; omega) | omega) _)) hc1
    have hst1 : Below w.heap.size w w1 := bchain (by repeat' (first | with_reducible exact Below.refl _ _ | with_reducible refine Below.drew ?_ | with_reducible refine below_drewN ?_ _ | with_reducible refine Below.alloc ?_ (by first | (simp; done) | (simp; omega) | omega) _ | with_reducible refine Below.setCell ?_ (by first | (simp; done) | (simp; omega) | omega) _)) hc1
    have X_0 : w1.cell? ⟨w.heap.size, 0, none⟩ = some (.int .i64 l0) := (hc1.cell (p := ⟨w.heap.size, 0, none⟩) (by first | (simp; done) | (simp; omega))).trans (by first | (simp; done) | go_simp)
    have X_1 : w1.cell? ⟨w.heap.size, 1, none⟩ = some (.int .i64 l1) := (hc1.cell (p := ⟨w.heap.size, 1, none⟩) (by first | (simp; done) | (simp; omega))).trans (by first | (simp; done) | go_simp)
    have X_2 : w1.cell? ⟨w.heap.size, 2, none⟩ = some (.int .i64 l2) := (hc1.cell (p := ⟨w.heap.size, 2, none⟩) (by first | (simp; done) | (simp; omega))).trans (by first | (simp; done) | go_simp)
    have X_3 : w1.cell? ⟨w.heap.size, 3, none⟩ = some (.int .i64 l3) := (hc1.cell (p := ⟨w.heap.size, 3, none⟩) (by first | (simp; done) | (simp; omega))).trans (by first | (simp; done) | go_simp)
    have X_4 : w1.cell? ⟨w.heap.size, 4, none⟩ = some (.int .i64 l4) := (hc1.cell (p := ⟨w.heap.size, 4, none⟩) (by first | (simp; done) | (simp; omega))).trans (by first | (simp; done) | go_simp)
    have X_5 : w1.cell? ⟨w.heap.size, 5, none⟩ = some (.int .i64 l5) := (hc1.cell (p := ⟨w.heap.size, 5, none⟩) (by first | (simp; done) | (simp; omega))).trans (by first | (simp; done) | go_simp)
    have X_6 : w1.cell? ⟨w.heap.size, 6, none⟩ = some (.int .i64 l6) := (hc1.cell (p := ⟨w.heap.size, 6, none⟩) (by first | (simp; done) | (simp; omega))).trans (by first | (simp; done) | go_simp)
    have X_7 : w1.cell? ⟨w.heap.size, 7, none⟩ = some (.int .i64 l7) := (hc1.cell (p := ⟨w.heap.size, 7, none⟩) (by first | (simp; done) | (simp; omega))).trans (by first | (simp; done) | go_simp)
    have X_8 : w1.cell? ⟨w.heap.size, 8, none⟩ = some (.int .i64 l8) := (hc1.cell (p := ⟨w.heap.size, 8, none⟩) (by first | (simp; done) | (simp; omega))).trans (by first | (simp; done) | go_simp)
    have X_9 : w1.cell? ⟨w.heap.size, 9, none⟩ = some (.int .u32 s) := (hc1.cell (p := ⟨w.heap.size, 9, none⟩) (by first | (simp; done) | (simp; omega))).trans (by first | (simp; done) | go_simp)
    have X_10 : w1.cell? ⟨w.heap.size, 10, none⟩ = some (.slice a ps.length c) := (hc1.cell (p := ⟨w.heap.size, 10, none⟩) (by first | (simp; done) | (simp; omega))).trans (by first | (simp; done) | go_simp)
    have X_l : w.heap.size < w1.heap.size := Nat.lt_of_lt_of_le (by first | (simp; done) | (simp; omega)) hc1.size
    have P_0 : w1.cell? ⟨w.heap.size + 1, 0, none⟩ = some (.string n) := (hc1.cell (p := ⟨w.heap.size + 1, 0, none⟩) (by first | (simp; done) | (simp; omega))).trans (by first | (simp; done) | go_simp)
    have P_1 : w1.cell? ⟨w.heap.size + 1, 1, none⟩ = some (.int .u32 q) := (hc1.cell (p := ⟨w.heap.size + 1, 1, none⟩) (by first | (simp; done) | (simp; omega))).trans (by first | (simp; done) | go_simp)
    have P_l : w.heap.size + 1 < w1.heap.size := Nat.lt_of_lt_of_le (by first | (simp; done) | (simp; omega)) hc1.size
    have R_0 : w1.cell? ⟨w.heap.size + 2, 0, none⟩ = some (.int .i64 0) := (hc1.cell (p := ⟨w.heap.size + 2, 0, none⟩) (by first | (simp; done) | (simp; omega))).trans (by first | (simp; done) | go_simp)
    have R_1 : w1.cell? ⟨w.heap.size + 2, 1, none⟩ = some (.int .i64 0) := (hc1.cell (p := ⟨w.heap.size + 2, 1, none⟩) (by first | (simp; done) | (simp; omega))).trans (by first | (simp; done) | go_simp)
    have R_2 : w1.cell? ⟨w.heap.size + 2, 2, none⟩ = some (.int .i64 0) := (hc1.cell (p := ⟨w.heap.size + 2, 2, none⟩) (by first | (simp; done) | (simp; omega))).trans (by first | (simp; done) | go_simp)
    have R_3 : w1.cell? ⟨w.heap.size + 2, 3, none⟩ = some (.int .i64 0) := (hc1.cell (p := ⟨w.heap.size + 2, 3, none⟩) (by first | (simp; done) | (simp; omega))).trans (by first | (simp; done) | go_simp)
    have R_4 : w1.cell? ⟨w.heap.size + 2, 4, none⟩ = some (.int .i64 0) := (hc1.cell (p := ⟨w.heap.size + 2, 4, none⟩) (by first | (simp; done) | (simp; omega))).trans (by first | (simp; done) | go_simp)
    have R_5 : w1.cell? ⟨w.heap.size + 2, 5, none⟩ = some (.int .i64 0) := (hc1.cell (p := ⟨w.heap.size + 2, 5, none⟩) (by first | (simp; done) | (simp; omega))).trans (by first | (simp; done) | go_simp)
    have R_6 : w1.cell? ⟨w.heap.size + 2, 6, none⟩ = some (.int .i64 0) := (hc1.cell (p := ⟨w.heap.size + 2, 6, none⟩) (by first | (simp; done) | (simp; omega))).trans (by first | (simp; done) | go_simp)
    have R_7 : w1.cell? ⟨w.heap.size + 2, 7, none⟩ = some (.int .i64 0) := (hc1.cell (p := ⟨w.heap.size + 2, 7, none⟩) (by first | (simp; done) | (simp; omega))).trans (by first | (simp; done) | go_simp)
    have R_8 : w1.cell? ⟨w.heap.size + 2, 8, none⟩ = some (.int .i64 0) := (hc1.cell (p := ⟨w.heap.size + 2, 8, none⟩) (by first | (simp; done) | (simp; omega))).trans (by first | (simp; done) | go_simp)
    have R_9 : w1.cell? ⟨w.heap.size + 2, 9, none⟩ = some (.int .u32 0) := (hc1.cell (p := ⟨w.heap.size + 2, 9, none⟩) (by first | (simp; done) | (simp; omega))).trans (by first | (simp; done) | go_simp)
    have R_10 : w1.cell? ⟨w.heap.size + 2, 10, none⟩ = some (.slice none 0 0) := (hc1.cell (p := ⟨w.heap.size + 2, 10, none⟩) (by first | (simp; done) | (simp; omega))).trans (by first | (simp; done) | go_simp)
    have R_f0 : w1.frozen? ⟨w.heap.size + 2, 0, none⟩ = false := (hc1.frozen (p := ⟨w.heap.size + 2, 0, none⟩) (by first | (simp; done) | (simp; omega))).trans (by first | (simp; done) | go_simp)
    have R_f1 : w1.frozen? ⟨w.heap.size + 2, 1, none⟩ = false := (hc1.frozen (p := ⟨w.heap.size + 2, 1, none⟩) (by first | (simp; done) | (simp; omega))).trans (by first | (simp; done) | go_simp)
    have R_f2 : w1.frozen? ⟨w.heap.size + 2, 2, none⟩ = false := (hc1.frozen (p := ⟨w.heap.size + 2, 2, none⟩) (by first | (simp; done) | (simp; omega))).trans (by first | (simp; done) | go_simp)
    have R_f3 : w1.frozen? ⟨w.heap.size + 2, 3, none⟩ = false := (hc1.frozen (p := ⟨w.heap.size + 2, 3, none⟩) (by first | (simp; done) | (simp; omega))).trans (by first | (simp; done) | go_simp)
    have R_f4 : w1.frozen? ⟨w.heap.size + 2, 4, none⟩ = false := (hc1.frozen (p := ⟨w.heap.size + 2, 4, none⟩) (by first | (simp; done) | (simp; omega))).trans (by first | (simp; done) | go_simp)
    have R_f5 : w1.frozen? ⟨w.heap.size + 2, 5, none⟩ = false := (hc1.frozen (p := ⟨w.heap.size + 2, 5, none⟩) (by first | (simp; done) | (simp; omega))).trans (by first | (simp; done) | go_simp)
    have R_f6 : w1.frozen? ⟨w.heap.size + 2, 6, none⟩ = false := (hc1.frozen (p := ⟨w.heap.size + 2, 6, none⟩) (by first | (simp; done) | (simp; omega))).trans (by first | (simp; done) | go_simp)
    have R_f7 : w1.frozen? ⟨w.heap.size + 2, 7, none⟩ = false := (hc1.frozen (p := ⟨w.heap.size + 2, 7, none⟩) (by first | (simp; done) | (simp; omega))).trans (by first | (simp; done) | go_simp)
    have R_f8 : w1.frozen? ⟨w.heap.size + 2, 8, none⟩ = false := (hc1.frozen (p := ⟨w.heap.size + 2, 8, none⟩) (by first | (simp; done) | (simp; omega))).trans (by first | (simp; done) | go_simp)
    have R_f9 : w1.frozen? ⟨w.heap.size + 2, 9, none⟩ = false := (hc1.frozen (p := ⟨w.heap.size + 2, 9, none⟩) (by first | (simp; done) | (simp; omega))).trans (by first | (simp; done) | go_simp)
    have R_f10 : w1.frozen? ⟨w.heap.size + 2, 10, none⟩ = false := (hc1.frozen (p := ⟨w.heap.size + 2, 10, none⟩) (by first | (simp; done) | (simp; omega))).trans (by first | (simp; done) | go_simp)
    have R_l : w.heap.size + 2 < w1.heap.size := Nat.lt_of_lt_of_le (by first | (simp; done) | (simp; omega)) hc1.size
    replace hS := hS.later hst1
    clear hst1
    clear hc1 hb0
    go_wp2_with fail
    refine bodyPost_ret (v := .tuple #[.agg #[.int .i64 0, .int .i64 0, .int .i64 0, .int .i64 0, .int .i64 0, .int .i64 0, .int .i64 0, .int .i64 0, .int .i64 0, .int .u32 0, .slice none 0 0], .int .i64 E]) (by simp [results, Try.results10, go_sem, *]) rfl ⟨RetS.of (r := zOut E) ⟨none, 0, rfl, .inl rfl⟩ H_hr2.out, (by repeat' (first | with_reducible exact hb1 | with_reducible refine Below.drew ?_ | with_reducible refine below_drewN ?_ _ | with_reducible refine Below.alloc ?_ (by have := hb1.size; first | (simp; done) | (simp; omega) | omega) _ | with_reducible refine Below.setCell ?_ (by first | (simp; done) | (simp; omega) | omega) _))⟩

end Go.Proofs.Ythdldmkeoglflaa
