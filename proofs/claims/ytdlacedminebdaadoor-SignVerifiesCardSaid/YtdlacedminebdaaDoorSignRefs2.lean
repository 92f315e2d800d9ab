/- The package braidref03: its exported functions. -/
import Derived.Test.YtdlacedminebdaaDoorSignRefs
namespace Go.Proofs.YtdlacedminebdaaDoor
set_option linter.unusedSimpArgs false
set_option linter.unusedVariables false
set_option linter.unnecessarySimpa false
open Go.RowKit

theorem rcheck_ok (s : Int) (w : World) (h1 : 1 ≤ s) (h2 : s < 500000003) :
    Calls Tryd.prog 21 #[.int .u32 s] w fun e w' =>
      e = .returned (.int .i64 0) ∧ w = w' := by
  have h3 : (s == 0) = false := by simp; omega
  go_enter Tryd.func21, Tryd.ntmps21
  have hb0 := Below.refl w.heap.size w
  go_wp2_with fail
  go_ret
  exact ⟨rfl, rfl⟩
theorem rcheck_no (s : Int) (w : World) (h0 : 0 ≤ s) (h4 : s < 4294967296) (h : s = 0 ∨ 500000003 ≤ s) :
    Calls Tryd.prog 21 #[.int .u32 s] w fun e w' =>
      e = .returned (.int .i64 2) ∧ w = w' := by
  rcases h with h | h
  · subst h
    go_enter Tryd.func21, Tryd.ntmps21
    have hb0 := Below.refl w.heap.size w
    go_wp2_with fail
    go_ret
    exact ⟨rfl, rfl⟩
  · have h3 : (s == 0) = false := by simp; omega
    go_enter Tryd.func21, Tryd.ntmps21
    have hb0 := Below.refl w.heap.size w
    go_wp2_with fail
    go_ret
    exact ⟨rfl, rfl⟩

theorem rpublic_ok (s : Int) (w : World) (h1 : 1 ≤ s) (h2 : s < 500000003) :
    Calls Tryd.prog 13 #[.int .u32 s] w fun e w' =>
      e = .returned (.tuple #[.int .u32 (pubK s), .int .i64 0]) ∧ Below w.heap.size w w' := by
  go_enter Tryd.func13, Tryd.ntmps13
  have hb0 := Below.refl w.heap.size w
  go_wp2_with fail
  refine (rcheck_ok s _ h1 h2).mono ?_
  rintro e w' ⟨rfl, rfl⟩
  go_wp2_with fail
  with_reducible refine (rkey_any s _ (by omega) (by omega)).mono ?_
  rintro e w1 ⟨rfl, hc1⟩
  have hb1 : Below w.heap.size w w1 := bchain (by repeat' (first | with_reducible exact hb0 | with_reducible refine Below.drew ?_ | with_reducible refine below_drewN ?_ _ | with_reducible refine Below.alloc ?_ (by have := hb0.size; first | (simp; done) | (simp; omega) | omega) _ | with_reducible refine Below.setCell ?_ (by first | (simp; done) | (simp; omega) | omega) _)) hc1
  clear hc1 hb0
  go_wp2_with fail
  go_ret2
  exact ⟨rfl, by repeat' (first | with_reducible exact hb1 | with_reducible refine Below.drew ?_ | with_reducible refine below_drewN ?_ _ | with_reducible refine Below.alloc ?_ (by have := hb1.size; first | (simp; done) | (simp; omega) | omega) _ | with_reducible refine Below.setCell ?_ (by first | (simp; done) | (simp; omega) | omega) _)⟩
theorem rpublic_no (s : Int) (w : World) (h0 : 0 ≤ s) (h4 : s < 4294967296) (h : s = 0 ∨ 500000003 ≤ s) :
    Calls Tryd.prog 13 #[.int .u32 s] w fun e w' =>
      e = .returned (.tuple #[.int .u32 0, .int .i64 2]) ∧ Below w.heap.size w w' := by
  have H_h := Box.mk h
  clear h
  go_enter Tryd.func13, Tryd.ntmps13
  have hb0 := Below.refl w.heap.size w
  go_wp2_with fail
  refine (rcheck_no s _ h0 h4 H_h.out).mono ?_
  rintro e w' ⟨rfl, rfl⟩
  go_wp2_with fail
  refine (rcheck_no s _ h0 h4 H_h.out).mono ?_
  rintro e w' ⟨rfl, rfl⟩
  go_wp2_with fail
  go_ret2
  exact ⟨rfl, by repeat' (first | with_reducible exact hb0 | with_reducible refine Below.drew ?_ | with_reducible refine below_drewN ?_ _ | with_reducible refine Below.alloc ?_ (by have := hb0.size; first | (simp; done) | (simp; omega) | omega) _ | with_reducible refine Below.setCell ?_ (by first | (simp; done) | (simp; omega) | omega) _)⟩
theorem rnonce_ok (s : Int) (bs : List Int) (a : Option Addr) (n c : Nat) (w : World) (h1 : 1 ≤ s) (h2 : s < 500000003) (hm : MsgIn w a n bs) (hn : n ≤ 9991) :
    Calls Tryd.prog 15 #[.int .u32 s, .slice a n c] w fun e w' =>
      e = .returned (.tuple #[.int .u32 (nonP s bs), .int .i64 0]) ∧ Below w.heap.size w w' := by
  have hnI : (n : Int) ≤ 9991 := by omega
  go_enter Tryd.func15, Tryd.ntmps15
  have hb0 := Below.refl w.heap.size w
  go_wp2_with fail
  refine (rcheck_ok s _ h1 h2).mono ?_
  rintro e w' ⟨rfl, rfl⟩
  go_wp2_with fail
  with_reducible refine (rnonce_any s bs a n c _ (by omega) (by omega) hm hn).mono ?_
  rintro e w1 ⟨rfl, hc1⟩
  have hb1 : Below w.heap.size w w1 := bchain (by repeat' (first | with_reducible exact hb0 | with_reducible refine Below.drew ?_ | with_reducible refine below_drewN ?_ _ | with_reducible refine Below.alloc ?_ (by have := hb0.size; first | (simp; done) | (simp; omega) | omega) _ | with_reducible refine Below.setCell ?_ (by first | (simp; done) | (simp; omega) | omega) _)) hc1
  clear hc1 hb0
  go_wp2_with fail
  go_ret2
  exact ⟨rfl, by repeat' (first | with_reducible exact hb1 | with_reducible refine Below.drew ?_ | with_reducible refine below_drewN ?_ _ | with_reducible refine Below.alloc ?_ (by have := hb1.size; first | (simp; done) | (simp; omega) | omega) _ | with_reducible refine Below.setCell ?_ (by first | (simp; done) | (simp; omega) | omega) _)⟩
theorem rnonce_many (s : Int) (a : Option Addr) (n c : Nat) (w : World) (h1 : 1 ≤ s) (h2 : s < 500000003) (hn : 9991 < n) :
    Calls Tryd.prog 15 #[.int .u32 s, .slice a n c] w fun e w' =>
      e = .returned (.tuple #[.int .u32 0, .int .i64 4]) ∧ Below w.heap.size w w' := by
  have hnI : (9991 : Int) < (n : Int) := by omega
  go_enter Tryd.func15, Tryd.ntmps15
  have hb0 := Below.refl w.heap.size w
  go_wp2_with fail
  refine (rcheck_ok s _ h1 h2).mono ?_
  rintro e w' ⟨rfl, rfl⟩
  go_wp2_with fail
  go_ret2
  exact ⟨rfl, by repeat' (first | with_reducible exact hb0 | with_reducible refine Below.drew ?_ | with_reducible refine below_drewN ?_ _ | with_reducible refine Below.alloc ?_ (by have := hb0.size; first | (simp; done) | (simp; omega) | omega) _ | with_reducible refine Below.setCell ?_ (by first | (simp; done) | (simp; omega) | omega) _)⟩
theorem rnonce_no (s : Int) (a : Option Addr) (n c : Nat) (w : World) (h0 : 0 ≤ s) (h4 : s < 4294967296) (h : s = 0 ∨ 500000003 ≤ s) :
    Calls Tryd.prog 15 #[.int .u32 s, .slice a n c] w fun e w' =>
      e = .returned (.tuple #[.int .u32 0, .int .i64 2]) ∧ Below w.heap.size w w' := by
  have H_h := Box.mk h
  clear h
  go_enter Tryd.func15, Tryd.ntmps15
  have hb0 := Below.refl w.heap.size w
  go_wp2_with fail
  refine (rcheck_no s _ h0 h4 H_h.out).mono ?_
  rintro e w' ⟨rfl, rfl⟩
  go_wp2_with fail
  refine (rcheck_no s _ h0 h4 H_h.out).mono ?_
  rintro e w' ⟨rfl, rfl⟩
  go_wp2_with fail
  go_ret2
  exact ⟨rfl, by repeat' (first | with_reducible exact hb0 | with_reducible refine Below.drew ?_ | with_reducible refine below_drewN ?_ _ | with_reducible refine Below.alloc ?_ (by have := hb0.size; first | (simp; done) | (simp; omega) | omega) _ | with_reducible refine Below.setCell ?_ (by first | (simp; done) | (simp; omega) | omega) _)⟩
theorem rChallenge_ok (r y : Int) (bs : List Int) (a : Option Addr) (n c : Nat) (w : World) (r0 : 0 ≤ r) (r4 : r < 4294967296) (y0 : 0 ≤ y) (y4 : y < 4294967296) (hm : MsgIn w a n bs) (hn : n ≤ 9991) :
    Calls Tryd.prog 17 #[.int .u32 r, .int .u32 y, .slice a n c] w fun e w' =>
      e = .returned (.tuple #[.int .u32 (chaP r y bs), .int .i64 0]) ∧ Below w.heap.size w w' := by
  have hnI : (n : Int) ≤ 9991 := by omega
  go_enter Tryd.func17, Tryd.ntmps17
  have hb0 := Below.refl w.heap.size w
  go_wp2_with fail
  with_reducible refine (rchallenge_any r y bs a n c _ r0 r4 y0 y4 hm hn).mono ?_
  rintro e w1 ⟨rfl, hc1⟩
  have hb1 : Below w.heap.size w w1 := bchain (by repeat' (first | with_reducible exact hb0 | with_reducible refine Below.drew ?_ | with_reducible refine below_drewN ?_ _ | with_reducible refine Below.alloc ?_ (by have := hb0.size; first | (simp; done) | (simp; omega) | omega) _ | with_reducible refine Below.setCell ?_ (by first | (simp; done) | (simp; omega) | omega) _)) hc1
  clear hc1 hb0
  go_wp2_with fail
  go_ret2
  exact ⟨rfl, by repeat' (first | with_reducible exact hb1 | with_reducible refine Below.drew ?_ | with_reducible refine below_drewN ?_ _ | with_reducible refine Below.alloc ?_ (by have := hb1.size; first | (simp; done) | (simp; omega) | omega) _ | with_reducible refine Below.setCell ?_ (by first | (simp; done) | (simp; omega) | omega) _)⟩
theorem rChallenge_many (r y : Int) (a : Option Addr) (n c : Nat) (w : World) (hn : 9991 < n) :
    Calls Tryd.prog 17 #[.int .u32 r, .int .u32 y, .slice a n c] w fun e w' =>
      e = .returned (.tuple #[.int .u32 0, .int .i64 4]) ∧ Below w.heap.size w w' := by
  have hnI : (9991 : Int) < (n : Int) := by omega
  go_enter Tryd.func17, Tryd.ntmps17
  have hb0 := Below.refl w.heap.size w
  go_wp2_with fail
  go_ret2
  exact ⟨rfl, by repeat' (first | with_reducible exact hb0 | with_reducible refine Below.drew ?_ | with_reducible refine below_drewN ?_ _ | with_reducible refine Below.alloc ?_ (by have := hb0.size; first | (simp; done) | (simp; omega) | omega) _ | with_reducible refine Below.setCell ?_ (by first | (simp; done) | (simp; omega) | omega) _)⟩

set_option maxRecDepth 100000 in
set_option maxHeartbeats 2000000 in
theorem rsigned_any (s : Int) (bs : List Int) (a : Option Addr) (n c : Nat) (w : World) (h1 : 1 ≤ s) (h2 : s < 500000003) (hm : MsgIn w a n bs) (hn : n ≤ 9991) :
    Calls Tryd.prog 38 #[.int .u32 s, .slice a n c] w fun e w' =>
      e = .returned (.agg #[.int .u32 (sgE s bs), .int .u32 (sgS s bs)]) ∧ Below w.heap.size w w' := by
  obtain ⟨k, hk⟩ : ∃ k, nonP s bs = k := ⟨_, rfl⟩
  obtain ⟨y, hy⟩ : ∃ y, pubK s = y := ⟨_, rfl⟩
  obtain ⟨r, hr⟩ : ∃ r, pubK k = r := ⟨_, rfl⟩
  obtain ⟨E, hE⟩ : ∃ E, chaP r y bs = E := ⟨_, rfl⟩
  obtain ⟨x, hx⟩ : ∃ x, E * s % 500000003 = x := ⟨_, rfl⟩
  obtain ⟨S, hS⟩ : ∃ S, (k + x) % 500000003 = S := ⟨_, rfl⟩
  have e1 : sgE s bs = E := by unfold sgE; rw [hk, hy, hr, hE]
  have e2 : sgS s bs = S := by unfold sgS; rw [e1, hk, hx, hS]
  have k1 := nonP_rng s bs
  have y1 := pubK_rng s
  have r1 := pubK_rng k
  have E1 := chaP_rng r y bs
  rw [hk] at k1; rw [hy] at y1; rw [hr] at r1; rw [hE] at E1
  obtain ⟨k1, k2⟩ := k1
  obtain ⟨y1, y2⟩ := y1
  obtain ⟨r1, r2⟩ := r1
  obtain ⟨E1, E2⟩ := E1
  have x1 : 0 ≤ x := by omega
  have x2 : x < 500000003 := by omega
  have hwf : ∀ W, Below w.heap.size w W → MsgIn W a n bs := fun W h => hm.later h
  rw [e1, e2]
  clear e1 e2
  have H_hk := Box.mk hk
  have H_hy := Box.mk hy
  have H_hr := Box.mk hr
  have H_hE := Box.mk hE
  have H_hx := Box.mk hx
  have H_hS := Box.mk hS
  have H_hwf := Box.mk hwf
  clear hk hy hr hE hx hS hwf
  go_enter Tryd.func38, Tryd.ntmps38
  have hb0 := Below.refl w.heap.size w
  go_wp2_with fail
  with_reducible refine (rnonce_any s bs a n c _ (by omega) (by omega) (hm.later (below_alloc _ _)) hn).mono ?_
  rintro e w1 ⟨rfl, hc1⟩
  have hb1 : Below w.heap.size w w1 := bchain (by repeat' (first | with_reducible exact hb0 | with_reducible refine Below.drew ?_ | with_reducible refine below_drewN ?_ _ | with_reducible refine Below.alloc ?_ (by have := hb0.size; first | (simp; done) | (simp; omega) | omega) _ | with_reducible refine Below.setCell ?_ (by first | (simp; done) | (simp; omega) | omega) _)) hc1
  have O_0 : w1.cell? ⟨w.heap.size, 0, none⟩ = some (.int .u32 0) := (hc1.cell (p := ⟨w.heap.size, 0, none⟩) (by first | (simp; done) | (simp; omega))).trans (by first | (simp; done) | go_simp)
  have O_1 : w1.cell? ⟨w.heap.size, 1, none⟩ = some (.int .u32 0) := (hc1.cell (p := ⟨w.heap.size, 1, none⟩) (by first | (simp; done) | (simp; omega))).trans (by first | (simp; done) | go_simp)
  have O_f0 : w1.frozen? ⟨w.heap.size, 0, none⟩ = false := (hc1.frozen (p := ⟨w.heap.size, 0, none⟩) (by first | (simp; done) | (simp; omega))).trans (by first | (simp; done) | go_simp)
  have O_f1 : w1.frozen? ⟨w.heap.size, 1, none⟩ = false := (hc1.frozen (p := ⟨w.heap.size, 1, none⟩) (by first | (simp; done) | (simp; omega))).trans (by first | (simp; done) | go_simp)
  have O_l : w.heap.size < w1.heap.size := Nat.lt_of_lt_of_le (by first | (simp; done) | (simp; omega)) hc1.size
  clear hc1 hb0
  rw [H_hk.out]
  go_wp2_with fail
  with_reducible refine (rkey_any k _ (by omega) (by omega)).mono ?_
  rintro e w2 ⟨rfl, hc2⟩
  have hb2 : Below w.heap.size w w2 := bchain (by repeat' (first | with_reducible exact hb1 | with_reducible refine Below.drew ?_ | with_reducible refine below_drewN ?_ _ | with_reducible refine Below.alloc ?_ (by have := hb1.size; first | (simp; done) | (simp; omega) | omega) _ | with_reducible refine Below.setCell ?_ (by first | (simp; done) | (simp; omega) | omega) _)) hc2
  have hst2 : Below w1.heap.size w1 w2 := bchain (by repeat' (first | with_reducible exact Below.refl _ _ | with_reducible refine Below.drew ?_ | with_reducible refine below_drewN ?_ _ | with_reducible refine Below.alloc ?_ (by first | (simp; done) | (simp; omega) | omega) _ | with_reducible refine Below.setCell ?_ (by first | (simp; done) | (simp; omega) | omega) _)) hc2
  replace O_0 := cell_later hst2 O_0
  replace O_1 := cell_later hst2 O_1
  replace O_f0 := frozen_later hst2 O_l O_f0
  replace O_f1 := frozen_later hst2 O_l O_f1
  replace O_l := Nat.lt_of_lt_of_le O_l hst2.size
  clear hst2
  clear hc2 hb1
  rw [H_hr.out]
  go_wp2_with fail
  with_reducible refine (rkey_any s _ (by omega) (by omega)).mono ?_
  rintro e w3 ⟨rfl, hc3⟩
  have hb3 : Below w.heap.size w w3 := bchain (by repeat' (first | with_reducible exact hb2 | with_reducible refine Below.drew ?_ | with_reducible refine below_drewN ?_ _ | with_reducible refine Below.alloc ?_ (by have := hb2.size; first | (simp; done) | (simp; omega) | omega) _ | with_reducible refine Below.setCell ?_ (by first | (simp; done) | (simp; omega) | omega) _)) hc3
  have hst3 : Below w2.heap.size w2 w3 := bchain (by repeat' (first | with_reducible exact Below.refl _ _ | with_reducible refine Below.drew ?_ | with_reducible refine below_drewN ?_ _ | with_reducible refine Below.alloc ?_ (by first | (simp; done) | (simp; omega) | omega) _ | with_reducible refine Below.setCell ?_ (by first | (simp; done) | (simp; omega) | omega) _)) hc3
  replace O_0 := cell_later hst3 O_0
  replace O_1 := cell_later hst3 O_1
  replace O_f0 := frozen_later hst3 O_l O_f0
  replace O_f1 := frozen_later hst3 O_l O_f1
  replace O_l := Nat.lt_of_lt_of_le O_l hst3.size
  clear hst3
  clear hc3 hb2
  rw [H_hy.out]
  go_wp2_with fail
  with_reducible refine (rchallenge_any r y bs a n c _ r1 (by omega) y1 (by omega) (H_hwf.out _ hb3) hn).mono ?_
  rintro e w4 ⟨rfl, hc4⟩
  have hb4 : Below w.heap.size w w4 := bchain (by repeat' (first | with_reducible exact hb3 | with_reducible refine Below.drew ?_ | with_reducible refine below_drewN ?_ _ | with_reducible refine Below.alloc ?_ (by have := hb3.size; first | (simp; done) | (simp; omega) | omega) _ | with_reducible refine Below.setCell ?_ (by first | (simp; done) | (simp; omega) | omega) _)) hc4
  have hst4 : Below w3.heap.size w3 w4 := bchain (by repeat' (first | with_reducible exact Below.refl _ _ | with_reducible refine Below.drew ?_ | with_reducible refine below_drewN ?_ _ | with_reducible refine Below.alloc ?_ (by first | (simp; done) | (simp; omega) | omega) _ | with_reducible refine Below.setCell ?_ (by first | (simp; done) | (simp; omega) | omega) _)) hc4
  replace O_0 := cell_later hst4 O_0
  replace O_1 := cell_later hst4 O_1
  replace O_f0 := frozen_later hst4 O_l O_f0
  replace O_f1 := frozen_later hst4 O_l O_f1
  replace O_l := Nat.lt_of_lt_of_le O_l hst4.size
  clear hst4
  clear hc4 hb3
  rw [H_hE.out]
  go_wp2_with fail
  refine (rscaled_any E s _ E1 (by omega) (by omega) (by omega)).mono ?_
  rintro e w' ⟨rfl, rfl⟩
  rw [H_hx.out]
  go_wp2_with fail
  refine (rsum_any k x _ (by omega) (by omega) x1 (by omega)).mono ?_
  rintro e w' ⟨rfl, rfl⟩
  rw [H_hS.out]
  go_wp2_with fail
  refine bodyPost_ret (v := .agg #[.int .u32 E, .int .u32 S]) (by simp [results, Tryd.results38, go_sem, *]) rfl ⟨rfl, ?_⟩
  exact (by repeat' (first | with_reducible exact hb4 | with_reducible refine Below.drew ?_ | with_reducible refine below_drewN ?_ _ | with_reducible refine Below.alloc ?_ (by have := hb4.size; first | (simp; done) | (simp; omega) | omega) _ | with_reducible refine Below.setCell ?_ (by first | (simp; done) | (simp; omega) | omega) _))
set_option maxRecDepth 100000 in
set_option maxHeartbeats 1000000 in
theorem rsign_ok (s : Int) (bs : List Int) (a : Option Addr) (n c : Nat) (w : World) (h1 : 1 ≤ s) (h2 : s < 500000003) (hm : MsgIn w a n bs) (hn : n ≤ 9991) :
    Calls Tryd.prog 19 #[.int .u32 s, .slice a n c] w fun e w' =>
      e = .returned (.tuple #[.agg #[.int .u32 (sgE s bs), .int .u32 (sgS s bs)], .int .i64 0]) ∧ Below w.heap.size w w' := by
  have hnI : (n : Int) ≤ 9991 := by omega
  obtain ⟨E, hE⟩ : ∃ E, sgE s bs = E := ⟨_, rfl⟩
  obtain ⟨S, hS⟩ : ∃ S, sgS s bs = S := ⟨_, rfl⟩
  have hC := fun w hm => hE ▸ hS ▸ rsigned_any s bs a n c w h1 h2 hm hn
  rw [hE, hS]
  have H_hE := Box.mk hE
  have H_hS := Box.mk hS
  have H_hC := Box.mk hC
  clear hE hS hC
  go_enter Tryd.func19, Tryd.ntmps19
  have hb0 := Below.refl w.heap.size w
  go_wp2_with fail
  refine (rcheck_ok s _ h1 h2).mono ?_
  rintro e w' ⟨rfl, rfl⟩
  go_wp2_with fail
  with_reducible refine (H_hC.out _ (hm.later (below_alloc _ _))).mono ?_
  rintro e w1 ⟨rfl, hc1⟩
  have hb1 : Below w.heap.size w w1 := bchain (by repeat' (first | with_reducible exact hb0 | with_reducible refine Below.drew ?_ | with_reducible refine below_drewN ?_ _ | with_reducible refine Below.alloc ?_ (by have := hb0.size; first | (simp; done) | (simp; omega) | omega) _ | with_reducible refine Below.setCell ?_ (by first | (simp; done) | (simp; omega) | omega) _)) hc1
  have O_0 : w1.cell? ⟨w.heap.size, 0, none⟩ = some (.int .u32 0) := (hc1.cell (p := ⟨w.heap.size, 0, none⟩) (by first | (simp; done) | (simp; omega))).trans (by first | (simp; done) | go_simp)
  have O_1 : w1.cell? ⟨w.heap.size, 1, none⟩ = some (.int .u32 0) := (hc1.cell (p := ⟨w.heap.size, 1, none⟩) (by first | (simp; done) | (simp; omega))).trans (by first | (simp; done) | go_simp)
  have O_f0 : w1.frozen? ⟨w.heap.size, 0, none⟩ = false := (hc1.frozen (p := ⟨w.heap.size, 0, none⟩) (by first | (simp; done) | (simp; omega))).trans (by first | (simp; done) | go_simp)
  have O_f1 : w1.frozen? ⟨w.heap.size, 1, none⟩ = false := (hc1.frozen (p := ⟨w.heap.size, 1, none⟩) (by first | (simp; done) | (simp; omega))).trans (by first | (simp; done) | go_simp)
  have O_l : w.heap.size < w1.heap.size := Nat.lt_of_lt_of_le (by first | (simp; done) | (simp; omega)) hc1.size
  clear hc1 hb0
  go_wp2_with fail
  refine bodyPost_ret (v := .tuple #[.agg #[.int .u32 E, .int .u32 S], .int .i64 0]) (by simp [results, Tryd.results19, go_sem, *]) rfl ⟨rfl, ?_⟩
  exact (by repeat' (first | with_reducible exact hb1 | with_reducible refine Below.drew ?_ | with_reducible refine below_drewN ?_ _ | with_reducible refine Below.alloc ?_ (by have := hb1.size; first | (simp; done) | (simp; omega) | omega) _ | with_reducible refine Below.setCell ?_ (by first | (simp; done) | (simp; omega) | omega) _))
theorem rsign_many (s : Int) (a : Option Addr) (n c : Nat) (w : World) (h1 : 1 ≤ s) (h2 : s < 500000003) (hn : 9991 < n) :
    Calls Tryd.prog 19 #[.int .u32 s, .slice a n c] w fun e w' =>
      e = .returned (.tuple #[.agg #[.int .u32 0, .int .u32 0], .int .i64 4]) ∧ Below w.heap.size w w' := by
  have hnI : (9991 : Int) < (n : Int) := by omega
  go_enter Tryd.func19, Tryd.ntmps19
  have hb0 := Below.refl w.heap.size w
  go_wp2_with fail
  refine (rcheck_ok s _ h1 h2).mono ?_
  rintro e w' ⟨rfl, rfl⟩
  go_wp2_with fail
  refine bodyPost_ret (v := .tuple #[.agg #[.int .u32 0, .int .u32 0], .int .i64 4]) (by simp [results, Tryd.results19, go_sem, *]) rfl ⟨rfl, ?_⟩
  exact (by repeat' (first | with_reducible exact hb0 | with_reducible refine Below.drew ?_ | with_reducible refine below_drewN ?_ _ | with_reducible refine Below.alloc ?_ (by have := hb0.size; first | (simp; done) | (simp; omega) | omega) _ | with_reducible refine Below.setCell ?_ (by first | (simp; done) | (simp; omega) | omega) _))
theorem rsign_no (s : Int) (a : Option Addr) (n c : Nat) (w : World) (h0 : 0 ≤ s) (h4 : s < 4294967296) (h : s = 0 ∨ 500000003 ≤ s) :
    Calls Tryd.prog 19 #[.int .u32 s, .slice a n c] w fun e w' =>
      e = .returned (.tuple #[.agg #[.int .u32 0, .int .u32 0], .int .i64 2]) ∧ Below w.heap.size w w' := by
  have H_h := Box.mk h
  clear h
  go_enter Tryd.func19, Tryd.ntmps19
  have hb0 := Below.refl w.heap.size w
  go_wp2_with fail
  refine (rcheck_no s _ h0 h4 H_h.out).mono ?_
  rintro e w' ⟨rfl, rfl⟩
  go_wp2_with fail
  refine (rcheck_no s _ h0 h4 H_h.out).mono ?_
  rintro e w' ⟨rfl, rfl⟩
  go_wp2_with fail
  refine bodyPost_ret (v := .tuple #[.agg #[.int .u32 0, .int .u32 0], .int .i64 2]) (by simp [results, Tryd.results19, go_sem, *]) rfl ⟨rfl, ?_⟩
  exact (by repeat' (first | with_reducible exact hb0 | with_reducible refine Below.drew ?_ | with_reducible refine below_drewN ?_ _ | with_reducible refine Below.alloc ?_ (by have := hb0.size; first | (simp; done) | (simp; omega) | omega) _ | with_reducible refine Below.setCell ?_ (by first | (simp; done) | (simp; omega) | omega) _))

theorem rright_big (y E S : Int) (a : Option Addr) (n c : Nat) (w : World) (hE0 : 0 ≤ E) (hE4 : E < 4294967296) (hS0 : 0 ≤ S) (hS4 : S < 4294967296) (hb : 500000003 ≤ E ∨ 500000003 ≤ S) :
    Calls Tryd.prog 31 #[.int .u32 y, .slice a n c, .agg #[.int .u32 E, .int .u32 S]] w fun e w' =>
      e = .returned (.bool false) ∧ Below w.heap.size w w' := by
  by_cases hE : E < 500000003
  · have hS : decide (S < 500000003) = false := by rw [decide_eq_false_iff_not]; omega
    clear hb
    go_enter Tryd.func31, Tryd.ntmps31
    have hb0 := Below.refl w.heap.size w
    go_wp2_with fail
    refine (rexponent_any E _ hE0 hE4).mono ?_
    rintro e w' ⟨rfl, rfl⟩
    go_wp2_with fail
    refine (rexponent_any S _ hS0 hS4).mono ?_
    rintro e w' ⟨rfl, rfl⟩
    rw [hS]
    go_wp2_with fail
    go_ret
    exact ⟨rfl, by repeat' (first | with_reducible exact hb0 | with_reducible refine Below.drew ?_ | with_reducible refine below_drewN ?_ _ | with_reducible refine Below.alloc ?_ (by have := hb0.size; first | (simp; done) | (simp; omega) | omega) _ | with_reducible refine Below.setCell ?_ (by first | (simp; done) | (simp; omega) | omega) _)⟩
  · have hE' : decide (E < 500000003) = false := by rw [decide_eq_false_iff_not]; omega
    clear hb hE
    go_enter Tryd.func31, Tryd.ntmps31
    have hb0 := Below.refl w.heap.size w
    go_wp2_with fail
    refine (rexponent_any E _ hE0 hE4).mono ?_
    rintro e w' ⟨rfl, rfl⟩
    rw [hE']
    go_wp2_with fail
    go_ret
    exact ⟨rfl, by repeat' (first | with_reducible exact hb0 | with_reducible refine Below.drew ?_ | with_reducible refine below_drewN ?_ _ | with_reducible refine Below.alloc ?_ (by have := hb0.size; first | (simp; done) | (simp; omega) | omega) _ | with_reducible refine Below.setCell ?_ (by first | (simp; done) | (simp; omega) | omega) _)⟩

theorem rproductB (a c : Int) (w : World) (ha : 0 ≤ a) (ha' : a < 4294967296) (hc : 0 ≤ c) (hc' : c < 4294967296) :
    Calls Tryd.prog 45 #[.int .u32 a, .int .u32 c] w fun e w' =>
      e = .returned (.int .u32 (a * c % 1000000007)) ∧ Below w.heap.size w w' :=
  (rproduct_any a c w ha ha' hc hc').mono fun _ _ h => ⟨h.1, h.2 ▸ Below.refl _ _⟩

set_option maxRecDepth 100000 in
set_option maxHeartbeats 2000000 in
theorem rright_go (y E S : Int) (bs : List Int) (a : Option Addr) (n c : Nat) (w : World) (h : isB y = true) (hm : MsgIn w a n bs) (hn : n ≤ 9991) (hE0 : 0 ≤ E) (hE : E < 500000003) (hS0 : 0 ≤ S) (hS : S < 500000003) :
    Calls Tryd.prog 31 #[.int .u32 y, .slice a n c, .agg #[.int .u32 E, .int .u32 S]] w fun e w' =>
      e = .returned (.bool (chaP (backR y E S) y bs == E)) ∧ Below w.heap.size w w' := by
  have hy := isB_bd h
  obtain ⟨hy0, hy1⟩ := hy
  obtain ⟨v, hv⟩ : ∃ v, gpw y E.toNat 1000000007 = v := ⟨_, rfl⟩
  have hvB : isB v = true := by rw [← hv]; exact isB_pow h _
  obtain ⟨z, hz⟩ : ∃ z, gpw v 500000002 1000000007 = z := ⟨_, rfl⟩
  have hz' : gpw y (500000003 - E).toNat 1000000007 = z := by rw [back_pow h E hE0 hE, hv, hz]
  have hzr : 0 ≤ z ∧ z < 1000000007 := by rw [← hz]; exact ⟨pw_nonneg _ _ _ (by omega), pw_lt _ _ _ (by omega)⟩
  obtain ⟨u, hu⟩ : ∃ u, pubK S = u := ⟨_, rfl⟩
  have hur := pubK_rng S
  rw [hu] at hur
  obtain ⟨r, hr⟩ : ∃ r, u * z % 1000000007 = r := ⟨_, rfl⟩
  have e1 : backR y E S = r := by rw [← hr, ← hu, ← hz']; rfl
  have hr0 : 0 ≤ r := by omega
  have hr1 : r < 1000000007 := by omega
  obtain ⟨C, hC⟩ : ∃ C, chaP r y bs = C := ⟨_, rfl⟩
  obtain ⟨k, hk⟩ : ∃ k : Nat, E.toNat = k := ⟨_, rfl⟩
  have hEk : E = (k : Int) := by omega
  rw [e1, hC]
  rw [hk] at hv
  obtain ⟨hzr0, hzr1⟩ := hzr
  obtain ⟨hur0, hur1⟩ := hur
  clear e1 hz' hk
  subst hEk
  have hq1 := fun W h1 => hu ▸ rkey_any S W hS0 h1
  have hq2 := fun W h1 h2 h3 h4 => hr ▸ rproductB u z W h1 h2 h3 h4
  have hq3 := fun W h1 h2 h3 h4 (hm : MsgIn W a n bs) => hC ▸ rchallenge_any r y bs a n c W h1 h2 h3 h4 hm hn
  have H_h := Box.mk h
  have H_hv := Box.mk hv
  have H_hvB := Box.mk hvB
  have H_hz := Box.mk hz
  have H_hu := Box.mk hu
  have H_hr := Box.mk hr
  have H_hC := Box.mk hC
  have H_hq1 := Box.mk hq1
  have H_hq2 := Box.mk hq2
  have H_hq3 := Box.mk hq3
  clear h hv hvB hz hu hr hC hq1 hq2 hq3
  go_enter Tryd.func31, Tryd.ntmps31
  have hb0 := Below.refl w.heap.size w
  go_wp2_with fail
  refine (rexponent_any k _ hE0 (by omega)).mono ?_
  rintro e w' ⟨rfl, rfl⟩
  go_wp2_with fail
  refine (rexponent_any S _ hS0 (by omega)).mono ?_
  rintro e w' ⟨rfl, rfl⟩
  go_wp2_with fail
  refine (rraised_any y k _ (by omega) (by omega) (by omega)).mono ?_
  rintro e w' ⟨rfl, rfl⟩
  rw [H_hv.out]
  go_wp2_with fail
  refine (rinv_ok v _ H_hvB.out).mono ?_
  rintro e w' ⟨rfl, rfl⟩
  rw [H_hz.out]
  have H_hm := Box.mk hm
  clear hm
  go_wp2_with fail
  refine wp_gen fun w1 hc1 => ?_
  have hb1 : Below w.heap.size w w1 := bchain (by repeat' (first | with_reducible exact hb0 | with_reducible refine Below.drew ?_ | with_reducible refine below_drewN ?_ _ | with_reducible refine Below.alloc ?_ (by have := hb0.size; first | (simp; done) | (simp; omega) | omega) _ | with_reducible refine Below.setCell ?_ (by first | (simp; done) | (simp; omega) | omega) _)) hc1
  have O_0 : w1.cell? ⟨w.heap.size, 0, none⟩ = some (.int .u32 k) := (hc1.cell (p := ⟨w.heap.size, 0, none⟩) (by first | (simp; done) | (simp; omega))).trans (by first | (simp; done) | go_simp)
  have O_1 : w1.cell? ⟨w.heap.size, 1, none⟩ = some (.int .u32 S) := (hc1.cell (p := ⟨w.heap.size, 1, none⟩) (by first | (simp; done) | (simp; omega))).trans (by first | (simp; done) | go_simp)
  have O_l : w.heap.size < w1.heap.size := Nat.lt_of_lt_of_le (by first | (simp; done) | (simp; omega)) hc1.size
  have KO_0 := cell_on O_0
  have KO_1 := cell_on O_1
  have H_hmA := Box.mk (H_hm.out.later hb1)
  refine wp_region_on (by kernel_rfl) (by kernel_rfl) ?_
  repeat (go_big_quiet_step ((first | (go_at_call 32; with_reducible exact calls_on (H_hq1.out _ (by omega))) | (go_at_call 45; with_reducible exact calls_on (H_hq2.out _ hur0 (by omega) hzr0 (by omega))) | (go_at_call 35; with_reducible exact calls_on (H_hq3.out _ hr0 (by omega) (by omega) (by omega) (H_hmA.out.on _))))))
  refine wpQuiet_nil ?_
  intro w2 hc2
  clear KO_0 KO_1
  have hb2 : Below w.heap.size w w2 := bchain (by repeat' (first | with_reducible exact hb1 | with_reducible refine Below.drew ?_ | with_reducible refine below_drewN ?_ _ | with_reducible refine Below.alloc ?_ (by have := hb1.size; first | (simp; done) | (simp; omega) | omega) _ | with_reducible refine Below.setCell ?_ (by first | (simp; done) | (simp; omega) | omega) _)) hc2
  have hst2 : Below w1.heap.size w1 w2 := bchain (by repeat' (first | with_reducible exact Below.refl _ _ | with_reducible refine Below.drew ?_ | with_reducible refine below_drewN ?_ _ | with_reducible refine Below.alloc ?_ (by first | (simp; done) | (simp; omega) | omega) _ | with_reducible refine Below.setCell ?_ (by first | (simp; done) | (simp; omega) | omega) _)) hc2
  replace O_0 := cell_later hst2 O_0
  replace O_1 := cell_later hst2 O_1
  replace O_l := Nat.lt_of_lt_of_le O_l hst2.size
  clear hst2
  go_wp2_with fail
  go_ret
  exact ⟨rfl, by repeat' (first | with_reducible exact hb2 | with_reducible refine Below.drew ?_ | with_reducible refine below_drewN ?_ _ | with_reducible refine Below.alloc ?_ (by have := hb2.size; first | (simp; done) | (simp; omega) | omega) _ | with_reducible refine Below.setCell ?_ (by first | (simp; done) | (simp; omega) | omega) _)⟩

end Go.Proofs.YtdlacedminebdaaDoor
