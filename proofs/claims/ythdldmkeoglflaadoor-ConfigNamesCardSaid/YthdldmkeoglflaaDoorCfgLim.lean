/- The limits as a row; Fits. -/
import Derived.Test.YthdldmkeoglflaaDoorCfgValid
namespace Go.Proofs.YthdldmkeoglflaaDoor
set_option maxRecDepth 100000
set_option linter.unusedSimpArgs false
set_option linter.unusedVariables false
set_option linter.unnecessarySimpa false
open Go.RowKit

/-- The nine limits. -/
structure Lim where
  (a b c d e f g h i : Int)
@[reducible] def Lim.v (L : Lim) : Value := .agg #[.int .i64 L.a, .int .i64 L.b, .int .i64 L.c, .int .i64 L.d, .int .i64 L.e, .int .i64 L.f, .int .i64 L.g, .int .i64 L.h, .int .i64 L.i]
def Lim.l (L : Lim) : List Int := [L.a, L.b, L.c, L.d, L.e, L.f, L.g, L.h, L.i]
def mostL : Lim := ⟨3, 4, 40, 8, 8, 8, 4, 4, 8⟩
def limOk (L : Lim) (k : Nat) : Bool := decide (1 ≤ L.l[k]?.getD 0) && decide (L.l[k]?.getD 0 ≤ mostL.l[k]?.getD 0)
def fitB (L : Lim) : Bool := (List.range 9).all (limOk L)
theorem fitB_no {L : Lim} {k : Nat} (hk : k < 9) (h : limOk L k = false) : fitB L = false := by
  cases h2 : fitB L
  · rfl
  · rw [List.all_eq_true.1 h2 k (List.mem_range.2 hk)] at h; cases h
theorem fitB_all {L : Lim} (h : ∀ k, k < 9 → limOk L k = true) : fitB L = true :=
  List.all_eq_true.2 fun k hk => h k (List.mem_range.1 hk)

set_option maxHeartbeats 1000000 in
theorem row_any (l0 l1 l2 l3 l4 l5 l6 l7 l8 : Int) (w : World) :
    Calls Tryd.prog 31 #[.agg #[.int .i64 l0, .int .i64 l1, .int .i64 l2, .int .i64 l3, .int .i64 l4, .int .i64 l5, .int .i64 l6, .int .i64 l7, .int .i64 l8]] w fun e w' =>
      e = .returned (.agg #[.int .i64 l0, .int .i64 l1, .int .i64 l2, .int .i64 l3, .int .i64 l4, .int .i64 l5, .int .i64 l6, .int .i64 l7, .int .i64 l8]) ∧ Below w.heap.size w w' := by
  go_enter Tryd.func31, Tryd.ntmps31
  have hb0 := Below.refl w.heap.size w
  go_wp2_with fail
  refine bodyPost_ret (v := .agg #[.int .i64 l0, .int .i64 l1, .int .i64 l2, .int .i64 l3, .int .i64 l4, .int .i64 l5, .int .i64 l6, .int .i64 l7, .int .i64 l8]) (by simp [results, Tryd.results31, go_sem, *]) rfl ⟨rfl, (by repeat' (first | with_reducible exact hb0 | with_reducible refine Below.drew ?_ | with_reducible refine below_drewN ?_ _ | with_reducible refine Below.alloc ?_ (by have := hb0.size; first | (simp; done) | (simp; omega) | omega) _ | with_reducible refine Below.setCell ?_ (by first | (simp; done) | (simp; omega) | omega) _))⟩
set_option maxHeartbeats 1000000 in
theorem rlimits_any (l0 l1 l2 l3 l4 l5 l6 l7 l8 : Int) (w : World) :
    Calls Tryd.prog 68 #[.agg #[.int .i64 l0, .int .i64 l1, .int .i64 l2, .int .i64 l3, .int .i64 l4, .int .i64 l5, .int .i64 l6, .int .i64 l7, .int .i64 l8]] w fun e w' =>
      e = .returned (.agg #[.int .i64 l0, .int .i64 l1, .int .i64 l2, .int .i64 l3, .int .i64 l4, .int .i64 l5, .int .i64 l6, .int .i64 l7, .int .i64 l8]) ∧ Below w.heap.size w w' := by
  go_enter Tryd.func68, Tryd.ntmps68
  have hb0 := Below.refl w.heap.size w
  go_wp2_with fail
  refine bodyPost_ret (v := .agg #[.int .i64 l0, .int .i64 l1, .int .i64 l2, .int .i64 l3, .int .i64 l4, .int .i64 l5, .int .i64 l6, .int .i64 l7, .int .i64 l8]) (by simp [results, Tryd.results68, go_sem, *]) rfl ⟨rfl, (by repeat' (first | with_reducible exact hb0 | with_reducible refine Below.drew ?_ | with_reducible refine below_drewN ?_ _ | with_reducible refine Below.alloc ?_ (by have := hb0.size; first | (simp; done) | (simp; omega) | omega) _ | with_reducible refine Below.setCell ?_ (by first | (simp; done) | (simp; omega) | omega) _))⟩
set_option maxHeartbeats 1000000 in
theorem greatest_any (w : World) :
    Calls Tryd.prog 36 #[] w fun e w' =>
      e = .returned (.agg #[.int .i64 3, .int .i64 4, .int .i64 40, .int .i64 8, .int .i64 8, .int .i64 8, .int .i64 4, .int .i64 4, .int .i64 8]) ∧ Below w.heap.size w w' := by
  go_enter Tryd.func36, Tryd.ntmps36
  have hb0 := Below.refl w.heap.size w
  go_wp2_with fail
  refine bodyPost_ret (v := .agg #[.int .i64 3, .int .i64 4, .int .i64 40, .int .i64 8, .int .i64 8, .int .i64 8, .int .i64 4, .int .i64 4, .int .i64 8]) (by simp [results, Tryd.results36, go_sem, *]) rfl ⟨rfl, (by repeat' (first | with_reducible exact hb0 | with_reducible refine Below.drew ?_ | with_reducible refine below_drewN ?_ _ | with_reducible refine Below.alloc ?_ (by have := hb0.size; first | (simp; done) | (simp; omega) | omega) _ | with_reducible refine Below.setCell ?_ (by first | (simp; done) | (simp; omega) | omega) _))⟩
set_option maxHeartbeats 1000000 in
theorem rgreatest_any (w : World) :
    Calls Tryd.prog 69 #[] w fun e w' =>
      e = .returned (.agg #[.int .i64 3, .int .i64 4, .int .i64 40, .int .i64 8, .int .i64 8, .int .i64 8, .int .i64 4, .int .i64 4, .int .i64 8]) ∧ Below w.heap.size w w' := by
  go_enter Tryd.func69, Tryd.ntmps69
  have hb0 := Below.refl w.heap.size w
  go_wp2_with fail
  refine bodyPost_ret (v := .agg #[.int .i64 3, .int .i64 4, .int .i64 40, .int .i64 8, .int .i64 8, .int .i64 8, .int .i64 4, .int .i64 4, .int .i64 8]) (by simp [results, Tryd.results69, go_sem, *]) rfl ⟨rfl, (by repeat' (first | with_reducible exact hb0 | with_reducible refine Below.drew ?_ | with_reducible refine below_drewN ?_ _ | with_reducible refine Below.alloc ?_ (by have := hb0.size; first | (simp; done) | (simp; omega) | omega) _ | with_reducible refine Below.setCell ?_ (by first | (simp; done) | (simp; omega) | omega) _))⟩

theorem mostL_l : mostL.l.map (Value.int .i64) = [.int .i64 3, .int .i64 4, .int .i64 40, .int .i64 8, .int .i64 8, .int .i64 8, .int .i64 4, .int .i64 4, .int .i64 8] := rfl
theorem cells9 {w : World} {B : Nat} {v0 v1 v2 v3 v4 v5 v6 v7 v8 : Value} (c0 : w.cell? ⟨B, 0, none⟩ = some v0) (c1 : w.cell? ⟨B, 1, none⟩ = some v1) (c2 : w.cell? ⟨B, 2, none⟩ = some v2) (c3 : w.cell? ⟨B, 3, none⟩ = some v3) (c4 : w.cell? ⟨B, 4, none⟩ = some v4) (c5 : w.cell? ⟨B, 5, none⟩ = some v5) (c6 : w.cell? ⟨B, 6, none⟩ = some v6) (c7 : w.cell? ⟨B, 7, none⟩ = some v7) (c8 : w.cell? ⟨B, 8, none⟩ = some v8) :
    CellsAt w (some ⟨B, 0, none⟩) [v0, v1, v2, v3, v4, v5, v6, v7, v8] :=
  .inr ⟨B, 0, rfl, fun j u hj => match j, hj with
    | 0, rfl => c0
    | 1, rfl => c1
    | 2, rfl => c2
    | 3, rfl => c3
    | 4, rfl => c4
    | 5, rfl => c5
    | 6, rfl => c6
    | 7, rfl => c7
    | 8, rfl => c8
    | j + 9, hj => by simp at hj⟩
theorem cellL {w : World} {B k : Nat} {L : Lim} (h : CellsAt w (some ⟨B, 0, none⟩) (L.l.map (Value.int .i64))) (hk : k < 9) : w.cell? ⟨B, k, none⟩ = some (.int .i64 (L.l[k]?.getD 0)) := by
  rcases h with h | ⟨b, o, e, h⟩
  · simp [Lim.l] at h
  · cases e
    have hl : k < L.l.length := hk
    have := h k (.int .i64 (L.l[k]?.getD 0)) (by rw [List.getElem?_map, List.getElem?_eq_getElem hl]; rfl)
    rwa [Nat.zero_add] at this
set_option maxHeartbeats 4000000 in
theorem fits_any (l0 l1 l2 l3 l4 l5 l6 l7 l8 : Int) (w : World) :
    Calls Tryd.prog 40 #[.agg #[.int .i64 l0, .int .i64 l1, .int .i64 l2, .int .i64 l3, .int .i64 l4, .int .i64 l5, .int .i64 l6, .int .i64 l7, .int .i64 l8]] w fun e w' =>
      e = .returned (.bool (fitB (⟨l0, l1, l2, l3, l4, l5, l6, l7, l8⟩ : Lim))) ∧ Below w.heap.size w w' := by
  obtain ⟨L, hL⟩ : ∃ L, L = (⟨l0, l1, l2, l3, l4, l5, l6, l7, l8⟩ : Lim) := ⟨_, rfl⟩
  rw [← hL]
  have hll : L.l.map (Value.int .i64) = [.int .i64 l0, .int .i64 l1, .int .i64 l2, .int .i64 l3, .int .i64 l4, .int .i64 l5, .int .i64 l6, .int .i64 l7, .int .i64 l8] := by rw [hL]; rfl
  clear hL
  have H_hll := Box.mk hll
  clear hll
  go_enter Tryd.func40, Tryd.ntmps40
  have hb0 := Below.refl w.heap.size w
  go_wp2_with fail
  with_reducible refine (rlimits_any l0 l1 l2 l3 l4 l5 l6 l7 l8 _).mono ?_
  rintro e w1 ⟨rfl, hc1⟩
  have hb1 : Below w.heap.size w w1 := bchain (by repeat' (first | with_reducible exact hb0 | with_reducible refine Below.drew ?_ | with_reducible refine below_drewN ?_ _ | with_reducible refine Below.alloc ?_ (by have := hb0.size; first | (simp; done) | (simp; omega) | omega) _ | with_reducible refine Below.setCell ?_ (by first | (simp; done) | (simp; omega) | omega) _)) hc1
  clear hc1 hb0
  go_wp2_with fail
  with_reducible refine (rgreatest_any _).mono ?_
  rintro e w2 ⟨rfl, hc2⟩
  have hb2 : Below w.heap.size w w2 := bchain (by repeat' (first | with_reducible exact hb1 | with_reducible refine Below.drew ?_ | with_reducible refine below_drewN ?_ _ | with_reducible refine Below.alloc ?_ (by have := hb1.size; first | (simp; done) | (simp; omega) | omega) _ | with_reducible refine Below.setCell ?_ (by first | (simp; done) | (simp; omega) | omega) _)) hc2
  clear hc2 hb1
  go_wp2_with fail
  go_loopw [5] (fun i wr => ∃ k : Nat, k ≤ 9 ∧ i = .int .i64 k ∧ (∀ j, j < k → limOk L j = true) ∧ Below w.heap.size w wr ∧ (CellsAt wr (some ⟨w2.heap.size, 0, none⟩) (L.l.map (Value.int .i64)) ∧ CellsAt wr (some ⟨w2.heap.size + 1, 0, none⟩) (mostL.l.map (Value.int .i64)))) (fun i _ => 9 - (intOf i).toNat)
  case atStart => exact ⟨0, Nat.zero_le _, rfl, fun i hi => absurd hi (Nat.not_lt_zero _), (by repeat' (first | with_reducible exact hb2 | with_reducible refine Below.drew ?_ | with_reducible refine below_drewN ?_ _ | with_reducible refine Below.alloc ?_ (by have := hb2.size; first | (simp; done) | (simp; omega) | omega) _ | with_reducible refine Below.setCell ?_ (by first | (simp; done) | (simp; omega) | omega) _)), by rw [H_hll.out]; exact cells9 (by go_simp) (by go_simp) (by go_simp) (by go_simp) (by go_simp) (by go_simp) (by go_simp) (by go_simp) (by go_simp), by rw [mostL_l]; exact cells9 (by go_simp) (by go_simp) (by go_simp) (by go_simp) (by go_simp) (by go_simp) (by go_simp) (by go_simp) (by go_simp)⟩
  case round =>
    obtain ⟨k, hk, rfl, hpre, hbw, hc, hd⟩ := hrel
    by_cases hlt : k < 9
    · have hlt' : (k : Int) < 9 := by omega
      have c0 := cellL hc hlt
      have d0 := cellL hd hlt
      obtain ⟨x, hx⟩ : ∃ x, L.l[k]?.getD 0 = x := ⟨_, rfl⟩
      obtain ⟨y, hy⟩ : ∃ y, mostL.l[k]?.getD 0 = y := ⟨_, rfl⟩
      have hok : limOk L k = (decide (1 ≤ x) && decide (x ≤ y)) := by unfold limOk; rw [hx, hy]
      have hall : limOk L k = true → ∀ j, j < k + 1 → limOk L j = true := fun h j hj => by
        by_cases he : j = k
        · rw [he]; exact h
        · exact hpre j (by omega)
      rw [hx] at c0
      rw [hy] at d0
      clear hpre hx hy
      have H_hok := hid hok
      clear hok
      by_cases h1 : x < 1
      · go_wp2_with fail
        go_quiet (fail)
        go_wp2_with fail
        go_ret
        exact ⟨by rw [fitB_no hlt (by rw [H_hok.out, decide_eq_false (by omega)]; rfl)]; rfl, (by repeat' (first | with_reducible exact hbw | with_reducible refine Below.drew ?_ | with_reducible refine below_drewN ?_ _ | with_reducible refine Below.alloc ?_ (by have := hbw.size; first | (simp; done) | (simp; omega) | omega) _ | with_reducible refine Below.setCell ?_ (by first | (simp; done) | (simp; omega) | omega) _))⟩
      · by_cases h2 : y < x
        · go_wp2_with fail
          go_quiet (fail)
          go_wp2_with fail
          go_ret
          exact ⟨by rw [fitB_no hlt (by rw [H_hok.out, decide_eq_false (p := x ≤ y) (by omega), Bool.and_false])]; rfl, (by repeat' (first | with_reducible exact hbw | with_reducible refine Below.drew ?_ | with_reducible refine below_drewN ?_ _ | with_reducible refine Below.alloc ?_ (by have := hbw.size; first | (simp; done) | (simp; omega) | omega) _ | with_reducible refine Below.setCell ?_ (by first | (simp; done) | (simp; omega) | omega) _))⟩
        · go_wp2_with fail
          go_quiet (fail)
          go_wp2_with fail
          go_roundw
          case rel => exact ⟨k + 1, hlt, by go_num, hall (by rw [H_hok.out, decide_eq_true (by omega), decide_eq_true (by omega)]; rfl), (by repeat' (first | with_reducible exact hbw | with_reducible refine Below.drew ?_ | with_reducible refine below_drewN ?_ _ | with_reducible refine Below.alloc ?_ (by have := hbw.size; first | (simp; done) | (simp; omega) | omega) _ | with_reducible refine Below.setCell ?_ (by first | (simp; done) | (simp; omega) | omega) _)), by first | exact hc | exact hc.drew, by first | exact hd | exact hd.drew⟩
          case measure => simp [intOf]; omega
    · obtain rfl : k = 9 := by omega
      have hok := fitB_all hpre
      have H_hpre := hid hpre
      have H_hok := hid hok
      clear hpre hok
      go_wp2_with fail
      go_ret
      exact ⟨by rw [H_hok.out]; rfl, (by repeat' (first | with_reducible exact hbw | with_reducible refine Below.drew ?_ | with_reducible refine below_drewN ?_ _ | with_reducible refine Below.alloc ?_ (by have := hbw.size; first | (simp; done) | (simp; omega) | omega) _ | with_reducible refine Below.setCell ?_ (by first | (simp; done) | (simp; omega) | omega) _))⟩
end Go.Proofs.YthdldmkeoglflaaDoor
