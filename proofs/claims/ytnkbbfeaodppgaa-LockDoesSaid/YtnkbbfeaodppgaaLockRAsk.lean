/- The reference's Ask and Holds. -/
import Derived.Test.YtnkbbfeaodppgaaLockRGrant
namespace Go.Proofs.Ytnkbbfeaodppgaa
set_option linter.unusedSimpArgs false
set_option linter.unusedVariables false
set_option linter.unnecessarySimpa false
open Go.RowKit

set_option maxHeartbeats 1000000 in
theorem rHolds_any (W t : Int) (rs : List Int) (q : Waits) (ra qa : Option Addr) (rn rc qn qc : Nat) (w : World) (h : LockIn w rs q ra qa rn qn) :
    Calls Try.prog 23 #[.agg #[.int .i64 W, .slice ra rn rc, .slice qa qn qc], .int .i64 t] w fun e w' =>
      e = .returned (.tuple #[.int .i64 (holdsZ W rs q t).1, .int .i64 (holdsZ W rs q t).2]) ∧ Below w.heap.size w w' := by
  have hC := fun W' h => rBoth_any W t rs q ra qa rn rc qn qc W' h
  have hH := fun W' h => rhas_any W t rs q ra qa rn rc qn qc W' h
  obtain ⟨z, hz⟩ : ∃ z, bothZ W rs q t = z := ⟨_, rfl⟩
  rw [hz] at hC
  by_cases h0 : z = 0
  · have he : holdsZ W rs q t = (hasZ W rs q t, 0) := by unfold holdsZ; rw [hz, if_pos h0]
    obtain ⟨y, hy⟩ : ∃ y, hasZ W rs q t = y := ⟨_, rfl⟩
    rw [he, hy]
    rw [hy] at hH
    rw [h0] at hC
    clear h0
    have H_h := Box.mk h
    have H_he := Box.mk he
    have H_hz := Box.mk hz
    have H_hC := Box.mk hC
    have H_hH := Box.mk hH
    have H_hy := Box.mk hy
    clear h he hz hC hH hy
    go_enter Try.func23, Try.ntmps23
    have hb0 := Below.refl w.heap.size w
    go_wp2_with fail
    with_reducible refine (H_hC.out _ (H_h.out.later (below_alloc _ _))).mono ?_
    rintro e w1 ⟨rfl, hc1⟩
    have hb1 : Below w.heap.size w w1 := bchain (by repeat' (first | with_reducible exact hb0 | with_reducible refine Below.drew ?_ | with_reducible refine below_drewN ?_ _ | with_reducible refine Below.alloc ?_ (by have := hb0.size; first | (simp; done) | (simp; omega) | omega) _ | with_reducible refine Below.setCell ?_ (by first | (simp; done) | (simp; omega) | omega) _)) hc1
    have O_0 : w1.cell? ⟨w.heap.size, 0, none⟩ = some (.int .i64 W) := (hc1.cell (p := ⟨w.heap.size, 0, none⟩) (by first | (simp; done) | (simp; omega))).trans (by first | (simp; done) | go_simp)
    have O_1 : w1.cell? ⟨w.heap.size, 1, none⟩ = some (.slice ra rn rc) := (hc1.cell (p := ⟨w.heap.size, 1, none⟩) (by first | (simp; done) | (simp; omega))).trans (by first | (simp; done) | go_simp)
    have O_2 : w1.cell? ⟨w.heap.size, 2, none⟩ = some (.slice qa qn qc) := (hc1.cell (p := ⟨w.heap.size, 2, none⟩) (by first | (simp; done) | (simp; omega))).trans (by first | (simp; done) | go_simp)
    have O_l : w.heap.size < w1.heap.size := Nat.lt_of_lt_of_le (by first | (simp; done) | (simp; omega)) hc1.size
    clear hc1 hb0
    go_wp2_with fail
    with_reducible refine (H_hH.out _ (H_h.out.later hb1)).mono ?_
    rintro e w2 ⟨rfl, hc2⟩
    have hb2 : Below w.heap.size w w2 := bchain (by repeat' (first | with_reducible exact hb1 | with_reducible refine Below.drew ?_ | with_reducible refine below_drewN ?_ _ | with_reducible refine Below.alloc ?_ (by have := hb1.size; first | (simp; done) | (simp; omega) | omega) _ | with_reducible refine Below.setCell ?_ (by first | (simp; done) | (simp; omega) | omega) _)) hc2
    have hst2 : Below w1.heap.size w1 w2 := bchain (by repeat' (first | with_reducible exact Below.refl _ _ | with_reducible refine Below.drew ?_ | with_reducible refine below_drewN ?_ _ | with_reducible refine Below.alloc ?_ (by first | (simp; done) | (simp; omega) | omega) _ | with_reducible refine Below.setCell ?_ (by first | (simp; done) | (simp; omega) | omega) _)) hc2
    replace O_0 := cell_later hst2 O_0
    replace O_1 := cell_later hst2 O_1
    replace O_2 := cell_later hst2 O_2
    replace O_l := Nat.lt_of_lt_of_le O_l hst2.size
    clear hst2
    clear hc2 hb1
    go_wp2_with fail
    go_ret2
    exact ⟨rfl, by repeat' (first | with_reducible exact hb2 | with_reducible refine Below.drew ?_ | with_reducible refine below_drewN ?_ _ | with_reducible refine Below.alloc ?_ (by have := hb2.size; first | (simp; done) | (simp; omega) | omega) _ | with_reducible refine Below.setCell ?_ (by first | (simp; done) | (simp; omega) | omega) _)⟩
  · have he : holdsZ W rs q t = (0, z) := by unfold holdsZ; rw [hz, if_neg h0]
    have hne : (z != 0) = true := bne_iff_ne.2 h0
    rw [he]
    clear h0
    have H_h := Box.mk h
    have H_he := Box.mk he
    have H_hz := Box.mk hz
    have H_hC := Box.mk hC
    have H_hH := Box.mk hH
    clear h he hz hC hH
    go_enter Try.func23, Try.ntmps23
    have hb0 := Below.refl w.heap.size w
    go_wp2_with fail
    with_reducible refine (H_hC.out _ (H_h.out.later (below_alloc _ _))).mono ?_
    rintro e w1 ⟨rfl, hc1⟩
    have hb1 : Below w.heap.size w w1 := bchain (by repeat' (first | with_reducible exact hb0 | with_reducible refine Below.drew ?_ | with_reducible refine below_drewN ?_ _ | with_reducible refine Below.alloc ?_ (by have := hb0.size; first | (simp; done) | (simp; omega) | omega) _ | with_reducible refine Below.setCell ?_ (by first | (simp; done) | (simp; omega) | omega) _)) hc1
    have O_0 : w1.cell? ⟨w.heap.size, 0, none⟩ = some (.int .i64 W) := (hc1.cell (p := ⟨w.heap.size, 0, none⟩) (by first | (simp; done) | (simp; omega))).trans (by first | (simp; done) | go_simp)
    have O_1 : w1.cell? ⟨w.heap.size, 1, none⟩ = some (.slice ra rn rc) := (hc1.cell (p := ⟨w.heap.size, 1, none⟩) (by first | (simp; done) | (simp; omega))).trans (by first | (simp; done) | go_simp)
    have O_2 : w1.cell? ⟨w.heap.size, 2, none⟩ = some (.slice qa qn qc) := (hc1.cell (p := ⟨w.heap.size, 2, none⟩) (by first | (simp; done) | (simp; omega))).trans (by first | (simp; done) | go_simp)
    have O_l : w.heap.size < w1.heap.size := Nat.lt_of_lt_of_le (by first | (simp; done) | (simp; omega)) hc1.size
    clear hc1 hb0
    go_wp2_with fail
    with_reducible refine (H_hC.out _ (H_h.out.later hb1)).mono ?_
    rintro e w2 ⟨rfl, hc2⟩
    have hb2 : Below w.heap.size w w2 := bchain (by repeat' (first | with_reducible exact hb1 | with_reducible refine Below.drew ?_ | with_reducible refine below_drewN ?_ _ | with_reducible refine Below.alloc ?_ (by have := hb1.size; first | (simp; done) | (simp; omega) | omega) _ | with_reducible refine Below.setCell ?_ (by first | (simp; done) | (simp; omega) | omega) _)) hc2
    have hst2 : Below w1.heap.size w1 w2 := bchain (by repeat' (first | with_reducible exact Below.refl _ _ | with_reducible refine Below.drew ?_ | with_reducible refine below_drewN ?_ _ | with_reducible refine Below.alloc ?_ (by first | (simp; done) | (simp; omega) | omega) _ | with_reducible refine Below.setCell ?_ (by first | (simp; done) | (simp; omega) | omega) _)) hc2
    replace O_0 := cell_later hst2 O_0
    replace O_1 := cell_later hst2 O_1
    replace O_2 := cell_later hst2 O_2
    replace O_l := Nat.lt_of_lt_of_le O_l hst2.size
    clear hst2
    clear hc2 hb1
    go_wp2_with fail
    go_ret2
    exact ⟨rfl, by repeat' (first | with_reducible exact hb2 | with_reducible refine Below.drew ?_ | with_reducible refine below_drewN ?_ _ | with_reducible refine Below.alloc ?_ (by have := hb2.size; first | (simp; done) | (simp; omega) | omega) _ | with_reducible refine Below.setCell ?_ (by first | (simp; done) | (simp; omega) | omega) _)⟩

set_option maxRecDepth 100000 in
set_option maxHeartbeats 4000000 in
theorem rAsk_any (W t : Int) (b : Bool) (rs : List Int) (q : Waits) (ra qa : Option Addr) (rn rc qn qc : Nat) (w : World) (h : LockIn w rs q ra qa rn qn) (hmx : rn + qn ≤ 999999) :
    Calls Try.prog 18 #[.agg #[.int .i64 W, .slice ra rn rc, .slice qa qn qc], .int .i64 t, .bool b] w fun e w' =>
      ∃ a1 n1 c1 a2 n2 c2, e = .returned (.tuple #[.agg #[.int .i64 (askZ W rs q t b).1.1, .slice a1 n1 c1, .slice a2 n2 c2], .bool (askZ W rs q t b).2.1, .int .i64 (askZ W rs q t b).2.2]) ∧ LockIn w' (askZ W rs q t b).1.2.1 (askZ W rs q t b).1.2.2 a1 a2 n1 n2 ∧ Below w.heap.size w w' := by
  obtain ⟨j0, hj, hy0, hy1, hy2⟩ := info_parts info_wait
  have hrm := h.rmax
  have hqm := h.qmax
  have hC := fun W' h => rBoth_any W t rs q ra qa rn rc qn qc W' h
  have hH := fun W' h => rhas_any W t rs q ra qa rn rc qn qc W' h
  obtain ⟨z, hz⟩ : ∃ z, bothZ W rs q t = z := ⟨_, rfl⟩
  obtain ⟨y, hy⟩ : ∃ y, hasZ W rs q t = y := ⟨_, rfl⟩
  obtain ⟨A, hA⟩ : ∃ A, askZ W rs q t b = A := ⟨_, rfl⟩
  rw [hz] at hC
  rw [hy] at hH
  rw [hA]
  by_cases h0 : z = 0
  · by_cases h1 : y = 0
    · have hLV := both_LV (hz.trans h0)
      have hh := has_zero (hy.trans h1)
      have hwq := hLV.1.wq.snoc (b := b) (fun e => by rw [e] at hLV; exact absurd hLV.2 (by decide)) hh.2.1 hh.2.2
      obtain ⟨tn, rfl⟩ : ∃ tn : Nat, t = tn := ⟨t.toNat, by have := (taskB_iff.1 hLV.2).1; omega⟩
      have htn : tn < 12 := by have := (taskB_iff.1 hLV.2).2; omega
      obtain ⟨res, hres⟩ : ∃ res, grantP W rs (q ++ [((tn : Int), b)]) = res := ⟨_, rfl⟩
      obtain ⟨y2, hy2'⟩ : ∃ y2, hasZ res.1 res.2.1 res.2.2.1 tn = y2 := ⟨_, rfl⟩
      have he : A = (lkOf res, decide (0 < y2), 0) := by
        have e1 : A = (lkOf res, decide (0 < res.2.2.2.length), 0) := by
          rw [← hA, ← hres]; unfold askZ; rw [if_neg (by rw [hz]; simpa using h0), if_neg (by rw [hy]; simpa using h1)]
        obtain ⟨W', rs', q', got, hz2, _, hgot, _⟩ := ask_step (b := b) (az := (List.range 12).map fun (i : Nat) => modeOf W rs q (i : Int)) hLV.1 htn (hy.trans h1) ⟨by simp, fun i hi => by simp [hi]⟩
        rw [hA, e1] at hz2
        have e2 := congrArg (·.1) hz2
        have e3 := congrArg (·.2.1) hz2
        simp only [lkOf, Prod.mk.injEq] at e2 e3
        obtain ⟨e4, e5, e6⟩ := e2
        rw [e1, e3, hgot, ← hy2', e4, e5, e6]
      have hR := fun a1 n1 c1 a2 n2 c2 wd h => rhas_any res.1 tn res.2.1 res.2.2.1 a1 a2 n1 c1 n2 c2 wd h
      rw [hy2'] at hR
      rw [h0] at hC
      rw [h1] at hH
      clear hLV hh h0 h1
      have H_h := Box.mk h
      have H_he := Box.mk he
      have H_hz := Box.mk hz
      have H_hC := Box.mk hC
      have H_hH := Box.mk hH
      have H_hy := Box.mk hy
      have H_hA := Box.mk hA
      have H_hwq := Box.mk hwq
      have H_hres := Box.mk hres
      have H_hR := Box.mk hR
      have H_hy2' := Box.mk hy2'
      clear h he hz hC hH hy hA hwq hres hR hy2'
      go_enter Try.func18, Try.ntmps18
      have hb0 := Below.refl w.heap.size w
      go_wp2_with fail
      with_reducible refine (H_hC.out _ (H_h.out.later (below_alloc2 _ _ _))).mono ?_
      rintro e w1 ⟨rfl, hc1⟩
      have R1 : Blk w1 (w.heap.size + 1) 25 [.int .i64 0, .slice none 0 0, .slice none 0 0] := Blk.later (Blk.newA _ _ _ _ [.int .i64 0, .slice none 0 0, .slice none 0 0] (by simp) (by rfl)) hc1
      have hb1 : Below w.heap.size w w1 := bchain (by repeat' (first | with_reducible exact hb0 | with_reducible refine Below.drew ?_ | with_reducible refine below_drewN ?_ _ | with_reducible refine Below.alloc ?_ (by have := hb0.size; first | (simp; done) | (simp; omega) | omega) _ | with_reducible refine Below.setCell ?_ (by first | (simp; done) | (simp; omega) | omega) _)) hc1
      have O_0 : w1.cell? ⟨w.heap.size, 0, none⟩ = some (.int .i64 W) := (hc1.cell (p := ⟨w.heap.size, 0, none⟩) (by first | (simp; done) | (simp; omega))).trans (by first | (simp; done) | go_simp)
      have O_1 : w1.cell? ⟨w.heap.size, 1, none⟩ = some (.slice ra rn rc) := (hc1.cell (p := ⟨w.heap.size, 1, none⟩) (by first | (simp; done) | (simp; omega))).trans (by first | (simp; done) | go_simp)
      have O_2 : w1.cell? ⟨w.heap.size, 2, none⟩ = some (.slice qa qn qc) := (hc1.cell (p := ⟨w.heap.size, 2, none⟩) (by first | (simp; done) | (simp; omega))).trans (by first | (simp; done) | go_simp)
      have O_l : w.heap.size < w1.heap.size := Nat.lt_of_lt_of_le (by first | (simp; done) | (simp; omega)) hc1.size
      have R_0 : w1.cell? ⟨w.heap.size + 1, 0, none⟩ = some (.int .i64 0) := (hc1.cell (p := ⟨w.heap.size + 1, 0, none⟩) (by first | (simp; done) | (simp; omega))).trans (by first | (simp; done) | go_simp)
      have R_1 : w1.cell? ⟨w.heap.size + 1, 1, none⟩ = some (.slice none 0 0) := (hc1.cell (p := ⟨w.heap.size + 1, 1, none⟩) (by first | (simp; done) | (simp; omega))).trans (by first | (simp; done) | go_simp)
      have R_2 : w1.cell? ⟨w.heap.size + 1, 2, none⟩ = some (.slice none 0 0) := (hc1.cell (p := ⟨w.heap.size + 1, 2, none⟩) (by first | (simp; done) | (simp; omega))).trans (by first | (simp; done) | go_simp)
      have R_f0 : w1.frozen? ⟨w.heap.size + 1, 0, none⟩ = false := (hc1.frozen (p := ⟨w.heap.size + 1, 0, none⟩) (by first | (simp; done) | (simp; omega))).trans (by first | (simp; done) | go_simp)
      have R_f1 : w1.frozen? ⟨w.heap.size + 1, 1, none⟩ = false := (hc1.frozen (p := ⟨w.heap.size + 1, 1, none⟩) (by first | (simp; done) | (simp; omega))).trans (by first | (simp; done) | go_simp)
      have R_f2 : w1.frozen? ⟨w.heap.size + 1, 2, none⟩ = false := (hc1.frozen (p := ⟨w.heap.size + 1, 2, none⟩) (by first | (simp; done) | (simp; omega))).trans (by first | (simp; done) | go_simp)
      have R_l : w.heap.size + 1 < w1.heap.size := Nat.lt_of_lt_of_le (by first | (simp; done) | (simp; omega)) hc1.size
      clear hc1
      go_wp2_with fail
      with_reducible refine (H_hH.out _ (H_h.out.later hb1)).mono ?_
      rintro e w2 ⟨rfl, hc2⟩
      have hb2 : Below w.heap.size w w2 := bchain (by repeat' (first | with_reducible exact hb1 | with_reducible refine Below.drew ?_ | with_reducible refine below_drewN ?_ _ | with_reducible refine Below.alloc ?_ (by have := hb1.size; first | (simp; done) | (simp; omega) | omega) _ | with_reducible refine Below.setCell ?_ (by first | (simp; done) | (simp; omega) | omega) _)) hc2
      have hst2 : Below w1.heap.size w1 w2 := bchain (by repeat' (first | with_reducible exact Below.refl _ _ | with_reducible refine Below.drew ?_ | with_reducible refine below_drewN ?_ _ | with_reducible refine Below.alloc ?_ (by first | (simp; done) | (simp; omega) | omega) _ | with_reducible refine Below.setCell ?_ (by first | (simp; done) | (simp; omega) | omega) _)) hc2
      replace O_0 := cell_later hst2 O_0
      replace O_1 := cell_later hst2 O_1
      replace O_2 := cell_later hst2 O_2
      replace O_l := Nat.lt_of_lt_of_le O_l hst2.size
      replace R_0 := cell_later hst2 R_0
      replace R_1 := cell_later hst2 R_1
      replace R_2 := cell_later hst2 R_2
      replace R_f0 := frozen_later hst2 R_l R_f0
      replace R_f1 := frozen_later hst2 R_l R_f1
      replace R_f2 := frozen_later hst2 R_l R_f2
      replace R_l := Nat.lt_of_lt_of_le R_l hst2.size
      replace R1 := R1.later hst2
      clear hst2
      clear hc2 hb1
      have hR2 := R1.lt
      go_wp2_with fail
      with_reducible refine (rtwin_own W rs q ra qa rn rc qn qc _ (H_h.out.later hb2)).mono ?_
      rintro e w3 ⟨a1, c1, a2, c2, rfl, o3, hc3⟩
      have hz3 := hc3.size
      have hb3 : Below w.heap.size w w3 := bchain (by repeat' (first | with_reducible exact hb2 | with_reducible refine Below.drew ?_ | with_reducible refine below_drewN ?_ _ | with_reducible refine Below.alloc ?_ (by have := hb2.size; first | (simp; done) | (simp; omega) | omega) _ | with_reducible refine Below.setCell ?_ (by first | (simp; done) | (simp; omega) | omega) _)) hc3
      have hst3 : Below w2.heap.size w2 w3 := bchain (by repeat' (first | with_reducible exact Below.refl _ _ | with_reducible refine Below.drew ?_ | with_reducible refine below_drewN ?_ _ | with_reducible refine Below.alloc ?_ (by first | (simp; done) | (simp; omega) | omega) _ | with_reducible refine Below.setCell ?_ (by first | (simp; done) | (simp; omega) | omega) _)) hc3
      replace O_0 := cell_later hst3 O_0
      replace O_1 := cell_later hst3 O_1
      replace O_2 := cell_later hst3 O_2
      replace O_l := Nat.lt_of_lt_of_le O_l hst3.size
      replace R_0 := cell_later hst3 R_0
      replace R_1 := cell_later hst3 R_1
      replace R_2 := cell_later hst3 R_2
      replace R_f0 := frozen_later hst3 R_l R_f0
      replace R_f1 := frozen_later hst3 R_l R_f1
      replace R_f2 := frozen_later hst3 R_l R_f2
      replace R_l := Nat.lt_of_lt_of_le R_l hst3.size
      replace R1 := R1.later hst3
      clear hst3
      clear hc3
      go_upto_region 6 with (fail)
      refine wp_facts (fun Wx => TwMid w Wx w2.heap.size w3.heap.size (w.heap.size + 1) W rs q a1 rn c1 a2 qn c2) ⟨(by repeat' (first | with_reducible exact hb3 | with_reducible refine Below.drew ?_ | with_reducible refine below_drewN ?_ _ | with_reducible refine Below.alloc ?_ (by have := hb3.size; first | (simp; done) | (simp; omega) | omega) _ | with_reducible refine Below.setCell ?_ (by first | (simp; done) | (simp; omega) | omega) _)), R1.alloc _, Blk.new _ _ _ _ rfl, o3.rs.alloc _, o3.qs.alloc _, fun ad e => (o3.rs.addr ad e).2, fun ad e => (o3.qs.addr ad e).2, o3.rs.typed o3.qs (by decide), hR2, hz3⟩ ?_
      intro w4 hT
      clear hR2 hz3 R1 o3 O_0 O_1 O_2 O_l R_0 R_1 R_2 R_f0 R_f1 R_f2 R_l
      generalize w2.heap.size = base at *
      generalize w3.heap.size = mb at *
      obtain ⟨hb4, R4, M4, rs4, q4, lt1, lt2, hne4, hrb, hbm⟩ := hT
      obtain ⟨M_0, M_1, M_2, M_f0, M_f1, M_f2, M_l⟩ := blk3 M4
      go_wp2_with (at_builtin; refine stop ?_)
      refine Stop.go ?_
      refine wpList_append_x _ rfl _ _ 23 rfl base 34 j0 (.agg #[.int .i64 0, .bool false]) 2 16 Try.underlying23 hj hy0 hy1 hy2 rfl (by decide) (.slice a2 qn c2) qn _ rfl (q4.alloc _) (some ⟨w4.heap.size, 0, none⟩) 1 1 [.int .i64 tn, .bool b] rfl rfl (Blk.cellsAt (Blk.new _ _ [.int .i64 tn, .bool b] _ rfl)) (celW_one [((tn : Int), b)]) (by unfold maxLen; omega) (by omega) (by simp; omega) ?_
      intro a5 c5 w5 o5 hg hk5
      have q_lo := q4.addr
      have R5 := blk_grown (R4.alloc _) hg (own_not fun ad e => by have := (q_lo ad e).1; omega)
      have M5 := blk_grown (M4.alloc _) hg (own_not fun ad e => by have := lt2 ad e; omega)
      have rs5 := (rs4.alloc _).kept hg (by
        cases a1 with
        | none => exact .inl rfl
        | some ad =>
          right
          exact own_not fun bd e => hne4 ad bd rfl e)
      have hb5 : Below w.heap.size w w5 := below_grownX (hb4.alloc (by have := hb4.size; omega) _) hg (by have := hb4.size; simp; omega) (fun k h => by have := (q4.lt k h).1; omega)
      have o5' : OwnX w5 base 34 2 (.slice a5 (qn + 1) c5) (qn + 1) (celW (q ++ [((tn : Int), b)])) := by rw [celW_append]; exact o5
      have z5 : w4.heap.size + 1 ≤ w5.heap.size := by have := hg.size; simpa using this
      have a5m : ∀ ad, a5 = some ad → ad.block ≠ mb := fun ad e => by
        subst e
        rcases hk5 ad.block rfl with h | h
        · cases a2 with
          | none => cases h
          | some cd =>
            have h1 : cd.block = ad.block := by simpa [Value.ownBlock] using h
            have := lt2 cd rfl
            omega
        · simp at h; omega
      have hq5l : qn + 1 = (q ++ [((tn : Int), b)]).length := by rw [List.length_append, ← H_h.out.qlen]; rfl
      have w5m := M5.lt
      have w5r := R5.lt
      have a1m : Far a1 mb := fun ad e => Nat.ne_of_lt (lt1 ad e)
      have H_hq5l := Box.mk hq5l
      clear hq5l
      clear hg hk5 o5 R4 M4 rs4 q4 M_0 M_1 M_2 M_f0 M_f1 M_f2 M_l q_lo
      obtain ⟨M_0, M_1, M_2, M_f0, M_f1, M_f2, M_l⟩ := blk3 M5
      go_wp2_with fail
      refine (granted_any W rs (q ++ [((tn : Int), b)]) a1 a5 rn c1 (qn + 1) c5 _ ⟨H_h.out.rlen, H_hq5l.out, rs5.cellsAt.setFarG (p := ⟨mb, 2, none⟩) a1m _, o5'.cellsAt.setFarG (p := ⟨mb, 2, none⟩) a5m _, by omega, by omega⟩ (by omega) H_hwq.out).mono ?_
      rw [H_hres.out]
      rintro e w6 ⟨b1, n1, d1, b2, n2, d2, b3, n3, d3, rfl, hG, hc6⟩
      have R6 := Blk.later (R5.setFar (p := ⟨mb, 2, none⟩) (by simp; omega) (.slice a5 (qn + 1) c5)) hc6
      have M6 := Blk.later (M5.set 2 (.slice a5 (qn + 1) c5)) hc6
      have hwm : w.heap.size ≤ mb := by omega
      have hb6 : Below w.heap.size w w6 := bchain (hb5.setCell hwm _) hc6
      clear R5 M5 rs5 o5' M_0 M_1 M_2 M_f0 M_f1 M_f2 M_l hc6
      obtain ⟨M_0, M_1, M_2, M_f0, M_f1, M_f2, M_l⟩ := blk3 M6
      have hl := hG.l.l
      have g1 := hG.l.f1 mb (by simp; omega)
      have g2 := hG.l.f1 (w.heap.size + 1) (by simp; omega)
      have g3 := hG.l.f2 mb (by simp; omega)
      have g4 := hG.l.f2 (w.heap.size + 1) (by simp; omega)
      clear hG
      go_upto_region 8 with (fail)
      refine wp_facts (fun Wx => Below w.heap.size w Wx ∧ Blk Wx (w.heap.size + 1) 25 [.int .i64 0, .slice none 0 0, .slice none 0 0] ∧ Blk Wx mb 25 [.int .i64 res.1, .slice b1 n1 d1, .slice b2 n2 d2] ∧ LockIn Wx res.2.1 res.2.2.1 b1 b2 n1 n2) ⟨((hb6.setCell hwm _).setCell hwm _).setCell hwm _, ((R6.setFar (p := ⟨mb, 0, none⟩) (by simp; omega) _).setFar (p := ⟨mb, 1, none⟩) (by simp; omega) _).setFar (p := ⟨mb, 2, none⟩) (by simp; omega) _, ((M6.set 0 _).set 1 _).set 2 _, ⟨hl.rlen, hl.qlen, hl.rs.far3 g1, hl.qs.far3 g3, hl.rmax, hl.qmax⟩⟩ ?_
      rintro w7 ⟨hb7, R7, M7, L7⟩
      clear hb6 R6 M6 hl M_0 M_1 M_2 M_f0 M_f1 M_f2 M_l
      obtain ⟨M_0, M_1, M_2, M_f0, M_f1, M_f2, M_l⟩ := blk3 M7
      obtain ⟨R_0, R_1, R_2, R_f0, R_f1, R_f2, R_l⟩ := blk3 R7
      have rm : ¬ (w.heap.size + 1 = mb) := by omega
      have mr : ¬ (mb = w.heap.size + 1) := by omega
      have LA : LockIn w7.drew res.2.1 res.2.2.1 b1 b2 n1 n2 := L7.later (Below.drew (Below.refl _ _))
      have LB : LockIn (((w7.drew.setCell ⟨w.heap.size + 1, 0, none⟩ (.int .i64 res.1)).setCell ⟨w.heap.size + 1, 1, none⟩ (.slice b1 n1 d1)).setCell ⟨w.heap.size + 1, 2, none⟩ (.slice b2 n2 d2)) res.2.1 res.2.2.1 b1 b2 n1 n2 := ⟨LA.rlen, LA.qlen, LA.rs.far3 g2, LA.qs.far3 g4, LA.rmax, LA.qmax⟩
      have RB := ((Blk.drew R7).set 0 (.int .i64 res.1)).set 1 (.slice b1 n1 d1) |>.set 2 (.slice b2 n2 d2)
      have MB := ((Blk.drew M7).setFar (p := ⟨w.heap.size + 1, 0, none⟩) mr (.int .i64 res.1)).setFar (p := ⟨w.heap.size + 1, 1, none⟩) mr (.slice b1 n1 d1) |>.setFar (p := ⟨w.heap.size + 1, 2, none⟩) mr (.slice b2 n2 d2)
      have hbB := (((Below.drew hb7).setCell (p := ⟨w.heap.size + 1, 0, none⟩) (Nat.le_succ _) (.int .i64 res.1)).setCell (p := ⟨w.heap.size + 1, 1, none⟩) (Nat.le_succ _) (.slice b1 n1 d1)).setCell (p := ⟨w.heap.size + 1, 2, none⟩) (Nat.le_succ _) (.slice b2 n2 d2)
      go_wp2_with fail
      go_region_with (first
        | (go_at_call 14; with_reducible refine (H_hR.out b1 n1 d1 b2 n2 d2 _ LB).mono ?_; rintro e w8 ⟨rfl, hc8⟩; have hb8 := bchain hbB hc8; have R8 := Blk.later RB hc8; have M8 := Blk.later MB hc8; have L8 := LB.later hc8; obtain ⟨P_0, P_1, P_2, P_f0, P_f1, P_f2, P_l⟩ := blk3 M8; obtain ⟨R8_0, R8_1, R8_2, R8_f0, R8_f1, R8_f2, R8_l⟩ := blk3 R8)
        | (go_at_call 14; with_reducible refine (H_hR.out b1 n1 d1 b2 n2 d2 _ LA).mono ?_; rintro e w8 ⟨rfl, hc8⟩; have hb8 := bchain (Below.drew hb7) hc8; have R8 := Blk.later (Blk.drew R7) hc8; have M8 := Blk.later (Blk.drew M7) hc8; have L8 := LA.later hc8; obtain ⟨P_0, P_1, P_2, P_f0, P_f1, P_f2, P_l⟩ := blk3 M8; obtain ⟨R8_0, R8_1, R8_2, R8_f0, R8_f1, R8_f2, R8_l⟩ := blk3 R8))
      all_goals go_wp2_with fail
      all_goals refine bodyPost_ret (v := .tuple #[.agg #[.int .i64 res.1, .slice b1 n1 d1, .slice b2 n2 d2], .bool (decide (0 < y2)), .int .i64 0]) (by simp [results, Try.results18, go_sem, *]) rfl ⟨b1, n1, d1, b2, n2, d2, by rw [H_he.out]; rfl, ?_, by repeat' (first | with_reducible exact hb8 | with_reducible refine Below.setCell ?_ (by first | (simp; done) | (simp; omega) | omega) _)⟩
      all_goals rw [H_he.out]
      all_goals first
        | exact L8
        | exact ⟨L8.rlen, L8.qlen, L8.rs.far3 g2, L8.qs.far3 g4, L8.rmax, L8.qmax⟩
    · have he : A = (lk0, false, 14) := by
        rw [← hA]; unfold askZ; rw [if_neg (by rw [hz]; simpa using h0), if_pos (by rw [hy]; exact h1)]
      have hne : (y != 0) = true := bne_iff_ne.2 h1
      rw [h0] at hC
      clear h0 h1
      have H_h := Box.mk h
      have H_hz := Box.mk hz
      have H_hC := Box.mk hC
      have H_hH := Box.mk hH
      have H_hy := Box.mk hy
      have H_hA := Box.mk hA
      clear h hz hC hH hy hA
      subst he
      go_enter Try.func18, Try.ntmps18
      have hb0 := Below.refl w.heap.size w
      go_wp2_with fail
      with_reducible refine (H_hC.out _ (H_h.out.later (below_alloc2 _ _ _))).mono ?_
      rintro e w1 ⟨rfl, hc1⟩
      have hb1 : Below w.heap.size w w1 := bchain (by repeat' (first | with_reducible exact hb0 | with_reducible refine Below.drew ?_ | with_reducible refine below_drewN ?_ _ | with_reducible refine Below.alloc ?_ (by have := hb0.size; first | (simp; done) | (simp; omega) | omega) _ | with_reducible refine Below.setCell ?_ (by first | (simp; done) | (simp; omega) | omega) _)) hc1
      have O_0 : w1.cell? ⟨w.heap.size, 0, none⟩ = some (.int .i64 W) := (hc1.cell (p := ⟨w.heap.size, 0, none⟩) (by first | (simp; done) | (simp; omega))).trans (by first | (simp; done) | go_simp)
      have O_1 : w1.cell? ⟨w.heap.size, 1, none⟩ = some (.slice ra rn rc) := (hc1.cell (p := ⟨w.heap.size, 1, none⟩) (by first | (simp; done) | (simp; omega))).trans (by first | (simp; done) | go_simp)
      have O_2 : w1.cell? ⟨w.heap.size, 2, none⟩ = some (.slice qa qn qc) := (hc1.cell (p := ⟨w.heap.size, 2, none⟩) (by first | (simp; done) | (simp; omega))).trans (by first | (simp; done) | go_simp)
      have O_l : w.heap.size < w1.heap.size := Nat.lt_of_lt_of_le (by first | (simp; done) | (simp; omega)) hc1.size
      have R_0 : w1.cell? ⟨w.heap.size + 1, 0, none⟩ = some (.int .i64 0) := (hc1.cell (p := ⟨w.heap.size + 1, 0, none⟩) (by first | (simp; done) | (simp; omega))).trans (by first | (simp; done) | go_simp)
      have R_1 : w1.cell? ⟨w.heap.size + 1, 1, none⟩ = some (.slice none 0 0) := (hc1.cell (p := ⟨w.heap.size + 1, 1, none⟩) (by first | (simp; done) | (simp; omega))).trans (by first | (simp; done) | go_simp)
      have R_2 : w1.cell? ⟨w.heap.size + 1, 2, none⟩ = some (.slice none 0 0) := (hc1.cell (p := ⟨w.heap.size + 1, 2, none⟩) (by first | (simp; done) | (simp; omega))).trans (by first | (simp; done) | go_simp)
      have R_f0 : w1.frozen? ⟨w.heap.size + 1, 0, none⟩ = false := (hc1.frozen (p := ⟨w.heap.size + 1, 0, none⟩) (by first | (simp; done) | (simp; omega))).trans (by first | (simp; done) | go_simp)
      have R_f1 : w1.frozen? ⟨w.heap.size + 1, 1, none⟩ = false := (hc1.frozen (p := ⟨w.heap.size + 1, 1, none⟩) (by first | (simp; done) | (simp; omega))).trans (by first | (simp; done) | go_simp)
      have R_f2 : w1.frozen? ⟨w.heap.size + 1, 2, none⟩ = false := (hc1.frozen (p := ⟨w.heap.size + 1, 2, none⟩) (by first | (simp; done) | (simp; omega))).trans (by first | (simp; done) | go_simp)
      have R_l : w.heap.size + 1 < w1.heap.size := Nat.lt_of_lt_of_le (by first | (simp; done) | (simp; omega)) hc1.size
      clear hc1 hb0
      go_wp2_with fail
      with_reducible refine (H_hH.out _ (H_h.out.later hb1)).mono ?_
      rintro e w2 ⟨rfl, hc2⟩
      have hb2 : Below w.heap.size w w2 := bchain (by repeat' (first | with_reducible exact hb1 | with_reducible refine Below.drew ?_ | with_reducible refine below_drewN ?_ _ | with_reducible refine Below.alloc ?_ (by have := hb1.size; first | (simp; done) | (simp; omega) | omega) _ | with_reducible refine Below.setCell ?_ (by first | (simp; done) | (simp; omega) | omega) _)) hc2
      have hst2 : Below w1.heap.size w1 w2 := bchain (by repeat' (first | with_reducible exact Below.refl _ _ | with_reducible refine Below.drew ?_ | with_reducible refine below_drewN ?_ _ | with_reducible refine Below.alloc ?_ (by first | (simp; done) | (simp; omega) | omega) _ | with_reducible refine Below.setCell ?_ (by first | (simp; done) | (simp; omega) | omega) _)) hc2
      replace O_0 := cell_later hst2 O_0
      replace O_1 := cell_later hst2 O_1
      replace O_2 := cell_later hst2 O_2
      replace O_l := Nat.lt_of_lt_of_le O_l hst2.size
      replace R_0 := cell_later hst2 R_0
      replace R_1 := cell_later hst2 R_1
      replace R_2 := cell_later hst2 R_2
      replace R_f0 := frozen_later hst2 R_l R_f0
      replace R_f1 := frozen_later hst2 R_l R_f1
      replace R_f2 := frozen_later hst2 R_l R_f2
      replace R_l := Nat.lt_of_lt_of_le R_l hst2.size
      clear hst2
      clear hc2 hb1
      go_wp2_with fail
      exact bodyPost_ret (v := .tuple #[.agg #[.int .i64 0, .slice none 0 0, .slice none 0 0], .bool false, .int .i64 14]) (by simp [results, Try.results18, go_sem, *]) rfl ⟨none, 0, 0, none, 0, 0, rfl, .empty _, (by repeat' (first | with_reducible exact hb2 | with_reducible refine Below.drew ?_ | with_reducible refine below_drewN ?_ _ | with_reducible refine Below.alloc ?_ (by have := hb2.size; first | (simp; done) | (simp; omega) | omega) _ | with_reducible refine Below.setCell ?_ (by first | (simp; done) | (simp; omega) | omega) _))⟩
  · have he : A = (lk0, false, z) := by
      rw [← hA]; unfold askZ; rw [if_pos (by rw [hz]; exact h0), hz]
    have hne : (z != 0) = true := bne_iff_ne.2 h0
    clear h0
    have H_h := Box.mk h
    have H_hz := Box.mk hz
    have H_hC := Box.mk hC
    have H_hH := Box.mk hH
    have H_hy := Box.mk hy
    have H_hA := Box.mk hA
    clear h hz hC hH hy hA
    subst he
    go_enter Try.func18, Try.ntmps18
    have hb0 := Below.refl w.heap.size w
    go_wp2_with fail
    with_reducible refine (H_hC.out _ (H_h.out.later (below_alloc2 _ _ _))).mono ?_
    rintro e w1 ⟨rfl, hc1⟩
    have hb1 : Below w.heap.size w w1 := bchain (by repeat' (first | with_reducible exact hb0 | with_reducible refine Below.drew ?_ | with_reducible refine below_drewN ?_ _ | with_reducible refine Below.alloc ?_ (by have := hb0.size; first | (simp; done) | (simp; omega) | omega) _ | with_reducible refine Below.setCell ?_ (by first | (simp; done) | (simp; omega) | omega) _)) hc1
    have O_0 : w1.cell? ⟨w.heap.size, 0, none⟩ = some (.int .i64 W) := (hc1.cell (p := ⟨w.heap.size, 0, none⟩) (by first | (simp; done) | (simp; omega))).trans (by first | (simp; done) | go_simp)
    have O_1 : w1.cell? ⟨w.heap.size, 1, none⟩ = some (.slice ra rn rc) := (hc1.cell (p := ⟨w.heap.size, 1, none⟩) (by first | (simp; done) | (simp; omega))).trans (by first | (simp; done) | go_simp)
    have O_2 : w1.cell? ⟨w.heap.size, 2, none⟩ = some (.slice qa qn qc) := (hc1.cell (p := ⟨w.heap.size, 2, none⟩) (by first | (simp; done) | (simp; omega))).trans (by first | (simp; done) | go_simp)
    have O_l : w.heap.size < w1.heap.size := Nat.lt_of_lt_of_le (by first | (simp; done) | (simp; omega)) hc1.size
    have R_0 : w1.cell? ⟨w.heap.size + 1, 0, none⟩ = some (.int .i64 0) := (hc1.cell (p := ⟨w.heap.size + 1, 0, none⟩) (by first | (simp; done) | (simp; omega))).trans (by first | (simp; done) | go_simp)
    have R_1 : w1.cell? ⟨w.heap.size + 1, 1, none⟩ = some (.slice none 0 0) := (hc1.cell (p := ⟨w.heap.size + 1, 1, none⟩) (by first | (simp; done) | (simp; omega))).trans (by first | (simp; done) | go_simp)
    have R_2 : w1.cell? ⟨w.heap.size + 1, 2, none⟩ = some (.slice none 0 0) := (hc1.cell (p := ⟨w.heap.size + 1, 2, none⟩) (by first | (simp; done) | (simp; omega))).trans (by first | (simp; done) | go_simp)
    have R_f0 : w1.frozen? ⟨w.heap.size + 1, 0, none⟩ = false := (hc1.frozen (p := ⟨w.heap.size + 1, 0, none⟩) (by first | (simp; done) | (simp; omega))).trans (by first | (simp; done) | go_simp)
    have R_f1 : w1.frozen? ⟨w.heap.size + 1, 1, none⟩ = false := (hc1.frozen (p := ⟨w.heap.size + 1, 1, none⟩) (by first | (simp; done) | (simp; omega))).trans (by first | (simp; done) | go_simp)
    have R_f2 : w1.frozen? ⟨w.heap.size + 1, 2, none⟩ = false := (hc1.frozen (p := ⟨w.heap.size + 1, 2, none⟩) (by first | (simp; done) | (simp; omega))).trans (by first | (simp; done) | go_simp)
    have R_l : w.heap.size + 1 < w1.heap.size := Nat.lt_of_lt_of_le (by first | (simp; done) | (simp; omega)) hc1.size
    clear hc1 hb0
    go_wp2_with fail
    with_reducible refine (H_hC.out _ (H_h.out.later hb1)).mono ?_
    rintro e w2 ⟨rfl, hc2⟩
    have hb2 : Below w.heap.size w w2 := bchain (by repeat' (first | with_reducible exact hb1 | with_reducible refine Below.drew ?_ | with_reducible refine below_drewN ?_ _ | with_reducible refine Below.alloc ?_ (by have := hb1.size; first | (simp; done) | (simp; omega) | omega) _ | with_reducible refine Below.setCell ?_ (by first | (simp; done) | (simp; omega) | omega) _)) hc2
    have hst2 : Below w1.heap.size w1 w2 := bchain (by repeat' (first | with_reducible exact Below.refl _ _ | with_reducible refine Below.drew ?_ | with_reducible refine below_drewN ?_ _ | with_reducible refine Below.alloc ?_ (by first | (simp; done) | (simp; omega) | omega) _ | with_reducible refine Below.setCell ?_ (by first | (simp; done) | (simp; omega) | omega) _)) hc2
    replace O_0 := cell_later hst2 O_0
    replace O_1 := cell_later hst2 O_1
    replace O_2 := cell_later hst2 O_2
    replace O_l := Nat.lt_of_lt_of_le O_l hst2.size
    replace R_0 := cell_later hst2 R_0
    replace R_1 := cell_later hst2 R_1
    replace R_2 := cell_later hst2 R_2
    replace R_f0 := frozen_later hst2 R_l R_f0
    replace R_f1 := frozen_later hst2 R_l R_f1
    replace R_f2 := frozen_later hst2 R_l R_f2
    replace R_l := Nat.lt_of_lt_of_le R_l hst2.size
    clear hst2
    clear hc2 hb1
    go_wp2_with fail
    exact bodyPost_ret (v := .tuple #[.agg #[.int .i64 0, .slice none 0 0, .slice none 0 0], .bool false, .int .i64 z]) (by simp [results, Try.results18, go_sem, *]) rfl ⟨none, 0, 0, none, 0, 0, rfl, .empty _, (by repeat' (first | with_reducible exact hb2 | with_reducible refine Below.drew ?_ | with_reducible refine below_drewN ?_ _ | with_reducible refine Below.alloc ?_ (by have := hb2.size; first | (simp; done) | (simp; omega) | omega) _ | with_reducible refine Below.setCell ?_ (by first | (simp; done) | (simp; omega) | omega) _))⟩

end Go.Proofs.Ytnkbbfeaodppgaa
