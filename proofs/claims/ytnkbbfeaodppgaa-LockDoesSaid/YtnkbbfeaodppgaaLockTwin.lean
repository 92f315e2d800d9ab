/- The package lock: check, Holds, New, twin. -/
import Derived.Test.YtnkbbfeaodppgaaLockCheck
import Derived.Test.YtnkbbfeaodppgaaRegMore
namespace Go.Proofs.Ytnkbbfeaodppgaa
set_option linter.unusedSimpArgs false
set_option linter.unusedVariables false
set_option linter.unnecessarySimpa false
open Go.RowKit

theorem lockErr_cases (W : Int) (rs : List Int) (q : Waits) : lockErr W rs q = 8 ∨ lockErr W rs q = 0 := by
  unfold lockErr
  split
  · exact .inl rfl
  · split
    · exact .inl rfl
    · split
      · exact .inl rfl
      · split
        · exact .inl rfl
        · exact .inr rfl
/-- The error of a lock and a task. -/
def bothZ (W : Int) (rs : List Int) (q : Waits) (t : Int) : Int := if lockErr W rs q = 8 then 8 else if taskB t = true then 0 else 2
set_option maxHeartbeats 1000000 in
theorem checkT_any (W t : Int) (rs : List Int) (q : Waits) (ra qa : Option Addr) (rn rc qn qc : Nat) (w : World) (h : LockIn w rs q ra qa rn qn) :
    Calls Try.prog 28 #[.agg #[.int .i64 W, .slice ra rn rc, .slice qa qn qc], .int .i64 t] w fun e w' =>
      e = .returned (.int .i64 (bothZ W rs q t)) ∧ Below w.heap.size w w' := by
  have hC := fun W' h => check_any W rs q ra qa rn rc qn qc W' h
  rcases lockErr_cases W rs q with he | he
  · have hz : bothZ W rs q t = 8 := by unfold bothZ; rw [if_pos he]
    rw [he] at hC
    rw [hz]
    have H_h := Box.mk h
    have H_he := Box.mk he
    have H_hz := Box.mk hz
    have H_hC := Box.mk hC
    clear h he hz hC
    go_enter Try.func28, Try.ntmps28
    have hb0 := Below.refl w.heap.size w
    go_wp2_with fail
    with_reducible refine (H_hC.out _ (H_h.out.later (below_alloc _ _))).mono ?_
    rintro e w1 ⟨rfl, hc1⟩
    have hb1 : Below w.heap.size w w1 := bchain (by repeat' (first | with_reducible exact hb0 | with_reducible refine Below.drew ?_ | with_reducible refine below_drewN ?_ _ | with_reducible refine Below.alloc ?_ (by have := hb0.size; first | (simp; done) | (simp; omega) | omega) _ | with_reducible refine Below.setCell ?_ (by first | (simp; done) | (simp; omega) | omega) _)) hc1
    have O_0 : w1.cell? ⟨w.heap.size, 0, none⟩ = some (.int .i64 W) := (hc1.cell (p := ⟨w.heap.size, 0, none⟩) (by first | (simp; done) | (simp; omega))).trans (by first | (simp; done) | go_simp)
    have O_1 : w1.cell? ⟨w.heap.size, 1, none⟩ = some (.slice ra rn rc) := (hc1.cell (p := ⟨w.heap.size, 1, none⟩) (by first | (simp; done) | (simp; omega))).trans (by first | (simp; done) | go_simp)
    have O_2 : w1.cell? ⟨w.heap.size, 2, none⟩ = some (.slice qa qn qc) := (hc1.cell (p := ⟨w.heap.size, 2, none⟩) (by first | (simp; done) | (simp; omega))).trans (by first | (simp; done) | go_simp)
    have O_l : w.heap.size < w1.heap.size := Nat.lt_of_lt_of_le (by first | (simp; done) | (simp; omega)) hc1.size
    clear hc1 hb0
    go_wp2_with fail
    go_ret
    exact ⟨rfl, by repeat' (first | with_reducible exact hb1 | with_reducible refine Below.drew ?_ | with_reducible refine below_drewN ?_ _ | with_reducible refine Below.alloc ?_ (by have := hb1.size; first | (simp; done) | (simp; omega) | omega) _ | with_reducible refine Below.setCell ?_ (by first | (simp; done) | (simp; omega) | omega) _)⟩
  · rw [he] at hC
    cases htb : taskB t with
    | true =>
      have hz : bothZ W rs q t = 0 := by unfold bothZ; rw [if_neg (by omega), if_pos htb]
      have hT := task_B t true htb
      rw [hz]
      have H_h := Box.mk h
      have H_he := Box.mk he
      have H_hz := Box.mk hz
      have H_hC := Box.mk hC
      have H_htb := Box.mk htb
      have H_hT := Box.mk hT
      clear h he hz hC htb hT
      go_enter Try.func28, Try.ntmps28
      have hb0 := Below.refl w.heap.size w
      go_wp2_with fail
      with_reducible refine (H_hC.out _ (H_h.out.later (below_alloc _ _))).mono ?_
      rintro e w1 ⟨rfl, hc1⟩
      have hb1 : Below w.heap.size w w1 := bchain (by repeat' (first | with_reducible exact hb0 | with_reducible refine Below.drew ?_ | with_reducible refine below_drewN ?_ _ | with_reducible refine Below.alloc ?_ (by have := hb0.size; first | (simp; done) | (simp; omega) | omega) _ | with_reducible refine Below.setCell ?_ (by first | (simp; done) | (simp; omega) | omega) _)) hc1
      have O_0 : w1.cell? ⟨w.heap.size, 0, none⟩ = some (.int .i64 W) := (hc1.cell (p := ⟨w.heap.size, 0, none⟩) (by first | (simp; done) | (simp; omega))).trans (by first | (simp; done) | go_simp)
      have O_1 : w1.cell? ⟨w.heap.size, 1, none⟩ = some (.slice ra rn rc) := (hc1.cell (p := ⟨w.heap.size, 1, none⟩) (by first | (simp; done) | (simp; omega))).trans (by first | (simp; done) | go_simp)
      have O_2 : w1.cell? ⟨w.heap.size, 2, none⟩ = some (.slice qa qn qc) := (hc1.cell (p := ⟨w.heap.size, 2, none⟩) (by first | (simp; done) | (simp; omega))).trans (by first | (simp; done) | go_simp)
      have O_l : w.heap.size < w1.heap.size := Nat.lt_of_lt_of_le (by first | (simp; done) | (simp; omega)) hc1.size
      clear hc1 hb0
      go_wp2_with fail
      refine (H_hT.out _).mono ?_
      rintro e w' ⟨rfl, rfl⟩
      go_wp2_with fail
      go_ret
      exact ⟨rfl, by repeat' (first | with_reducible exact hb1 | with_reducible refine Below.drew ?_ | with_reducible refine below_drewN ?_ _ | with_reducible refine Below.alloc ?_ (by have := hb1.size; first | (simp; done) | (simp; omega) | omega) _ | with_reducible refine Below.setCell ?_ (by first | (simp; done) | (simp; omega) | omega) _)⟩
    | false =>
      have hz : bothZ W rs q t = 2 := by unfold bothZ; rw [if_neg (by omega), if_neg (by rw [htb]; decide)]
      have hT := task_B t false htb
      rw [hz]
      have H_h := Box.mk h
      have H_he := Box.mk he
      have H_hz := Box.mk hz
      have H_hC := Box.mk hC
      have H_htb := Box.mk htb
      have H_hT := Box.mk hT
      clear h he hz hC htb hT
      go_enter Try.func28, Try.ntmps28
      have hb0 := Below.refl w.heap.size w
      go_wp2_with fail
      with_reducible refine (H_hC.out _ (H_h.out.later (below_alloc _ _))).mono ?_
      rintro e w1 ⟨rfl, hc1⟩
      have hb1 : Below w.heap.size w w1 := bchain (by repeat' (first | with_reducible exact hb0 | with_reducible refine Below.drew ?_ | with_reducible refine below_drewN ?_ _ | with_reducible refine Below.alloc ?_ (by have := hb0.size; first | (simp; done) | (simp; omega) | omega) _ | with_reducible refine Below.setCell ?_ (by first | (simp; done) | (simp; omega) | omega) _)) hc1
      have O_0 : w1.cell? ⟨w.heap.size, 0, none⟩ = some (.int .i64 W) := (hc1.cell (p := ⟨w.heap.size, 0, none⟩) (by first | (simp; done) | (simp; omega))).trans (by first | (simp; done) | go_simp)
      have O_1 : w1.cell? ⟨w.heap.size, 1, none⟩ = some (.slice ra rn rc) := (hc1.cell (p := ⟨w.heap.size, 1, none⟩) (by first | (simp; done) | (simp; omega))).trans (by first | (simp; done) | go_simp)
      have O_2 : w1.cell? ⟨w.heap.size, 2, none⟩ = some (.slice qa qn qc) := (hc1.cell (p := ⟨w.heap.size, 2, none⟩) (by first | (simp; done) | (simp; omega))).trans (by first | (simp; done) | go_simp)
      have O_l : w.heap.size < w1.heap.size := Nat.lt_of_lt_of_le (by first | (simp; done) | (simp; omega)) hc1.size
      clear hc1 hb0
      go_wp2_with fail
      refine (H_hT.out _).mono ?_
      rintro e w' ⟨rfl, rfl⟩
      go_wp2_with fail
      go_ret
      exact ⟨rfl, by repeat' (first | with_reducible exact hb1 | with_reducible refine Below.drew ?_ | with_reducible refine below_drewN ?_ _ | with_reducible refine Below.alloc ?_ (by have := hb1.size; first | (simp; done) | (simp; omega) | omega) _ | with_reducible refine Below.setCell ?_ (by first | (simp; done) | (simp; omega) | omega) _)⟩

/-- What Holds returns. -/
def holdsZ (W : Int) (rs : List Int) (q : Waits) (t : Int) : Int × Int := if bothZ W rs q t = 0 then (hasZ W rs q t, 0) else (0, bothZ W rs q t)
set_option maxHeartbeats 1000000 in
theorem Holds_any (W t : Int) (rs : List Int) (q : Waits) (ra qa : Option Addr) (rn rc qn qc : Nat) (w : World) (h : LockIn w rs q ra qa rn qn) :
    Calls Try.prog 22 #[.agg #[.int .i64 W, .slice ra rn rc, .slice qa qn qc], .int .i64 t] w fun e w' =>
      e = .returned (.tuple #[.int .i64 (holdsZ W rs q t).1, .int .i64 (holdsZ W rs q t).2]) ∧ Below w.heap.size w w' := by
  have hC := fun W' h => checkT_any W t rs q ra qa rn rc qn qc W' h
  have hH := fun W' h => holds_any W t rs q ra qa rn rc qn qc W' h
  obtain ⟨z, hz⟩ : ∃ z, bothZ W rs q t = z := ⟨_, rfl⟩
  rw [hz] at hC
  by_cases h0 : z = 0
  · have he : holdsZ W rs q t = (hasZ W rs q t, 0) := by unfold holdsZ; rw [hz, if_pos h0]
    obtain ⟨y, hy⟩ : ∃ y, hasZ W rs q t = y := ⟨_, rfl⟩
    rw [he, hy]
    rw [hy] at hH
    rw [h0] at hC
    clear h0
    have H_h := Box.mk h
    have H_he := Box.mk he
    have H_hz := Box.mk hz
    have H_hC := Box.mk hC
    have H_hH := Box.mk hH
    have H_hy := Box.mk hy
    clear h he hz hC hH hy
    go_enter Try.func22, Try.ntmps22
    have hb0 := Below.refl w.heap.size w
    go_wp2_with fail
    with_reducible refine (H_hC.out _ (H_h.out.later (below_alloc _ _))).mono ?_
    rintro e w1 ⟨rfl, hc1⟩
    have hb1 : Below w.heap.size w w1 := bchain (by repeat' (first | with_reducible exact hb0 | with_reducible refine Below.drew ?_ | with_reducible refine below_drewN ?_ _ | with_reducible refine Below.alloc ?_ (by have := hb0.size; first | (simp; done) | (simp; omega) | omega) _ | with_reducible refine Below.setCell ?_ (by first | (simp; done) | (simp; omega) | omega) _)) hc1
    have O_0 : w1.cell? ⟨w.heap.size, 0, none⟩ = some (.int .i64 W) := (hc1.cell (p := ⟨w.heap.size, 0, none⟩) (by first | (simp; done) | (simp; omega))).trans (by first | (simp; done) | go_simp)
    have O_1 : w1.cell? ⟨w.heap.size, 1, none⟩ = some (.slice ra rn rc) := (hc1.cell (p := ⟨w.heap.size, 1, none⟩) (by first | (simp; done) | (simp; omega))).trans (by first | (simp; done) | go_simp)
    have O_2 : w1.cell? ⟨w.heap.size, 2, none⟩ = some (.slice qa qn qc) := (hc1.cell (p := ⟨w.heap.size, 2, none⟩) (by first | (simp; done) | (simp; omega))).trans (by first | (simp; done) | go_simp)
    have O_l : w.heap.size < w1.heap.size := Nat.lt_of_lt_of_le (by first | (simp; done) | (simp; omega)) hc1.size
    clear hc1 hb0
    go_wp2_with fail
    with_reducible refine (H_hH.out _ (H_h.out.later hb1)).mono ?_
    rintro e w2 ⟨rfl, hc2⟩
    have hb2 : Below w.heap.size w w2 := bchain (by repeat' (first | with_reducible exact hb1 | with_reducible refine Below.drew ?_ | with_reducible refine below_drewN ?_ _ | with_reducible refine Below.alloc ?_ (by have := hb1.size; first | (simp; done) | (simp; omega) | omega) _ | with_reducible refine Below.setCell ?_ (by first | (simp; done) | (simp; omega) | omega) _)) hc2
    have hst2 : Below w1.heap.size w1 w2 := bchain (by repeat' (first | with_reducible exact Below.refl _ _ | with_reducible refine Below.drew ?_ | with_reducible refine below_drewN ?_ _ | with_reducible refine Below.alloc ?_ (by first | (simp; done) | (simp; omega) | omega) _ | with_reducible refine Below.setCell ?_ (by first | (simp; done) | (simp; omega) | omega) _)) hc2
    replace O_0 := cell_later hst2 O_0
    replace O_1 := cell_later hst2 O_1
    replace O_2 := cell_later hst2 O_2
    replace O_l := Nat.lt_of_lt_of_le O_l hst2.size
    clear hst2
    clear hc2 hb1
    go_wp2_with fail
    go_ret2
    exact ⟨rfl, by repeat' (first | with_reducible exact hb2 | with_reducible refine Below.drew ?_ | with_reducible refine below_drewN ?_ _ | with_reducible refine Below.alloc ?_ (by have := hb2.size; first | (simp; done) | (simp; omega) | omega) _ | with_reducible refine Below.setCell ?_ (by first | (simp; done) | (simp; omega) | omega) _)⟩
  · have he : holdsZ W rs q t = (0, z) := by unfold holdsZ; rw [hz, if_neg h0]
    have hne : (z != 0) = true := bne_iff_ne.2 h0
    rw [he]
    clear h0
    have H_h := Box.mk h
    have H_he := Box.mk he
    have H_hz := Box.mk hz
    have H_hC := Box.mk hC
    have H_hH := Box.mk hH
    clear h he hz hC hH
    go_enter Try.func22, Try.ntmps22
    have hb0 := Below.refl w.heap.size w
    go_wp2_with fail
    with_reducible refine (H_hC.out _ (H_h.out.later (below_alloc _ _))).mono ?_
    rintro e w1 ⟨rfl, hc1⟩
    have hb1 : Below w.heap.size w w1 := bchain (by repeat' (first | with_reducible exact hb0 | with_reducible refine Below.drew ?_ | with_reducible refine below_drewN ?_ _ | with_reducible refine Below.alloc ?_ (by have := hb0.size; first | (simp; done) | (simp; omega) | omega) _ | with_reducible refine Below.setCell ?_ (by first | (simp; done) | (simp; omega) | omega) _)) hc1
    have O_0 : w1.cell? ⟨w.heap.size, 0, none⟩ = some (.int .i64 W) := (hc1.cell (p := ⟨w.heap.size, 0, none⟩) (by first | (simp; done) | (simp; omega))).trans (by first | (simp; done) | go_simp)
    have O_1 : w1.cell? ⟨w.heap.size, 1, none⟩ = some (.slice ra rn rc) := (hc1.cell (p := ⟨w.heap.size, 1, none⟩) (by first | (simp; done) | (simp; omega))).trans (by first | (simp; done) | go_simp)
    have O_2 : w1.cell? ⟨w.heap.size, 2, none⟩ = some (.slice qa qn qc) := (hc1.cell (p := ⟨w.heap.size, 2, none⟩) (by first | (simp; done) | (simp; omega))).trans (by first | (simp; done) | go_simp)
    have O_l : w.heap.size < w1.heap.size := Nat.lt_of_lt_of_le (by first | (simp; done) | (simp; omega)) hc1.size
    clear hc1 hb0
    go_wp2_with fail
    go_ret2
    exact ⟨rfl, by repeat' (first | with_reducible exact hb1 | with_reducible refine Below.drew ?_ | with_reducible refine below_drewN ?_ _ | with_reducible refine Below.alloc ?_ (by have := hb1.size; first | (simp; done) | (simp; omega) | omega) _ | with_reducible refine Below.setCell ?_ (by first | (simp; done) | (simp; omega) | omega) _)⟩

theorem New_any (w : World) :
    Calls Try.prog 25 #[] w fun e w' =>
      e = .returned (.agg #[.int .i64 (-1), .slice none 0 0, .slice none 0 0]) ∧ Below w.heap.size w w' := by
  go_enter Try.func25, Try.ntmps25
  have hb0 := Below.refl w.heap.size w
  go_wp2_with fail
  refine bodyPost_ret (v := .agg #[.int .i64 (-1), .slice none 0 0, .slice none 0 0]) (by simp [results, Try.results25, go_sem, *]) rfl ⟨rfl, ?_⟩
  exact (by repeat' (first | with_reducible exact hb0 | with_reducible refine Below.drew ?_ | with_reducible refine below_drewN ?_ _ | with_reducible refine Below.alloc ?_ (by have := hb0.size; first | (simp; done) | (simp; omega) | omega) _ | with_reducible refine Below.setCell ?_ (by first | (simp; done) | (simp; omega) | omega) _))

/-- A lock of its own: two fresh rows. -/
structure LockOwn (w : World) (B : Nat) (rs : List Int) (q : Waits) (ra qa : Option Addr) (rn rc qn qc : Nat) : Prop where
  rlen : rn = rs.length
  qlen : qn = q.length
  rs : OwnX w B 3 1 (.slice ra rn rc) rn (rs.map (Value.int .i64))
  qs : OwnX w B 34 2 (.slice qa qn qc) qn (celW q)
theorem LockOwn.later {w w' : World} {B : Nat} {rs : List Int} {q : Waits} {ra qa : Option Addr} {rn rc qn qc : Nat} (h : LockOwn w B rs q ra qa rn rc qn qc) (hb : Below w.heap.size w w') : LockOwn w' B rs q ra qa rn rc qn qc := ⟨h.rlen, h.qlen, h.rs.later hb, h.qs.later hb⟩
theorem LockOwn.in {w : World} {B : Nat} {rs : List Int} {q : Waits} {ra qa : Option Addr} {rn rc qn qc : Nat} (h : LockOwn w B rs q ra qa rn rc qn qc) (h1 : rn ≤ 1000000) (h2 : qn ≤ 1000000) : LockIn w rs q ra qa rn qn := ⟨h.rlen, h.qlen, h.rs.cellsAt, h.qs.cellsAt, h1, h2⟩

set_option maxRecDepth 100000 in
set_option maxHeartbeats 2000000 in
theorem twin_any (W : Int) (rs : List Int) (q : Waits) (ra qa : Option Addr) (rn rc qn qc : Nat) (w : World) (h : LockIn w rs q ra qa rn qn) :
    Calls Try.prog 30 #[.agg #[.int .i64 W, .slice ra rn rc, .slice qa qn qc]] w fun e w' =>
      ∃ a1 c1 a2 c2, e = .returned (.agg #[.int .i64 W, .slice a1 rn c1, .slice a2 qn c2]) ∧ LockOwn w' w.heap.size rs q a1 a2 rn c1 qn c2 ∧ Below w.heap.size w w' := by
  have hrm := h.rmax
  have hqm := h.qmax
  have H_h := Box.mk h
  clear h
  go_enter Try.func30, Try.ntmps30
  have hb0 := Below.refl w.heap.size w
  go_wp2_with fail
  refine wp_gen fun w1 hc1 => ?_
  have hb1 : Below w.heap.size w w1 := bchain (by repeat' (first | with_reducible exact hb0 | with_reducible refine Below.drew ?_ | with_reducible refine below_drewN ?_ _ | with_reducible refine Below.alloc ?_ (by have := hb0.size; first | (simp; done) | (simp; omega) | omega) _ | with_reducible refine Below.setCell ?_ (by first | (simp; done) | (simp; omega) | omega) _)) hc1
  have O_0 : w1.cell? ⟨w.heap.size, 0, none⟩ = some (.int .i64 W) := (hc1.cell (p := ⟨w.heap.size, 0, none⟩) (by first | (simp; done) | (simp; omega))).trans (by first | (simp; done) | go_simp)
  have O_1 : w1.cell? ⟨w.heap.size, 1, none⟩ = some (.slice ra rn rc) := (hc1.cell (p := ⟨w.heap.size, 1, none⟩) (by first | (simp; done) | (simp; omega))).trans (by first | (simp; done) | go_simp)
  have O_2 : w1.cell? ⟨w.heap.size, 2, none⟩ = some (.slice qa qn qc) := (hc1.cell (p := ⟨w.heap.size, 2, none⟩) (by first | (simp; done) | (simp; omega))).trans (by first | (simp; done) | go_simp)
  have O_l : w.heap.size < w1.heap.size := Nat.lt_of_lt_of_le (by first | (simp; done) | (simp; omega)) hc1.size
  have R_0 : w1.cell? ⟨w.heap.size + 1, 0, none⟩ = some (.int .i64 0) := (hc1.cell (p := ⟨w.heap.size + 1, 0, none⟩) (by first | (simp; done) | (simp; omega))).trans (by first | (simp; done) | go_simp)
  have R_1 : w1.cell? ⟨w.heap.size + 1, 1, none⟩ = some (.slice none 0 0) := (hc1.cell (p := ⟨w.heap.size + 1, 1, none⟩) (by first | (simp; done) | (simp; omega))).trans (by first | (simp; done) | go_simp)
  have R_2 : w1.cell? ⟨w.heap.size + 1, 2, none⟩ = some (.slice none 0 0) := (hc1.cell (p := ⟨w.heap.size + 1, 2, none⟩) (by first | (simp; done) | (simp; omega))).trans (by first | (simp; done) | go_simp)
  have R_f0 : w1.frozen? ⟨w.heap.size + 1, 0, none⟩ = false := (hc1.frozen (p := ⟨w.heap.size + 1, 0, none⟩) (by first | (simp; done) | (simp; omega))).trans (by first | (simp; done) | go_simp)
  have R_f1 : w1.frozen? ⟨w.heap.size + 1, 1, none⟩ = false := (hc1.frozen (p := ⟨w.heap.size + 1, 1, none⟩) (by first | (simp; done) | (simp; omega))).trans (by first | (simp; done) | go_simp)
  have R_f2 : w1.frozen? ⟨w.heap.size + 1, 2, none⟩ = false := (hc1.frozen (p := ⟨w.heap.size + 1, 2, none⟩) (by first | (simp; done) | (simp; omega))).trans (by first | (simp; done) | go_simp)
  have R_l : w.heap.size + 1 < w1.heap.size := Nat.lt_of_lt_of_le (by first | (simp; done) | (simp; omega)) hc1.size
  have KO_0 := cell_on O_0
  have KO_1 := cell_on O_1
  have KO_2 := cell_on O_2
  have KR_0 := cell_on R_0
  have KR_1 := cell_on R_1
  have KR_2 := cell_on R_2
  have H_h1 := Box.mk (H_h.out.later hb1)
  have zR1 := R_l
  refine wp_region_on_spec_tail [(4, [], fun _ => VOwn w1.heap.size 3 1 rn (rs.map (Value.int .i64))), (7, [], fun _ => VOwn w1.heap.size 34 2 qn (celW q))] [4, 7] [] [(4, []), (7, [])] 9 (by kernel_rfl) (by kernel_rfl) rfl (by kernel_rfl) rfl (by kernel_rfl) ⟨fun _ => VOwn.last, fun _ => VOwn.last, trivial⟩ ?_
  try simp only [List.take_succ_cons, List.take_zero, List.drop_succ_cons, List.drop_zero]
  refine wpSpec_quiet 4 (by kernel_rfl) (by kernel_rfl) ?_
  simp only [List.take_succ_cons, List.take_zero, List.drop_succ_cons, List.drop_zero]
  repeat (go_big_quiet_step (fail))
  refine wpQuiet_nil ?_
  show wpSpec _ _ _ _ _ _ _ _ _ _ _
  refine wpSpec_at [] (VOwn w1.heap.size 3 1 rn (rs.map (Value.int .i64))) rfl (by first | rfl | (simp [viewS, Act.eval]; done)) rfl (by first | rfl | (simp [Region.wanted]; done)) ?_ rfl ?_
  · intro wq hq hfq
    clear hfq
    refine gives_call 38 _ _ #[.slice ra rn rc] rfl (by kernel_rfl) (by simp [Act.eval]) ((cloneI_any ra rn rc rs _ H_h.out.rlen (H_h1.out.later hq).rs (by have := H_h.out.rlen; omega)).mono ?_)
    rintro e w' ⟨a', c', rfl, ho, hb⟩
    exact ⟨_, rfl, hb, a', c', rfl, ho.mono hq.size⟩
  rintro x4 ⟨_, ⟨a4, c4, rfl, _⟩⟩
  simp only [Act.put, List.setIfInBounds_toArray, List.set_cons_succ, List.set_cons_zero]
  refine wpSpec_quiet 2 (by kernel_rfl) (by kernel_rfl) ?_
  simp only [List.take_succ_cons, List.take_zero, List.drop_succ_cons, List.drop_zero]
  repeat (go_big_quiet_step (fail))
  refine wpQuiet_nil ?_
  show wpSpec _ _ _ _ _ _ _ _ _ _ _
  refine wpSpec_at [] (VOwn w1.heap.size 34 2 qn (celW q)) rfl (by first | rfl | (simp [viewS, Act.eval]; done)) rfl (by first | rfl | (simp [Region.wanted]; done)) ?_ rfl ?_
  · intro wq hq hfq
    clear hfq
    refine gives_call 42 _ _ #[.slice qa qn qc] rfl (by kernel_rfl) (by simp [Act.eval]) ((cloneW_any qa qn qc q _ H_h.out.qlen (H_h1.out.later hq).qs (by have := H_h.out.qlen; omega)).mono ?_)
    rintro e w' ⟨a', c', rfl, ho, hb⟩
    exact ⟨_, rfl, hb, a', c', rfl, ho.mono hq.size⟩
  rintro x7 ⟨_, ⟨a7, c7, rfl, _⟩⟩
  simp only [Act.put, List.setIfInBounds_toArray, List.set_cons_succ, List.set_cons_zero]
  refine wpSpec_quiet 1 (by kernel_rfl) (by kernel_rfl) ?_
  simp only [List.take_succ_cons, List.take_zero, List.drop_succ_cons, List.drop_zero]
  repeat (go_big_quiet_step (fail))
  refine wpQuiet_nil ?_
  show wpSpec _ _ _ _ _ _ _ _ _ _ _
  intro w2 hc2 hfq
  have f4 := hfq 4
  have f7 := hfq 7
  simp only [upd, Nat.beq, cond] at f4 f7
  clear hfq
  clear KO_0 KO_1 KO_2 KR_0 KR_1 KR_2
  have hb2 : Below w.heap.size w w2 := bchain (by repeat' (first | with_reducible exact hb1 | with_reducible refine Below.drew ?_ | with_reducible refine below_drewN ?_ _ | with_reducible refine Below.alloc ?_ (by have := hb1.size; first | (simp; done) | (simp; omega) | omega) _ | with_reducible refine Below.setCell ?_ (by first | (simp; done) | (simp; omega) | omega) _)) hc2
  have hst2 : Below w1.heap.size w1 w2 := bchain (by repeat' (first | with_reducible exact Below.refl _ _ | with_reducible refine Below.drew ?_ | with_reducible refine below_drewN ?_ _ | with_reducible refine Below.alloc ?_ (by first | (simp; done) | (simp; omega) | omega) _ | with_reducible refine Below.setCell ?_ (by first | (simp; done) | (simp; omega) | omega) _)) hc2
  replace O_0 := cell_later hst2 O_0
  replace O_1 := cell_later hst2 O_1
  replace O_2 := cell_later hst2 O_2
  replace O_l := Nat.lt_of_lt_of_le O_l hst2.size
  replace R_0 := cell_later hst2 R_0
  replace R_1 := cell_later hst2 R_1
  replace R_2 := cell_later hst2 R_2
  replace R_f0 := frozen_later hst2 R_l R_f0
  replace R_f1 := frozen_later hst2 R_l R_f1
  replace R_f2 := frozen_later hst2 R_l R_f2
  replace R_l := Nat.lt_of_lt_of_le R_l hst2.size
  clear hst2
  obtain ⟨a4', c4', e4, k4⟩ := f4
  cases e4
  obtain ⟨a7', c7', e7, k7⟩ := f7
  cases e7
  go_wp2_with fail
  refine bodyPost_ret (v := .agg #[.int .i64 W, .slice a4 rn c4, .slice a7 qn c7]) (by simp [results, Try.results30, go_sem, *]) rfl ⟨a4, c4, a7, c7, rfl, ⟨H_h.out.rlen, H_h.out.qlen, ?_, ?_⟩, ?_⟩
  · exact ((((k4.setCell (by simp; omega) _).setCell (by simp; omega) _).setCell (by simp; omega) _)).mono (by omega)
  · exact ((((k7.setCell (by simp; omega) _).setCell (by simp; omega) _).setCell (by simp; omega) _)).mono (by omega)
  · exact (by repeat' (first | with_reducible exact hb2 | with_reducible refine Below.drew ?_ | with_reducible refine below_drewN ?_ _ | with_reducible refine Below.alloc ?_ (by have := hb2.size; first | (simp; done) | (simp; omega) | omega) _ | with_reducible refine Below.setCell ?_ (by first | (simp; done) | (simp; omega) | omega) _))

end Go.Proofs.Ytnkbbfeaodppgaa
