/- The package lock: holds, twin, Check. -/
import Derived.Test.YtnkbbfeaodppgaaLockWaits
namespace Go.Proofs.Ytnkbbfeaodppgaa
set_option linter.unusedSimpArgs false
set_option linter.unusedVariables false
set_option linter.unnecessarySimpa false
open Go.RowKit

theorem idxW_has (q : Waits) (t : Int) : decide (0 ≤ idxW q t) = (q.map (·.1)).contains t := idxN_any _ _
set_option maxHeartbeats 1000000 in
theorem holds_any (W t : Int) (rs : List Int) (q : Waits) (ra qa : Option Addr) (rn rc qn qc : Nat) (w : World) (h : LockIn w rs q ra qa rn qn) :
    Calls Try.prog 29 #[.agg #[.int .i64 W, .slice ra rn rc, .slice qa qn qc], .int .i64 t] w fun e w' =>
      e = .returned (.int .i64 (hasZ W rs q t)) ∧ Below w.heap.size w w' := by
  have hrm := h.rmax
  have hx := idxW_has q t
  obtain ⟨z, hz⟩ : ∃ z, idxW q t = z := ⟨_, rfl⟩
  rw [hz] at hx
  by_cases hW : W = t
  · have hr : hasZ W rs q t = 2 := by unfold hasZ; rw [if_pos hW]
    have hb : (W == t) = true := beq_iff_eq.2 hW
    rw [hr]
    clear hW
    have H_hr := Box.mk hr
    have H_hx := Box.mk hx
    have H_hz := Box.mk hz
    have H_h := Box.mk h
    clear hr hx hz h
    go_enter Try.func29, Try.ntmps29
    have hb0 := Below.refl w.heap.size w
    go_wp2_with fail
    go_ret
    exact ⟨rfl, by repeat' (first | with_reducible exact hb0 | with_reducible refine Below.drew ?_ | with_reducible refine below_drewN ?_ _ | with_reducible refine Below.alloc ?_ (by have := hb0.size; first | (simp; done) | (simp; omega) | omega) _ | with_reducible refine Below.setCell ?_ (by first | (simp; done) | (simp; omega) | omega) _)⟩
  · have hb : (W == t) = false := beq_eq_false_iff_ne.2 hW
    cases hc : rs.contains t with
    | true =>
      have hr : hasZ W rs q t = 1 := by unfold hasZ; rw [if_neg hW, hc]; rfl
      rw [hr]
      clear hW
      have H_hr := Box.mk hr
      have H_hx := Box.mk hx
      have H_hz := Box.mk hz
      have H_h := Box.mk h
      have H_hc := Box.mk hc
      clear hr hx hz h hc
      go_enter Try.func29, Try.ntmps29
      have hb0 := Below.refl w.heap.size w
      go_wp2_with fail
      with_reducible refine (containsI_any rs t ra rn rc _ H_h.out.rlen (H_h.out.later (below_alloc _ _)).rs (by unfold maxLen; omega)).mono ?_
      rintro e w1 ⟨rfl, hc1⟩
      have hb1 : Below w.heap.size w w1 := bchain (by repeat' (first | with_reducible exact hb0 | with_reducible refine Below.drew ?_ | with_reducible refine below_drewN ?_ _ | with_reducible refine Below.alloc ?_ (by have := hb0.size; first | (simp; done) | (simp; omega) | omega) _ | with_reducible refine Below.setCell ?_ (by first | (simp; done) | (simp; omega) | omega) _)) hc1
      have O_0 : w1.cell? ⟨w.heap.size, 0, none⟩ = some (.int .i64 W) := (hc1.cell (p := ⟨w.heap.size, 0, none⟩) (by first | (simp; done) | (simp; omega))).trans (by first | (simp; done) | go_simp)
      have O_1 : w1.cell? ⟨w.heap.size, 1, none⟩ = some (.slice ra rn rc) := (hc1.cell (p := ⟨w.heap.size, 1, none⟩) (by first | (simp; done) | (simp; omega))).trans (by first | (simp; done) | go_simp)
      have O_2 : w1.cell? ⟨w.heap.size, 2, none⟩ = some (.slice qa qn qc) := (hc1.cell (p := ⟨w.heap.size, 2, none⟩) (by first | (simp; done) | (simp; omega))).trans (by first | (simp; done) | go_simp)
      have O_l : w.heap.size < w1.heap.size := Nat.lt_of_lt_of_le (by first | (simp; done) | (simp; omega)) hc1.size
      clear hc1 hb0
      rw [H_hc.out]
      go_wp2_with fail
      go_ret
      exact ⟨rfl, by repeat' (first | with_reducible exact hb1 | with_reducible refine Below.drew ?_ | with_reducible refine below_drewN ?_ _ | with_reducible refine Below.alloc ?_ (by have := hb1.size; first | (simp; done) | (simp; omega) | omega) _ | with_reducible refine Below.setCell ?_ (by first | (simp; done) | (simp; omega) | omega) _)⟩
    | false =>
      cases hq : (q.map (·.1)).contains t with
      | true =>
        have hr : hasZ W rs q t = -1 := by unfold hasZ; rw [if_neg hW, hc, hq]; rfl
        have h0 : 0 ≤ z := by rw [hq] at hx; simpa using hx
        rw [hr]
        clear hW hx
        have H_hr := Box.mk hr
        have H_hz := Box.mk hz
        have H_h := Box.mk h
        have H_hc := Box.mk hc
        have H_hq := Box.mk hq
        clear hr hz h hc hq
        go_enter Try.func29, Try.ntmps29
        have hb0 := Below.refl w.heap.size w
        go_wp2_with fail
        with_reducible refine (containsI_any rs t ra rn rc _ H_h.out.rlen (H_h.out.later (below_alloc _ _)).rs (by unfold maxLen; omega)).mono ?_
        rintro e w1 ⟨rfl, hc1⟩
        have hb1 : Below w.heap.size w w1 := bchain (by repeat' (first | with_reducible exact hb0 | with_reducible refine Below.drew ?_ | with_reducible refine below_drewN ?_ _ | with_reducible refine Below.alloc ?_ (by have := hb0.size; first | (simp; done) | (simp; omega) | omega) _ | with_reducible refine Below.setCell ?_ (by first | (simp; done) | (simp; omega) | omega) _)) hc1
        have O_0 : w1.cell? ⟨w.heap.size, 0, none⟩ = some (.int .i64 W) := (hc1.cell (p := ⟨w.heap.size, 0, none⟩) (by first | (simp; done) | (simp; omega))).trans (by first | (simp; done) | go_simp)
        have O_1 : w1.cell? ⟨w.heap.size, 1, none⟩ = some (.slice ra rn rc) := (hc1.cell (p := ⟨w.heap.size, 1, none⟩) (by first | (simp; done) | (simp; omega))).trans (by first | (simp; done) | go_simp)
        have O_2 : w1.cell? ⟨w.heap.size, 2, none⟩ = some (.slice qa qn qc) := (hc1.cell (p := ⟨w.heap.size, 2, none⟩) (by first | (simp; done) | (simp; omega))).trans (by first | (simp; done) | go_simp)
        have O_l : w.heap.size < w1.heap.size := Nat.lt_of_lt_of_le (by first | (simp; done) | (simp; omega)) hc1.size
        clear hc1 hb0
        rw [H_hc.out]
        go_wp2_with fail
        with_reducible refine (waits_any W t rs q ra qa rn rc qn qc _ (H_h.out.later hb1)).mono ?_
        rintro e w2 ⟨rfl, hc2⟩
        have hb2 : Below w.heap.size w w2 := bchain (by repeat' (first | with_reducible exact hb1 | with_reducible refine Below.drew ?_ | with_reducible refine below_drewN ?_ _ | with_reducible refine Below.alloc ?_ (by have := hb1.size; first | (simp; done) | (simp; omega) | omega) _ | with_reducible refine Below.setCell ?_ (by first | (simp; done) | (simp; omega) | omega) _)) hc2
        have hst2 : Below w1.heap.size w1 w2 := bchain (by repeat' (first | with_reducible exact Below.refl _ _ | with_reducible refine Below.drew ?_ | with_reducible refine below_drewN ?_ _ | with_reducible refine Below.alloc ?_ (by first | (simp; done) | (simp; omega) | omega) _ | with_reducible refine Below.setCell ?_ (by first | (simp; done) | (simp; omega) | omega) _)) hc2
        replace O_0 := cell_later hst2 O_0
        replace O_1 := cell_later hst2 O_1
        replace O_2 := cell_later hst2 O_2
        replace O_l := Nat.lt_of_lt_of_le O_l hst2.size
        clear hst2
        clear hc2 hb1
        rw [H_hz.out]
        go_wp2_with fail
        go_ret
        exact ⟨rfl, by repeat' (first | with_reducible exact hb2 | with_reducible refine Below.drew ?_ | with_reducible refine below_drewN ?_ _ | with_reducible refine Below.alloc ?_ (by have := hb2.size; first | (simp; done) | (simp; omega) | omega) _ | with_reducible refine Below.setCell ?_ (by first | (simp; done) | (simp; omega) | omega) _)⟩
      | false =>
        have hr : hasZ W rs q t = 0 := by unfold hasZ; rw [if_neg hW, hc, hq]; rfl
        have h0 : z < 0 := by rw [hq] at hx; simpa using hx
        rw [hr]
        clear hW hx
        have H_hr := Box.mk hr
        have H_hz := Box.mk hz
        have H_h := Box.mk h
        have H_hc := Box.mk hc
        have H_hq := Box.mk hq
        clear hr hz h hc hq
        go_enter Try.func29, Try.ntmps29
        have hb0 := Below.refl w.heap.size w
        go_wp2_with fail
        with_reducible refine (containsI_any rs t ra rn rc _ H_h.out.rlen (H_h.out.later (below_alloc _ _)).rs (by unfold maxLen; omega)).mono ?_
        rintro e w1 ⟨rfl, hc1⟩
        have hb1 : Below w.heap.size w w1 := bchain (by repeat' (first | with_reducible exact hb0 | with_reducible refine Below.drew ?_ | with_reducible refine below_drewN ?_ _ | with_reducible refine Below.alloc ?_ (by have := hb0.size; first | (simp; done) | (simp; omega) | omega) _ | with_reducible refine Below.setCell ?_ (by first | (simp; done) | (simp; omega) | omega) _)) hc1
        have O_0 : w1.cell? ⟨w.heap.size, 0, none⟩ = some (.int .i64 W) := (hc1.cell (p := ⟨w.heap.size, 0, none⟩) (by first | (simp; done) | (simp; omega))).trans (by first | (simp; done) | go_simp)
        have O_1 : w1.cell? ⟨w.heap.size, 1, none⟩ = some (.slice ra rn rc) := (hc1.cell (p := ⟨w.heap.size, 1, none⟩) (by first | (simp; done) | (simp; omega))).trans (by first | (simp; done) | go_simp)
        have O_2 : w1.cell? ⟨w.heap.size, 2, none⟩ = some (.slice qa qn qc) := (hc1.cell (p := ⟨w.heap.size, 2, none⟩) (by first | (simp; done) | (simp; omega))).trans (by first | (simp; done) | go_simp)
        have O_l : w.heap.size < w1.heap.size := Nat.lt_of_lt_of_le (by first | (simp; done) | (simp; omega)) hc1.size
        clear hc1 hb0
        rw [H_hc.out]
        go_wp2_with fail
        with_reducible refine (waits_any W t rs q ra qa rn rc qn qc _ (H_h.out.later hb1)).mono ?_
        rintro e w2 ⟨rfl, hc2⟩
        have hb2 : Below w.heap.size w w2 := bchain (by repeat' (first | with_reducible exact hb1 | with_reducible refine Below.drew ?_ | with_reducible refine below_drewN ?_ _ | with_reducible refine Below.alloc ?_ (by have := hb1.size; first | (simp; done) | (simp; omega) | omega) _ | with_reducible refine Below.setCell ?_ (by first | (simp; done) | (simp; omega) | omega) _)) hc2
        have hst2 : Below w1.heap.size w1 w2 := bchain (by repeat' (first | with_reducible exact Below.refl _ _ | with_reducible refine Below.drew ?_ | with_reducible refine below_drewN ?_ _ | with_reducible refine Below.alloc ?_ (by first | (simp; done) | (simp; omega) | omega) _ | with_reducible refine Below.setCell ?_ (by first | (simp; done) | (simp; omega) | omega) _)) hc2
        replace O_0 := cell_later hst2 O_0
        replace O_1 := cell_later hst2 O_1
        replace O_2 := cell_later hst2 O_2
        replace O_l := Nat.lt_of_lt_of_le O_l hst2.size
        clear hst2
        clear hc2 hb1
        rw [H_hz.out]
        go_wp2_with fail
        go_ret
        exact ⟨rfl, by repeat' (first | with_reducible exact hb2 | with_reducible refine Below.drew ?_ | with_reducible refine below_drewN ?_ _ | with_reducible refine Below.alloc ?_ (by have := hb2.size; first | (simp; done) | (simp; omega) | omega) _ | with_reducible refine Below.setCell ?_ (by first | (simp; done) | (simp; omega) | omega) _)⟩

def rsBad (rs : List Int) (i : Nat) : Bool := !taskB (rs[i]?.getD 0) || (decide (0 < i) && decide (rs[i]?.getD 0 ≤ rs[i - 1]?.getD 0))
def rsOk (rs : List Int) : Bool := (List.range rs.length).all fun i => !rsBad rs i
def freshB : List Int → Waits → Bool
  | _, [] => true
  | seen, w :: r => taskB w.1 && (!seen.contains w.1 && freshB (seen ++ [w.1]) r)
def seenL (W : Int) (rs : List Int) : List Int := if W = -1 then rs else rs ++ [W]
/-- The error of a lock. -/
def lockErr (W : Int) (rs : List Int) (q : Waits) : Int :=
  if rsOk rs = false then 8 else if W ≠ -1 ∧ (taskB W = false ∨ 0 < rs.length) then 8 else if freshB (seenL W rs) q = false then 8 else if 0 < q.length ∧ canB W rs (md q 0) = true then 8 else 0
theorem rsOk_bad {rs : List Int} {k : Nat} (hk : k < rs.length) (h : rsBad rs k = true) : rsOk rs = false := by
  unfold rsOk
  rw [List.all_eq_false]
  exact ⟨k, List.mem_range.2 hk, by rw [h]; decide⟩
theorem rsOk_good {rs : List Int} (h : ∀ j, j < rs.length → rsBad rs j = false) : rsOk rs = true := by
  unfold rsOk
  rw [List.all_eq_true]
  intro j hj
  rw [h j (List.mem_range.1 hj)]
  rfl
theorem err_rs {W : Int} {rs : List Int} {q : Waits} (h : rsOk rs = false) : lockErr W rs q = 8 := by unfold lockErr; rw [if_pos h]
theorem err_w {W : Int} {rs : List Int} {q : Waits} (h : W ≠ -1 ∧ (taskB W = false ∨ 0 < rs.length)) : lockErr W rs q = 8 := by
  unfold lockErr
  by_cases h1 : rsOk rs = false
  · rw [if_pos h1]
  · rw [if_neg h1, if_pos h]
theorem err_q {W : Int} {rs : List Int} {q : Waits} (h : freshB (seenL W rs) q = false) : lockErr W rs q = 8 := by
  unfold lockErr
  by_cases h1 : rsOk rs = false
  · rw [if_pos h1]
  · rw [if_neg h1]
    by_cases h2 : W ≠ -1 ∧ (taskB W = false ∨ 0 < rs.length)
    · rw [if_pos h2]
    · rw [if_neg h2, if_pos h]
theorem err_end {W : Int} {rs : List Int} {q : Waits} (h1 : rsOk rs = true) (h2 : ¬ (W ≠ -1 ∧ (taskB W = false ∨ 0 < rs.length))) (h3 : freshB (seenL W rs) q = true) : lockErr W rs q = if 0 < q.length ∧ canB W rs (md q 0) = true then 8 else 0 := by
  unfold lockErr
  rw [if_neg (by rw [h1]; decide), if_neg h2, if_neg (by rw [h3]; decide)]
theorem fresh_at {q : Waits} {k : Nat} (hk : k < q.length) (seen : List Int) : freshB seen (q.drop k) = (taskB (tk q k) && (!seen.contains (tk q k) && freshB (seen ++ [tk q k]) (q.drop (k + 1)))) := by
  rw [List.drop_eq_getElem_cons hk]
  have : tk q k = (q[k]).1 := by unfold tk; rw [List.getElem?_eq_getElem hk]; rfl
  rw [this]
  rfl

/-- Behind the loops: the last test. -/
def lastZ (W : Int) (rs : List Int) (q : Waits) : Int := if 0 < q.length ∧ canB W rs (md q 0) = true then 8 else 0

end Go.Proofs.Ytnkbbfeaodppgaa
