/- The package braidref14: its small functions. -/
import Derived.Test.YtnkbbfeaodppgaaLockTwin
namespace Go.Proofs.Ytnkbbfeaodppgaa
set_option linter.unusedSimpArgs false
set_option linter.unusedVariables false
set_option linter.unnecessarySimpa false
open Go.RowKit

def greatB (rn qn : Nat) : Bool := decide (100 < rn) || decide (100 < qn)
theorem great_any (W : Int) (ra qa : Option Addr) (rn rc qn qc : Nat) (w : World) :
    Calls Try.prog 9 #[.agg #[.int .i64 W, .slice ra rn rc, .slice qa qn qc]] w fun e w' =>
      e = .returned (.bool (greatB rn qn)) ∧ Below w.heap.size w w' := by
  by_cases h1 : 100 < rn
  · have hz : greatB rn qn = true := by simp [greatB, h1]
    have h1I : (100 : Int) < (rn : Int) := by omega
    rw [hz]; clear hz
    go_enter Try.func9, Try.ntmps9
    have hb0 := Below.refl w.heap.size w
    go_wp2_with fail
    go_ret
    exact ⟨rfl, by repeat' (first | with_reducible exact hb0 | with_reducible refine Below.drew ?_ | with_reducible refine below_drewN ?_ _ | with_reducible refine Below.alloc ?_ (by have := hb0.size; first | (simp; done) | (simp; omega) | omega) _ | with_reducible refine Below.setCell ?_ (by first | (simp; done) | (simp; omega) | omega) _)⟩
  · have h1I : (rn : Int) ≤ 100 := by omega
    by_cases h2 : 100 < qn
    · have hz : greatB rn qn = true := by simp [greatB, h2]
      have h2I : (100 : Int) < (qn : Int) := by omega
      rw [hz]; clear hz
      go_enter Try.func9, Try.ntmps9
      have hb0 := Below.refl w.heap.size w
      go_wp2_with fail
      go_ret
      exact ⟨rfl, by repeat' (first | with_reducible exact hb0 | with_reducible refine Below.drew ?_ | with_reducible refine below_drewN ?_ _ | with_reducible refine Below.alloc ?_ (by have := hb0.size; first | (simp; done) | (simp; omega) | omega) _ | with_reducible refine Below.setCell ?_ (by first | (simp; done) | (simp; omega) | omega) _)⟩
    · have hz : greatB rn qn = false := by simp [greatB]; omega
      have h2I : (qn : Int) ≤ 100 := by omega
      rw [hz]; clear hz
      go_enter Try.func9, Try.ntmps9
      have hb0 := Below.refl w.heap.size w
      go_wp2_with fail
      go_ret
      exact ⟨by simp; omega, (by repeat' (first | with_reducible exact hb0 | with_reducible refine Below.drew ?_ | with_reducible refine below_drewN ?_ _ | with_reducible refine Below.alloc ?_ (by have := hb0.size; first | (simp; done) | (simp; omega) | omega) _ | with_reducible refine Below.setCell ?_ (by first | (simp; done) | (simp; omega) | omega) _))⟩

set_option maxHeartbeats 1000000 in
theorem may_any (W : Int) (rs qs : Value) (ra : Option Addr) (rn rc : Nat) (hr : rs = .slice ra rn rc) (t : Int) (b : Bool) (w : World) :
    Calls Try.prog 27 #[.agg #[.int .i64 W, rs, qs], .agg #[.int .i64 t, .bool b]] w fun e w' =>
      e = .returned (.bool (W == -1 && (!b || rn == 0))) ∧ Below w.heap.size w w' := by
  subst hr
  by_cases hW : W = -1
  · subst hW
    cases b
    · go_enter Try.func27, Try.ntmps27
      have hb0 := Below.refl w.heap.size w
      go_wp2_with fail
      go_ret
      exact ⟨by simp, (by repeat' (first | with_reducible exact hb0 | with_reducible refine Below.drew ?_ | with_reducible refine below_drewN ?_ _ | with_reducible refine Below.alloc ?_ (by have := hb0.size; first | (simp; done) | (simp; omega) | omega) _ | with_reducible refine Below.setCell ?_ (by first | (simp; done) | (simp; omega) | omega) _))⟩
    · by_cases h0 : rn = 0
      · subst h0
        go_enter Try.func27, Try.ntmps27
        have hb0 := Below.refl w.heap.size w
        go_wp2_with fail
        go_ret
        exact ⟨by simp, (by repeat' (first | with_reducible exact hb0 | with_reducible refine Below.drew ?_ | with_reducible refine below_drewN ?_ _ | with_reducible refine Below.alloc ?_ (by have := hb0.size; first | (simp; done) | (simp; omega) | omega) _ | with_reducible refine Below.setCell ?_ (by first | (simp; done) | (simp; omega) | omega) _))⟩
      · have h1 : ((rn : Int) == 0) = false := by simp; omega
        have h2 : (rn == 0) = false := by simpa using h0
        rw [h2]
        clear h0 h2
        go_enter Try.func27, Try.ntmps27
        have hb0 := Below.refl w.heap.size w
        go_wp2_with fail
        go_ret
        exact ⟨by simp, (by repeat' (first | with_reducible exact hb0 | with_reducible refine Below.drew ?_ | with_reducible refine below_drewN ?_ _ | with_reducible refine Below.alloc ?_ (by have := hb0.size; first | (simp; done) | (simp; omega) | omega) _ | with_reducible refine Below.setCell ?_ (by first | (simp; done) | (simp; omega) | omega) _))⟩
  · have h1 : (W == -1) = false := by simpa using hW
    have h2 : (W != -1) = true := by simp [bne, h1]
    rw [h1]
    clear hW
    go_enter Try.func27, Try.ntmps27
    have hb0 := Below.refl w.heap.size w
    go_wp2_with fail
    go_ret
    exact ⟨by simp, (by repeat' (first | with_reducible exact hb0 | with_reducible refine Below.drew ?_ | with_reducible refine below_drewN ?_ _ | with_reducible refine Below.alloc ?_ (by have := hb0.size; first | (simp; done) | (simp; omega) | omega) _ | with_reducible refine Below.setCell ?_ (by first | (simp; done) | (simp; omega) | omega) _))⟩

theorem rNew_any (w : World) :
    Calls Try.prog 26 #[] w fun e w' =>
      e = .returned (.agg #[.int .i64 (-1), .slice none 0 0, .slice none 0 0]) ∧ Below w.heap.size w w' := by
  go_enter Try.func26, Try.ntmps26
  have hb0 := Below.refl w.heap.size w
  go_wp2_with fail
  refine bodyPost_ret (v := .agg #[.int .i64 (-1), .slice none 0 0, .slice none 0 0]) (by simp [results, Try.results26, go_sem, *]) rfl ⟨rfl, ?_⟩
  exact (by repeat' (first | with_reducible exact hb0 | with_reducible refine Below.drew ?_ | with_reducible refine below_drewN ?_ _ | with_reducible refine Below.alloc ?_ (by have := hb0.size; first | (simp; done) | (simp; omega) | omega) _ | with_reducible refine Below.setCell ?_ (by first | (simp; done) | (simp; omega) | omega) _))

set_option maxHeartbeats 1000000 in
theorem rat_any (W t : Int) (rs : List Int) (q : Waits) (ra qa : Option Addr) (rn rc qn qc : Nat) (w : World) (h : LockIn w rs q ra qa rn qn) :
    Calls Try.prog 34 #[.agg #[.int .i64 W, .slice ra rn rc, .slice qa qn qc], .int .i64 t] w fun e w' =>
      e = .returned (.int .i64 (idxW q t)) ∧ Below w.heap.size w w' := by
  have hqm := h.qmax
  have hlm : qn = (q.map (·.1)).length := by rw [List.length_map]; exact h.qlen
  have H_h := Box.mk h
  have H_hlm := Box.mk hlm
  clear h hlm
  go_enter Try.func34, Try.ntmps34
  have hb0 := Below.refl w.heap.size w
  go_wp2_with fail
  go_loopw [5] (fun i wr => ∃ k : Nat, k ≤ qn ∧ i = .int .i64 k ∧ wr = w.alloc (.cells #[.int .i64 W, .slice ra rn rc, .slice qa qn qc] 25) ∧ Box (∀ j, j < k → tk q j ≠ t)) (fun i _ => qn - (intOf i).toNat)
  case atStart => exact ⟨0, Nat.zero_le _, rfl, rfl, Box.mk (fun j hj => by omega)⟩
  case round =>
    obtain ⟨k, hk, rfl, rfl, Hall⟩ := hrel
    have hbw := below_alloc w (.cells #[.int .i64 W, .slice ra rn rc, .slice qa qn qc] 25)
    by_cases hlt : k < qn
    · have hlt' : (k : Int) < (qn : Int) := by omega
      have hkl : k < q.length := by have := H_h.out.qlen; omega
      obtain ⟨b, oo, rfl, h1, h2, hcell⟩ := (H_h.out.later hbw).qs.waits (by omega)
      obtain ⟨c0, _⟩ := hcell k hkl
      clear hcell
      obtain ⟨x, hxx⟩ : ∃ x, tk q k = x := ⟨_, rfl⟩
      rw [hxx] at c0
      by_cases hxv : x = t
      · have he : idxW q t = k := idxN_at (by have := H_hlm.out; omega) (by rw [tk_map, hxx]; exact hxv) (fun j hj => by rw [tk_map]; exact Hall.out j hj)
        subst hxv
        have H_he := Box.mk he
        have H_hxx := Box.mk hxx
        have H_hkl := Box.mk hkl
        clear he hxx hkl
        clear Hall
        go_wp2_with fail
        go_ret
        exact ⟨ret_int H_he.out.symm, hbw⟩
      · have hp : (x == t) = false := beq_eq_false_iff_ne.2 hxv
        have hall : Box (∀ j, j < k + 1 → tk q j ≠ t) := Box.mk fun j hj => by
          by_cases hjk : j < k
          · exact Hall.out j hjk
          · obtain rfl : j = k := by omega
            rw [hxx]; exact hxv
        clear hxv
        have H_hxx := Box.mk hxx
        have H_hkl := Box.mk hkl
        clear hxx hkl
        clear Hall
        go_wp2_with fail
        go_roundw
        case rel => exact ⟨k + 1, by omega, by go_num, by first | rfl | trivial, hall⟩
        case measure => simp [intOf]; omega
    · have hge : (qn : Int) ≤ (k : Int) := by omega
      have he : idxW q t = -1 := idxN_none fun j hj => by rw [tk_map]; exact Hall.out j (by have := H_hlm.out; omega)
      have H_he := Box.mk he
      clear he
      clear Hall
      go_wp2_with fail
      go_ret
      exact ⟨ret_int H_he.out.symm, hbw⟩

set_option maxHeartbeats 1000000 in
theorem rhas_any (W t : Int) (rs : List Int) (q : Waits) (ra qa : Option Addr) (rn rc qn qc : Nat) (w : World) (h : LockIn w rs q ra qa rn qn) :
    Calls Try.prog 14 #[.agg #[.int .i64 W, .slice ra rn rc, .slice qa qn qc], .int .i64 t] w fun e w' =>
      e = .returned (.int .i64 (hasZ W rs q t)) ∧ Below w.heap.size w w' := by
  have hrm := h.rmax
  have hx := idxW_has q t
  obtain ⟨z, hz⟩ : ∃ z, idxW q t = z := ⟨_, rfl⟩
  rw [hz] at hx
  obtain ⟨y, hy⟩ : ∃ y, hasZ W rs q t = y := ⟨_, rfl⟩
  rw [hy]
  by_cases hW : W = t
  · have hr : 2 = y := by rw [← hy]; unfold hasZ; rw [if_pos hW]
    have hb : (W == t) = true := beq_iff_eq.2 hW
    clear hW
    have H_hr := Box.mk hr
    have H_hx := Box.mk hx
    have H_hz := Box.mk hz
    have H_h := Box.mk h
    have H_hy := Box.mk hy
    clear hr hx hz h hy
    go_enter Try.func14, Try.ntmps14
    have hb0 := Below.refl w.heap.size w
    go_wp2_with fail
    go_ret
    exact ⟨ret_int H_hr.out, (by repeat' (first | with_reducible exact hb0 | with_reducible refine Below.drew ?_ | with_reducible refine below_drewN ?_ _ | with_reducible refine Below.alloc ?_ (by have := hb0.size; first | (simp; done) | (simp; omega) | omega) _ | with_reducible refine Below.setCell ?_ (by first | (simp; done) | (simp; omega) | omega) _))⟩
  · have hb : (W == t) = false := beq_eq_false_iff_ne.2 hW
    have hWb := Box.mk hW
    clear hW
    have hA := fun W' h => rat_any W t rs q ra qa rn rc qn qc W' h
    rw [hz] at hA
    have H_h := Box.mk h
    have H_hx := Box.mk hx
    have H_hz := Box.mk hz
    have H_hy := Box.mk hy
    have H_hA := Box.mk hA
    clear h hx hz hy hA
    go_enter Try.func14, Try.ntmps14
    have hb0 := Below.refl w.heap.size w
    go_wp2_with fail
    go_loopw [5] (fun i wr => ∃ k : Nat, k ≤ rn ∧ i = .int .i64 k ∧ wr = w.alloc (.cells #[.int .i64 W, .slice ra rn rc, .slice qa qn qc] 25) ∧ Box (∀ j, j < k → rs[j]?.getD 0 ≠ t)) (fun i _ => rn - (intOf i).toNat)
    case atStart => exact ⟨0, Nat.zero_le _, rfl, rfl, Box.mk (fun j hj => by omega)⟩
    case round =>
      obtain ⟨k, hk, rfl, rfl, Hall⟩ := hrel
      have hbw := below_alloc w (.cells #[.int .i64 W, .slice ra rn rc, .slice qa qn qc] 25)
      by_cases hlt : k < rn
      · have hlt' : (k : Int) < (rn : Int) := by omega
        have hkl : k < rs.length := by have := H_h.out.rlen; omega
        obtain ⟨b, oo, rfl, cl⟩ := (H_h.out.later hbw).rs.int (by omega)
        replace cl := cl k hkl
        obtain ⟨x, hxx⟩ : ∃ x, rs[k]?.getD 0 = x := ⟨_, rfl⟩
        rw [hxx] at cl
        by_cases hxv : x = t
        · have hr : 1 = y := by
            rw [← H_hy.out]; unfold hasZ
            rw [if_neg hWb.out, if_pos]
            rw [List.contains_iff_mem, ← hxv, ← hxx, List.getElem?_eq_getElem hkl]
            exact List.getElem_mem hkl
          subst hxv
          have H_hr := Box.mk hr
          have H_hxx := Box.mk hxx
          have H_hkl := Box.mk hkl
          clear hr hxx hkl
          clear Hall
          go_wp2_with fail
          go_ret
          exact ⟨ret_int H_hr.out, hbw⟩
        · have hp : (x == t) = false := beq_eq_false_iff_ne.2 hxv
          have hall : Box (∀ j, j < k + 1 → rs[j]?.getD 0 ≠ t) := Box.mk fun j hj => by
            by_cases hjk : j < k
            · exact Hall.out j hjk
            · obtain rfl : j = k := by omega
              rw [hxx]; exact hxv
          clear hxv
          have H_hxx := Box.mk hxx
          have H_hkl := Box.mk hkl
          clear hxx hkl
          clear Hall
          go_wp2_with fail
          go_roundw
          case rel => exact ⟨k + 1, by omega, by go_num, by first | rfl | trivial, hall⟩
          case measure => simp [intOf]; omega
      · have hge : (rn : Int) ≤ (k : Int) := by omega
        have hcn : rs.contains t = false := by
          rw [Bool.eq_false_iff]
          intro hc
          rw [List.contains_iff_mem] at hc
          obtain ⟨j, hj, e⟩ := List.getElem_of_mem hc
          exact Hall.out j (by have := H_h.out.rlen; omega) (by rw [List.getElem?_eq_getElem hj]; exact e)
        clear Hall
        cases hq : (q.map (·.1)).contains t with
        | true =>
          have hr : -1 = y := by rw [← H_hy.out]; unfold hasZ; rw [if_neg hWb.out, hcn, hq]; rfl
          have h0 : 0 ≤ z := by have := H_hx.out; rw [hq] at this; simpa using this
          have H_hr := Box.mk hr
          have H_hcn := Box.mk hcn
          have H_hq := Box.mk hq
          clear hr hcn hq
          go_wp2_with fail
          with_reducible refine (H_hA.out _ (H_h.out.later hbw)).mono ?_
          rintro e w1 ⟨rfl, hc1⟩
          have hb1 := bchain hbw hc1
          go_wp2_with fail
          go_ret
          exact ⟨ret_int H_hr.out, hb1⟩
        | false =>
          have hr : 0 = y := by rw [← H_hy.out]; unfold hasZ; rw [if_neg hWb.out, hcn, hq]; rfl
          have h0 : z < 0 := by have := H_hx.out; rw [hq] at this; simpa using this
          have H_hr := Box.mk hr
          have H_hcn := Box.mk hcn
          have H_hq := Box.mk hq
          clear hr hcn hq
          go_wp2_with fail
          with_reducible refine (H_hA.out _ (H_h.out.later hbw)).mono ?_
          rintro e w1 ⟨rfl, hc1⟩
          have hb1 := bchain hbw hc1
          go_wp2_with fail
          go_ret
          exact ⟨ret_int H_hr.out, hb1⟩

end Go.Proofs.Ytnkbbfeaodppgaa
