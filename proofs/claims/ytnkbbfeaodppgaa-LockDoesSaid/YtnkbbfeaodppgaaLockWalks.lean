/- The package lock: its small functions. -/
import Derived.Test.YtnkbbfeaodppgaaLockPlain
import Derived.Test.YtnkbbfeaodppgaaCloneI
import Derived.Test.YtnkbbfeaodppgaaFastLex
namespace Go.Proofs.Ytnkbbfeaodppgaa
set_option linter.unusedSimpArgs false
set_option linter.unusedVariables false
set_option linter.unnecessarySimpa false
open Go.RowKit

theorem task_any (t : Int) (w : World) :
    Calls Try.prog 39 #[.int .i64 t] w fun e w' =>
      e = .returned (.bool (taskB t)) ∧ w = w' := by
  by_cases h1 : 0 ≤ t
  · by_cases h2 : t < 12
    · have h : taskB t = true := by simp [taskB, h1, h2]
      rw [h]; clear h
      go_enter Try.func39, Try.ntmps39
      have hb0 := Below.refl w.heap.size w
      go_wp2_with fail
      go_ret
      exact ⟨rfl, rfl⟩
    · have h : taskB t = false := by simp [taskB, h2]
      rw [h]; clear h
      go_enter Try.func39, Try.ntmps39
      have hb0 := Below.refl w.heap.size w
      go_wp2_with fail
      go_ret
      exact ⟨rfl, rfl⟩
  · have h : taskB t = false := by simp [taskB, h1]
    rw [h]; clear h
    go_enter Try.func39, Try.ntmps39
    have hb0 := Below.refl w.heap.size w
    go_wp2_with fail
    go_ret
    exact ⟨rfl, rfl⟩

set_option maxHeartbeats 1000000 in
theorem can_any (W : Int) (rs qs : Value) (ra : Option Addr) (rn rc : Nat) (hr : rs = .slice ra rn rc) (t : Int) (b : Bool) (w : World) :
    Calls Try.prog 41 #[.agg #[.int .i64 W, rs, qs], .agg #[.int .i64 t, .bool b]] w fun e w' =>
      e = .returned (.bool (W == -1 && (!b || rn == 0))) ∧ Below w.heap.size w w' := by
  subst hr
  by_cases hW : W = -1
  · subst hW
    cases b
    · go_enter Try.func41, Try.ntmps41
      have hb0 := Below.refl w.heap.size w
      go_wp2_with fail
      go_ret
      exact ⟨by simp, (by repeat' (first | with_reducible exact hb0 | with_reducible refine Below.drew ?_ | with_reducible refine below_drewN ?_ _ | with_reducible refine Below.alloc ?_ (by have := hb0.size; first | (simp; done) | (simp; omega) | omega) _ | with_reducible refine Below.setCell ?_ (by first | (simp; done) | (simp; omega) | omega) _))⟩
    · by_cases h0 : rn = 0
      · subst h0
        go_enter Try.func41, Try.ntmps41
        have hb0 := Below.refl w.heap.size w
        go_wp2_with fail
        go_ret
        exact ⟨by simp, (by repeat' (first | with_reducible exact hb0 | with_reducible refine Below.drew ?_ | with_reducible refine below_drewN ?_ _ | with_reducible refine Below.alloc ?_ (by have := hb0.size; first | (simp; done) | (simp; omega) | omega) _ | with_reducible refine Below.setCell ?_ (by first | (simp; done) | (simp; omega) | omega) _))⟩
      · have h1 : ((rn : Int) == 0) = false := by simp; omega
        have h2 : (rn == 0) = false := by simpa using h0
        rw [h2]
        clear h0 h2
        go_enter Try.func41, Try.ntmps41
        have hb0 := Below.refl w.heap.size w
        go_wp2_with fail
        go_ret
        exact ⟨by simp, (by repeat' (first | with_reducible exact hb0 | with_reducible refine Below.drew ?_ | with_reducible refine below_drewN ?_ _ | with_reducible refine Below.alloc ?_ (by have := hb0.size; first | (simp; done) | (simp; omega) | omega) _ | with_reducible refine Below.setCell ?_ (by first | (simp; done) | (simp; omega) | omega) _))⟩
  · have h1 : (W == -1) = false := by simpa using hW
    rw [h1]
    clear hW
    go_enter Try.func41, Try.ntmps41
    have hb0 := Below.refl w.heap.size w
    go_wp2_with fail
    go_ret
    exact ⟨by simp, (by repeat' (first | with_reducible exact hb0 | with_reducible refine Below.drew ?_ | with_reducible refine below_drewN ?_ _ | with_reducible refine Below.alloc ?_ (by have := hb0.size; first | (simp; done) | (simp; omega) | omega) _ | with_reducible refine Below.setCell ?_ (by first | (simp; done) | (simp; omega) | omega) _))⟩

set_option maxHeartbeats 1000000 in
theorem indexI_any (xs : List Int) (v : Int) (a : Option Addr) (n c : Nat) (w : World) (hn : n = xs.length) (hx : CellsAt w a (xs.map (Value.int .i64))) (hml : n ≤ maxLen) :
    Calls Try.prog 48 #[.slice a n c, .int .i64 v] w fun e w' =>
      e = .returned (.int .i64 (idxN xs v)) ∧ Below w.heap.size w w' := by
  unfold maxLen at hml
  have H_hn := Box.mk hn
  clear hn
  go_enter Try.func48, Try.ntmps48
  have hb0 := Below.refl w.heap.size w
  go_wp2_with fail
  go_loopw [8] (fun i wr => ∃ k : Nat, k ≤ n ∧ i = .int .i64 k ∧ Below w.heap.size w wr ∧ Box (∀ j, j < k → xs[j]?.getD 0 ≠ v)) (fun i _ => n - (intOf i).toNat)
  case atStart => exact ⟨0, Nat.zero_le _, rfl, (by repeat' (first | with_reducible exact hb0 | with_reducible refine Below.drew ?_ | with_reducible refine below_drewN ?_ _ | with_reducible refine Below.alloc ?_ (by have := hb0.size; first | (simp; done) | (simp; omega) | omega) _ | with_reducible refine Below.setCell ?_ (by first | (simp; done) | (simp; omega) | omega) _)), Box.mk (fun j hj => by omega)⟩
  case round =>
    obtain ⟨k, hk, rfl, hbw, Hall⟩ := hrel
    by_cases hlt : k < n
    · have hlt' : (k : Int) < (n : Int) := by omega
      have hkl : k < xs.length := by have := H_hn.out; omega
      obtain ⟨b, o, rfl, cl⟩ := (hx.later hbw).int (by omega)
      replace cl := cl k hkl
      obtain ⟨x, hxx⟩ : ∃ x, xs[k]?.getD 0 = x := ⟨_, rfl⟩
      rw [hxx] at cl
      by_cases hxv : x = v
      · have he : idxN xs v = k := idxN_at hkl (hxx.trans hxv) Hall.out
        subst hxv
        have H_he := Box.mk he
        have H_hxx := Box.mk hxx
        have H_hkl := Box.mk hkl
        clear he hxx hkl
        clear Hall
        go_wp2_with fail
        go_ret
        exact ⟨ret_int H_he.out.symm, hbw⟩
      · have hvx : (v == x) = false := beq_eq_false_iff_ne.2 (fun h => hxv h.symm)
        have hall : Box (∀ j, j < k + 1 → xs[j]?.getD 0 ≠ v) := Box.mk fun j hj => by
          by_cases hjk : j < k
          · exact Hall.out j hjk
          · obtain rfl : j = k := by omega
            rw [hxx]; exact hxv
        have H_hxx := Box.mk hxx
        have H_hkl := Box.mk hkl
        clear hxx hkl
        clear Hall
        go_wp2_with fail
        go_roundw
        case rel => exact ⟨k + 1, by omega, by go_num, hbw, hall⟩
        case measure => simp [intOf]; omega
    · have hge : (n : Int) ≤ (k : Int) := by omega
      have he : idxN xs v = -1 := idxN_none fun j hj => Hall.out j (by have := H_hn.out; omega)
      have H_he := Box.mk he
      clear he
      clear Hall
      go_wp2_with fail
      go_ret
      exact ⟨ret_int H_he.out.symm, hbw⟩
theorem containsI_any (xs : List Int) (v : Int) (a : Option Addr) (n c : Nat) (w : World) (hn : n = xs.length) (hx : CellsAt w a (xs.map (Value.int .i64))) (hml : n ≤ maxLen) :
    Calls Try.prog 40 #[.slice a n c, .int .i64 v] w fun e w' =>
      e = .returned (.bool (xs.contains v)) ∧ Below w.heap.size w w' := by
  have hq := idxN_any xs v
  obtain ⟨z, hz⟩ : ∃ z, idxN xs v = z := ⟨_, rfl⟩
  rw [hz] at hq
  have H_hq := Box.mk hq
  have H_hn := Box.mk hn
  have H_hx := Box.mk hx
  have H_hz := Box.mk hz
  clear hq hn hx hz
  go_enter Try.func40, Try.ntmps40
  have hb0 := Below.refl w.heap.size w
  go_wp2_with fail
  with_reducible refine (indexI_any xs v a n c _ H_hn.out H_hx.out hml).mono ?_
  rintro e w1 ⟨rfl, hc1⟩
  have hb1 : Below w.heap.size w w1 := bchain (by repeat' (first | with_reducible exact hb0 | with_reducible refine Below.drew ?_ | with_reducible refine below_drewN ?_ _ | with_reducible refine Below.alloc ?_ (by have := hb0.size; first | (simp; done) | (simp; omega) | omega) _ | with_reducible refine Below.setCell ?_ (by first | (simp; done) | (simp; omega) | omega) _)) hc1
  clear hc1 hb0
  rw [H_hz.out]
  go_wp2_with fail
  go_ret
  exact ⟨ret_bool (by rw [← H_hq.out]; try simp), (by repeat' (first | with_reducible exact hb1 | with_reducible refine Below.drew ?_ | with_reducible refine below_drewN ?_ _ | with_reducible refine Below.alloc ?_ (by have := hb1.size; first | (simp; done) | (simp; omega) | omega) _ | with_reducible refine Below.setCell ?_ (by first | (simp; done) | (simp; omega) | omega) _))⟩

end Go.Proofs.Ytnkbbfeaodppgaa
