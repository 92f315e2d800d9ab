/- The closure in Free, and slices.IndexFunc at []int with it. -/
import Derived.Test.YtnkbbfeaodppgaaLockGrantP
namespace Go.Proofs.Ytnkbbfeaodppgaa
set_option linter.unusedSimpArgs false
set_option linter.unusedVariables false
set_option linter.unnecessarySimpa false
open Go.RowKit

theorem free1_any (x t : Int) (B : Nat) (w : World) (hB : B < w.heap.size) (hc : w.cell? ⟨B, 0, none⟩ = some (.int .i64 t)) :
    Calls Try.prog 32 #[.int .i64 x, .pointer (some ⟨B, 0, none⟩)] w fun e w' =>
      e = .returned (.bool (x == t)) ∧ Below w.heap.size w w' := by
  go_enter Try.func32, Try.ntmps32
  have hb0 := Below.refl w.heap.size w
  go_wp2_with fail
  go_ret
  exact ⟨rfl, (by repeat' (first | with_reducible exact hb0 | with_reducible refine Below.drew ?_ | with_reducible refine below_drewN ?_ _ | with_reducible refine Below.alloc ?_ (by have := hb0.size; first | (simp; done) | (simp; omega) | omega) _ | with_reducible refine Below.setCell ?_ (by first | (simp; done) | (simp; omega) | omega) _))⟩

set_option maxHeartbeats 1000000 in
theorem idxF_any (t : Int) (xs : List Int) (a : Option Addr) (n c B : Nat) (w : World) (hn : n = xs.length) (hx : CellsAt w a (xs.map (Value.int .i64))) (hml : n ≤ 1000000) (hB : B < w.heap.size) (hc0 : w.cell? ⟨B, 0, none⟩ = some (.int .i64 t)) :
    Calls Try.prog 43 #[.slice a n c, .func (.func 32) #[] #[.pointer (some ⟨B, 0, none⟩)]] w fun e w' =>
      e = .returned (.int .i64 (idxN xs t)) ∧ Below w.heap.size w w' := by
  have H_hn := Box.mk hn
  clear hn
  go_enter Try.func43, Try.ntmps43
  have hb0 := Below.refl w.heap.size w
  go_wp2_with fail
  go_loopw [8] (fun i wr => ∃ k : Nat, k ≤ n ∧ i = .int .i64 k ∧ Below w.heap.size w wr ∧ Box (∀ j, j < k → xs[j]?.getD 0 ≠ t)) (fun i _ => n - (intOf i).toNat)
  case atStart => exact ⟨0, Nat.zero_le _, rfl, (by repeat' (first | with_reducible exact hb0 | with_reducible refine Below.drew ?_ | with_reducible refine below_drewN ?_ _ | with_reducible refine Below.alloc ?_ (by have := hb0.size; first | (simp; done) | (simp; omega) | omega) _ | with_reducible refine Below.setCell ?_ (by first | (simp; done) | (simp; omega) | omega) _)), Box.mk (fun j hj => by omega)⟩
  case round =>
    obtain ⟨k, hk, rfl, hbw, Hall⟩ := hrel
    by_cases hlt : k < n
    · have hlt' : (k : Int) < (n : Int) := by omega
      have hkl : k < xs.length := by have := H_hn.out; omega
      obtain ⟨b, o, rfl, cl⟩ := (hx.later hbw).int (by omega)
      replace cl := cl k hkl
      have hB' := Nat.lt_of_lt_of_le hB hbw.size
      have hc0' := cell_later hbw hc0
      obtain ⟨x, hxx⟩ : ∃ x, xs[k]?.getD 0 = x := ⟨_, rfl⟩
      rw [hxx] at cl
      clear hx hc0 hB
      by_cases hxv : x = t
      · have he : idxN xs t = k := idxN_at hkl (hxx.trans hxv) Hall.out
        have hp : (x == t) = true := beq_iff_eq.2 hxv
        clear hxv
        have H_he := Box.mk he
        have H_hxx := Box.mk hxx
        have H_hkl := Box.mk hkl
        have H_hp := Box.mk hp
        clear he hxx hkl hp
        clear Hall
        go_wp2_with fail
        with_reducible refine (free1_any x t B _ hB' hc0').mono ?_
        rintro e w11 ⟨rfl, hc11⟩
        have hb11 : Below w.heap.size w w11 := bchain (by repeat' (first | with_reducible exact hbw | with_reducible refine Below.drew ?_ | with_reducible refine below_drewN ?_ _ | with_reducible refine Below.alloc ?_ (by have := hbw.size; first | (simp; done) | (simp; omega) | omega) _ | with_reducible refine Below.setCell ?_ (by first | (simp; done) | (simp; omega) | omega) _)) hc11
        clear hc11 hbw
        rw [H_hp.out]
        go_wp2_with fail
        go_ret
        exact ⟨ret_int H_he.out.symm, (by repeat' (first | with_reducible exact hb11 | with_reducible refine Below.drew ?_ | with_reducible refine below_drewN ?_ _ | with_reducible refine Below.alloc ?_ (by have := hb11.size; first | (simp; done) | (simp; omega) | omega) _ | with_reducible refine Below.setCell ?_ (by first | (simp; done) | (simp; omega) | omega) _))⟩
      · have hp : (x == t) = false := beq_eq_false_iff_ne.2 hxv
        have hall : Box (∀ j, j < k + 1 → xs[j]?.getD 0 ≠ t) := Box.mk fun j hj => by
          by_cases hjk : j < k
          · exact Hall.out j hjk
          · obtain rfl : j = k := by omega
            rw [hxx]; exact hxv
        clear hxv
        have H_hxx := Box.mk hxx
        have H_hkl := Box.mk hkl
        have H_hp := Box.mk hp
        clear hxx hkl hp
        clear Hall
        go_wp2_with fail
        with_reducible refine (free1_any x t B _ hB' hc0').mono ?_
        rintro e w11 ⟨rfl, hc11⟩
        have hb11 : Below w.heap.size w w11 := bchain (by repeat' (first | with_reducible exact hbw | with_reducible refine Below.drew ?_ | with_reducible refine below_drewN ?_ _ | with_reducible refine Below.alloc ?_ (by have := hbw.size; first | (simp; done) | (simp; omega) | omega) _ | with_reducible refine Below.setCell ?_ (by first | (simp; done) | (simp; omega) | omega) _)) hc11
        clear hc11 hbw
        rw [H_hp.out]
        go_wp2_with fail
        go_roundw
        case rel => exact ⟨k + 1, by omega, by go_num, (by repeat' (first | with_reducible exact hb11 | with_reducible refine Below.drew ?_ | with_reducible refine below_drewN ?_ _ | with_reducible refine Below.alloc ?_ (by have := hb11.size; first | (simp; done) | (simp; omega) | omega) _ | with_reducible refine Below.setCell ?_ (by first | (simp; done) | (simp; omega) | omega) _)), hall⟩
        case measure => simp [intOf]; omega
    · have hge : (n : Int) ≤ (k : Int) := by omega
      have he : idxN xs t = -1 := idxN_none fun j hj => Hall.out j (by have := H_hn.out; omega)
      have H_he := Box.mk he
      clear he
      clear Hall
      go_wp2_with fail
      go_ret
      exact ⟨ret_int H_he.out.symm, (by repeat' (first | with_reducible exact hbw | with_reducible refine Below.drew ?_ | with_reducible refine below_drewN ?_ _ | with_reducible refine Below.alloc ?_ (by have := hbw.size; first | (simp; done) | (simp; omega) | omega) _ | with_reducible refine Below.setCell ?_ (by first | (simp; done) | (simp; omega) | omega) _))⟩

end Go.Proofs.Ytnkbbfeaodppgaa
