/- What held, Besides and the predicates of Check return. -/
import Derived.Test.YtpfldkcbkolgnaaRows
import Derived.Test.YtpfldkcbkolgnaaTicketPlain
import Derived.Test.YtpfldkcbkolgnaaMem4
import Derived.WalkSmall
import Derived.BigRegion
import Derived.BigQuiet
import Derived.Deep.QuietTactic
import Derived.Deep.RegionHeld3
namespace Go.Proofs.Ytpfldkcbkolgnaa
set_option linter.unusedSimpArgs false
set_option linter.unusedVariables false
set_option linter.unnecessarySimpa false
open Go.RowKit

set_option maxHeartbeats 1000000 in
theorem held_any (g o r : Int) (hs : Slips) (a : Option Addr) (c : Nat) (w : World) (hc : CellsAt w a (cel hs)) (hml : hs.length ≤ maxLen) :
    Calls Try.prog 29 #[.agg #[.int .i64 g, .int .i64 o, .int .i64 r, .slice a hs.length c]] w fun e w' =>
      e = .returned (.int .i64 (heldN o hs)) ∧ Below w.heap.size w w' := by
  unfold maxLen at hml
  by_cases h0 : 0 < hs.length
  · obtain ⟨b, oo, rfl, h1, h2, hcell⟩ := hc.slips h0
    have c0 := (hcell 0 h0).1
    simp only [Nat.zero_mul, Nat.add_zero] at c0
    have h0' : (0 : Int) < (hs.length : Int) := by omega
    by_cases h3 : tg hs 0 = o
    · rw [h3] at c0
      have he : heldN o hs = hs.length - 1 := by unfold heldN; rw [if_pos ⟨h0, h3⟩]
      have H_he := hid he
      clear he
      clear hc hcell
      go_enter Try.func29, Try.ntmps29
      have hb0 := Below.refl w.heap.size w
      go_wp2_with fail
      go_quiet (fail)
      go_wp2_with fail
      go_ret
      exact ⟨ret_int (by rw [H_he.out]; try omega), (by repeat' (first | with_reducible exact hb0 | with_reducible refine Below.drew ?_ | with_reducible refine below_drewN ?_ _ | with_reducible refine Below.alloc ?_ (by have := hb0.size; first | (simp; done) | (simp; omega) | omega) _ | with_reducible refine Below.setCell ?_ (by first | (simp; done) | (simp; omega) | omega) _))⟩
    · skip
      have he : heldN o hs = hs.length := by unfold heldN; rw [if_neg (fun x => h3 x.2)]
      have H_he := hid he
      clear he
      clear hc hcell
      go_enter Try.func29, Try.ntmps29
      have hb0 := Below.refl w.heap.size w
      go_wp2_with fail
      go_quiet (fail)
      go_wp2_with fail
      go_ret
      exact ⟨ret_int (by rw [H_he.out]; try omega), (by repeat' (first | with_reducible exact hb0 | with_reducible refine Below.drew ?_ | with_reducible refine below_drewN ?_ _ | with_reducible refine Below.alloc ?_ (by have := hb0.size; first | (simp; done) | (simp; omega) | omega) _ | with_reducible refine Below.setCell ?_ (by first | (simp; done) | (simp; omega) | omega) _))⟩
  · obtain rfl : hs = [] := List.eq_nil_of_length_eq_zero (by omega)
    clear hc h0 hml
    simp only [List.length_nil]
    go_enter Try.func29, Try.ntmps29
    have hb0 := Below.refl w.heap.size w
    go_wp2_with fail
    go_quiet (fail)
    go_wp2_with fail
    go_ret
    exact ⟨ret_int rfl, (by repeat' (first | with_reducible exact hb0 | with_reducible refine Below.drew ?_ | with_reducible refine below_drewN ?_ _ | with_reducible refine Below.alloc ?_ (by have := hb0.size; first | (simp; done) | (simp; omega) | omega) _ | with_reducible refine Below.setCell ?_ (by first | (simp; done) | (simp; omega) | omega) _))⟩

set_option maxHeartbeats 1000000 in
theorem bad_any (t u g o : Int) (B : Nat) (w : World) (hB : B < w.heap.size) (hc0 : w.cell? ⟨B, 0, none⟩ = some (.int .i64 g)) (hc1 : w.cell? ⟨B, 1, none⟩ = some (.int .i64 o)) :
    Calls Try.prog 33 #[.agg #[.int .i64 t, .int .u64 u], .pointer (some ⟨B, 0, none⟩)] w fun e w' =>
      e = .returned (.bool (decide (t < o) || decide (g ≤ t))) ∧ Below w.heap.size w w' := by
  have hB' : B ≠ w.heap.size := by omega
  by_cases h1 : t < o
  · go_enter Try.func33, Try.ntmps33
    have hb0 := Below.refl w.heap.size w
    go_wp2_with fail
    go_ret
    exact ⟨ret_bool (by simp [h1]), (by repeat' (first | with_reducible exact hb0 | with_reducible refine Below.drew ?_ | with_reducible refine below_drewN ?_ _ | with_reducible refine Below.alloc ?_ (by have := hb0.size; first | (simp; done) | (simp; omega) | omega) _ | with_reducible refine Below.setCell ?_ (by first | (simp; done) | (simp; omega) | omega) _))⟩
  · have h1' : decide (t < o) = false := decide_eq_false h1
    by_cases h2 : g ≤ t
    · go_enter Try.func33, Try.ntmps33
      have hb0 := Below.refl w.heap.size w
      go_wp2_with fail
      go_ret
      exact ⟨ret_bool (by simp [h2]), (by repeat' (first | with_reducible exact hb0 | with_reducible refine Below.drew ?_ | with_reducible refine below_drewN ?_ _ | with_reducible refine Below.alloc ?_ (by have := hb0.size; first | (simp; done) | (simp; omega) | omega) _ | with_reducible refine Below.setCell ?_ (by first | (simp; done) | (simp; omega) | omega) _))⟩
    · have h2' : decide (g ≤ t) = false := decide_eq_false h2
      go_enter Try.func33, Try.ntmps33
      have hb0 := Below.refl w.heap.size w
      go_wp2_with fail
      go_ret
      exact ⟨ret_bool (by simp [h1, h2]), (by repeat' (first | with_reducible exact hb0 | with_reducible refine Below.drew ?_ | with_reducible refine below_drewN ?_ _ | with_reducible refine Below.alloc ?_ (by have := hb0.size; first | (simp; done) | (simp; omega) | omega) _ | with_reducible refine Below.setCell ?_ (by first | (simp; done) | (simp; omega) | omega) _))⟩

end Go.Proofs.Ytpfldkcbkolgnaa
