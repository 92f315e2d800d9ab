/- What SameSlips and Same return of what reads alike. -/
import Derived.Test.YtpfldkcbkolgnaaTicketDk
import Derived.Laws.StructEq
namespace Go.Proofs.Ytpfldkcbkolgnaa
set_option linter.unusedSimpArgs false
set_option linter.unusedVariables false
set_option linter.unnecessarySimpa false
open Go.RowKit

set_option maxHeartbeats 1000000 in
theorem sameSlips_self (hs : Slips) (a b : Option Addr) (c d : Nat) (w : World) (hx : CellsAt w a (cel hs)) (hy : CellsAt w b (cel hs)) (hml : hs.length ≤ maxLen) :
    Calls Try.prog 25 #[.slice a hs.length c, .slice b hs.length d] w fun e w' =>
      e = .returned (.bool true) ∧ Below w.heap.size w w' := by
  unfold maxLen at hml
  go_enter Try.func25, Try.ntmps25
  have hb0 := Below.refl w.heap.size w
  go_wp2_with fail
  go_loopw [5] (fun i wr => ∃ k : Nat, k ≤ hs.length ∧ i = .int .i64 k ∧ Below w.heap.size w wr) (fun i _ => hs.length - (intOf i).toNat)
  case atStart => exact ⟨0, Nat.zero_le _, rfl, (by repeat' (first | with_reducible exact hb0 | with_reducible refine Below.drew ?_ | with_reducible refine below_drewN ?_ _ | with_reducible refine Below.alloc ?_ (by have := hb0.size; first | (simp; done) | (simp; omega) | omega) _ | with_reducible refine Below.setCell ?_ (by first | (simp; done) | (simp; omega) | omega) _))⟩
  case round =>
    obtain ⟨k, hk, rfl, hbw⟩ := hrel
    by_cases hlt : k < hs.length
    · have hlt' : (k : Int) < (hs.length : Int) := by omega
      obtain ⟨b1, o1, rfl, h1, h2, hcell⟩ := hx.slips (by omega)
      obtain ⟨c0, c1⟩ := hcell k hlt
      obtain ⟨b2, o2, rfl, h3, h4, hcell2⟩ := hy.slips (by omega)
      obtain ⟨d0, d1⟩ := hcell2 k hlt
      clear hcell hcell2 hx hy
      replace c0 := cell_later hbw c0
      replace c1 := cell_later hbw c1
      replace d0 := cell_later hbw d0
      replace d1 := cell_later hbw d1
      go_wp2_with fail
      go_quiet (fail)
      go_wp2_with fail
      go_roundw
      case rel => exact ⟨k + 1, by omega, by go_num, (by repeat' (first | with_reducible exact hbw | with_reducible refine Below.drew ?_ | with_reducible refine below_drewN ?_ _ | with_reducible refine Below.alloc ?_ (by have := hbw.size; first | (simp; done) | (simp; omega) | omega) _ | with_reducible refine Below.setCell ?_ (by first | (simp; done) | (simp; omega) | omega) _))⟩
      case measure => simp [intOf]; omega
    · obtain rfl : k = hs.length := by omega
      go_wp2_with fail
      go_ret
      exact ⟨rfl, (by repeat' (first | with_reducible exact hbw | with_reducible refine Below.drew ?_ | with_reducible refine below_drewN ?_ _ | with_reducible refine Below.alloc ?_ (by have := hbw.size; first | (simp; done) | (simp; omega) | omega) _ | with_reducible refine Below.setCell ?_ (by first | (simp; done) | (simp; omega) | omega) _))⟩

set_option maxHeartbeats 1000000 in
theorem dsame_self (g o r : Int) (hs : Slips) (a b : Option Addr) (c d : Nat) (w : World) (hx : CellsAt w a (cel hs)) (hy : CellsAt w b (cel hs)) (hml : hs.length ≤ maxLen) :
    Calls Try.prog 20 #[.agg #[.int .i64 g, .int .i64 o, .int .i64 r, .slice a hs.length c], .agg #[.int .i64 g, .int .i64 o, .int .i64 r, .slice b hs.length d]] w fun e w' =>
      e = .returned (.bool true) ∧ Below w.heap.size w w' := by
  have Hml := hid hml
  clear hml
  go_enter Try.func20, Try.ntmps20
  have hb0 := Below.refl w.heap.size w
  go_wp2_with fail
  with_reducible refine (sameSlips_self hs a b c d _ ((hx.alloc _).alloc _) ((hy.alloc _).alloc _) Hml.out).mono ?_
  rintro e w1 ⟨rfl, hc1⟩
  have hb1 : Below w.heap.size w w1 := bchain (by repeat' (first | with_reducible exact hb0 | with_reducible refine Below.drew ?_ | with_reducible refine below_drewN ?_ _ | with_reducible refine Below.alloc ?_ (by have := hb0.size; first | (simp; done) | (simp; omega) | omega) _ | with_reducible refine Below.setCell ?_ (by first | (simp; done) | (simp; omega) | omega) _)) hc1
  clear hc1 hb0
  go_wp2_with fail
  go_ret
  exact ⟨rfl, (by repeat' (first | with_reducible exact hb1 | with_reducible refine Below.drew ?_ | with_reducible refine below_drewN ?_ _ | with_reducible refine Below.alloc ?_ (by have := hb1.size; first | (simp; done) | (simp; omega) | omega) _ | with_reducible refine Below.setCell ?_ (by first | (simp; done) | (simp; omega) | omega) _))⟩

end Go.Proofs.Ytpfldkcbkolgnaa
