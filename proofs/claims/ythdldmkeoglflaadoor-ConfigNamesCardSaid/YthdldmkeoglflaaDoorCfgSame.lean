/- braidref44.Same and Great. -/
import Derived.Test.YthdldmkeoglflaaDoorCfgDrop
namespace Go.Proofs.YthdldmkeoglflaaDoor
set_option maxRecDepth 100000
set_option linter.unusedSimpArgs false
set_option linter.unusedVariables false
set_option linter.unnecessarySimpa false
open Go.RowKit

set_option maxHeartbeats 4000000 in
theorem same_any (l0 l1 l2 l3 l4 l5 l6 l7 l8 : Int) (s : Int) (ps : Peers) (a b : Option Addr) (c d m : Nat) (w : World) (hm : m = ps.length) (hc : CellsAt w a (cel ps)) (hd : CellsAt w b (cel ps)) (hml : ps.length ≤ maxLen) :
    Calls Tryd.prog 14 #[.agg #[.int .i64 l0, .int .i64 l1, .int .i64 l2, .int .i64 l3, .int .i64 l4, .int .i64 l5, .int .i64 l6, .int .i64 l7, .int .i64 l8, .int .u32 s, .slice a m c], .agg #[.int .i64 l0, .int .i64 l1, .int .i64 l2, .int .i64 l3, .int .i64 l4, .int .i64 l5, .int .i64 l6, .int .i64 l7, .int .i64 l8, .int .u32 s, .slice b m d]] w fun e w' =>
      e = .returned (.bool true) ∧ Below w.heap.size w w' := by
  subst hm
  unfold maxLen at hml
  go_enter Tryd.func14, Tryd.ntmps14
  have hb0 := Below.refl w.heap.size w
  go_wp2_with fail
  go_loopw [5] (fun i wr => ∃ k : Nat, k ≤ ps.length ∧ i = .int .i64 k ∧ Below w.heap.size w wr ∧ (wr.cell? ⟨w.heap.size, 10, none⟩ = some (.slice a ps.length c) ∧ wr.cell? ⟨w.heap.size + 1, 10, none⟩ = some (.slice b ps.length d))) (fun i _ => ps.length - (intOf i).toNat)
  case atStart => exact ⟨0, Nat.zero_le _, rfl, (by repeat' (first | with_reducible exact hb0 | with_reducible refine Below.drew ?_ | with_reducible refine below_drewN ?_ _ | with_reducible refine Below.alloc ?_ (by have := hb0.size; first | (simp; done) | (simp; omega) | omega) _ | with_reducible refine Below.setCell ?_ (by first | (simp; done) | (simp; omega) | omega) _)), by go_simp, by go_simp⟩
  case round =>
    obtain ⟨k, hk, rfl, hbw, X_10, Y_10⟩ := hrel
    by_cases hlt : k < ps.length
    · have hlt' : (k : Int) < (ps.length : Int) := by omega
      obtain ⟨b1, o1, rfl, g1, g2, hcell⟩ := hc.peers (by omega)
      obtain ⟨b2, o2, rfl, g3, g4, hcell2⟩ := hd.peers (by omega)
      have c0 := cell_later hbw (hcell k hlt).1
      have c1 := cell_later hbw (hcell k hlt).2
      have d0 := cell_later hbw (hcell2 k hlt).1
      have d1 := cell_later hbw (hcell2 k hlt).2
      clear hcell hcell2 hc hd
      go_wp2_with fail
      go_quiet (fail)
      go_wp2_with fail
      go_roundw
      case rel => exact ⟨k + 1, by omega, by go_num, (by repeat' (first | with_reducible exact hbw | with_reducible refine Below.drew ?_ | with_reducible refine below_drewN ?_ _ | with_reducible refine Below.alloc ?_ (by have := hbw.size; first | (simp; done) | (simp; omega) | omega) _ | with_reducible refine Below.setCell ?_ (by first | (simp; done) | (simp; omega) | omega) _)), by go_simp, by go_simp⟩
      case measure => simp [intOf]; omega
    · obtain rfl : k = ps.length := by omega
      go_wp2_with fail
      go_ret
      exact ⟨rfl, (by repeat' (first | with_reducible exact hbw | with_reducible refine Below.drew ?_ | with_reducible refine below_drewN ?_ _ | with_reducible refine Below.alloc ?_ (by have := hbw.size; first | (simp; done) | (simp; omega) | omega) _ | with_reducible refine Below.setCell ?_ (by first | (simp; done) | (simp; omega) | omega) _))⟩

/-- Whether a setup is great; if not, its peers are at most 30. -/
def GreatR (ps : Peers) (e : Ending) : Prop := ∃ g : Bool, e = .returned (.bool g) ∧ (g = false → ps.length ≤ 30 ∧ ∀ i, i < ps.length → (nm ps i).size ≤ 100)
set_option maxHeartbeats 4000000 in
theorem great_any (l0 l1 l2 l3 l4 l5 l6 l7 l8 : Int) (s : Int) (ps : Peers) (a : Option Addr) (c : Nat) (w : World) (hc : CellsAt w a (cel ps)) (hml : ps.length ≤ maxLen) :
    Calls Tryd.prog 9 #[.agg #[.int .i64 l0, .int .i64 l1, .int .i64 l2, .int .i64 l3, .int .i64 l4, .int .i64 l5, .int .i64 l6, .int .i64 l7, .int .i64 l8, .int .u32 s, .slice a ps.length c]] w fun e w' =>
      GreatR ps e ∧ Below w.heap.size w w' := by
  unfold maxLen at hml
  go_enter Tryd.func9, Tryd.ntmps9
  have hb0 := Below.refl w.heap.size w
  go_wp2_with fail
  go_loopw [3] (fun i wr => ∃ k : Nat, k ≤ ps.length ∧ k ≤ 31 ∧ i = .int .i64 k ∧ Hid (∀ j, j < k → (nm ps j).size ≤ 100) ∧ Below w.heap.size w wr ∧ (wr.cell? ⟨w.heap.size, 10, none⟩ = some (.slice a ps.length c))) (fun i _ => ps.length - (intOf i).toNat)
  case atStart => exact ⟨0, Nat.zero_le _, Nat.zero_le _, rfl, hid (fun j hj => absurd hj (Nat.not_lt_zero _)), (by repeat' (first | with_reducible exact hb0 | with_reducible refine Below.drew ?_ | with_reducible refine below_drewN ?_ _ | with_reducible refine Below.alloc ?_ (by have := hb0.size; first | (simp; done) | (simp; omega) | omega) _ | with_reducible refine Below.setCell ?_ (by first | (simp; done) | (simp; omega) | omega) _)), by go_simp⟩
  case round =>
    obtain ⟨k, hk, hk31, rfl, hpre, hbw, X_10⟩ := hrel
    by_cases hlt : k < ps.length
    · have hlt' : (k : Int) < (ps.length : Int) := by omega
      by_cases h30 : k ≤ 30
      · have h30' : (k : Int) ≤ 30 := by omega
        obtain ⟨b1, o1, rfl, g1, g2, hcell⟩ := hc.peers (by omega)
        have c0 := cell_later hbw (hcell k hlt).1
        clear hcell hc
        obtain ⟨z, hz⟩ : ∃ z, nm ps k = z := ⟨_, rfl⟩
        rw [hz] at c0
        by_cases h1 : 100 < z.size
        · have h1' : (100 : Int) < (z.size : Int) := by omega
          have H_hz := Box.mk hz
          clear hz
          go_wp2_with fail
          go_ret
          exact ⟨⟨true, rfl, fun h => by cases h⟩, (by repeat' (first | with_reducible exact hbw | with_reducible refine Below.drew ?_ | with_reducible refine below_drewN ?_ _ | with_reducible refine Below.alloc ?_ (by have := hbw.size; first | (simp; done) | (simp; omega) | omega) _ | with_reducible refine Below.setCell ?_ (by first | (simp; done) | (simp; omega) | omega) _))⟩
        · have h1' : ¬ ((100 : Int) < (z.size : Int)) := by omega
          have H_hz := Box.mk hz
          clear hz
          go_wp2_with fail
          go_roundw
          case rel => exact ⟨k + 1, by omega, by omega, by go_num, hid (fun j hj => by
            by_cases hjk : j < k
            · exact hpre.out j hjk
            · obtain rfl : j = k := by omega
              rw [H_hz.out]; omega), (by repeat' (first | with_reducible exact hbw | with_reducible refine Below.drew ?_ | with_reducible refine below_drewN ?_ _ | with_reducible refine Below.alloc ?_ (by have := hbw.size; first | (simp; done) | (simp; omega) | omega) _ | with_reducible refine Below.setCell ?_ (by first | (simp; done) | (simp; omega) | omega) _)), by go_simp⟩
          case measure => simp [intOf]; omega
      · have h30' : ¬ ((k : Int) ≤ 30) := by omega
        have h9 : (30 : Int) < (ps.length : Int) := by omega
        clear hpre
        go_wp2_with fail
        go_ret
        exact ⟨⟨true, rfl, fun h => by cases h⟩, (by repeat' (first | with_reducible exact hbw | with_reducible refine Below.drew ?_ | with_reducible refine below_drewN ?_ _ | with_reducible refine Below.alloc ?_ (by have := hbw.size; first | (simp; done) | (simp; omega) | omega) _ | with_reducible refine Below.setCell ?_ (by first | (simp; done) | (simp; omega) | omega) _))⟩
    · obtain rfl : k = ps.length := by omega
      by_cases h9 : 30 < ps.length
      · have h9' : (30 : Int) < (ps.length : Int) := by omega
        clear hpre
        go_wp2_with fail
        go_ret
        exact ⟨⟨true, rfl, fun h => by cases h⟩, (by repeat' (first | with_reducible exact hbw | with_reducible refine Below.drew ?_ | with_reducible refine below_drewN ?_ _ | with_reducible refine Below.alloc ?_ (by have := hbw.size; first | (simp; done) | (simp; omega) | omega) _ | with_reducible refine Below.setCell ?_ (by first | (simp; done) | (simp; omega) | omega) _))⟩
      · have h9' : ¬ ((30 : Int) < (ps.length : Int)) := by omega
        have H_hpre := Box.mk hpre
        clear hpre
        go_wp2_with fail
        go_ret
        exact ⟨⟨false, rfl, fun _ => ⟨by omega, fun i hi => H_hpre.out.out i hi⟩⟩, (by repeat' (first | with_reducible exact hbw | with_reducible refine Below.drew ?_ | with_reducible refine below_drewN ?_ _ | with_reducible refine Below.alloc ?_ (by have := hbw.size; first | (simp; done) | (simp; omega) | omega) _ | with_reducible refine Below.setCell ?_ (by first | (simp; done) | (simp; omega) | omega) _))⟩

end Go.Proofs.YthdldmkeoglflaaDoor
