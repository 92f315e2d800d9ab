/- What Check and can return. -/
import Derived.Test.YtoelndaeemlefaaCloneI
import Derived.Test.YtoelndaeemlefaaSchedPlain
import Derived.WalkSmall
import Derived.BigRegion
import Derived.BigQuiet
import Derived.Deep.QuietTactic
import Derived.Deep.RegionHeld3
namespace Go.Proofs.Ytoelndaeemlefaa
set_option linter.unusedSimpArgs false
set_option linter.unusedVariables false
set_option linter.unnecessarySimpa false
open Go.RowKit


set_option maxHeartbeats 1000000 in
theorem can_any (l a : List Int) (la aa : Option Addr) (lc ac : Nat) (k : Nat) (w : World) (hl : CellsAt w la (l.map (Value.int .i64))) (ha : CellsAt w aa (a.map (Value.int .i64))) (hk : k < l.length) (hlen : a.length = l.length) (hv : -1 ≤ g a k ∧ g a k < k) :
    Calls Try.prog 34 #[.agg #[.slice la l.length lc, .slice aa a.length ac], .int .i64 k] w fun e w' =>
      e = .returned (.bool (can l a k)) ∧ Below w.heap.size w w' := by
  obtain ⟨b, o, rfl, hr⟩ := hl.intG (by omega)
  obtain ⟨b2, o2, rfl, hr2⟩ := ha.intG (by omega)
  obtain ⟨c1, c2, c3⟩ := hr k hk
  obtain ⟨d1, d2, d3⟩ := hr2 k (by omega)
  have hk' : (k : Int) < (l.length : Int) := by omega
  have hk2 : (k : Int) < (a.length : Int) := by omega
  by_cases h1 : 0 < g l k
  · by_cases h2 : g a k = -1
    · rw [h2] at d1
      clear hr hr2 hv hl ha
      have hcan : can l a k = true := by simp [can, h1, h2]
      have H_hcan := hid hcan
      clear hcan
      go_enter Try.func34, Try.ntmps34
      have hb0 := Below.refl w.heap.size w
      go_wp2_with fail
      go_quiet (fail)
      go_wp2_with fail
      go_ret
      exact ⟨ret_bool (by first | exact H_hcan.out.symm | (rw [H_hcan.out]; simp [*])), (by repeat' (first | with_reducible exact hb0 | with_reducible refine Below.drew ?_ | with_reducible refine below_drewN ?_ _ | with_reducible refine Below.alloc ?_ (by have := hb0.size; first | (simp; done) | (simp; omega) | omega) _ | with_reducible refine Below.setCell ?_ (by first | (simp; done) | (simp; omega) | omega) _))⟩
    · obtain ⟨m, hm⟩ : ∃ m : Nat, g a k = m := ⟨(g a k).toNat, by omega⟩
      have hml : m < l.length := by omega
      have hml' : (m : Int) < (l.length : Int) := by omega
      obtain ⟨e1, _, _⟩ := hr m hml
      rw [hm] at d1
      have hne : ¬ ((m : Int) = -1) := by omega
      clear hr hr2 hv hl ha
      by_cases h3 : g l m = 0
      · rw [h3] at e1
        have hcan : can l a k = true := by simp [can, h1, hm, h3]
        have H_hcan := hid hcan
        clear hcan
        go_enter Try.func34, Try.ntmps34
        have hb0 := Below.refl w.heap.size w
        go_wp2_with fail
        go_quiet (fail)
        go_wp2_with fail
        go_ret
        exact ⟨ret_bool (by first | exact H_hcan.out.symm | (rw [H_hcan.out]; simp [*])), (by repeat' (first | with_reducible exact hb0 | with_reducible refine Below.drew ?_ | with_reducible refine below_drewN ?_ _ | with_reducible refine Below.alloc ?_ (by have := hb0.size; first | (simp; done) | (simp; omega) | omega) _ | with_reducible refine Below.setCell ?_ (by first | (simp; done) | (simp; omega) | omega) _))⟩
      · skip
        have hcan : can l a k = false := by simp [can, h1, hm, h3, hne]
        have H_hcan := hid hcan
        clear hcan
        go_enter Try.func34, Try.ntmps34
        have hb0 := Below.refl w.heap.size w
        go_wp2_with fail
        go_quiet (fail)
        go_wp2_with fail
        go_ret
        exact ⟨ret_bool (by first | exact H_hcan.out.symm | (rw [H_hcan.out]; simp [*])), (by repeat' (first | with_reducible exact hb0 | with_reducible refine Below.drew ?_ | with_reducible refine below_drewN ?_ _ | with_reducible refine Below.alloc ?_ (by have := hb0.size; first | (simp; done) | (simp; omega) | omega) _ | with_reducible refine Below.setCell ?_ (by first | (simp; done) | (simp; omega) | omega) _))⟩
  · have hcan : can l a k = false := by simp [can, h1]
    have hd : decide (0 < g l k) = false := decide_eq_false h1
    clear hr hr2 hv hl ha h1
    have H_hcan := hid hcan
    clear hcan
    go_enter Try.func34, Try.ntmps34
    have hb0 := Below.refl w.heap.size w
    go_wp2_with fail
    go_quiet (fail)
    go_wp2_with fail
    go_ret
    exact ⟨ret_bool H_hcan.out.symm, (by repeat' (first | with_reducible exact hb0 | with_reducible refine Below.drew ?_ | with_reducible refine below_drewN ?_ _ | with_reducible refine Below.alloc ?_ (by have := hb0.size; first | (simp; done) | (simp; omega) | omega) _ | with_reducible refine Below.setCell ?_ (by first | (simp; done) | (simp; omega) | omega) _))⟩

set_option maxHeartbeats 1000000 in
theorem rcan_any (l a : List Int) (la aa : Option Addr) (lc ac : Nat) (k : Nat) (w : World) (hl : CellsAt w la (l.map (Value.int .i64))) (ha : CellsAt w aa (a.map (Value.int .i64))) (hk : k < l.length) (hlen : a.length = l.length) (hv : -1 ≤ g a k ∧ g a k < k) (hp : 0 ≤ g l k) :
    Calls Try.prog 30 #[.agg #[.slice la l.length lc, .slice aa a.length ac], .int .i64 k] w fun e w' =>
      e = .returned (.bool (can l a k)) ∧ Below w.heap.size w w' := by
  obtain ⟨b, o, rfl, hr⟩ := hl.intG (by omega)
  obtain ⟨b2, o2, rfl, hr2⟩ := ha.intG (by omega)
  obtain ⟨c1, c2, c3⟩ := hr k hk
  obtain ⟨d1, d2, d3⟩ := hr2 k (by omega)
  have hk' : (k : Int) < (l.length : Int) := by omega
  have hk2 : (k : Int) < (a.length : Int) := by omega
  by_cases h1 : 0 < g l k
  · have h1' : ¬ (g l k = 0) := by omega
    by_cases h2 : g a k = -1
    · rw [h2] at d1
      clear hr hr2 hv hl ha
      have hcan : can l a k = true := by simp [can, h1, h2]
      have H_hcan := hid hcan
      clear hcan
      go_enter Try.func30, Try.ntmps30
      have hb0 := Below.refl w.heap.size w
      go_wp2_with fail
      go_quiet (fail)
      go_wp2_with fail
      go_ret
      exact ⟨ret_bool (by first | exact H_hcan.out.symm | (rw [H_hcan.out]; simp [*])), (by repeat' (first | with_reducible exact hb0 | with_reducible refine Below.drew ?_ | with_reducible refine below_drewN ?_ _ | with_reducible refine Below.alloc ?_ (by have := hb0.size; first | (simp; done) | (simp; omega) | omega) _ | with_reducible refine Below.setCell ?_ (by first | (simp; done) | (simp; omega) | omega) _))⟩
    · obtain ⟨m, hm⟩ : ∃ m : Nat, g a k = m := ⟨(g a k).toNat, by omega⟩
      have hml : m < l.length := by omega
      have hml' : (m : Int) < (l.length : Int) := by omega
      obtain ⟨e1, _, _⟩ := hr m hml
      rw [hm] at d1
      have hne : ¬ ((m : Int) = -1) := by omega
      clear hr hr2 hv hl ha
      by_cases h3 : g l m = 0
      · rw [h3] at e1
        have hcan : can l a k = true := by simp [can, h1, hm, h3]
        have H_hcan := hid hcan
        clear hcan
        go_enter Try.func30, Try.ntmps30
        have hb0 := Below.refl w.heap.size w
        go_wp2_with fail
        go_quiet (fail)
        go_wp2_with fail
        go_ret
        exact ⟨ret_bool (by first | exact H_hcan.out.symm | (rw [H_hcan.out]; simp [*])), (by repeat' (first | with_reducible exact hb0 | with_reducible refine Below.drew ?_ | with_reducible refine below_drewN ?_ _ | with_reducible refine Below.alloc ?_ (by have := hb0.size; first | (simp; done) | (simp; omega) | omega) _ | with_reducible refine Below.setCell ?_ (by first | (simp; done) | (simp; omega) | omega) _))⟩
      · skip
        have hcan : can l a k = false := by simp [can, h1, hm, h3, hne]
        have H_hcan := hid hcan
        clear hcan
        go_enter Try.func30, Try.ntmps30
        have hb0 := Below.refl w.heap.size w
        go_wp2_with fail
        go_quiet (fail)
        go_wp2_with fail
        go_ret
        exact ⟨ret_bool (by first | exact H_hcan.out.symm | (rw [H_hcan.out]; simp [*])), (by repeat' (first | with_reducible exact hb0 | with_reducible refine Below.drew ?_ | with_reducible refine below_drewN ?_ _ | with_reducible refine Below.alloc ?_ (by have := hb0.size; first | (simp; done) | (simp; omega) | omega) _ | with_reducible refine Below.setCell ?_ (by first | (simp; done) | (simp; omega) | omega) _))⟩
  · have h1' : g l k = 0 := by omega
    rw [h1'] at c1
    have hcan : can l a k = false := by simp [can, h1']
    have H_hcan := hid hcan
    clear hcan
    go_enter Try.func30, Try.ntmps30
    have hb0 := Below.refl w.heap.size w
    go_wp2_with fail
    first | (go_region; go_wp2_with fail) | skip
    go_ret
    exact ⟨ret_bool H_hcan.out.symm, (by repeat' (first | with_reducible exact hb0 | with_reducible refine Below.drew ?_ | with_reducible refine below_drewN ?_ _ | with_reducible refine Below.alloc ?_ (by have := hb0.size; first | (simp; done) | (simp; omega) | omega) _ | with_reducible refine Below.setCell ?_ (by first | (simp; done) | (simp; omega) | omega) _))⟩

end Go.Proofs.Ytoelndaeemlefaa
