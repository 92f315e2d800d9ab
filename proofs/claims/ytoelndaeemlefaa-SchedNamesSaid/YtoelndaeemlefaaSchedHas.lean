/- The reference's has. -/
import Derived.Test.YtoelndaeemlefaaSchedFair
namespace Go.Proofs.Ytoelndaeemlefaa
set_option linter.unusedSimpArgs false
set_option linter.unusedVariables false
set_option linter.unnecessarySimpa false
open Go.RowKit

theorem mem_g {xs : List Int} {n : Int} : n ∈ xs ↔ ∃ j, j < xs.length ∧ g xs j = n := by
  constructor
  · intro h
    obtain ⟨j, h1, h2⟩ := List.getElem_of_mem h
    exact ⟨j, h1, by simp [g, h1, h2]⟩
  · rintro ⟨j, h1, h2⟩
    have : xs[j] = n := by simpa [g, h1] using h2
    exact this ▸ List.getElem_mem h1
theorem mem_runs {l a : List Int} {k n : Nat} : ((k : Int) ∈ runs l a n) ↔ k < n ∧ can l a k = true := by
  unfold runs
  rw [List.mem_map]
  constructor
  · rintro ⟨x, hx, e⟩
    have : x = k := Int.ofNat.inj e
    subst this
    have := List.mem_filter.1 hx
    exact ⟨List.mem_range.1 this.1, this.2⟩
  · rintro ⟨h1, h2⟩
    exact ⟨k, List.mem_filter.2 ⟨List.mem_range.2 h1, h2⟩, rfl⟩

set_option maxHeartbeats 4000000 in
theorem has_any (n : Nat) (xs : List Int) (v : Int) (a : Option Addr) (c : Nat) (w : World) (hn : n = xs.length) (hx : CellsAt w a (xs.map (Value.int .i64))) (hxl : xs.length ≤ 400) :
    Calls Try.prog 38 #[.slice a n c, .int .i64 v] w fun e w' =>
      e = .returned (.bool (decide (v ∈ xs))) ∧ Below w.heap.size w w' := by
  subst hn
  go_enter Try.func38, Try.ntmps38
  have hb0 := Below.refl w.heap.size w
  go_wp2_with fail
  go_loopw [5] (fun i wr => ∃ k : Nat, k ≤ xs.length ∧ i = .int .i64 k ∧ Below w.heap.size w wr ∧ Hid (∀ j, j < k → g xs j ≠ v)) (fun i _ => xs.length - (intOf i).toNat)
  case atStart => exact ⟨0, Nat.zero_le _, rfl, hb0, hid (fun j hj => by omega)⟩
  case round =>
    obtain ⟨k, hk, rfl, hbw, Hall⟩ := hrel
    by_cases hlt : k < xs.length
    · have hlt' : (k : Int) < (xs.length : Int) := by omega
      obtain ⟨b, o, rfl, hr⟩ := hx.intG (by omega)
      obtain ⟨c1, c2, c3⟩ := hr k hlt
      clear hr
      replace c1 := cell_later hbw c1
      by_cases he : g xs k = v
      · have he1 : (g xs k == v) = true := by simpa using he
        have hd : decide (v ∈ xs) = true := by simpa using mem_g.2 ⟨k, hlt, he⟩
        have H_hd := hid hd
        clear hd
        clear he
        go_wp2_with fail
        first | (go_quiet (fail); go_wp2_with fail) | skip
        go_ret
        exact ⟨ret_bool H_hd.out.symm, by first | exact hbw | exact below_drewN hbw _⟩
      · have he1 : (g xs k == v) = false := by simpa using he
        have he := hid he
        go_wp2_with fail
        first | (go_quiet (fail); go_wp2_with fail) | skip
        go_roundw
        case rel => exact ⟨k + 1, by omega, by go_num, by first | exact hbw | exact below_drewN hbw _, hid (lt_step (p := fun j => g xs j ≠ v) Hall.out he.out)⟩
        case measure => simp [intOf]; omega
    · obtain rfl : k = xs.length := by omega
      have hd : decide (v ∈ xs) = false := by
        rw [decide_eq_false_iff_not, mem_g]
        rintro ⟨j, h1, h2⟩
        exact Hall.out j h1 h2
      have H_hd := hid hd
      clear hd
      go_wp2_with fail
      go_ret
      exact ⟨ret_bool H_hd.out.symm, hbw⟩

theorem rall_n (n m : Nat) (l a : List Int) (la aa : Option Addr) (lc ac : Nat) (w : World) (hn : n = l.length) (hm : m = a.length) (hl : CellsAt w la (l.map (Value.int .i64))) (ha : CellsAt w aa (a.map (Value.int .i64))) (hv : TV l a) (hml : l.length ≤ 12) :
    Calls Try.prog 35 #[.agg #[.slice la n lc, .slice aa m ac]] w fun e w' =>
      ∃ oa oc, e = .returned (.slice oa (runs l a l.length).length oc) ∧ OwnX w' w.heap.size 3 1 (.slice oa (runs l a l.length).length oc) (runs l a l.length).length ((runs l a l.length).map (Value.int .i64)) ∧ Below w.heap.size w w' := by
  subst hn hm
  exact rall_any l a la aa lc ac w hl ha hv.len hv hml

end Go.Proofs.Ytoelndaeemlefaa
