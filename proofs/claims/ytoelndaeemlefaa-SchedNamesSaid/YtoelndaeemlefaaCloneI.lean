/- slices.Clone at []int: a new array of the call's own with the same numbers. -/
import Derived.Test.YtoelndaeemlefaaRows
import Derived.Test.YtoelndaeemlefaaMem
namespace Go.Proofs.Ytoelndaeemlefaa
set_option linter.unusedSimpArgs false
set_option linter.unusedVariables false
set_option linter.unnecessarySimpa false
open Go.RowKit

theorem info_i64 : (Try.prog.info? 3).map (fun i => (i.zero, i.size, i.bytes)) = some (some (.int .i64 0), 1, 8) := by kernel_rfl

set_option maxHeartbeats 400000 in
theorem cloneI_any (a : Option Addr) (n c : Nat) (xs : List Int) (w : World) (hn : n = xs.length) (hc : CellsAt w a (xs.map (Value.int .i64))) (hb : xs.length ≤ 17592186044415) :
    Calls Try.prog 33 #[.slice a n c] w fun e w' =>
      ∃ a' c', e = .returned (.slice a' n c') ∧ OwnX w' w.heap.size 3 1 (.slice a' n c') n (xs.map (Value.int .i64)) ∧ Below w.heap.size w w' := by
  have hq := fun (w : World) => Lib.run_eql_slice_nil w 22 3 a n c 0 0 Try.underlying22
  obtain ⟨i0, hi, hz0, hz1, hz2⟩ := info_parts info_i64
  cases a with
  | none =>
    have hx : xs = [] := by
      rcases hc with h | ⟨b, o, h, _⟩
      · simpa using h
      · cases h
    subst hx
    simp only [List.length_nil] at hn
    subst hn
    go_enter Try.func33, Try.ntmps33
    have hb0 := Below.refl w.heap.size w
    go_wp2_with fail
    go_ret
    exact ⟨_, _, rfl, OwnX.nil _ _ _ _, hb0⟩
  | some ad =>
    have Hc := hid hc
    clear hc
    subst hn
    go_enter Try.func33, Try.ntmps33
    have hb0 := Below.refl w.heap.size w
    go_wp2_with (at_builtin; refine stop ?_)
    refine Stop.go ?_
    refine wpList_append_x _ rfl _ _ 22 rfl w.heap.size 3 i0 (.int .i64 0) 1 8 Try.underlying22 hi hz0 hz1 hz2 rfl (by decide) _ 0 [] rfl (OwnX.made _ [] _ _ 0 _ (Nat.le_refl _) (by simp [maxLen]) rfl) (some ad) xs.length c (xs.map (Value.int .i64)) rfl (by simp) (Hc.out.alloc _) (ints_oneCell _ _) (by unfold maxLen; omega) (by omega) (by simp) ?_
    intro a' c' w1 hown hg _
    rw [Nat.zero_add, List.nil_append] at hown
    go_wp2_with fail
    go_ret
    exact ⟨_, _, rfl, hown, below_grownX (hb0.alloc (Nat.le_refl _) _) hg (by simp) (fun k hk => ((OwnX.made w [] _ 0 0 1 (Nat.le_refl _) (by simp [maxLen]) rfl).lt k hk).1)⟩

end Go.Proofs.Ytoelndaeemlefaa
