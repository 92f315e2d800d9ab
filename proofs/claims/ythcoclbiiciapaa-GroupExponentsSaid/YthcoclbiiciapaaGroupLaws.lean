/- The laws on group that compare it with its reference. -/
import Derived.Test.YthcoclbiiciapaaGroupRefs
import Derived.OpenShut
namespace Go.Proofs.Ythcoclbiiciapaa
open Go.RowKit

theorem bd_u32 {a : Int} (h : (Lit.int .u32 a).wf = true) : 0 ≤ a ∧ a < 4294967296 := by
  have := bounds_u32 h; omega
theorem bd_u64 {a : Int} (h : (Lit.int .u64 a).wf = true) : 0 ≤ a ∧ a < 18446744073709551616 := by
  have := bounds_u64 h; omega

set_option maxHeartbeats 1000000 in
theorem exponents_walk (m n : Int) (w : World) (wm : (Lit.int .u32 m).wf = true) (wn : (Lit.int .u32 n).wf = true) :
    Calls Try.prog 3 #[.int .u32 m, .int .u32 n] w fun e w' => e = .returned (.bool true) ∧ Below w.heap.size w w' := by
  have ⟨m0, m1⟩ := bd_u32 wm
  have ⟨n0, n1⟩ := bd_u32 wn
  clear wm wn
  by_cases h : m < 500000003 ∧ n < 500000003
  · obtain ⟨m2, n2⟩ := h
    go_enter Try.func3, Try.ntmps3
    go_wp2_with fail
    refine (plus_ok m n _ m0 m2 n0 n2).mono ?_
    rintro e w' ⟨rfl, rfl⟩
    go_wp2_with fail
    refine (rplus_ok m n _ m0 m2 n0 n2).mono ?_
    rintro e w' ⟨rfl, rfl⟩
    go_wp2_with fail
    refine (times_ok m n _ m0 m2 n0 n2).mono ?_
    rintro e w1 ⟨rfl, hb⟩
    go_wp2_with fail
    refine (rtimes_ok m n _ m0 m2 n0 n2).mono ?_
    rintro e w' ⟨rfl, rfl⟩
    go_wp2_with fail
    go_ret
    exact ⟨rfl, hb⟩
  · have h' : 500000003 ≤ m ∨ 500000003 ≤ n := by omega
    clear h
    have H := hid h'
    clear h'
    go_enter Try.func3, Try.ntmps3
    go_wp2_with fail
    refine (plus_no m n _ m0 m1 n0 n1 H.out).mono ?_
    rintro e w' ⟨rfl, rfl⟩
    go_wp2_with fail
    refine (rplus_no m n _ m0 m1 n0 n1 H.out).mono ?_
    rintro e w' ⟨rfl, rfl⟩
    go_wp2_with fail
    refine (times_no m n _ m0 m1 n0 n1 H.out).mono ?_
    rintro e w' ⟨rfl, rfl⟩
    go_wp2_with fail
    refine (rtimes_no m n _ m0 m1 n0 n1 H.out).mono ?_
    rintro e w' ⟨rfl, rfl⟩
    go_wp2_with fail
    go_ret
    exact ⟨rfl, Below.refl _ _⟩

end Go.Proofs.Ythcoclbiiciapaa
