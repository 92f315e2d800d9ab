/- What the reference's functions with errors return; the chapter's examples. -/
import Derived.Test.YthdldmkeoglflaaDoorGroupMore
namespace Go.Proofs.YthdldmkeoglflaaDoor
set_option maxRecDepth 100000
open Go.RowKit

/-! ### The chapter's examples -/
theorem isC (a : Nat) (h0 : 0 < a) (h1 : a < 1000000007) (b : Bool) (h : (pwC a 500000003 1000000007 == 1) = b) : isB (a : Int) = b := by
  have e := pwC_eq a 500000003 1000000007 (by omega) (by omega)
  have e' : gpw (a : Int) 500000003 1000000007 = (pwC a 500000003 1000000007 : Int) := e
  unfold isB
  rw [e', ← h]
  have h2 : decide (0 < (a : Int)) = true := by simp; omega
  have h3 : decide ((a : Int) < 1000000007) = true := by simp; omega
  rw [h2, h3, Bool.true_and, Bool.true_and, Bool.eq_iff_iff, beq_iff_eq, beq_iff_eq]
  omega
theorem is_1 : isB 1 = true := isC 1 (by omega) (by omega) true (by decide +kernel)
theorem is_2 : isB 2 = true := isC 2 (by omega) (by omega) true (by decide +kernel)
theorem is_3 : isB 3 = true := isC 3 (by omega) (by omega) true (by decide +kernel)
theorem is_4 : isB 4 = true := isC 4 (by omega) (by omega) true (by decide +kernel)
theorem is_5 : isB 5 = false := isC 5 (by omega) (by omega) false (by decide +kernel)
theorem is_m : isB 1000000006 = false := isC 1000000006 (by omega) (by omega) false (by decide +kernel)
theorem pw_4_15 : gpw 4 15 1000000007 = 73741817 := by decide +kernel
theorem inv_4 : gpw 4 500000002 1000000007 = 250000002 := by
  have e : gpw (4 : Int) 500000002 1000000007 = (pwC 4 500000002 1000000007 : Int) := pwC_eq 4 500000002 1000000007 (by omega) (by omega)
  rw [e]; decide +kernel

end Go.Proofs.YthdldmkeoglflaaDoor
