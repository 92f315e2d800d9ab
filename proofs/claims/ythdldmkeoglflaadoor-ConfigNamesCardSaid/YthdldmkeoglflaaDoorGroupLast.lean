/- The laws on group's powers, and on its names. -/
import Derived.Test.YthdldmkeoglflaaDoorGroupLaws
namespace Go.Proofs.YthdldmkeoglflaaDoor
set_option maxRecDepth 100000
set_option linter.unusedSimpArgs false
set_option linter.unusedVariables false
set_option linter.unnecessarySimpa false
open Go.RowKit

theorem Pow_okI (a n : Int) (w : World) (ha : isB a = true) (h0 : 0 ≤ n) (hn : n < 18446744073709551616) :
    Calls Tryd.prog 60 #[.int .u32 a, .int .u64 n] w fun e w' =>
      e = .returned (.tuple #[.int .u32 (gpw a n.toNat 1000000007), .int .i64 0]) ∧ Below w.heap.size w w' := by
  have := Pow_ok a n.toNat w ha (by omega)
  rwa [Int.toNat_of_nonneg h0] at this
theorem base_I (n : Int) (w : World) (h0 : 0 ≤ n) (hn : n < 18446744073709551616) :
    Calls Tryd.prog 55 #[.int .u64 n] w fun e w' =>
      e = .returned (.int .u32 (gpw 4 n.toNat 1000000007)) ∧ Below w.heap.size w w' := by
  have := base_any n.toNat w (by omega)
  rwa [Int.toNat_of_nonneg h0] at this

theorem pwI_rem {a : Int} (ha : isB a = true) (z : Int) (h0 : 0 ≤ z) : gpw a (z % 500000003).toNat 1000000007 = gpw a z.toNat 1000000007 := by
  rw [show (z % 500000003).toNat = z.toNat % 500000003 from by omega]
  exact pw_rem a _ _ _ (by omega) (isB_pw ha)
theorem pwI_add (a m n : Int) (hm : 0 ≤ m) (hn : 0 ≤ n) : gpw a m.toNat 1000000007 * gpw a n.toNat 1000000007 % 1000000007 = gpw a (m + n).toNat 1000000007 := by
  rw [pw_add, show m.toNat + n.toNat = (m + n).toNat from by omega]
theorem pwI_mul (a m n : Int) (hm : 0 ≤ m) (hn : 0 ≤ n) : gpw (gpw a m.toNat 1000000007) n.toNat 1000000007 = gpw a (m * n).toNat 1000000007 := by
  rw [pw_mul, Int.toNat_mul hm hn]

theorem isB_big {a : Int} (h : 1000000007 ≤ a) : isB a = false := by
  have h2 : decide (a < 1000000007) = false := by simp; omega
  simp [isB, h2]
theorem pw_4_2 : gpw 4 2 1000000007 = 16 := by decide +kernel
theorem pw_4_Q : gpw 4 500000003 1000000007 = 1 := isB_pw is_4
theorem pw_4_Q1 : gpw 4 500000004 1000000007 = 4 := by
  have e : gpw (4 : Int) 500000004 1000000007 = (pwC 4 500000004 1000000007 : Int) := pwC_eq 4 500000004 1000000007 (by omega) (by omega)
  rw [e]; decide +kernel
theorem pw_4_0 : gpw 4 0 1000000007 = 1 := by decide +kernel

end Go.Proofs.YthdldmkeoglflaaDoor
