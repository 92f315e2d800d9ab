/- What the reference's functions with errors return; the chapter's examples. -/
import Derived.Test.YthcoclbiiciapaaGroupMore
namespace Go.Proofs.Ythcoclbiiciapaa
open Go.RowKit

set_option maxHeartbeats 400000 in
theorem rmul_ok (a c : Int) (w : World) (ha : isB a = true) (hc : isB c = true) :
    Calls Try.prog 15 #[.int .u32 a, .int .u32 c] w fun e w' => e = .returned (.tuple #[.int .u32 (a * c % 1000000007), .int .i64 0]) ∧ w = w' := by
  have ⟨a1, a2⟩ := isB_bd ha
  have ⟨c1, c2⟩ := isB_bd hc
  have HA := hid ha
  have HC := hid hc
  clear ha hc
  go_enter Try.func15, Try.ntmps15
  go_wp2_with fail
  refine (ris_any a _ (by omega) (by omega)).mono ?_
  rintro e w' ⟨rfl, rfl⟩
  rw [HA.out]
  go_wp2_with fail
  refine (ris_any c _ (by omega) (by omega)).mono ?_
  rintro e w' ⟨rfl, rfl⟩
  rw [HC.out]
  go_wp2_with fail
  refine (rproduct_any a c _ (by omega) (by omega) (by omega) (by omega)).mono ?_
  rintro e w' ⟨rfl, rfl⟩
  go_wp2_with fail
  go_ret2
  exact ⟨rfl, rfl⟩

set_option maxHeartbeats 400000 in
theorem rmul_no (a c : Int) (w : World) (a0 : 0 ≤ a) (a1 : a < 4294967296) (c0 : 0 ≤ c) (c1 : c < 4294967296) (h : (isB a && isB c) = false) :
    Calls Try.prog 15 #[.int .u32 a, .int .u32 c] w fun e w' => e = .returned (.tuple #[.int .u32 0, .int .i64 2]) ∧ w = w' := by
  cases ha : isB a
  · have HA := hid ha
    clear ha h
    go_enter Try.func15, Try.ntmps15
    go_wp2_with fail
    refine (ris_any a _ (by omega) (by omega)).mono ?_
    rintro e w' ⟨rfl, rfl⟩
    rw [HA.out]
    go_wp2_with fail
    go_ret2
    exact ⟨rfl, rfl⟩
  · rw [ha, Bool.true_and] at h
    have HA := hid ha
    have HC := hid h
    clear ha h
    go_enter Try.func15, Try.ntmps15
    go_wp2_with fail
    refine (ris_any a _ (by omega) (by omega)).mono ?_
    rintro e w' ⟨rfl, rfl⟩
    rw [HA.out]
    go_wp2_with fail
    refine (ris_any c _ (by omega) (by omega)).mono ?_
    rintro e w' ⟨rfl, rfl⟩
    rw [HC.out]
    go_wp2_with fail
    go_ret2
    exact ⟨rfl, rfl⟩

set_option maxHeartbeats 400000 in
theorem rPow_ok (a : Int) (n : Nat) (w : World) (ha : isB a = true) (hn : n < 18446744073709551616) :
    Calls Try.prog 17 #[.int .u32 a, .int .u64 n] w fun e w' => e = .returned (.tuple #[.int .u32 (pw a n 1000000007), .int .i64 0]) ∧ w = w' := by
  have ⟨a1, a2⟩ := isB_bd ha
  have HA := hid ha
  clear ha
  go_enter Try.func17, Try.ntmps17
  go_wp2_with fail
  refine (ris_any a _ (by omega) (by omega)).mono ?_
  rintro e w' ⟨rfl, rfl⟩
  rw [HA.out]
  go_wp2_with fail
  refine (rraised_any a n _ (by omega) (by omega) hn).mono ?_
  rintro e w2 ⟨rfl, rfl⟩
  go_wp2_with fail
  go_ret2
  exact ⟨rfl, rfl⟩

set_option maxHeartbeats 400000 in
theorem rPow_no (a : Int) (n : Nat) (w : World) (a0 : 0 ≤ a) (a1 : a < 4294967296) (ha : isB a = false) :
    Calls Try.prog 17 #[.int .u32 a, .int .u64 n] w fun e w' => e = .returned (.tuple #[.int .u32 0, .int .i64 2]) ∧ w = w' := by
  have HA := hid ha
  clear ha
  go_enter Try.func17, Try.ntmps17
  go_wp2_with fail
  refine (ris_any a _ (by omega) (by omega)).mono ?_
  rintro e w' ⟨rfl, rfl⟩
  rw [HA.out]
  go_wp2_with fail
  go_ret2
  exact ⟨rfl, rfl⟩

set_option maxHeartbeats 400000 in
theorem rinv_ok (a : Int) (w : World) (ha : isB a = true) :
    Calls Try.prog 19 #[.int .u32 a] w fun e w' => e = .returned (.tuple #[.int .u32 (pw a 500000002 1000000007), .int .i64 0]) ∧ w = w' := by
  have ⟨a1, a2⟩ := isB_bd ha
  have HA := hid ha
  clear ha
  go_enter Try.func19, Try.ntmps19
  go_wp2_with fail
  refine (ris_any a _ (by omega) (by omega)).mono ?_
  rintro e w' ⟨rfl, rfl⟩
  rw [HA.out]
  go_wp2_with fail
  refine (rraised_any a 500000002 _ (by omega) (by omega) (by omega)).mono ?_
  rintro e w2 ⟨rfl, rfl⟩
  go_wp2_with fail
  go_ret2
  exact ⟨rfl, rfl⟩

set_option maxHeartbeats 400000 in
theorem rinv_no (a : Int) (w : World) (a0 : 0 ≤ a) (a1 : a < 4294967296) (ha : isB a = false) :
    Calls Try.prog 19 #[.int .u32 a] w fun e w' => e = .returned (.tuple #[.int .u32 0, .int .i64 2]) ∧ w = w' := by
  have HA := hid ha
  clear ha
  go_enter Try.func19, Try.ntmps19
  go_wp2_with fail
  refine (ris_any a _ (by omega) (by omega)).mono ?_
  rintro e w' ⟨rfl, rfl⟩
  rw [HA.out]
  go_wp2_with fail
  go_ret2
  exact ⟨rfl, rfl⟩

set_option maxHeartbeats 400000 in
theorem rplus_ok (m n : Int) (w : World) (hm : 0 ≤ m) (hm' : m < 500000003) (hn : 0 ≤ n) (hn' : n < 500000003) :
    Calls Try.prog 11 #[.int .u32 m, .int .u32 n] w fun e w' => e = .returned (.tuple #[.int .u32 ((m + n) % 500000003), .int .i64 0]) ∧ w = w' := by
  go_enter Try.func11, Try.ntmps11
  go_wp2_with fail
  refine (rexponent_any m _ (by omega) (by omega)).mono ?_
  rintro e w' ⟨rfl, rfl⟩
  go_wp2_with fail
  refine (rexponent_any n _ (by omega) (by omega)).mono ?_
  rintro e w' ⟨rfl, rfl⟩
  go_wp2_with fail
  refine (rsum_any m n _ (by omega) (by omega) (by omega) (by omega)).mono ?_
  rintro e w' ⟨rfl, rfl⟩
  go_wp2_with fail
  go_ret2
  exact ⟨rfl, rfl⟩

set_option maxHeartbeats 400000 in
theorem rplus_no (m n : Int) (w : World) (hm : 0 ≤ m) (hm' : m < 4294967296) (hn : 0 ≤ n) (hn' : n < 4294967296) (h : 500000003 ≤ m ∨ 500000003 ≤ n) :
    Calls Try.prog 11 #[.int .u32 m, .int .u32 n] w fun e w' => e = .returned (.tuple #[.int .u32 0, .int .i64 2]) ∧ w = w' := by
  by_cases h1 : 500000003 ≤ m
  · have h1' : decide (m < 500000003) = false := by simp; omega
    clear h
    go_enter Try.func11, Try.ntmps11
    go_wp2_with fail
    refine (rexponent_any m _ (by omega) (by omega)).mono ?_
    rintro e w' ⟨rfl, rfl⟩
    go_wp2_with fail
    go_ret2
    exact ⟨rfl, rfl⟩
  · have h2 : 500000003 ≤ n := by omega
    have h3 : m < 500000003 := by omega
    have h2' : decide (n < 500000003) = false := by simp; omega
    clear h h1
    go_enter Try.func11, Try.ntmps11
    go_wp2_with fail
    refine (rexponent_any m _ (by omega) (by omega)).mono ?_
    rintro e w' ⟨rfl, rfl⟩
    go_wp2_with fail
    refine (rexponent_any n _ (by omega) (by omega)).mono ?_
    rintro e w' ⟨rfl, rfl⟩
    go_wp2_with fail
    go_ret2
    exact ⟨rfl, rfl⟩

set_option maxHeartbeats 400000 in
theorem rtimes_ok (m n : Int) (w : World) (hm : 0 ≤ m) (hm' : m < 500000003) (hn : 0 ≤ n) (hn' : n < 500000003) :
    Calls Try.prog 13 #[.int .u32 m, .int .u32 n] w fun e w' => e = .returned (.tuple #[.int .u32 (m * n % 500000003), .int .i64 0]) ∧ w = w' := by
  go_enter Try.func13, Try.ntmps13
  go_wp2_with fail
  refine (rexponent_any m _ (by omega) (by omega)).mono ?_
  rintro e w' ⟨rfl, rfl⟩
  go_wp2_with fail
  refine (rexponent_any n _ (by omega) (by omega)).mono ?_
  rintro e w' ⟨rfl, rfl⟩
  go_wp2_with fail
  refine (rscaled_any m n _ (by omega) (by omega) (by omega) (by omega)).mono ?_
  rintro e w' ⟨rfl, rfl⟩
  go_wp2_with fail
  go_ret2
  exact ⟨rfl, rfl⟩

set_option maxHeartbeats 400000 in
theorem rtimes_no (m n : Int) (w : World) (hm : 0 ≤ m) (hm' : m < 4294967296) (hn : 0 ≤ n) (hn' : n < 4294967296) (h : 500000003 ≤ m ∨ 500000003 ≤ n) :
    Calls Try.prog 13 #[.int .u32 m, .int .u32 n] w fun e w' => e = .returned (.tuple #[.int .u32 0, .int .i64 2]) ∧ w = w' := by
  by_cases h1 : 500000003 ≤ m
  · have h1' : decide (m < 500000003) = false := by simp; omega
    clear h
    go_enter Try.func13, Try.ntmps13
    go_wp2_with fail
    refine (rexponent_any m _ (by omega) (by omega)).mono ?_
    rintro e w' ⟨rfl, rfl⟩
    go_wp2_with fail
    go_ret2
    exact ⟨rfl, rfl⟩
  · have h2 : 500000003 ≤ n := by omega
    have h3 : m < 500000003 := by omega
    have h2' : decide (n < 500000003) = false := by simp; omega
    clear h h1
    go_enter Try.func13, Try.ntmps13
    go_wp2_with fail
    refine (rexponent_any m _ (by omega) (by omega)).mono ?_
    rintro e w' ⟨rfl, rfl⟩
    go_wp2_with fail
    refine (rexponent_any n _ (by omega) (by omega)).mono ?_
    rintro e w' ⟨rfl, rfl⟩
    go_wp2_with fail
    go_ret2
    exact ⟨rfl, rfl⟩

/-! ### The chapter's examples -/
theorem isC (a : Nat) (h0 : 0 < a) (h1 : a < 1000000007) (b : Bool) (h : (pwC a 500000003 1000000007 == 1) = b) : isB (a : Int) = b := by
  have e := pwC_eq a 500000003 1000000007 (by omega) (by omega)
  have e' : pw (a : Int) 500000003 1000000007 = (pwC a 500000003 1000000007 : Int) := e
  unfold isB
  rw [e', ← h]
  have h2 : decide (0 < (a : Int)) = true := by simp; omega
  have h3 : decide ((a : Int) < 1000000007) = true := by simp; omega
  rw [h2, h3, Bool.true_and, Bool.true_and, Bool.eq_iff_iff, beq_iff_eq, beq_iff_eq]
  omega
theorem is_1 : isB 1 = true := isC 1 (by omega) (by omega) true (by decide +kernel)
theorem is_2 : isB 2 = true := isC 2 (by omega) (by omega) true (by decide +kernel)
theorem is_3 : isB 3 = true := isC 3 (by omega) (by omega) true (by decide +kernel)
theorem is_4 : isB 4 = true := isC 4 (by omega) (by omega) true (by decide +kernel)
theorem is_5 : isB 5 = false := isC 5 (by omega) (by omega) false (by decide +kernel)
theorem is_m : isB 1000000006 = false := isC 1000000006 (by omega) (by omega) false (by decide +kernel)
theorem pw_4_15 : pw 4 15 1000000007 = 73741817 := by decide +kernel
theorem inv_4 : pw 4 500000002 1000000007 = 250000002 := by
  have e : pw (4 : Int) 500000002 1000000007 = (pwC 4 500000002 1000000007 : Int) := pwC_eq 4 500000002 1000000007 (by omega) (by omega)
  rw [e]; decide +kernel

set_option maxHeartbeats 1000000 in
theorem alive_any (w : World) :
    Calls Try.prog 24 #[] w fun e w' => e = .returned (.bool true) ∧ Below w.heap.size w w' := by
  go_enter Try.func24, Try.ntmps24
  go_wp2_with fail
  refine (inv_ok 4 _ is_4).mono ?_
  rintro e w1 ⟨rfl, hb1⟩
  rw [inv_4]
  go_wp2_with fail
  refine (plus_ok 500000002 2 _ (by omega) (by omega) (by omega) (by omega)).mono ?_
  rintro e w' ⟨rfl, rfl⟩
  go_wp2_with fail
  refine (is_any 2 _ (by omega) (by omega)).mono ?_
  rintro e w2 ⟨rfl, hb2⟩
  replace hb2 := hb1.trans (hb2.mono hb1.size)
  clear hb1
  rw [is_2]
  go_wp2_with fail
  refine (is_any 3 _ (by omega) (by omega)).mono ?_
  rintro e w1 ⟨rfl, hb1⟩
  replace hb1 := hb2.trans (hb1.mono hb2.size)
  clear hb2
  rw [is_3]
  go_wp2_with fail
  refine (is_any 5 _ (by omega) (by omega)).mono ?_
  rintro e w2 ⟨rfl, hb2⟩
  replace hb2 := hb1.trans (hb2.mono hb1.size)
  clear hb1
  rw [is_5]
  go_wp2_with fail
  refine (is_any 1000000006 _ (by omega) (by omega)).mono ?_
  rintro e w1 ⟨rfl, hb1⟩
  replace hb1 := hb2.trans (hb1.mono hb2.size)
  clear hb2
  rw [is_m]
  go_wp2_with fail
  refine (base_any 15 _ (by omega)).mono ?_
  rintro e w2 ⟨rfl, hb2⟩
  replace hb2 := hb1.trans (hb2.mono hb1.size)
  clear hb1
  rw [pw_4_15]
  go_wp2_with fail
  go_ret
  exact ⟨rfl, hb2⟩

end Go.Proofs.Ythcoclbiiciapaa
