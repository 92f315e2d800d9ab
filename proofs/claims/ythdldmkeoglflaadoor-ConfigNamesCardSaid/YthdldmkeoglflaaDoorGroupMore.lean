/- What the exported functions of package group, and those of its reference, return. -/
import Derived.Test.YthdldmkeoglflaaDoorGroupWalks
namespace Go.Proofs.YthdldmkeoglflaaDoor
set_option maxRecDepth 100000
open Go.RowKit

theorem base_any (n : Nat) (w : World) (hn : n < 18446744073709551616) :
    Calls Tryd.prog 55 #[.int .u64 n] w fun e w' => e = .returned (.int .u32 (gpw 4 n 1000000007)) ∧ Below w.heap.size w w' := by
  go_enter Tryd.func55, Tryd.ntmps55
  go_wp2_with fail
  refine (pow_any 4 n _ (by omega) (by omega) hn).mono ?_
  rintro e w' ⟨rfl, hb⟩
  go_wp2_with fail
  go_ret
  exact ⟨rfl, hb⟩

set_option maxHeartbeats 400000 in
theorem mul_ok (a c : Int) (w : World) (ha : isB a = true) (hc : isB c = true) :
    Calls Tryd.prog 61 #[.int .u32 a, .int .u32 c] w fun e w' => e = .returned (.tuple #[.int .u32 (a * c % 1000000007), .int .i64 0]) ∧ Below w.heap.size w w' := by
  have ⟨a1, a2⟩ := isB_bd ha
  have ⟨c1, c2⟩ := isB_bd hc
  have HA := hid ha
  have HC := hid hc
  clear ha hc
  go_enter Tryd.func61, Tryd.ntmps61
  go_wp2_with fail
  refine (all_2 a c _ _ _ (by omega) (by omega) (by omega) (by omega) (by simp) (by simp)).mono ?_
  rintro e w' ⟨rfl, hb⟩
  rw [HA.out, HC.out]
  have hb1 : Below w.heap.size w w' := ((Below.refl _ _).alloc (Nat.le_refl _) _).trans (hb.mono (by simp))
  have hsz := hb1.size
  go_wp2_with fail
  refine (mul_P a c _ _ _ (by omega) a2 (by omega) (by omega) (by simp) (by simp)).mono ?_
  rintro e w2 ⟨rfl, rfl⟩
  go_wp2_with fail
  go_ret2
  exact ⟨rfl, hb1.alloc hsz _⟩

set_option maxHeartbeats 400000 in
theorem mul_no (a c : Int) (w : World) (a0 : 0 ≤ a) (a1 : a < 4294967296) (c0 : 0 ≤ c) (c1 : c < 4294967296) (h : (isB a && isB c) = false) :
    Calls Tryd.prog 61 #[.int .u32 a, .int .u32 c] w fun e w' => e = .returned (.tuple #[.int .u32 0, .int .i64 2]) ∧ Below w.heap.size w w' := by
  have HA := hid h
  clear h
  go_enter Tryd.func61, Tryd.ntmps61
  go_wp2_with fail
  refine (all_2 a c _ _ _ (by omega) (by omega) (by omega) (by omega) (by simp) (by simp)).mono ?_
  rintro e w' ⟨rfl, hb⟩
  rw [HA.out]
  have hb1 : Below w.heap.size w w' := ((Below.refl _ _).alloc (Nat.le_refl _) _).trans (hb.mono (by simp))
  go_wp2_with fail
  go_ret2
  exact ⟨rfl, hb1⟩

set_option maxHeartbeats 400000 in
theorem Pow_ok (a : Int) (n : Nat) (w : World) (ha : isB a = true) (hn : n < 18446744073709551616) :
    Calls Tryd.prog 60 #[.int .u32 a, .int .u64 n] w fun e w' => e = .returned (.tuple #[.int .u32 (gpw a n 1000000007), .int .i64 0]) ∧ Below w.heap.size w w' := by
  have ⟨a1, a2⟩ := isB_bd ha
  have HA := hid ha
  clear ha
  go_enter Tryd.func60, Tryd.ntmps60
  go_wp2_with fail
  refine (all_1 a _ _ _ (by omega) (by omega) (by simp)).mono ?_
  rintro e w' ⟨rfl, hb⟩
  rw [HA.out]
  have hb1 : Below w.heap.size w w' := ((Below.refl _ _).alloc (Nat.le_refl _) _).trans (hb.mono (by simp))
  go_wp2_with fail
  refine (pow_any a n _ (by omega) (by omega) hn).mono ?_
  rintro e w2 ⟨rfl, hb2⟩
  go_wp2_with fail
  go_ret2
  exact ⟨rfl, hb1.trans (hb2.mono hb1.size)⟩

set_option maxHeartbeats 400000 in
theorem Pow_no (a : Int) (n : Nat) (w : World) (a0 : 0 ≤ a) (a1 : a < 4294967296) (ha : isB a = false) :
    Calls Tryd.prog 60 #[.int .u32 a, .int .u64 n] w fun e w' => e = .returned (.tuple #[.int .u32 0, .int .i64 2]) ∧ Below w.heap.size w w' := by
  have HA := hid ha
  clear ha
  go_enter Tryd.func60, Tryd.ntmps60
  go_wp2_with fail
  refine (all_1 a _ _ _ (by omega) (by omega) (by simp)).mono ?_
  rintro e w' ⟨rfl, hb⟩
  rw [HA.out]
  have hb1 : Below w.heap.size w w' := ((Below.refl _ _).alloc (Nat.le_refl _) _).trans (hb.mono (by simp))
  go_wp2_with fail
  go_ret2
  exact ⟨rfl, hb1⟩

theorem plus_ok (m n : Int) (w : World) (hm : 0 ≤ m) (hm' : m < 500000003) (hn : 0 ≤ n) (hn' : n < 500000003) :
    Calls Tryd.prog 57 #[.int .u32 m, .int .u32 n] w fun e w' => e = .returned (.tuple #[.int .u32 ((m + n) % 500000003), .int .i64 0]) ∧ w = w' := by
  go_enter Tryd.func57, Tryd.ntmps57
  go_wp2
  all_goals (go_ret2; exact ⟨rfl, rfl⟩)

theorem plus_no (m n : Int) (w : World) (hm : 0 ≤ m) (hm' : m < 4294967296) (hn : 0 ≤ n) (hn' : n < 4294967296) (h : 500000003 ≤ m ∨ 500000003 ≤ n) :
    Calls Tryd.prog 57 #[.int .u32 m, .int .u32 n] w fun e w' => e = .returned (.tuple #[.int .u32 0, .int .i64 2]) ∧ w = w' := by
  go_enter Tryd.func57, Tryd.ntmps57
  go_wp2
  all_goals (go_ret2; exact ⟨rfl, rfl⟩)

set_option maxHeartbeats 400000 in
theorem times_ok (m n : Int) (w : World) (hm : 0 ≤ m) (hm' : m < 500000003) (hn : 0 ≤ n) (hn' : n < 500000003) :
    Calls Tryd.prog 56 #[.int .u32 m, .int .u32 n] w fun e w' => e = .returned (.tuple #[.int .u32 (m * n % 500000003), .int .i64 0]) ∧ Below w.heap.size w w' := by
  have H := hid (Int.emod_eq_of_lt hm hm')
  go_enter Tryd.func56, Tryd.ntmps56
  by_cases hlt : m < n
  all_goals
    go_wp2_with fail
    refine (mul_any 500000003 m n _ _ _ (by omega) (by omega) hm (by omega) hn (by omega) (by simp) (by simp)).mono ?_
    rintro e w' ⟨rfl, rfl⟩
    rw [H.out]
    go_wp2_with fail
    go_ret2
    exact ⟨rfl, (Below.refl _ _).alloc (Nat.le_refl _) _⟩

theorem times_no (m n : Int) (w : World) (hm : 0 ≤ m) (hm' : m < 4294967296) (hn : 0 ≤ n) (hn' : n < 4294967296) (h : 500000003 ≤ m ∨ 500000003 ≤ n) :
    Calls Tryd.prog 56 #[.int .u32 m, .int .u32 n] w fun e w' => e = .returned (.tuple #[.int .u32 0, .int .i64 2]) ∧ w = w' := by
  go_enter Tryd.func56, Tryd.ntmps56
  go_wp2_with fail
  all_goals (go_ret2; exact ⟨rfl, rfl⟩)

/-! ### The reference -/
theorem rpower_step1 (O A : Int) (N : Nat) : (O * A % 1000000007) * (A * A % 1000000007) ^ N % 1000000007 = O * A ^ (2 * N + 1) % 1000000007 := by
  have h := pw_mod (A * A) N 1000000007
  unfold gpw at h
  rw [Int.mul_emod, h, Int.emod_emod, ← Int.mul_emod, Int.pow_succ, Int.pow_mul]
  congr 1
  rw [show A ^ 2 = A * A from by rw [Int.pow_succ, Int.pow_succ, Int.pow_zero, Int.one_mul]]
  rw [Int.mul_assoc, Int.mul_comm A]
theorem rpower_step0 (O A : Int) (N : Nat) : O * (A * A % 1000000007) ^ N % 1000000007 = O * A ^ (2 * N) % 1000000007 := by
  have h := pw_mod (A * A) N 1000000007
  unfold gpw at h
  rw [Int.mul_emod, h, ← Int.mul_emod, Int.pow_mul]
  congr 1
  rw [show A ^ 2 = A * A from by rw [Int.pow_succ, Int.pow_succ, Int.pow_zero, Int.one_mul]]

set_option maxHeartbeats 800000 in
theorem rpower_any (a : Int) (n : Nat) (w : World) (ha : 0 ≤ a) (ha' : a < 4294967296) (hn : n < 18446744073709551616) :
    Calls Tryd.prog 91 #[.int .u64 a, .int .u64 n, .int .u64 1000000007] w fun e w' => e = .returned (.int .u64 (gpw a n 1000000007)) ∧ w = w' := by
  go_enter Tryd.func91, Tryd.ntmps91
  go_wp2_with fail
  go_loop [0, 1, 7] (fun A N O => ∃ (x o : Int) (k : Nat), 0 ≤ x ∧ x < 4294967296 ∧ 0 ≤ o ∧ o < 1000000007 ∧ k < 18446744073709551616 ∧ A = .int .u64 x ∧ N = .int .u64 k ∧ O = .int .u64 o ∧ o * x ^ k % 1000000007 = gpw a n 1000000007) (fun _ N _ => (intOf N).toNat)
  case atStart => exact ⟨a, 1, n, ha, ha', by omega, by omega, hn, rfl, rfl, rfl, by unfold gpw; rw [Int.one_mul]⟩
  case round =>
    obtain ⟨x, o, k, x0, x1, o0, o1, hk, rfl, rfl, rfl, hp⟩ := hrel
    have HP := hid hp
    clear hp
    have hxx : x * x ≤ 4294967295 * 4294967295 := Int.mul_le_mul (by omega) (by omega) (by omega) (by omega)
    have hxx0 : 0 ≤ x * x := Int.mul_nonneg x0 x0
    have hox : o * x ≤ 1000000006 * 4294967295 := Int.mul_le_mul (by omega) (by omega) (by omega) (by omega)
    have hox0 : 0 ≤ o * x := Int.mul_nonneg o0 x0
    by_cases h0 : 0 < k
    · rcases (show (k : Int) % 2 = 1 ∨ (k : Int) % 2 = 0 from by omega) with h1 | h1
      · have hbit : ((k : Int) % 2 == 1) = true := by rw [h1]; rfl
        have H1 := hid h1
        clear h1
        go_wp2_with fail
        go_round
        case rel =>
          have H1' := H1.out
          refine ⟨x * x % 1000000007, o * x % 1000000007, k / 2, by omega, by omega, by omega, by omega, by omega, rfl, by go_num, rfl, ?_⟩
          rw [rpower_step1, show 2 * (k / 2) + 1 = k from by omega]
          exact HP.out
        case measure => simp [intOf]; omega
      · have hbit : ((k : Int) % 2 == 1) = false := by rw [h1]; rfl
        have H1 := hid h1
        clear h1
        go_wp2_with fail
        go_round
        case rel =>
          have H1' := H1.out
          refine ⟨x * x % 1000000007, o, k / 2, by omega, by omega, by omega, by omega, by omega, rfl, by go_num, rfl, ?_⟩
          rw [rpower_step0, show 2 * (k / 2) = k from by omega]
          exact HP.out
        case measure => simp [intOf]; omega
    · obtain rfl : k = 0 := by omega
      have hp := HP.out
      rw [Int.pow_zero, Int.mul_one, Int.emod_eq_of_lt o0 o1] at hp
      have H := hid hp
      clear hp
      go_wp2_with fail
      go_ret
      exact ⟨ret_int H.out, rfl⟩

set_option maxHeartbeats 400000 in
theorem ris_any (a : Int) (w : World) (ha : 0 ≤ a) (ha' : a < 4294967296) :
    Calls Tryd.prog 70 #[.int .u32 a] w fun e w' => e = .returned (.bool (isB a)) ∧ w = w' := by
  by_cases h1 : 0 < a
  · by_cases h2 : a < 1000000007
    · have hi : isB a = (gpw a 500000003 1000000007 == 1) := by simp [isB, h1, h2]
      rw [hi]; clear hi
      go_enter Tryd.func70, Tryd.ntmps70
      go_wp2_with fail
      refine (rpower_any a 500000003 _ ha ha' (by omega)).mono ?_
      rintro e w' ⟨rfl, rfl⟩
      go_wp2_with fail
      go_ret
      exact ⟨rfl, rfl⟩
    · have hi : isB a = false := by simp [isB, h2]
      rw [hi]; clear hi
      go_enter Tryd.func70, Tryd.ntmps70
      go_wp2_with fail
      go_ret
      exact ⟨rfl, rfl⟩
  · have hi : isB a = false := by simp [isB, h1]
    rw [hi]; clear hi
    go_enter Tryd.func70, Tryd.ntmps70
    go_wp2_with fail
    go_ret
    exact ⟨rfl, rfl⟩

theorem rraised_any (a : Int) (n : Nat) (w : World) (ha : 0 ≤ a) (ha' : a < 4294967296) (hn : n < 18446744073709551616) :
    Calls Tryd.prog 99 #[.int .u32 a, .int .u64 n] w fun e w' => e = .returned (.int .u32 (gpw a n 1000000007)) ∧ w = w' := by
  have h1 := pw_nonneg a n 1000000007 (by omega)
  have h2 := pw_lt a n 1000000007 (by omega)
  go_enter Tryd.func99, Tryd.ntmps99
  go_wp2_with fail
  refine (rpower_any a n _ ha ha' hn).mono ?_
  rintro e w' ⟨rfl, rfl⟩
  go_wp2_with fail
  go_ret
  exact ⟨rfl, rfl⟩

theorem rbase_any (n : Nat) (w : World) (hn : n < 18446744073709551616) :
    Calls Tryd.prog 84 #[.int .u64 n] w fun e w' => e = .returned (.int .u32 (gpw 4 n 1000000007)) ∧ w = w' := by
  go_enter Tryd.func84, Tryd.ntmps84
  go_wp2_with fail
  refine (rraised_any 4 n _ (by omega) (by omega) hn).mono ?_
  rintro e w' ⟨rfl, rfl⟩
  go_wp2_with fail
  go_ret
  exact ⟨rfl, rfl⟩

end Go.Proofs.YthdldmkeoglflaaDoor
