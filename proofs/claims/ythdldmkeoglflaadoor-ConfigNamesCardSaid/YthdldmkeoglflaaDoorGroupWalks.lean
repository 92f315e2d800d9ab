/- What the functions of package group, and of its reference, return. -/
import Derived.Test.YthdldmkeoglflaaDoorGroupTheory
import Derived.WalkKit
import Derived.WalkSpells
import Derived.WalkLawsBesides
import Derived.Outline
namespace Go.Proofs.YthdldmkeoglflaaDoor
set_option maxRecDepth 100000
open Go.RowKit

def step2 (m x y : Int) (k : Nat) : Int := if k = 0 then 1 else if k = 1 then x % m else x % m * y % m

set_option maxHeartbeats 400000 in
theorem mul_any (m x y : Int) (b o : Nat) (w : World) (hm : 1 ≤ m) (hm' : m < 4294967296) (hx : 0 ≤ x) (hx' : x < 4294967296) (hy : 0 ≤ y) (hy' : y < 4294967296)
    (hc0 : w.cell? ⟨b, o, none⟩ = some (.int .u32 x)) (hc1 : w.cell? ⟨b, o + 1, none⟩ = some (.int .u32 y)) :
    Calls Tryd.prog 80 #[.int .u64 m, .slice (some ⟨b, o, none⟩) 2 2] w fun e w' => e = .returned (.int .u32 (x % m * y % m)) ∧ w = w' := by
  have h1 : 0 ≤ x % m := Int.emod_nonneg _ (by omega)
  have h2 : x % m < m := Int.emod_lt_of_pos _ (by omega)
  have h3 : x % m * y < 18446744073709551616 := by
    have : x % m * y ≤ 4294967295 * 4294967295 := Int.mul_le_mul (by omega) (by omega) hy (by omega)
    omega
  have h4 : 0 ≤ x % m * y := Int.mul_nonneg h1 hy
  have h5 : 0 ≤ x % m * y % m := Int.emod_nonneg _ (by omega)
  have h6 : x % m * y % m < m := Int.emod_lt_of_pos _ (by omega)
  go_enter Tryd.func80, Tryd.ntmps80
  go_wp2
  go_loop [5, 7, 10] (fun t _ i => ∃ k : Nat, k ≤ 2 ∧ i = .int .i64 k ∧ t = .int .u64 (step2 m x y k)) (fun _ _ i => 2 - (intOf i).toNat)
  case atStart => exact ⟨0, Nat.zero_le _, rfl, rfl⟩
  case round =>
    obtain ⟨k, hk, rfl, rfl⟩ := hrel
    rcases (show k = 0 ∨ k = 1 ∨ k = 2 from by omega) with rfl | rfl | rfl
    · simp only [step2]
      go_wp2
      go_round
      case rel => exact ⟨1, by omega, by go_num, by simp⟩
      case measure => simp [intOf]
    · simp only [step2]
      go_wp2
      go_round
      case rel => exact ⟨2, by omega, by go_num, by simp⟩
      case measure => simp [intOf]
    · simp only [step2]
      go_wp2
      go_ret
      exact ⟨rfl, rfl⟩

/-- As mul_any, for numbers of the group's size. -/
theorem mul_P (x y : Int) (b o : Nat) (w : World) (hx : 0 ≤ x) (hx' : x < 1000000007) (hy : 0 ≤ y) (hy' : y < 4294967296)
    (hc0 : w.cell? ⟨b, o, none⟩ = some (.int .u32 x)) (hc1 : w.cell? ⟨b, o + 1, none⟩ = some (.int .u32 y)) :
    Calls Tryd.prog 80 #[.int .u64 1000000007, .slice (some ⟨b, o, none⟩) 2 2] w fun e w' => e = .returned (.int .u32 (x * y % 1000000007)) ∧ w = w' := by
  have := mul_any 1000000007 x y b o w (by omega) (by omega) hx (by omega) hy hy' hc0 hc1
  rwa [Int.emod_eq_of_lt hx (by omega)] at this

set_option maxHeartbeats 400000 in
theorem square_any (x : Int) (b : Nat) (w : World) (hx : 0 ≤ x) (hx' : x < 1000000007)
    (hb : w.heap[b]? = some (.cells #[.int .u32 x] 24 (0, 0))) :
    Calls Tryd.prog 98 #[.pointer (some ⟨b, 0, none⟩)] w fun e w' => e = .returned (.tuple #[]) ∧ w'.heap[b]? = some (.cells #[.int .u32 (x * x % 1000000007)] 24 (0, 0)) ∧ Below b w w' := by
  have hc := cell_of_one hb
  have hf := free_of_one hb
  have hl := lt_of_block hb
  have hb' := hid hb
  clear hb
  go_enter Tryd.func98, Tryd.ntmps98
  go_wp2_with fail
  refine (mul_P x x _ _ _ hx hx' hx (by omega) (by simp) (by simp)).mono ?_
  rintro e w' ⟨rfl, rfl⟩
  go_wp2_with fail
  go_end0
  refine ⟨rfl, (Below.heap_alloc _ _ _ (by simpa using hl)).trans (one_setCell hb'.out), ((Below.refl b w).setCell (p := ⟨b, 0, none⟩) (Nat.le_refl b) _).alloc (by simp; omega) _⟩

theorem pw_top (a : Int) (i : Nat) : gpw a i 1000000007 * gpw a i 1000000007 % 1000000007 = gpw a (2 * i) 1000000007 := by
  rw [pw_add]; congr 1; omega
theorem pw_succ (a : Int) (i : Nat) : gpw a i 1000000007 * a % 1000000007 = gpw a (i + 1) 1000000007 := by
  unfold gpw; rw [Int.pow_succ, Int.mul_emod, Int.emod_emod, ← Int.mul_emod]
theorem digit_of (n j : Nat) (hn : n < 18446744073709551616) : bits BinOp.and IntKind.u64 ((n : Int) / 2 ^ j) 1 = ((n / 2 ^ j % 2 : Nat) : Int) := by
  have e : ((n : Int) / 2 ^ j) = ((n / 2 ^ j : Nat) : Int) := by simp
  have hle := Nat.div_le_self n (2 ^ j)
  rw [e]
  generalize n / 2 ^ j = z at *
  rw [and_one_u64 _ (by omega) (by omega)]
  omega

set_option maxHeartbeats 800000 in
theorem pow_any (a : Int) (n : Nat) (w : World) (ha : 0 ≤ a) (ha' : a < 4294967296) (hn : n < 18446744073709551616) :
    Calls Tryd.prog 79 #[.int .u32 a, .int .u64 n] w fun e w' => e = .returned (.int .u32 (gpw a n 1000000007)) ∧ Below w.heap.size w w' := by
  go_enter Tryd.func79, Tryd.ntmps79
  go_wp2_with fail
  go_loopw [7, 9] (fun _ i wr => ∃ k : Nat, k ≤ 64 ∧ i = .int .i64 k ∧ wr.heap[w.heap.size]? = some (.cells #[.int .u32 (gpw a (n / 2 ^ (64 - k)) 1000000007)] 24 (0, 0)) ∧ Below w.heap.size w wr) (fun _ i _ => 64 - (intOf i).toNat)
  case atStart =>
    refine ⟨0, Nat.zero_le _, rfl, ?_, (Below.refl _ _).alloc (Nat.le_refl _) _⟩
    rw [show n / 2 ^ (64 - 0) = 0 from Nat.div_eq_of_lt (by omega), pw_zero _ _ (by omega)]
    show (w.heap.push _)[w.heap.size]? = _
    simp
  case round =>
    obtain ⟨k, hk, rfl, hb, hbl⟩ := hrel
    by_cases hlt : k < 64
    · have h1 := pw_nonneg a (n / 2 ^ (64 - k)) 1000000007 (by omega)
      have h2 := pw_lt a (n / 2 ^ (64 - k)) 1000000007 (by omega)
      have H4 := hid (top_step n k hn hlt)
      have H5 := hid (digit_of n (63 - k) hn)
      have Hb := hid hb
      clear hb
      go_wp2_with fail
      refine (square_any _ _ _ h1 h2 Hb.out).mono ?_
      rintro e w' ⟨rfl, hb2, hbl2⟩
      have hsz := hbl.size
      rw [pw_top] at hb2
      have hbl3 := hbl.trans hbl2
      clear h1 h2
      have h1 := pw_nonneg a (2 * (n / 2 ^ (64 - k))) 1000000007 (by omega)
      have h2 := pw_lt a (2 * (n / 2 ^ (64 - k))) 1000000007 (by omega)
      have hc := cell_of_one hb2
      have hf := free_of_one hb2
      have hl := lt_of_block hb2
      have Hb2 := hid hb2
      clear hb2
      rcases (show n / 2 ^ (63 - k) % 2 = 1 ∨ n / 2 ^ (63 - k) % 2 = 0 from by omega) with hd | hd
      · have hbit : (bits BinOp.and IntKind.u64 ((n : Int) / 2 ^ (63 - k)) 1 == 1) = true := by rw [H5.out, hd]; rfl
        have Hd := hid hd
        clear hd
        go_wp2_with fail
        refine (mul_P _ a _ _ _ h1 h2 ha ha' (by simp) (by simp)).mono ?_
        rintro e w2 ⟨rfl, rfl⟩
        have e2 : gpw a (2 * (n / 2 ^ (64 - k))) 1000000007 * a % 1000000007 = gpw a (n / 2 ^ (64 - (k + 1))) 1000000007 := by
          rw [pw_succ, H4.out, Hd.out]
        rw [e2]
        have E2 : Hid (n / 2 ^ (63 - k) = n / 2 ^ (64 - (k + 1))) := by rw [show 64 - (k + 1) = 63 - k from by omega]; exact rfl
        clear e2
        go_wp2_with fail
        go_roundw
        case rel => exact ⟨k + 1, by omega, by go_num, (Below.heap_alloc _ _ _ (by simpa using hl)).trans (by rw [← E2.out]; exact one_setCell Hb2.out), (hbl3.setCell (p := ⟨w.heap.size, 0, none⟩) (Nat.le_refl _) _).alloc (by simp; omega) _⟩
        case measure => simp [intOf]; omega
      · have hbit : (bits BinOp.and IntKind.u64 ((n : Int) / 2 ^ (63 - k)) 1 == 1) = false := by rw [H5.out, hd]; rfl
        have e2 : 2 * (n / 2 ^ (64 - k)) = n / 2 ^ (64 - (k + 1)) := by
          rw [H4.out, hd]; rfl
        have E2 := hid e2
        clear e2 hd
        go_wp2_with fail
        go_roundw
        case rel => exact ⟨k + 1, by omega, by go_num, by rw [← E2.out]; exact Hb2.out, hbl3⟩
        case measure => simp [intOf]; omega
    · obtain rfl : k = 64 := by omega
      rw [show n / 2 ^ (64 - 64) = n from by simp] at hb
      have hc := cell_of_one hb
      go_wp2_with fail
      go_ret
      exact ⟨rfl, hbl⟩

/-! ### The functions that the package exports -/
set_option maxHeartbeats 400000 in
theorem is_any (a : Int) (w : World) (ha : 0 ≤ a) (ha' : a < 4294967296) :
    Calls Tryd.prog 59 #[.int .u32 a] w fun e w' => e = .returned (.bool (isB a)) ∧ Below w.heap.size w w' := by
  by_cases h1 : 0 < a
  · by_cases h2 : a < 1000000007
    · have hi : isB a = (gpw a 500000003 1000000007 == 1) := by simp [isB, h1, h2]
      rw [hi]; clear hi
      go_enter Tryd.func59, Tryd.ntmps59
      go_wp2_with fail
      refine (pow_any a 500000003 _ ha ha' (by omega)).mono ?_
      rintro e w' ⟨rfl, hb⟩
      go_wp2_with fail
      go_ret
      exact ⟨rfl, hb⟩
    · have hi : isB a = false := by simp [isB, h2]
      rw [hi]; clear hi
      go_enter Tryd.func59, Tryd.ntmps59
      go_wp2_with fail
      go_ret
      exact ⟨rfl, Below.refl _ _⟩
  · have hi : isB a = false := by simp [isB, h1]
    rw [hi]; clear hi
    go_enter Tryd.func59, Tryd.ntmps59
    go_wp2_with fail
    go_ret
    exact ⟨rfl, Below.refl _ _⟩

set_option maxHeartbeats 400000 in
theorem all_1 (a : Int) (b o : Nat) (w : World) (ha : 0 ≤ a) (ha' : a < 4294967296) (hc0 : w.cell? ⟨b, o, none⟩ = some (.int .u32 a)) :
    Calls Tryd.prog 81 #[.slice (some ⟨b, o, none⟩) 1 1] w fun e w' => e = .returned (.bool (isB a)) ∧ Below w.heap.size w w' := by
  cases hB : isB a
  all_goals
    have HB := hid hB
    clear hB
    go_enter Tryd.func81, Tryd.ntmps81
    go_wp2_with fail
    refine wp_loop_rounds 2 ?_
    rw [rounds_succ]
    go_wp2_with fail
    refine (is_any a _ ha ha').mono ?_
    rintro e w' ⟨rfl, hb⟩
    rw [HB.out]
    go_wp2_with (rw [rounds_succ])
    go_ret
    exact ⟨rfl, hb⟩

set_option maxHeartbeats 400000 in
theorem all_2 (a c : Int) (b o : Nat) (w : World) (ha : 0 ≤ a) (ha' : a < 4294967296) (hc : 0 ≤ c) (hc' : c < 4294967296)
    (hc0 : w.cell? ⟨b, o, none⟩ = some (.int .u32 a)) (hc1 : w.cell? ⟨b, o + 1, none⟩ = some (.int .u32 c)) :
    Calls Tryd.prog 81 #[.slice (some ⟨b, o, none⟩) 2 2] w fun e w' => e = .returned (.bool (isB a && isB c)) ∧ Below w.heap.size w w' := by
  cases hB : isB a
  · have HB := hid hB
    clear hB
    go_enter Tryd.func81, Tryd.ntmps81
    go_wp2_with fail
    refine wp_loop_rounds 3 ?_
    rw [rounds_succ]
    go_wp2_with fail
    refine (is_any a _ ha ha').mono ?_
    rintro e w' ⟨rfl, hb⟩
    rw [HB.out]
    go_wp2_with fail
    go_ret
    exact ⟨rfl, hb⟩
  · cases hC : isB c
    all_goals
      have HB := hid hB
      clear hB
      have HC := hid hC
      clear hC
      go_enter Tryd.func81, Tryd.ntmps81
      go_wp2_with fail
      refine wp_loop_rounds 3 ?_
      rw [rounds_succ]
      go_wp2_with fail
      refine (is_any a _ ha ha').mono ?_
      rintro e w' ⟨rfl, hb⟩
      rw [HB.out]
      have hc1' := cell_later hb hc1
      go_wp2_with (rw [rounds_succ])
      refine (is_any c _ hc hc').mono ?_
      rintro e w2 ⟨rfl, hb2⟩
      rw [HC.out]
      go_wp2_with (rw [rounds_succ])
      go_ret
      exact ⟨rfl, hb.trans (hb2.mono hb.size)⟩

end Go.Proofs.YthdldmkeoglflaaDoor
