/- The laws on group that compare it with its reference. -/
import Derived.Test.YthcoclbiiciapaaGroupRefs
import Derived.OpenShut
namespace Go.Proofs.Ythcoclbiiciapaa
open Go.RowKit

theorem bchain {w w1 w2 : World} (h : Below w.heap.size w w1) (k : Below w1.heap.size w1 w2) : Below w.heap.size w w2 := h.trans (k.mono h.size)
theorem bd_u32 {a : Int} (h : (Lit.int .u32 a).wf = true) : 0 ≤ a ∧ a < 4294967296 := by
  have := bounds_u32 h; omega
theorem bd_u64 {a : Int} (h : (Lit.int .u64 a).wf = true) : 0 ≤ a ∧ a < 18446744073709551616 := by
  have := bounds_u64 h; omega

set_option maxHeartbeats 1000000 in
theorem exponents_walk (m n : Int) (w : World) (wm : (Lit.int .u32 m).wf = true) (wn : (Lit.int .u32 n).wf = true) :
    Calls Try.prog 3 #[.int .u32 m, .int .u32 n] w fun e w' => e = .returned (.bool true) ∧ Below w.heap.size w w' := by
  have ⟨m0, m1⟩ := bd_u32 wm
  have ⟨n0, n1⟩ := bd_u32 wn
  clear wm wn
  by_cases h : m < 500000003 ∧ n < 500000003
  · obtain ⟨m2, n2⟩ := h
    go_enter Try.func3, Try.ntmps3
    go_wp2_with fail
    refine (plus_ok m n _ m0 m2 n0 n2).mono ?_
    rintro e w' ⟨rfl, rfl⟩
    go_wp2_with fail
    refine (rplus_ok m n _ m0 m2 n0 n2).mono ?_
    rintro e w' ⟨rfl, rfl⟩
    go_wp2_with fail
    refine (times_ok m n _ m0 m2 n0 n2).mono ?_
    rintro e w1 ⟨rfl, hb⟩
    go_wp2_with fail
    refine (rtimes_ok m n _ m0 m2 n0 n2).mono ?_
    rintro e w' ⟨rfl, rfl⟩
    go_wp2_with fail
    go_ret
    exact ⟨rfl, hb⟩
  · have h' : 500000003 ≤ m ∨ 500000003 ≤ n := by omega
    clear h
    have H := hid h'
    clear h'
    go_enter Try.func3, Try.ntmps3
    go_wp2_with fail
    refine (plus_no m n _ m0 m1 n0 n1 H.out).mono ?_
    rintro e w' ⟨rfl, rfl⟩
    go_wp2_with fail
    refine (rplus_no m n _ m0 m1 n0 n1 H.out).mono ?_
    rintro e w' ⟨rfl, rfl⟩
    go_wp2_with fail
    refine (times_no m n _ m0 m1 n0 n1 H.out).mono ?_
    rintro e w' ⟨rfl, rfl⟩
    go_wp2_with fail
    refine (rtimes_no m n _ m0 m1 n0 n1 H.out).mono ?_
    rintro e w' ⟨rfl, rfl⟩
    go_wp2_with fail
    go_ret
    exact ⟨rfl, Below.refl _ _⟩


set_option maxHeartbeats 2000000 in
theorem makes_walk (a b n : Int) (w : World) (wa : (Lit.int .u32 a).wf = true) (wb : (Lit.int .u32 b).wf = true) (wn : (Lit.int .u64 n).wf = true) :
    Calls Try.prog 4 #[.int .u32 a, .int .u32 b, .int .u64 n] w fun e w' =>
      e = .returned (.bool true) ∧ Below w.heap.size w w' := by
  have ⟨a0, a1⟩ := bd_u32 wa
  have ⟨b0, b1⟩ := bd_u32 wb
  have ⟨n0, n1⟩ := bd_u64 wn
  obtain ⟨n, rfl⟩ := Int.eq_ofNat_of_zero_le n0
  replace n1 : n < 18446744073709551616 := by omega
  clear wa wb wn n0
  cases ha : isB a
  · have hab : (isB a && isB b) = false := by rw [ha]; rfl
    have H_ha := hid ha
    have H_hab := hid hab
    clear ha hab
    go_enter Try.func4, Try.ntmps4
    have hb0 := Below.refl w.heap.size w
    go_wp2_with fail
    refine (mul_no a b _ a0 a1 b0 b1 H_hab.out).mono ?_
    rintro e w1 ⟨rfl, hc1⟩
    have hb1 := bchain hb0 hc1
    clear hc1 hb0
    go_wp2_with fail
    refine (rmul_no a b _ a0 a1 b0 b1 H_hab.out).mono ?_
    rintro e w' ⟨rfl, rfl⟩
    go_wp2_with fail
    refine (Pow_no a n _ a0 a1 H_ha.out).mono ?_
    rintro e w2 ⟨rfl, hc2⟩
    have hb2 := bchain hb1 hc2
    clear hc2 hb1
    go_wp2_with fail
    refine (rPow_no a n _ a0 a1 H_ha.out).mono ?_
    rintro e w' ⟨rfl, rfl⟩
    go_wp2_with fail
    refine (inv_no a _ a0 a1 H_ha.out).mono ?_
    rintro e w3 ⟨rfl, hc3⟩
    have hb3 := bchain hb2 hc3
    clear hc3 hb2
    go_wp2_with fail
    refine (rinv_no a _ a0 a1 H_ha.out).mono ?_
    rintro e w' ⟨rfl, rfl⟩
    go_wp2_with fail
    refine (is_any a _ a0 a1).mono ?_
    rintro e w4 ⟨rfl, hc4⟩
    have hb4 := bchain hb3 hc4
    clear hc4 hb3
    go_wp2_with fail
    refine (ris_any a _ a0 a1).mono ?_
    rintro e w' ⟨rfl, rfl⟩
    go_wp2_with fail
    refine (base_any n _ n1).mono ?_
    rintro e w5 ⟨rfl, hc5⟩
    have hb5 := bchain hb4 hc5
    clear hc5 hb4
    go_wp2_with fail
    refine (rbase_any n _ n1).mono ?_
    rintro e w' ⟨rfl, rfl⟩
    go_wp2_with fail
    go_ret
    exact ⟨rfl, hb5⟩
  · cases hb : isB b
    · have hab : (isB a && isB b) = false := by rw [ha, hb]; rfl
      have H_ha := hid ha
      have H_hab := hid hab
      clear ha hab
      clear hb
      go_enter Try.func4, Try.ntmps4
      have hb0 := Below.refl w.heap.size w
      go_wp2_with fail
      refine (mul_no a b _ a0 a1 b0 b1 H_hab.out).mono ?_
      rintro e w1 ⟨rfl, hc1⟩
      have hb1 := bchain hb0 hc1
      clear hc1 hb0
      go_wp2_with fail
      refine (rmul_no a b _ a0 a1 b0 b1 H_hab.out).mono ?_
      rintro e w' ⟨rfl, rfl⟩
      go_wp2_with fail
      refine (Pow_ok a n _ H_ha.out n1).mono ?_
      rintro e w2 ⟨rfl, hc2⟩
      have hb2 := bchain hb1 hc2
      clear hc2 hb1
      go_wp2_with fail
      refine (rPow_ok a n _ H_ha.out n1).mono ?_
      rintro e w' ⟨rfl, rfl⟩
      go_wp2_with fail
      refine (inv_ok a _ H_ha.out).mono ?_
      rintro e w3 ⟨rfl, hc3⟩
      have hb3 := bchain hb2 hc3
      clear hc3 hb2
      go_wp2_with fail
      refine (rinv_ok a _ H_ha.out).mono ?_
      rintro e w' ⟨rfl, rfl⟩
      go_wp2_with fail
      refine (is_any a _ a0 a1).mono ?_
      rintro e w4 ⟨rfl, hc4⟩
      have hb4 := bchain hb3 hc4
      clear hc4 hb3
      go_wp2_with fail
      refine (ris_any a _ a0 a1).mono ?_
      rintro e w' ⟨rfl, rfl⟩
      go_wp2_with fail
      refine (base_any n _ n1).mono ?_
      rintro e w5 ⟨rfl, hc5⟩
      have hb5 := bchain hb4 hc5
      clear hc5 hb4
      go_wp2_with fail
      refine (rbase_any n _ n1).mono ?_
      rintro e w' ⟨rfl, rfl⟩
      go_wp2_with fail
      go_ret
      exact ⟨rfl, hb5⟩
    · have H_ha := hid ha
      have H_hb := hid hb
      clear ha hb
      go_enter Try.func4, Try.ntmps4
      have hb0 := Below.refl w.heap.size w
      go_wp2_with fail
      refine (mul_ok a b _ H_ha.out H_hb.out).mono ?_
      rintro e w1 ⟨rfl, hc1⟩
      have hb1 := bchain hb0 hc1
      clear hc1 hb0
      go_wp2_with fail
      refine (rmul_ok a b _ H_ha.out H_hb.out).mono ?_
      rintro e w' ⟨rfl, rfl⟩
      go_wp2_with fail
      refine (Pow_ok a n _ H_ha.out n1).mono ?_
      rintro e w2 ⟨rfl, hc2⟩
      have hb2 := bchain hb1 hc2
      clear hc2 hb1
      go_wp2_with fail
      refine (rPow_ok a n _ H_ha.out n1).mono ?_
      rintro e w' ⟨rfl, rfl⟩
      go_wp2_with fail
      refine (inv_ok a _ H_ha.out).mono ?_
      rintro e w3 ⟨rfl, hc3⟩
      have hb3 := bchain hb2 hc3
      clear hc3 hb2
      go_wp2_with fail
      refine (rinv_ok a _ H_ha.out).mono ?_
      rintro e w' ⟨rfl, rfl⟩
      go_wp2_with fail
      refine (is_any a _ a0 a1).mono ?_
      rintro e w4 ⟨rfl, hc4⟩
      have hb4 := bchain hb3 hc4
      clear hc4 hb3
      go_wp2_with fail
      refine (ris_any a _ a0 a1).mono ?_
      rintro e w' ⟨rfl, rfl⟩
      go_wp2_with fail
      refine (base_any n _ n1).mono ?_
      rintro e w5 ⟨rfl, hc5⟩
      have hb5 := bchain hb4 hc5
      clear hc5 hb4
      go_wp2_with fail
      refine (rbase_any n _ n1).mono ?_
      rintro e w' ⟨rfl, rfl⟩
      go_wp2_with fail
      go_ret
      exact ⟨rfl, hb5⟩

set_option maxHeartbeats 1000000 in
theorem half_walk (a : Int) (w : World) (wa : (Lit.int .u32 a).wf = true) :
    Calls Try.prog 5 #[.int .u32 a] w fun e w' =>
      e = .returned (.bool true) ∧ Below w.heap.size w w' := by
  have ⟨a0, a1⟩ := bd_u32 wa
  clear wa
  have r0 : 0 ≤ a % 1000000007 := by omega
  have r1 : a % 1000000007 < 1000000007 := by omega
  by_cases hz : a % 1000000007 = 0
  · have hz' : (a % 1000000007 == 0) = true := by rw [hz]; rfl
    clear hz r0 r1
    go_enter Try.func5, Try.ntmps5
    have hb0 := Below.refl w.heap.size w
    go_wp2_with fail
    refine (is_any 0 _ (by omega) (by omega)).mono ?_
    rintro e w1 ⟨rfl, hc1⟩
    have hb1 := bchain hb0 hc1
    clear hc1 hb0
    rw [isB_0]
    go_wp2_with fail
    refine (alive_any _).mono ?_
    rintro e w2 ⟨rfl, hc2⟩
    have hb2 := bchain hb1 hc2
    clear hc2 hb1
    go_wp2_with fail
    go_ret
    exact ⟨rfl, hb2⟩
  · have hz' : (a % 1000000007 == 0) = false := by simpa using hz
    have hpos : 0 < a % 1000000007 := by omega
    have hrr : a % 1000000007 * (a % 1000000007) ≤ 1000000006 * 1000000006 := Int.mul_le_mul (by omega) (by omega) (by omega) (by omega)
    have hrr0 : 0 ≤ a % 1000000007 * (a % 1000000007) := Int.mul_nonneg r0 r0
    have hop := isB_opp _ hpos r1
    have hsq := isB_square _ hpos r1
    cases hx : isB (1000000007 - a % 1000000007)
    all_goals
      rw [hx] at hop
      have H_hop := hid hop
      have H_hsq := hid hsq
      have H_hx := hid hx
      clear hop hsq hx
      clear hz
      go_enter Try.func5, Try.ntmps5
      have hb0 := Below.refl w.heap.size w
      go_wp2_with fail
      refine (is_any _ _ r0 (by omega)).mono ?_
      rintro e w1 ⟨rfl, hc1⟩
      have hb1 := bchain hb0 hc1
      clear hc1 hb0
      rw [H_hop.out]
      go_wp2_with fail
      refine (is_any _ _ (by omega) (by omega)).mono ?_
      rintro e w2 ⟨rfl, hc2⟩
      have hb2 := bchain hb1 hc2
      clear hc2 hb1
      rw [H_hx.out]
      go_wp2_with fail
      refine (is_any _ _ (by omega) (by omega)).mono ?_
      rintro e w3 ⟨rfl, hc3⟩
      have hb3 := bchain hb2 hc3
      clear hc3 hb2
      rw [H_hsq.out]
      go_wp2_with fail
      refine (alive_any _).mono ?_
      rintro e w4 ⟨rfl, hc4⟩
      have hb4 := bchain hb3 hc4
      clear hc4 hb3
      go_wp2_with fail
      go_ret
      exact ⟨rfl, hb4⟩

set_option maxHeartbeats 1000000 in
theorem back_walk (a b : Int) (w : World) (wa : (Lit.int .u32 a).wf = true) (wb : (Lit.int .u32 b).wf = true) :
    Calls Try.prog 6 #[.int .u32 a, .int .u32 b] w fun e w' =>
      e = .returned (.bool true) ∧ Below w.heap.size w w' := by
  have ⟨a0, a1⟩ := bd_u32 wa
  have ⟨b0, b1⟩ := bd_u32 wb
  clear wa wb
  cases ha : isB a
  · have H_ha := hid ha
    clear ha
    go_enter Try.func6, Try.ntmps6
    have hb0 := Below.refl w.heap.size w
    go_wp2_with fail
    refine (ris_any a _ a0 a1).mono ?_
    rintro e w' ⟨rfl, rfl⟩
    rw [H_ha.out]
    go_wp2_with fail
    refine (alive_any _).mono ?_
    rintro e w1 ⟨rfl, hc1⟩
    have hb1 := bchain hb0 hc1
    clear hc1 hb0
    go_wp2_with fail
    go_ret
    exact ⟨rfl, hb1⟩
  · cases hb : isB b
    · have H_ha := hid ha
      have H_hb := hid hb
      clear ha hb
      go_enter Try.func6, Try.ntmps6
      have hb0 := Below.refl w.heap.size w
      go_wp2_with fail
      refine (ris_any a _ a0 a1).mono ?_
      rintro e w' ⟨rfl, rfl⟩
      rw [H_ha.out]
      go_wp2_with fail
      refine (ris_any b _ b0 b1).mono ?_
      rintro e w' ⟨rfl, rfl⟩
      rw [H_hb.out]
      go_wp2_with fail
      refine (alive_any _).mono ?_
      rintro e w1 ⟨rfl, hc1⟩
      have hb1 := bchain hb0 hc1
      clear hc1 hb0
      go_wp2_with fail
      go_ret
      exact ⟨rfl, hb1⟩
    · have hinv := isB_pow ha 500000002
      have h1 := mul_inv ha
      have h2 := inv_inv ha
      have hba := isB_mul hb ha
      have h3 : b * a % 1000000007 * pw a 500000002 1000000007 % 1000000007 = b := by
        have ⟨c0, c1⟩ := isB_bd hb
        rw [Int.mul_emod, Int.emod_emod, ← Int.mul_emod, Int.mul_assoc, Int.mul_emod, h1, Int.mul_one, Int.emod_emod]
        exact Int.emod_eq_of_lt (by omega) c1
      have H_ha := hid ha
      have H_hb := hid hb
      have H_hinv := hid hinv
      have H_h1 := hid h1
      have H_h2 := hid h2
      have H_hba := hid hba
      have H_h3 := hid h3
      clear ha hb hinv h1 h2 hba h3
      go_enter Try.func6, Try.ntmps6
      have hb0 := Below.refl w.heap.size w
      go_wp2_with fail
      refine (ris_any a _ a0 a1).mono ?_
      rintro e w' ⟨rfl, rfl⟩
      rw [H_ha.out]
      go_wp2_with fail
      refine (ris_any b _ b0 b1).mono ?_
      rintro e w' ⟨rfl, rfl⟩
      rw [H_hb.out]
      go_wp2_with fail
      refine (inv_ok a _ H_ha.out).mono ?_
      rintro e w1 ⟨rfl, hc1⟩
      have hb1 := bchain hb0 hc1
      clear hc1 hb0
      go_wp2_with fail
      refine (mul_ok a _ _ H_ha.out H_hinv.out).mono ?_
      rintro e w2 ⟨rfl, hc2⟩
      have hb2 := bchain hb1 hc2
      clear hc2 hb1
      rw [H_h1.out]
      go_wp2_with fail
      refine (mul_ok b a _ H_hb.out H_ha.out).mono ?_
      rintro e w3 ⟨rfl, hc3⟩
      have hb3 := bchain hb2 hc3
      clear hc3 hb2
      go_wp2_with fail
      refine (mul_ok _ _ _ H_hba.out H_hinv.out).mono ?_
      rintro e w4 ⟨rfl, hc4⟩
      have hb4 := bchain hb3 hc4
      clear hc4 hb3
      rw [H_h3.out]
      go_wp2_with fail
      refine (inv_ok _ _ H_hinv.out).mono ?_
      rintro e w5 ⟨rfl, hc5⟩
      have hb5 := bchain hb4 hc5
      clear hc5 hb4
      rw [H_h2.out]
      go_wp2_with fail
      refine (Pow_ok a 500000002 _ H_ha.out (by omega)).mono ?_
      rintro e w6 ⟨rfl, hc6⟩
      have hb6 := bchain hb5 hc6
      clear hc6 hb5
      go_wp2_with fail
      refine (alive_any _).mono ?_
      rintro e w7 ⟨rfl, hc7⟩
      have hb7 := bchain hb6 hc7
      clear hc7 hb6
      go_wp2_with fail
      go_ret
      exact ⟨rfl, hb7⟩

set_option maxHeartbeats 1000000 in
theorem rules_walk (a b c n : Int) (w : World) (wa : (Lit.int .u32 a).wf = true) (wb : (Lit.int .u32 b).wf = true) (wc : (Lit.int .u32 c).wf = true) (wn : (Lit.int .u64 n).wf = true) :
    Calls Try.prog 7 #[.int .u32 a, .int .u32 b, .int .u32 c, .int .u64 n] w fun e w' =>
      e = .returned (.bool true) ∧ Below w.heap.size w w' := by
  have ⟨a0, a1⟩ := bd_u32 wa
  have ⟨b0, b1⟩ := bd_u32 wb
  have ⟨c0, c1⟩ := bd_u32 wc
  have ⟨n0, n1⟩ := bd_u64 wn
  obtain ⟨n, rfl⟩ := Int.eq_ofNat_of_zero_le n0
  replace n1 : n < 18446744073709551616 := by omega
  clear wa wb wc wn n0
  cases ha : isB a
  · have H_ha := hid ha
    clear ha
    go_enter Try.func7, Try.ntmps7
    have hb0 := Below.refl w.heap.size w
    go_wp2_with fail
    refine (ris_any a _ a0 a1).mono ?_
    rintro e w' ⟨rfl, rfl⟩
    rw [H_ha.out]
    go_wp2_with fail
    refine (alive_any _).mono ?_
    rintro e w1 ⟨rfl, hc1⟩
    have hb1 := bchain hb0 hc1
    clear hc1 hb0
    go_wp2_with fail
    go_ret
    exact ⟨rfl, hb1⟩
  · cases hb : isB b
    · have H_ha := hid ha
      have H_hb := hid hb
      clear ha hb
      go_enter Try.func7, Try.ntmps7
      have hb0 := Below.refl w.heap.size w
      go_wp2_with fail
      refine (ris_any a _ a0 a1).mono ?_
      rintro e w' ⟨rfl, rfl⟩
      rw [H_ha.out]
      go_wp2_with fail
      refine (ris_any b _ b0 b1).mono ?_
      rintro e w' ⟨rfl, rfl⟩
      rw [H_hb.out]
      go_wp2_with fail
      refine (alive_any _).mono ?_
      rintro e w1 ⟨rfl, hc1⟩
      have hb1 := bchain hb0 hc1
      clear hc1 hb0
      go_wp2_with fail
      go_ret
      exact ⟨rfl, hb1⟩
    · cases hc : isB c
      · have H_ha := hid ha
        have H_hb := hid hb
        have H_hc := hid hc
        clear ha hb hc
        go_enter Try.func7, Try.ntmps7
        have hb0 := Below.refl w.heap.size w
        go_wp2_with fail
        refine (ris_any a _ a0 a1).mono ?_
        rintro e w' ⟨rfl, rfl⟩
        rw [H_ha.out]
        go_wp2_with fail
        refine (ris_any b _ b0 b1).mono ?_
        rintro e w' ⟨rfl, rfl⟩
        rw [H_hb.out]
        go_wp2_with fail
        refine (ris_any c _ c0 c1).mono ?_
        rintro e w' ⟨rfl, rfl⟩
        rw [H_hc.out]
        go_wp2_with fail
        refine (alive_any _).mono ?_
        rintro e w1 ⟨rfl, hc1⟩
        have hb1 := bchain hb0 hc1
        clear hc1 hb0
        go_wp2_with fail
        go_ret
        exact ⟨rfl, hb1⟩
      · have hab := isB_mul ha hb
        have hbc := isB_mul hb hc
        have hcom : b * a % 1000000007 = a * b % 1000000007 := by rw [Int.mul_comm]
        have hass : a * (b * c % 1000000007) % 1000000007 = a * b % 1000000007 * c % 1000000007 := by
          rw [Int.mul_emod, Int.emod_emod, ← Int.mul_emod, ← Int.mul_assoc, Int.mul_emod (a * b % 1000000007), Int.emod_emod, ← Int.mul_emod]
        have hone : a * 1 % 1000000007 = a := by
          have ⟨x, y⟩ := isB_bd ha
          rw [Int.mul_one]; exact Int.emod_eq_of_lt (by omega) y
        have hbase := isB_pow is_4 n
        have hp := isB_pow ha n
        have p0 := pw_nonneg a n 1000000007 (by omega)
        have p1 := pw_lt a n 1000000007 (by omega)
        have q0 := pw_nonneg 4 n 1000000007 (by omega)
        have q1 := pw_lt 4 n 1000000007 (by omega)
        have x0 : 0 ≤ a * b % 1000000007 := by omega
        have x1 : a * b % 1000000007 < 1000000007 := by omega
        have H_ha := hid ha
        have H_hb := hid hb
        have H_hc := hid hc
        have H_hab := hid hab
        have H_hbc := hid hbc
        have H_hcom := hid hcom
        have H_hass := hid hass
        have H_hone := hid hone
        have H_hbase := hid hbase
        have H_hp := hid hp
        clear ha hb hc hab hbc hcom hass hone hbase hp
        go_enter Try.func7, Try.ntmps7
        have hb0 := Below.refl w.heap.size w
        go_wp2_with fail
        refine (ris_any a _ a0 a1).mono ?_
        rintro e w' ⟨rfl, rfl⟩
        rw [H_ha.out]
        go_wp2_with fail
        refine (ris_any b _ b0 b1).mono ?_
        rintro e w' ⟨rfl, rfl⟩
        rw [H_hb.out]
        go_wp2_with fail
        refine (ris_any c _ c0 c1).mono ?_
        rintro e w' ⟨rfl, rfl⟩
        rw [H_hc.out]
        go_wp2_with fail
        refine (mul_ok a b _ H_ha.out H_hb.out).mono ?_
        rintro e w1 ⟨rfl, hc1⟩
        have hb1 := bchain hb0 hc1
        clear hc1 hb0
        go_wp2_with fail
        refine (mul_ok b a _ H_hb.out H_ha.out).mono ?_
        rintro e w2 ⟨rfl, hc2⟩
        have hb2 := bchain hb1 hc2
        clear hc2 hb1
        rw [H_hcom.out]
        go_wp2_with fail
        refine (mul_ok _ c _ H_hab.out H_hc.out).mono ?_
        rintro e w3 ⟨rfl, hc3⟩
        have hb3 := bchain hb2 hc3
        clear hc3 hb2
        go_wp2_with fail
        refine (mul_ok b c _ H_hb.out H_hc.out).mono ?_
        rintro e w4 ⟨rfl, hc4⟩
        have hb4 := bchain hb3 hc4
        clear hc4 hb3
        go_wp2_with fail
        refine (mul_ok a _ _ H_ha.out H_hbc.out).mono ?_
        rintro e w5 ⟨rfl, hc5⟩
        have hb5 := bchain hb4 hc5
        clear hc5 hb4
        rw [H_hass.out]
        go_wp2_with fail
        refine (Pow_ok a n _ H_ha.out n1).mono ?_
        rintro e w6 ⟨rfl, hc6⟩
        have hb6 := bchain hb5 hc6
        clear hc6 hb5
        go_wp2_with fail
        refine (mul_ok a 1 _ H_ha.out is_1).mono ?_
        rintro e w7 ⟨rfl, hc7⟩
        have hb7 := bchain hb6 hc7
        clear hc7 hb6
        rw [H_hone.out]
        go_wp2_with fail
        refine (is_any _ _ x0 (by omega)).mono ?_
        rintro e w8 ⟨rfl, hc8⟩
        have hb8 := bchain hb7 hc8
        clear hc8 hb7
        rw [H_hab.out]
        go_wp2_with fail
        refine (is_any _ _ p0 (by omega)).mono ?_
        rintro e w9 ⟨rfl, hc9⟩
        have hb9 := bchain hb8 hc9
        clear hc9 hb8
        rw [H_hp.out]
        go_wp2_with fail
        refine (base_any n _ n1).mono ?_
        rintro e w10 ⟨rfl, hc10⟩
        have hb10 := bchain hb9 hc10
        clear hc10 hb9
        go_wp2_with fail
        refine (is_any _ _ q0 (by omega)).mono ?_
        rintro e w11 ⟨rfl, hc11⟩
        have hb11 := bchain hb10 hc11
        clear hc11 hb10
        rw [H_hbase.out]
        go_wp2_with fail
        refine (alive_any _).mono ?_
        rintro e w12 ⟨rfl, hc12⟩
        have hb12 := bchain hb11 hc12
        clear hc12 hb11
        go_wp2_with fail
        go_ret
        exact ⟨rfl, hb12⟩

end Go.Proofs.Ythcoclbiiciapaa
