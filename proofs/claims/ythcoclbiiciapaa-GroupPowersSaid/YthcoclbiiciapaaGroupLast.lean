/- The laws on group's powers, and on its names. -/
import Derived.Test.YthcoclbiiciapaaGroupLaws
namespace Go.Proofs.Ythcoclbiiciapaa
open Go.RowKit

theorem Pow_okI (a n : Int) (w : World) (ha : isB a = true) (h0 : 0 ≤ n) (hn : n < 18446744073709551616) :
    Calls Try.prog 16 #[.int .u32 a, .int .u64 n] w fun e w' =>
      e = .returned (.tuple #[.int .u32 (pw a n.toNat 1000000007), .int .i64 0]) ∧ Below w.heap.size w w' := by
  have := Pow_ok a n.toNat w ha (by omega)
  rwa [Int.toNat_of_nonneg h0] at this
theorem base_I (n : Int) (w : World) (h0 : 0 ≤ n) (hn : n < 18446744073709551616) :
    Calls Try.prog 22 #[.int .u64 n] w fun e w' =>
      e = .returned (.int .u32 (pw 4 n.toNat 1000000007)) ∧ Below w.heap.size w w' := by
  have := base_any n.toNat w (by omega)
  rwa [Int.toNat_of_nonneg h0] at this

theorem pwI_rem {a : Int} (ha : isB a = true) (z : Int) (h0 : 0 ≤ z) : pw a (z % 500000003).toNat 1000000007 = pw a z.toNat 1000000007 := by
  rw [show (z % 500000003).toNat = z.toNat % 500000003 from by omega]
  exact pw_rem a _ _ _ (by omega) (isB_pw ha)
theorem pwI_add (a m n : Int) (hm : 0 ≤ m) (hn : 0 ≤ n) : pw a m.toNat 1000000007 * pw a n.toNat 1000000007 % 1000000007 = pw a (m + n).toNat 1000000007 := by
  rw [pw_add, show m.toNat + n.toNat = (m + n).toNat from by omega]
theorem pwI_mul (a m n : Int) (hm : 0 ≤ m) (hn : 0 ≤ n) : pw (pw a m.toNat 1000000007) n.toNat 1000000007 = pw a (m * n).toNat 1000000007 := by
  rw [pw_mul, Int.toNat_mul hm hn]

set_option maxRecDepth 100000 in
set_option maxHeartbeats 2000000 in
theorem powers_walk (a m n z : Int) (w : World) (wa : (Lit.int .u32 a).wf = true) (wm : (Lit.int .u32 m).wf = true) (wn : (Lit.int .u32 n).wf = true) (wz : (Lit.int .u64 z).wf = true) :
    Calls Try.prog 9 #[.int .u32 a, .int .u32 m, .int .u32 n, .int .u64 z] w fun e w' =>
      e = .returned (.bool true) ∧ Below w.heap.size w w' := by
  have ⟨a0, a1⟩ := bd_u32 wa
  have ⟨m0, m1⟩ := bd_u32 wm
  have ⟨n0, n1⟩ := bd_u32 wn
  have ⟨z0, z1⟩ := bd_u64 wz
  clear wa wm wn wz
  cases ha : isB a
  · have H_ha := hid ha
    clear ha
    go_enter Try.func9, Try.ntmps9
    have hb0 := Below.refl w.heap.size w
    go_wp2_with fail
    refine (ris_any a _ a0 a1).mono ?_
    rintro e w' ⟨rfl, rfl⟩
    rw [H_ha.out]
    go_wp2_with fail
    refine (alive_any _).mono ?_
    rintro e w1 ⟨rfl, hc1⟩
    have hb1 := bchain hb0 hc1
    clear hc1 hb0
    go_wp2_with fail
    go_ret
    exact ⟨rfl, hb1⟩
  · by_cases hm : m < 500000003
    · by_cases hn : n < 500000003
      · have hx := isB_pow ha m.toNat
        have hy := isB_pow ha n.toNat
        have e1 := pwI_add a m n m0 n0
        have e2 := pwI_rem ha (m + n) (by omega)
        have e3 := pwI_mul a m n m0 n0
        have e4 := pwI_rem ha (m * n) (Int.mul_nonneg m0 n0)
        have e5 := pwI_rem ha z z0
        have e6 := pwI_rem is_4 z z0
        have hmn : m * n ≤ 500000002 * 500000002 := Int.mul_le_mul (by omega) (by omega) (by omega) (by omega)
        have hmn0 : 0 ≤ m * n := Int.mul_nonneg m0 n0
        have H_ha := hid ha
        have H_hx := hid hx
        have H_hy := hid hy
        have H_e1 := hid e1
        have H_e2 := hid e2
        have H_e3 := hid e3
        have H_e4 := hid e4
        have H_e5 := hid e5
        have H_e6 := hid e6
        clear ha hx hy e1 e2 e3 e4 e5 e6
        go_enter Try.func9, Try.ntmps9
        have hb0 := Below.refl w.heap.size w
        go_wp2_with fail
        refine (ris_any a _ a0 a1).mono ?_
        rintro e w' ⟨rfl, rfl⟩
        rw [H_ha.out]
        go_wp2_with fail
        refine (rexponent_any m _ m0 m1).mono ?_
        rintro e w' ⟨rfl, rfl⟩
        go_wp2_with fail
        refine (rexponent_any n _ n0 n1).mono ?_
        rintro e w' ⟨rfl, rfl⟩
        go_wp2_with fail
        refine (Pow_okI a m _ H_ha.out m0 (by omega)).mono ?_
        rintro e w1 ⟨rfl, hc1⟩
        have hb1 := bchain hb0 hc1
        clear hc1 hb0
        go_wp2_with fail
        refine (Pow_okI a n _ H_ha.out n0 (by omega)).mono ?_
        rintro e w2 ⟨rfl, hc2⟩
        have hb2 := bchain hb1 hc2
        clear hc2 hb1
        go_wp2_with fail
        refine (mul_ok _ _ _ H_hx.out H_hy.out).mono ?_
        rintro e w3 ⟨rfl, hc3⟩
        have hb3 := bchain hb2 hc3
        clear hc3 hb2
        rw [H_e1.out]
        go_wp2_with fail
        refine (plus_ok m n _ m0 hm n0 hn).mono ?_
        rintro e w' ⟨rfl, rfl⟩
        go_wp2_with fail
        refine (Pow_okI a _ _ H_ha.out (by omega) (by omega)).mono ?_
        rintro e w4 ⟨rfl, hc4⟩
        have hb4 := bchain hb3 hc4
        clear hc4 hb3
        rw [H_e2.out]
        go_wp2_with fail
        refine (Pow_okI a _ _ H_ha.out (by omega) (by omega)).mono ?_
        rintro e w5 ⟨rfl, hc5⟩
        have hb5 := bchain hb4 hc5
        clear hc5 hb4
        go_wp2_with fail
        refine (Pow_okI _ n _ H_hx.out n0 (by omega)).mono ?_
        rintro e w6 ⟨rfl, hc6⟩
        have hb6 := bchain hb5 hc6
        clear hc6 hb5
        rw [H_e3.out]
        go_wp2_with fail
        refine (times_ok m n _ m0 hm n0 hn).mono ?_
        rintro e w7 ⟨rfl, hc7⟩
        have hb7 := bchain hb6 hc7
        clear hc7 hb6
        go_wp2_with fail
        refine (Pow_okI a _ _ H_ha.out (by omega) (by omega)).mono ?_
        rintro e w8 ⟨rfl, hc8⟩
        have hb8 := bchain hb7 hc8
        clear hc8 hb7
        rw [H_e4.out]
        go_wp2_with fail
        refine (Pow_okI a _ _ H_ha.out hmn0 (by omega)).mono ?_
        rintro e w9 ⟨rfl, hc9⟩
        have hb9 := bchain hb8 hc9
        clear hc9 hb8
        go_wp2_with fail
        refine (Pow_okI a z _ H_ha.out z0 z1).mono ?_
        rintro e w10 ⟨rfl, hc10⟩
        have hb10 := bchain hb9 hc10
        clear hc10 hb9
        go_wp2_with fail
        refine (Pow_okI a _ _ H_ha.out (by omega) (by omega)).mono ?_
        rintro e w11 ⟨rfl, hc11⟩
        have hb11 := bchain hb10 hc11
        clear hc11 hb10
        rw [H_e5.out]
        go_wp2_with fail
        refine (base_I z _ z0 z1).mono ?_
        rintro e w12 ⟨rfl, hc12⟩
        have hb12 := bchain hb11 hc12
        clear hc12 hb11
        go_wp2_with fail
        refine (base_I _ _ (by omega) (by omega)).mono ?_
        rintro e w13 ⟨rfl, hc13⟩
        have hb13 := bchain hb12 hc13
        clear hc13 hb12
        rw [H_e6.out]
        go_wp2_with fail
        refine (alive_any _).mono ?_
        rintro e w14 ⟨rfl, hc14⟩
        have hb14 := bchain hb13 hc14
        clear hc14 hb13
        go_wp2_with fail
        go_ret
        exact ⟨rfl, hb14⟩
      · have hn' : decide (n < 500000003) = false := by simp; omega
        clear hn
        have H_ha := hid ha
        clear ha
        go_enter Try.func9, Try.ntmps9
        have hb0 := Below.refl w.heap.size w
        go_wp2_with fail
        refine (ris_any a _ a0 a1).mono ?_
        rintro e w' ⟨rfl, rfl⟩
        rw [H_ha.out]
        go_wp2_with fail
        refine (rexponent_any m _ m0 m1).mono ?_
        rintro e w' ⟨rfl, rfl⟩
        go_wp2_with fail
        refine (rexponent_any n _ n0 n1).mono ?_
        rintro e w' ⟨rfl, rfl⟩
        go_wp2_with fail
        refine (alive_any _).mono ?_
        rintro e w1 ⟨rfl, hc1⟩
        have hb1 := bchain hb0 hc1
        clear hc1 hb0
        go_wp2_with fail
        go_ret
        exact ⟨rfl, hb1⟩
    · have hm' : decide (m < 500000003) = false := by simp; omega
      clear hm
      have H_ha := hid ha
      clear ha
      go_enter Try.func9, Try.ntmps9
      have hb0 := Below.refl w.heap.size w
      go_wp2_with fail
      refine (ris_any a _ a0 a1).mono ?_
      rintro e w' ⟨rfl, rfl⟩
      rw [H_ha.out]
      go_wp2_with fail
      refine (rexponent_any m _ m0 m1).mono ?_
      rintro e w' ⟨rfl, rfl⟩
      go_wp2_with fail
      refine (alive_any _).mono ?_
      rintro e w1 ⟨rfl, hc1⟩
      have hb1 := bchain hb0 hc1
      clear hc1 hb0
      go_wp2_with fail
      go_ret
      exact ⟨rfl, hb1⟩

theorem isB_big {a : Int} (h : 1000000007 ≤ a) : isB a = false := by
  have h2 : decide (a < 1000000007) = false := by simp; omega
  simp [isB, h2]
theorem pw_4_2 : pw 4 2 1000000007 = 16 := by decide +kernel
theorem pw_4_Q : pw 4 500000003 1000000007 = 1 := isB_pw is_4
theorem pw_4_Q1 : pw 4 500000004 1000000007 = 4 := by
  have e : pw (4 : Int) 500000004 1000000007 = (pwC 4 500000004 1000000007 : Int) := pwC_eq 4 500000004 1000000007 (by omega) (by omega)
  rw [e]; decide +kernel
theorem pw_4_0 : pw 4 0 1000000007 = 1 := by decide +kernel

set_option maxRecDepth 100000 in
set_option maxHeartbeats 2000000 in
theorem names_walk (w : World) :
    Calls Try.prog 8 #[] w fun e w' =>
      e = .returned (.bool true) ∧ Below w.heap.size w w' := by
  go_enter Try.func8, Try.ntmps8
  have hb0 := Below.refl w.heap.size w
  go_wp2_with fail
  refine (mul_no 0 1 _ (by omega) (by omega) (by omega) (by omega) (by rw [isB_0]; rfl)).mono ?_
  rintro e w1 ⟨rfl, hc1⟩
  have hb1 := bchain hb0 hc1
  clear hc1 hb0
  go_wp2_with fail
  refine (mul_no 1 1000000008 _ (by omega) (by omega) (by omega) (by omega) (by rw [isB_big (a := 1000000008) (by omega)]; simp)).mono ?_
  rintro e w2 ⟨rfl, hc2⟩
  have hb2 := bchain hb1 hc2
  clear hc2 hb1
  go_wp2_with fail
  refine (mul_no 4 5 _ (by omega) (by omega) (by omega) (by omega) (by rw [is_5]; simp)).mono ?_
  rintro e w3 ⟨rfl, hc3⟩
  have hb3 := bchain hb2 hc3
  clear hc3 hb2
  go_wp2_with fail
  refine (Pow_no 5 0 _ (by omega) (by omega) is_5).mono ?_
  rintro e w4 ⟨rfl, hc4⟩
  have hb4 := bchain hb3 hc4
  clear hc4 hb3
  go_wp2_with fail
  refine (inv_no 0 _ (by omega) (by omega) isB_0).mono ?_
  rintro e w5 ⟨rfl, hc5⟩
  have hb5 := bchain hb4 hc5
  clear hc5 hb4
  go_wp2_with fail
  refine (Pow_no 1000000007 1 _ (by omega) (by omega) (isB_big (by omega))).mono ?_
  rintro e w6 ⟨rfl, hc6⟩
  have hb6 := bchain hb5 hc6
  clear hc6 hb5
  go_wp2_with fail
  refine (Pow_ok 4 0 _ is_4 (by omega)).mono ?_
  rintro e w7 ⟨rfl, hc7⟩
  have hb7 := bchain hb6 hc7
  clear hc7 hb6
  rw [pw_4_0]
  go_wp2_with fail
  refine (Pow_ok 4 500000003 _ is_4 (by omega)).mono ?_
  rintro e w8 ⟨rfl, hc8⟩
  have hb8 := bchain hb7 hc8
  clear hc8 hb7
  rw [pw_4_Q]
  go_wp2_with fail
  refine (Pow_ok 4 500000004 _ is_4 (by omega)).mono ?_
  rintro e w9 ⟨rfl, hc9⟩
  have hb9 := bchain hb8 hc9
  clear hc9 hb8
  rw [pw_4_Q1]
  go_wp2_with fail
  refine (plus_no 500000003 0 _ (by omega) (by omega) (by omega) (by omega) (by omega)).mono ?_
  rintro e w' ⟨rfl, rfl⟩
  go_wp2_with fail
  refine (plus_no 0 4294967295 _ (by omega) (by omega) (by omega) (by omega) (by omega)).mono ?_
  rintro e w' ⟨rfl, rfl⟩
  go_wp2_with fail
  refine (times_no 500000003 1 _ (by omega) (by omega) (by omega) (by omega) (by omega)).mono ?_
  rintro e w' ⟨rfl, rfl⟩
  go_wp2_with fail
  refine (times_ok 500000002 500000002 _ (by omega) (by omega) (by omega) (by omega)).mono ?_
  rintro e w10 ⟨rfl, hc10⟩
  have hb10 := bchain hb9 hc10
  clear hc10 hb9
  go_wp2_with fail
  refine (plus_ok 500000002 500000002 _ (by omega) (by omega) (by omega) (by omega)).mono ?_
  rintro e w' ⟨rfl, rfl⟩
  go_wp2_with fail
  refine (is_any 1 _ (by omega) (by omega)).mono ?_
  rintro e w11 ⟨rfl, hc11⟩
  have hb11 := bchain hb10 hc11
  clear hc11 hb10
  rw [is_1]
  go_wp2_with fail
  refine (is_any 0 _ (by omega) (by omega)).mono ?_
  rintro e w12 ⟨rfl, hc12⟩
  have hb12 := bchain hb11 hc12
  clear hc12 hb11
  rw [isB_0]
  go_wp2_with fail
  refine (is_any 1000000007 _ (by omega) (by omega)).mono ?_
  rintro e w13 ⟨rfl, hc13⟩
  have hb13 := bchain hb12 hc13
  clear hc13 hb12
  rw [isB_big (a := 1000000007) (by omega)]
  go_wp2_with fail
  refine (is_any 1000000008 _ (by omega) (by omega)).mono ?_
  rintro e w14 ⟨rfl, hc14⟩
  have hb14 := bchain hb13 hc14
  clear hc14 hb13
  rw [isB_big (a := 1000000008) (by omega)]
  go_wp2_with fail
  refine (is_any 4294967295 _ (by omega) (by omega)).mono ?_
  rintro e w15 ⟨rfl, hc15⟩
  have hb15 := bchain hb14 hc15
  clear hc15 hb14
  rw [isB_big (a := 4294967295) (by omega)]
  go_wp2_with fail
  refine (base_any 0 _ (by omega)).mono ?_
  rintro e w16 ⟨rfl, hc16⟩
  have hb16 := bchain hb15 hc16
  clear hc16 hb15
  rw [pw_4_0]
  go_wp2_with fail
  refine (base_any 500000003 _ (by omega)).mono ?_
  rintro e w17 ⟨rfl, hc17⟩
  have hb17 := bchain hb16 hc17
  clear hc17 hb16
  rw [pw_4_Q]
  go_wp2_with fail
  refine (base_any 2 _ (by omega)).mono ?_
  rintro e w18 ⟨rfl, hc18⟩
  have hb18 := bchain hb17 hc18
  clear hc18 hb17
  rw [pw_4_2]
  go_wp2_with fail
  refine (alive_any _).mono ?_
  rintro e w19 ⟨rfl, hc19⟩
  have hb19 := bchain hb18 hc19
  clear hc19 hb18
  go_wp2_with fail
  go_ret
  exact ⟨rfl, hb19⟩

end Go.Proofs.Ythcoclbiiciapaa
