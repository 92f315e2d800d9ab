/- slices.BinarySearchFunc at []Slip by tickets. -/
import Derived.Test.YtpfldkcbkolgnaaTicketChecks
namespace Go.Proofs.Ytpfldkcbkolgnaa
set_option linter.unusedSimpArgs false
set_option linter.unusedVariables false
set_option linter.unnecessarySimpa false
open Go.RowKit

theorem ret_ib {a a' : Int} {b b' : Bool} (h1 : a = a') (h2 : b = b') : Ending.returned (.tuple #[.int .i64 a, .bool b]) = .returned (.tuple #[.int .i64 a', .bool b']) := by rw [h1, h2]
theorem cmp_any (t u x : Int) (w : World) (h1 : 0 ≤ t) (h2 : t ≤ 1000000000) (h3 : 0 ≤ x) (h4 : x ≤ 1000000000) :
    Calls Try.prog 28 #[.agg #[.int .i64 t, .int .u64 u], .int .i64 x] w fun e w' =>
      e = .returned (.int .i64 (t - x)) ∧ Below w.heap.size w w' := by
  go_enter Try.func28, Try.ntmps28
  have hb0 := Below.refl w.heap.size w
  go_wp2_with fail
  go_ret
  exact ⟨rfl, (by repeat' (first | with_reducible exact hb0 | with_reducible refine Below.drew ?_ | with_reducible refine below_drewN ?_ _ | with_reducible refine Below.alloc ?_ (by have := hb0.size; first | (simp; done) | (simp; omega) | omega) _ | with_reducible refine Below.setCell ?_ (by first | (simp; done) | (simp; omega) | omega) _))⟩

theorem half (i j n : Nat) (hij : i < j) (hj : j ≤ n) (hn : n ≤ 8796093022207) : (i : Int) ≤ ((i + j) / 2 : Nat) ∧ (((i + j) / 2 : Nat) : Int) < j ∧ ((i : Int) + (j : Int)) / 2 = (((i + j) / 2 : Nat) : Int) := by omega

set_option maxHeartbeats 2000000 in
theorem search_any (hs : Slips) (a : Option Addr) (c : Nat) (x : Int) (w : World) (hc : CellsAt w a (cel hs)) (hb : hs.length ≤ 8796093022207) (hinc : Inc hs) (hr : ∀ i, i < hs.length → 0 ≤ tg hs i ∧ tg hs i ≤ 1000000000) (h3 : 0 ≤ x) (h4 : x ≤ 1000000000) :
    Calls Try.prog 27 #[.slice a hs.length c, .int .i64 x, .func (.func 28) #[] #[]] w fun e w' =>
      e = .returned (.tuple #[.int .i64 (lb hs x), .bool (hasT hs x)]) ∧ Below w.heap.size w w' := by
  have Hinc := hid hinc
  have Hr := hid hr
  have Hc := hid hc
  have hlb := lb_le hs x
  have Hlb := hid hlb
  clear hinc hr hc hlb
  go_enter Try.func27, Try.ntmps27
  have hb0 := Below.refl w.heap.size w
  go_wp2_with fail
  go_loopw [9, 10] (fun p q wr => ∃ i j : Nat, i ≤ lb hs x ∧ lb hs x ≤ j ∧ j ≤ hs.length ∧ p = .int .i64 i ∧ q = .int .i64 j ∧ Below w.heap.size w wr) (fun p q _ => (intOf q).toNat - (intOf p).toNat)
  case atStart => exact ⟨0, hs.length, Nat.zero_le _, Hlb.out, Nat.le_refl _, rfl, rfl, (by repeat' (first | with_reducible exact hb0 | with_reducible refine Below.drew ?_ | with_reducible refine below_drewN ?_ _ | with_reducible refine Below.alloc ?_ (by have := hb0.size; first | (simp; done) | (simp; omega) | omega) _ | with_reducible refine Below.setCell ?_ (by first | (simp; done) | (simp; omega) | omega) _))⟩
  case round =>
    obtain ⟨i, j, h5, h6, h7, rfl, rfl, hbw⟩ := hrel
    by_cases hlt : i < j
    · obtain ⟨k, hk⟩ : ∃ k, k = (i + j) / 2 := ⟨_, rfl⟩
      have hki : i ≤ k := by omega
      have hkj : k < j := by omega
      have hkl : k < hs.length := by omega
      have hlt' : (i : Int) < (j : Int) := by omega
      have hkl' : (k : Int) < (hs.length : Int) := by omega
      have hdiv : ((i : Int) + (j : Int)) / 2 = (k : Int) := by omega
      have hx1 := (Hr.out k hkl).1
      have hx2 := (Hr.out k hkl).2
      have hiff := lb_iff Hinc.out x k hkl
      obtain ⟨b, oo, rfl, g1, g2, hcell⟩ := Hc.out.slips (by omega)
      obtain ⟨c0, c1⟩ := hcell k hkl
      clear hcell
      replace c0 := cell_later hbw c0
      replace c1 := cell_later hbw c1
      have H_hk := hid hk
      have H_hiff := hid hiff
      clear hk hiff
      by_cases hp : tg hs k < x
      · have hp' : tg hs k - x < 0 := by omega
        go_wp2_with fail
        refine (cmp_any (tg hs k) (wg hs k) x _ hx1 hx2 h3 h4).mono ?_
        rintro e w11 ⟨rfl, hc11⟩
        have hb11 : Below w.heap.size w w11 := bchain (by repeat' (first | with_reducible exact hbw | with_reducible refine Below.drew ?_ | with_reducible refine below_drewN ?_ _ | with_reducible refine Below.alloc ?_ (by have := hbw.size; first | (simp; done) | (simp; omega) | omega) _ | with_reducible refine Below.setCell ?_ (by first | (simp; done) | (simp; omega) | omega) _)) hc11
        clear hc11 hbw
        go_wp2_with fail
        go_roundw
        case rel => exact ⟨k + 1, j, by have := H_hiff.out; omega, h6, h7, by go_num, rfl, (by repeat' (first | with_reducible exact hb11 | with_reducible refine Below.drew ?_ | with_reducible refine below_drewN ?_ _ | with_reducible refine Below.alloc ?_ (by have := hb11.size; first | (simp; done) | (simp; omega) | omega) _ | with_reducible refine Below.setCell ?_ (by first | (simp; done) | (simp; omega) | omega) _))⟩
        case measure => have := H_hk.out; simp [intOf]; omega
      · have hp' : ¬ (tg hs k - x < 0) := by omega
        go_wp2_with fail
        refine (cmp_any (tg hs k) (wg hs k) x _ hx1 hx2 h3 h4).mono ?_
        rintro e w11 ⟨rfl, hc11⟩
        have hb11 : Below w.heap.size w w11 := bchain (by repeat' (first | with_reducible exact hbw | with_reducible refine Below.drew ?_ | with_reducible refine below_drewN ?_ _ | with_reducible refine Below.alloc ?_ (by have := hbw.size; first | (simp; done) | (simp; omega) | omega) _ | with_reducible refine Below.setCell ?_ (by first | (simp; done) | (simp; omega) | omega) _)) hc11
        clear hc11 hbw
        go_wp2_with fail
        go_roundw
        case rel => exact ⟨i, k, h5, by have := H_hiff.out; omega, by omega, rfl, rfl, (by repeat' (first | with_reducible exact hb11 | with_reducible refine Below.drew ?_ | with_reducible refine below_drewN ?_ _ | with_reducible refine Below.alloc ?_ (by have := hb11.size; first | (simp; done) | (simp; omega) | omega) _ | with_reducible refine Below.setCell ?_ (by first | (simp; done) | (simp; omega) | omega) _))⟩
        case measure => have := H_hk.out; simp [intOf]; omega
    · obtain rfl : i = j := by omega
      obtain rfl : i = lb hs x := by omega
      have hnlt : ¬ (((lb hs x : Nat) : Int) < ((lb hs x : Nat) : Int)) := by omega
      by_cases hl : lb hs x < hs.length
      · have hl' : ((lb hs x : Nat) : Int) < (hs.length : Int) := by omega
        have hx1 := (Hr.out _ hl).1
        have hx2 := (Hr.out _ hl).2
        obtain ⟨b, oo, rfl, g1, g2, hcell⟩ := Hc.out.slips (by omega)
        obtain ⟨c0, c1⟩ := hcell _ hl
        clear hcell
        replace c0 := cell_later hbw c0
        replace c1 := cell_later hbw c1
        by_cases hp : tg hs (lb hs x) = x
        · have he : hasT hs x = true := (hasT_iff Hinc.out x).2 ⟨hl, hp⟩
          rw [hp] at c0
          have hxx : x - x = 0 := by omega
          have H_he := hid he
          clear he
          clear hx1 hx2 hp
          go_wp2_with fail
          refine (cmp_any x (wg hs (lb hs x)) x _ h3 h4 h3 h4).mono ?_
          rintro e w11 ⟨rfl, hc11⟩
          have hb11 : Below w.heap.size w w11 := bchain (by repeat' (first | with_reducible exact hbw | with_reducible refine Below.drew ?_ | with_reducible refine below_drewN ?_ _ | with_reducible refine Below.alloc ?_ (by have := hbw.size; first | (simp; done) | (simp; omega) | omega) _ | with_reducible refine Below.setCell ?_ (by first | (simp; done) | (simp; omega) | omega) _)) hc11
          clear hc11 hbw
          go_wp2_with fail
          go_ret2
          exact ⟨ret_ib rfl (by rw [H_he.out]; try exact beq_eq_false_iff_ne.2 hp'), (by repeat' (first | with_reducible exact hb11 | with_reducible refine Below.drew ?_ | with_reducible refine below_drewN ?_ _ | with_reducible refine Below.alloc ?_ (by have := hb11.size; first | (simp; done) | (simp; omega) | omega) _ | with_reducible refine Below.setCell ?_ (by first | (simp; done) | (simp; omega) | omega) _))⟩
        · have he : hasT hs x = false := by
            cases h : hasT hs x
            · rfl
            · exact absurd ((hasT_iff Hinc.out x).1 h).2 hp
          have hp' : ¬ (tg hs (lb hs x) - x = 0) := by omega
          have H_he := hid he
          clear he
          go_wp2_with fail
          refine (cmp_any (tg hs (lb hs x)) (wg hs (lb hs x)) x _ hx1 hx2 h3 h4).mono ?_
          rintro e w11 ⟨rfl, hc11⟩
          have hb11 : Below w.heap.size w w11 := bchain (by repeat' (first | with_reducible exact hbw | with_reducible refine Below.drew ?_ | with_reducible refine below_drewN ?_ _ | with_reducible refine Below.alloc ?_ (by have := hbw.size; first | (simp; done) | (simp; omega) | omega) _ | with_reducible refine Below.setCell ?_ (by first | (simp; done) | (simp; omega) | omega) _)) hc11
          clear hc11 hbw
          go_wp2_with fail
          go_ret2
          exact ⟨ret_ib rfl (by rw [H_he.out]; try exact beq_eq_false_iff_ne.2 hp'), (by repeat' (first | with_reducible exact hb11 | with_reducible refine Below.drew ?_ | with_reducible refine below_drewN ?_ _ | with_reducible refine Below.alloc ?_ (by have := hb11.size; first | (simp; done) | (simp; omega) | omega) _ | with_reducible refine Below.setCell ?_ (by first | (simp; done) | (simp; omega) | omega) _))⟩
      · have he : hasT hs x = false := by
          cases h : hasT hs x
          · rfl
          · exact absurd ((hasT_iff Hinc.out x).1 h).1 hl
        have hd : decide (((lb hs x : Nat) : Int) < (hs.length : Int)) = false := decide_eq_false (by omega)
        have hd2 : decide (lb hs x < hs.length) = false := decide_eq_false hl
        have H_he := hid he
        clear he
        go_wp2_with fail
        go_ret2
        exact ⟨ret_ib rfl (by rw [H_he.out]; try exact beq_eq_false_iff_ne.2 hp'), (by repeat' (first | with_reducible exact hbw | with_reducible refine Below.drew ?_ | with_reducible refine below_drewN ?_ _ | with_reducible refine Below.alloc ?_ (by have := hbw.size; first | (simp; done) | (simp; omega) | omega) _ | with_reducible refine Below.setCell ?_ (by first | (simp; done) | (simp; omega) | omega) _))⟩

end Go.Proofs.Ytpfldkcbkolgnaa
