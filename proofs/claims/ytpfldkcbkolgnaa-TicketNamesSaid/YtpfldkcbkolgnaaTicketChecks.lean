/- What Check returns. -/
import Derived.Test.YtpfldkcbkolgnaaTicketWalks
namespace Go.Proofs.Ytpfldkcbkolgnaa
set_option linter.unusedSimpArgs false
set_option linter.unusedVariables false
set_option linter.unnecessarySimpa false
open Go.RowKit

def badP (g o : Int) (s : Int × Int) : Bool := decide (s.1 < o) || decide (g ≤ s.1)
/-- The index of the first for which p holds, or -1. -/
def idxI (p : Int × Int → Bool) (hs : Slips) : Int := if hs.findIdx p < hs.length then hs.findIdx p else -1

theorem hs_at {hs : Slips} {i : Nat} (h : i < hs.length) : hs[i] = (tg hs i, wg hs i) := by simp [tg, wg, h]
theorem idxI_at {p : Int × Int → Bool} {hs : Slips} {k : Nat} (hk : k < hs.length) (hp : p (tg hs k, wg hs k) = true) (h : ∀ j, j < k → p (tg hs j, wg hs j) = false) : idxI p hs = k := by
  have : hs.findIdx p = k := by
    rw [List.findIdx_eq hk]
    exact ⟨by rw [hs_at hk]; exact hp, fun j hj => by rw [hs_at (by omega)]; exact h j hj⟩
  unfold idxI
  rw [this, if_pos hk]
theorem idxI_none {p : Int × Int → Bool} {hs : Slips} (h : ∀ j, j < hs.length → p (tg hs j, wg hs j) = false) : idxI p hs = -1 := by
  unfold idxI
  rw [if_neg]
  rw [List.findIdx_lt_length]
  rintro ⟨x, hx, hp⟩
  obtain ⟨j, hj, rfl⟩ := List.getElem_of_mem hx
  rw [hs_at hj, h j hj] at hp
  cases hp
theorem idxI_any (p : Int × Int → Bool) (hs : Slips) : decide (0 ≤ idxI p hs) = hs.any p := by
  rw [Bool.eq_iff_iff, decide_eq_true_iff, List.any_eq_true]
  unfold idxI
  split
  · rename_i h
    rw [List.findIdx_lt_length] at h
    exact ⟨fun _ => h, fun _ => by omega⟩
  · rename_i h
    rw [List.findIdx_lt_length] at h
    exact ⟨fun h0 => by omega, fun h0 => absurd h0 h⟩
set_option maxHeartbeats 1000000 in
theorem idx_any (g o : Int) (hs : Slips) (a : Option Addr) (c B : Nat) (w : World) (hc : CellsAt w a (cel hs)) (hml : hs.length ≤ maxLen) (hB : B < w.heap.size) (hc0 : w.cell? ⟨B, 0, none⟩ = some (.int .i64 g)) (hc1 : w.cell? ⟨B, 1, none⟩ = some (.int .i64 o)) :
    Calls Try.prog 37 #[.slice a hs.length c, .func (.func 33) #[] #[.pointer (some ⟨B, 0, none⟩)]] w fun e w' =>
      e = .returned (.int .i64 (idxI (badP g o) hs)) ∧ Below w.heap.size w w' := by
  unfold maxLen at hml
  go_enter Try.func37, Try.ntmps37
  have hb0 := Below.refl w.heap.size w
  go_wp2_with fail
  go_loopw [8] (fun i wr => ∃ k : Nat, k ≤ hs.length ∧ i = .int .i64 k ∧ Below w.heap.size w wr ∧ Hid (∀ j, j < k → badP g o (tg hs j, wg hs j) = false)) (fun i _ => hs.length - (intOf i).toNat)
  case atStart => exact ⟨0, Nat.zero_le _, rfl, (by repeat' (first | with_reducible exact hb0 | with_reducible refine Below.drew ?_ | with_reducible refine below_drewN ?_ _ | with_reducible refine Below.alloc ?_ (by have := hb0.size; first | (simp; done) | (simp; omega) | omega) _ | with_reducible refine Below.setCell ?_ (by first | (simp; done) | (simp; omega) | omega) _)), hid (fun j hj => by omega)⟩
  case round =>
    obtain ⟨k, hk, rfl, hbw, Hall⟩ := hrel
    by_cases hlt : k < hs.length
    · have hlt' : (k : Int) < (hs.length : Int) := by omega
      obtain ⟨b, oo, rfl, h1, h2, hcell⟩ := hc.slips (by omega)
      obtain ⟨c0, c1⟩ := hcell k hlt
      clear hcell
      replace c0 := cell_later hbw c0
      replace c1 := cell_later hbw c1
      have hB' := Nat.lt_of_lt_of_le hB hbw.size
      have hc0' := cell_later hbw hc0
      have hc1' := cell_later hbw hc1
      clear hc hc0 hc1 hB
      by_cases hp : badP g o (tg hs k, wg hs k) = true
      · have he : idxI (badP g o) hs = k := idxI_at hlt hp Hall.out
        have hp' : (decide (tg hs k < o) || decide (g ≤ tg hs k)) = true := hp
        have H_he := hid he
        have H_hp' := hid hp'
        clear he hp'
        clear hp Hall
        go_wp2_with fail
        refine (bad_any (tg hs k) (wg hs k) g o B _ hB' hc0' hc1').mono ?_
        rintro e w11 ⟨rfl, hc11⟩
        have hb11 : Below w.heap.size w w11 := bchain (by repeat' (first | with_reducible exact hbw | with_reducible refine Below.drew ?_ | with_reducible refine below_drewN ?_ _ | with_reducible refine Below.alloc ?_ (by have := hbw.size; first | (simp; done) | (simp; omega) | omega) _ | with_reducible refine Below.setCell ?_ (by first | (simp; done) | (simp; omega) | omega) _)) hc11
        clear hc11 hbw
        rw [H_hp'.out]
        go_wp2_with fail
        go_ret
        exact ⟨ret_int H_he.out.symm, (by repeat' (first | with_reducible exact hb11 | with_reducible refine Below.drew ?_ | with_reducible refine below_drewN ?_ _ | with_reducible refine Below.alloc ?_ (by have := hb11.size; first | (simp; done) | (simp; omega) | omega) _ | with_reducible refine Below.setCell ?_ (by first | (simp; done) | (simp; omega) | omega) _))⟩
      · have hp' : (decide (tg hs k < o) || decide (g ≤ tg hs k)) = false := by simpa [badP] using hp
        have H_hp' := hid hp'
        clear hp'
        clear hp
        go_wp2_with fail
        refine (bad_any (tg hs k) (wg hs k) g o B _ hB' hc0' hc1').mono ?_
        rintro e w11 ⟨rfl, hc11⟩
        have hb11 : Below w.heap.size w w11 := bchain (by repeat' (first | with_reducible exact hbw | with_reducible refine Below.drew ?_ | with_reducible refine below_drewN ?_ _ | with_reducible refine Below.alloc ?_ (by have := hbw.size; first | (simp; done) | (simp; omega) | omega) _ | with_reducible refine Below.setCell ?_ (by first | (simp; done) | (simp; omega) | omega) _)) hc11
        clear hc11 hbw
        rw [H_hp'.out]
        go_wp2_with fail
        go_roundw
        case rel => exact ⟨k + 1, by omega, by go_num, (by repeat' (first | with_reducible exact hb11 | with_reducible refine Below.drew ?_ | with_reducible refine below_drewN ?_ _ | with_reducible refine Below.alloc ?_ (by have := hb11.size; first | (simp; done) | (simp; omega) | omega) _ | with_reducible refine Below.setCell ?_ (by first | (simp; done) | (simp; omega) | omega) _)), hid (fun j hj => by
          by_cases hjk : j < k
          · exact Hall.out j hjk
          · obtain rfl : j = k := by omega
            exact H_hp'.out)⟩
        case measure => simp [intOf]; omega
    · obtain rfl : k = hs.length := by omega
      have he : idxI (badP g o) hs = -1 := idxI_none Hall.out
      clear Hall
      have H_he := hid he
      clear he
      go_wp2_with fail
      go_ret
      exact ⟨ret_int H_he.out.symm, (by repeat' (first | with_reducible exact hbw | with_reducible refine Below.drew ?_ | with_reducible refine below_drewN ?_ _ | with_reducible refine Below.alloc ?_ (by have := hbw.size; first | (simp; done) | (simp; omega) | omega) _ | with_reducible refine Below.setCell ?_ (by first | (simp; done) | (simp; omega) | omega) _))⟩

set_option maxHeartbeats 1000000 in
theorem contains_any (g o : Int) (hs : Slips) (a : Option Addr) (c B : Nat) (w : World) (hc : CellsAt w a (cel hs)) (hml : hs.length ≤ maxLen) (hB : B < w.heap.size) (hc0 : w.cell? ⟨B, 0, none⟩ = some (.int .i64 g)) (hc1 : w.cell? ⟨B, 1, none⟩ = some (.int .i64 o)) :
    Calls Try.prog 34 #[.slice a hs.length c, .func (.func 33) #[] #[.pointer (some ⟨B, 0, none⟩)]] w fun e w' =>
      e = .returned (.bool (hs.any (badP g o))) ∧ Below w.heap.size w w' := by
  have hq := idxI_any (badP g o) hs
  have H_hq := hid hq
  clear hq
  go_enter Try.func34, Try.ntmps34
  have hb0 := Below.refl w.heap.size w
  go_wp2_with fail
  refine (idx_any g o hs a c B _ hc hml hB hc0 hc1).mono ?_
  rintro e w1 ⟨rfl, hc1⟩
  have hb1 : Below w.heap.size w w1 := bchain (by repeat' (first | with_reducible exact hb0 | with_reducible refine Below.drew ?_ | with_reducible refine below_drewN ?_ _ | with_reducible refine Below.alloc ?_ (by have := hb0.size; first | (simp; done) | (simp; omega) | omega) _ | with_reducible refine Below.setCell ?_ (by first | (simp; done) | (simp; omega) | omega) _)) hc1
  clear hc1 hb0
  go_wp2_with fail
  go_ret
  exact ⟨ret_bool (by rw [← H_hq.out]; try simp), (by repeat' (first | with_reducible exact hb1 | with_reducible refine Below.drew ?_ | with_reducible refine below_drewN ?_ _ | with_reducible refine Below.alloc ?_ (by have := hb1.size; first | (simp; done) | (simp; omega) | omega) _ | with_reducible refine Below.setCell ?_ (by first | (simp; done) | (simp; omega) | omega) _))⟩

end Go.Proofs.Ytpfldkcbkolgnaa
