/- The closures of config.Check and config.Who; slices.ContainsFunc and IndexFunc at peers. -/
import Derived.Test.YthdldmkeoglflaaDoorCfgLim
namespace Go.Proofs.YthdldmkeoglflaaDoor
set_option maxRecDepth 100000
set_option linter.unusedSimpArgs false
set_option linter.unusedVariables false
set_option linter.unnecessarySimpa false
open Go.RowKit

theorem notvalid_any (n : ByteArray) (q : Int) (w : World) (q0 : 0 ≤ q) (q4 : q < 4294967296) :
    Calls Tryd.prog 38 #[.agg #[.string n, .int .u32 q]] w fun e w' =>
      e = .returned (.bool (!vP (n, q))) ∧ Below w.heap.size w w' := by
  go_enter Tryd.func38, Tryd.ntmps38
  have hb0 := Below.refl w.heap.size w
  go_wp2_with fail
  with_reducible refine (valid_any n q _ q0 q4).mono ?_
  rintro e w1 ⟨rfl, hc1⟩
  have hb1 : Below w.heap.size w w1 := bchain (by repeat' (first | with_reducible exact hb0 | with_reducible refine Below.drew ?_ | with_reducible refine below_drewN ?_ _ | with_reducible refine Below.alloc ?_ (by have := hb0.size; first | (simp; done) | (simp; omega) | omega) _ | with_reducible refine Below.setCell ?_ (by first | (simp; done) | (simp; omega) | omega) _)) hc1
  clear hc1 hb0
  go_wp2_with fail
  go_ret
  exact ⟨ret_bool (by simp [vP]), (by repeat' (first | with_reducible exact hb1 | with_reducible refine Below.drew ?_ | with_reducible refine below_drewN ?_ _ | with_reducible refine Below.alloc ?_ (by have := hb1.size; first | (simp; done) | (simp; omega) | omega) _ | with_reducible refine Below.setCell ?_ (by first | (simp; done) | (simp; omega) | omega) _))⟩
/-- The index of the first for which p holds, or -1. -/
def idxI (p : ByteArray × Int → Bool) (hs : Peers) : Int := if hs.findIdx p < hs.length then hs.findIdx p else -1
theorem idxI_at {p : ByteArray × Int → Bool} {hs : Peers} {k : Nat} (hk : k < hs.length) (hp : p (nm hs k, pu hs k) = true) (h : ∀ j, j < k → p (nm hs j, pu hs j) = false) : idxI p hs = k := by
  have : hs.findIdx p = k := by
    rw [List.findIdx_eq hk]
    exact ⟨by rw [ps_at hk]; exact hp, fun j hj => by rw [ps_at (by omega)]; exact h j hj⟩
  unfold idxI
  rw [this, if_pos hk]
theorem idxI_none {p : ByteArray × Int → Bool} {hs : Peers} (h : ∀ j, j < hs.length → p (nm hs j, pu hs j) = false) : idxI p hs = -1 := by
  unfold idxI
  rw [if_neg]
  rw [List.findIdx_lt_length]
  rintro ⟨x, hx, hp⟩
  obtain ⟨j, hj, rfl⟩ := List.getElem_of_mem hx
  rw [ps_at hj, h j hj] at hp
  cases hp
theorem idxI_any (p : ByteArray × Int → Bool) (hs : Peers) : decide (0 ≤ idxI p hs) = hs.any p := by
  rw [Bool.eq_iff_iff, decide_eq_true_iff, List.any_eq_true]
  unfold idxI
  split
  · rename_i h
    rw [List.findIdx_lt_length] at h
    exact ⟨fun _ => h, fun _ => by omega⟩
  · rename_i h
    rw [List.findIdx_lt_length] at h
    exact ⟨fun h0 => by omega, fun h0 => absurd h0 h⟩
/-- The public keys are numbers of 32 bits. -/
def Keys (hs : Peers) : Prop := ∀ i, i < hs.length → 0 ≤ pu hs i ∧ pu hs i < 4294967296
set_option maxHeartbeats 1000000 in
theorem idxV_any (hs : Peers) (a : Option Addr) (c : Nat) (w : World) (hc : CellsAt w a (cel hs)) (hml : hs.length ≤ maxLen) (hk : Keys hs) :
    Calls Tryd.prog 48 #[.slice a hs.length c, .func (.func 38) #[] #[]] w fun e w' =>
      e = .returned (.int .i64 (idxI (fun p => !vP p) hs)) ∧ Below w.heap.size w w' := by
  unfold maxLen at hml
  obtain ⟨f, hf⟩ : ∃ f : ByteArray × Int → Bool, f = fun p => !vP p := ⟨_, rfl⟩
  have HF := hid hf
  rw [← hf]
  clear hf
  have Hk := hid hk
  clear hk
  go_enter Tryd.func48, Tryd.ntmps48
  have hb0 := Below.refl w.heap.size w
  go_wp2_with fail
  go_loopw [8] (fun i wr => ∃ k : Nat, k ≤ hs.length ∧ i = .int .i64 k ∧ Below w.heap.size w wr ∧ Hid (∀ j, j < k → f (nm hs j, pu hs j) = false)) (fun i _ => hs.length - (intOf i).toNat)
  case atStart => exact ⟨0, Nat.zero_le _, rfl, (by repeat' (first | with_reducible exact hb0 | with_reducible refine Below.drew ?_ | with_reducible refine below_drewN ?_ _ | with_reducible refine Below.alloc ?_ (by have := hb0.size; first | (simp; done) | (simp; omega) | omega) _ | with_reducible refine Below.setCell ?_ (by first | (simp; done) | (simp; omega) | omega) _)), hid (fun j hj => by omega)⟩
  case round =>
    obtain ⟨k, hk, rfl, hbw, Hall⟩ := hrel
    by_cases hlt : k < hs.length
    · have hlt' : (k : Int) < (hs.length : Int) := by omega
      obtain ⟨b, oo, rfl, h1, h2, hcell⟩ := hc.peers (by omega)
      obtain ⟨c0, c1⟩ := hcell k hlt
      clear hcell
      replace c0 := cell_later hbw c0
      replace c1 := cell_later hbw c1
      have p0 := (Hk.out k hlt).1
      have p4 := (Hk.out k hlt).2
      clear hc
      obtain ⟨r, hr⟩ : ∃ r, f (nm hs k, pu hs k) = r := ⟨_, rfl⟩
      have hcall : ∀ W, Calls Tryd.prog 38 #[.agg #[.string (nm hs k), .int .u32 (pu hs k)]] W fun e w' => e = .returned (.bool r) ∧ Below W.heap.size W w' := fun W => by
        have := notvalid_any (nm hs k) (pu hs k) W p0 p4
        rw [← hr, HF.out]; exact this
      cases r with
      | true =>
        have he : idxI f hs = k := idxI_at hlt hr Hall.out
        have H_he := hid he
        have H_hr := hid hr
        clear he hr
        clear Hall
        go_wp2_with fail
        with_reducible refine (hcall _).mono ?_
        rintro e w11 ⟨rfl, hc11⟩
        have hb11 : Below w.heap.size w w11 := bchain (by repeat' (first | with_reducible exact hbw | with_reducible refine Below.drew ?_ | with_reducible refine below_drewN ?_ _ | with_reducible refine Below.alloc ?_ (by have := hbw.size; first | (simp; done) | (simp; omega) | omega) _ | with_reducible refine Below.setCell ?_ (by first | (simp; done) | (simp; omega) | omega) _)) hc11
        clear hc11 hbw
        go_wp2_with fail
        go_ret
        exact ⟨ret_int H_he.out.symm, (by repeat' (first | with_reducible exact hb11 | with_reducible refine Below.drew ?_ | with_reducible refine below_drewN ?_ _ | with_reducible refine Below.alloc ?_ (by have := hb11.size; first | (simp; done) | (simp; omega) | omega) _ | with_reducible refine Below.setCell ?_ (by first | (simp; done) | (simp; omega) | omega) _))⟩
      | false =>
        have H_hr := hid hr
        clear hr
        go_wp2_with fail
        with_reducible refine (hcall _).mono ?_
        rintro e w11 ⟨rfl, hc11⟩
        have hb11 : Below w.heap.size w w11 := bchain (by repeat' (first | with_reducible exact hbw | with_reducible refine Below.drew ?_ | with_reducible refine below_drewN ?_ _ | with_reducible refine Below.alloc ?_ (by have := hbw.size; first | (simp; done) | (simp; omega) | omega) _ | with_reducible refine Below.setCell ?_ (by first | (simp; done) | (simp; omega) | omega) _)) hc11
        clear hc11 hbw
        go_wp2_with fail
        go_roundw
        case rel => exact ⟨k + 1, by omega, by go_num, (by repeat' (first | with_reducible exact hb11 | with_reducible refine Below.drew ?_ | with_reducible refine below_drewN ?_ _ | with_reducible refine Below.alloc ?_ (by have := hb11.size; first | (simp; done) | (simp; omega) | omega) _ | with_reducible refine Below.setCell ?_ (by first | (simp; done) | (simp; omega) | omega) _)), hid (fun j hj => by
          by_cases hjk : j < k
          · exact Hall.out j hjk
          · obtain rfl : j = k := by omega
            exact H_hr.out)⟩
        case measure => simp [intOf]; omega
    · obtain rfl : k = hs.length := by omega
      have he : idxI f hs = -1 := idxI_none Hall.out
      clear Hall
      have H_he := hid he
      clear he
      go_wp2_with fail
      go_ret
      exact ⟨ret_int H_he.out.symm, (by repeat' (first | with_reducible exact hbw | with_reducible refine Below.drew ?_ | with_reducible refine below_drewN ?_ _ | with_reducible refine Below.alloc ?_ (by have := hbw.size; first | (simp; done) | (simp; omega) | omega) _ | with_reducible refine Below.setCell ?_ (by first | (simp; done) | (simp; omega) | omega) _))⟩
set_option maxHeartbeats 1000000 in
theorem contains_any (hs : Peers) (a : Option Addr) (c : Nat) (w : World) (hc : CellsAt w a (cel hs)) (hml : hs.length ≤ maxLen) (hk : Keys hs) :
    Calls Tryd.prog 37 #[.slice a hs.length c, .func (.func 38) #[] #[]] w fun e w' =>
      e = .returned (.bool (hs.any fun p => !vP p)) ∧ Below w.heap.size w w' := by
  have hq := idxI_any (fun p => !vP p) hs
  have H_hq := hid hq
  clear hq
  go_enter Tryd.func37, Tryd.ntmps37
  have hb0 := Below.refl w.heap.size w
  go_wp2_with fail
  with_reducible refine (idxV_any hs a c _ hc hml hk).mono ?_
  rintro e w1 ⟨rfl, hc1⟩
  have hb1 : Below w.heap.size w w1 := bchain (by repeat' (first | with_reducible exact hb0 | with_reducible refine Below.drew ?_ | with_reducible refine below_drewN ?_ _ | with_reducible refine Below.alloc ?_ (by have := hb0.size; first | (simp; done) | (simp; omega) | omega) _ | with_reducible refine Below.setCell ?_ (by first | (simp; done) | (simp; omega) | omega) _)) hc1
  clear hc1 hb0
  go_wp2_with fail
  go_ret
  exact ⟨ret_bool (by rw [← H_hq.out]; try simp), (by repeat' (first | with_reducible exact hb1 | with_reducible refine Below.drew ?_ | with_reducible refine below_drewN ?_ _ | with_reducible refine Below.alloc ?_ (by have := hb1.size; first | (simp; done) | (simp; omega) | omega) _ | with_reducible refine Below.setCell ?_ (by first | (simp; done) | (simp; omega) | omega) _))⟩

set_option maxHeartbeats 1000000 in
theorem who1_any (n : ByteArray) (q k : Int) (B : Nat) (w : World) (hB : B < w.heap.size) (hc0 : w.cell? ⟨B, 0, none⟩ = some (.int .u32 k)) :
    Calls Tryd.prog 49 #[.agg #[.string n, .int .u32 q], .pointer (some ⟨B, 0, none⟩)] w fun e w' =>
      e = .returned (.bool (q == k)) ∧ Below w.heap.size w w' := by
  have hB' : B ≠ w.heap.size := by omega
  go_enter Tryd.func49, Tryd.ntmps49
  have hb0 := Below.refl w.heap.size w
  go_wp2_with fail
  go_ret
  exact ⟨rfl, (by repeat' (first | with_reducible exact hb0 | with_reducible refine Below.drew ?_ | with_reducible refine below_drewN ?_ _ | with_reducible refine Below.alloc ?_ (by have := hb0.size; first | (simp; done) | (simp; omega) | omega) _ | with_reducible refine Below.setCell ?_ (by first | (simp; done) | (simp; omega) | omega) _))⟩
set_option maxHeartbeats 1000000 in
theorem idxP_any (q : Int) (B : Nat) (hs : Peers) (a : Option Addr) (c : Nat) (w : World) (hc : CellsAt w a (cel hs)) (hml : hs.length ≤ maxLen) (hB : B < w.heap.size) (hc0 : w.cell? ⟨B, 0, none⟩ = some (.int .u32 q)) :
    Calls Tryd.prog 48 #[.slice a hs.length c, .func (.func 49) #[] #[.pointer (some ⟨B, 0, none⟩)]] w fun e w' =>
      e = .returned (.int .i64 (idxI (fun p => p.2 == q) hs)) ∧ Below w.heap.size w w' := by
  unfold maxLen at hml
  obtain ⟨f, hf⟩ : ∃ f : ByteArray × Int → Bool, f = fun p => p.2 == q := ⟨_, rfl⟩
  have HF := hid hf
  rw [← hf]
  clear hf
  go_enter Tryd.func48, Tryd.ntmps48
  have hb0 := Below.refl w.heap.size w
  go_wp2_with fail
  go_loopw [8] (fun i wr => ∃ k : Nat, k ≤ hs.length ∧ i = .int .i64 k ∧ Below w.heap.size w wr ∧ Hid (∀ j, j < k → f (nm hs j, pu hs j) = false)) (fun i _ => hs.length - (intOf i).toNat)
  case atStart => exact ⟨0, Nat.zero_le _, rfl, (by repeat' (first | with_reducible exact hb0 | with_reducible refine Below.drew ?_ | with_reducible refine below_drewN ?_ _ | with_reducible refine Below.alloc ?_ (by have := hb0.size; first | (simp; done) | (simp; omega) | omega) _ | with_reducible refine Below.setCell ?_ (by first | (simp; done) | (simp; omega) | omega) _)), hid (fun j hj => by omega)⟩
  case round =>
    obtain ⟨k, hk, rfl, hbw, Hall⟩ := hrel
    by_cases hlt : k < hs.length
    · have hlt' : (k : Int) < (hs.length : Int) := by omega
      obtain ⟨b, oo, rfl, h1, h2, hcell⟩ := hc.peers (by omega)
      obtain ⟨c0, c1⟩ := hcell k hlt
      clear hcell
      replace c0 := cell_later hbw c0
      replace c1 := cell_later hbw c1
      have hB' := Nat.lt_of_lt_of_le hB hbw.size
      have hc0' := cell_later hbw hc0
      clear hc hc0 hB
      obtain ⟨r, hr⟩ : ∃ r, f (nm hs k, pu hs k) = r := ⟨_, rfl⟩
      have hcall : ∀ W, B < W.heap.size → W.cell? ⟨B, 0, none⟩ = some (.int .u32 q) → Calls Tryd.prog 49 #[.agg #[.string (nm hs k), .int .u32 (pu hs k)], .pointer (some ⟨B, 0, none⟩)] W fun e w' => e = .returned (.bool r) ∧ Below W.heap.size W w' := fun W g1 g2 => by
        have := who1_any (nm hs k) (pu hs k) q B W g1 g2
        rw [← hr, HF.out]; exact this
      cases r with
      | true =>
        have he : idxI f hs = k := idxI_at hlt hr Hall.out
        have H_he := hid he
        have H_hr := hid hr
        clear he hr
        clear Hall
        go_wp2_with fail
        with_reducible refine (hcall _ hB' hc0').mono ?_
        rintro e w11 ⟨rfl, hc11⟩
        have hb11 : Below w.heap.size w w11 := bchain (by repeat' (first | with_reducible exact hbw | with_reducible refine Below.drew ?_ | with_reducible refine below_drewN ?_ _ | with_reducible refine Below.alloc ?_ (by have := hbw.size; first | (simp; done) | (simp; omega) | omega) _ | with_reducible refine Below.setCell ?_ (by first | (simp; done) | (simp; omega) | omega) _)) hc11
        clear hc11 hbw
        go_wp2_with fail
        go_ret
        exact ⟨ret_int H_he.out.symm, (by repeat' (first | with_reducible exact hb11 | with_reducible refine Below.drew ?_ | with_reducible refine below_drewN ?_ _ | with_reducible refine Below.alloc ?_ (by have := hb11.size; first | (simp; done) | (simp; omega) | omega) _ | with_reducible refine Below.setCell ?_ (by first | (simp; done) | (simp; omega) | omega) _))⟩
      | false =>
        have H_hr := hid hr
        clear hr
        go_wp2_with fail
        with_reducible refine (hcall _ hB' hc0').mono ?_
        rintro e w11 ⟨rfl, hc11⟩
        have hb11 : Below w.heap.size w w11 := bchain (by repeat' (first | with_reducible exact hbw | with_reducible refine Below.drew ?_ | with_reducible refine below_drewN ?_ _ | with_reducible refine Below.alloc ?_ (by have := hbw.size; first | (simp; done) | (simp; omega) | omega) _ | with_reducible refine Below.setCell ?_ (by first | (simp; done) | (simp; omega) | omega) _)) hc11
        clear hc11 hbw
        go_wp2_with fail
        go_roundw
        case rel => exact ⟨k + 1, by omega, by go_num, (by repeat' (first | with_reducible exact hb11 | with_reducible refine Below.drew ?_ | with_reducible refine below_drewN ?_ _ | with_reducible refine Below.alloc ?_ (by have := hb11.size; first | (simp; done) | (simp; omega) | omega) _ | with_reducible refine Below.setCell ?_ (by first | (simp; done) | (simp; omega) | omega) _)), hid (fun j hj => by
          by_cases hjk : j < k
          · exact Hall.out j hjk
          · obtain rfl : j = k := by omega
            exact H_hr.out)⟩
        case measure => simp [intOf]; omega
    · obtain rfl : k = hs.length := by omega
      have he : idxI f hs = -1 := idxI_none Hall.out
      clear Hall
      have H_he := hid he
      clear he
      go_wp2_with fail
      go_ret
      exact ⟨ret_int H_he.out.symm, (by repeat' (first | with_reducible exact hbw | with_reducible refine Below.drew ?_ | with_reducible refine below_drewN ?_ _ | with_reducible refine Below.alloc ?_ (by have := hbw.size; first | (simp; done) | (simp; omega) | omega) _ | with_reducible refine Below.setCell ?_ (by first | (simp; done) | (simp; omega) | omega) _))⟩

end Go.Proofs.YthdldmkeoglflaaDoor
