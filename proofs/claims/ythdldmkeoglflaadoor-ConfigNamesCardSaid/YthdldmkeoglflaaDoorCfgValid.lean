/- config.valid and braidref44.valid. -/
import Derived.Test.YthdldmkeoglflaaDoorCfgSign
import Derived.Test.YthdldmkeoglflaaDoorCfgPlain
import Derived.Test.YthdldmkeoglflaaDoorMem4
import Derived.WalkSmall
import Derived.BigRegion
import Derived.BigQuiet
import Derived.Deep.QuietTactic
import Derived.Deep.RegionHeld3
namespace Go.Proofs.YthdldmkeoglflaaDoor
set_option maxRecDepth 100000
set_option linter.unusedSimpArgs false
set_option linter.unusedVariables false
set_option linter.unnecessarySimpa false
open Go.RowKit

/-- A byte that a name may have. -/
def chB (c : UInt8) : Bool := (decide (97 ≤ c.toNat) && decide (c.toNat ≤ 122)) || (decide (48 ≤ c.toNat) && decide (c.toNat ≤ 57))
def okN (n : ByteArray) : Bool := decide (1 ≤ n.size) && (decide (n.size ≤ 12) && n.data.toList.all chB)
/-- Whether a peer is valid. -/
def vP (p : ByteArray × Int) : Bool := okN p.1 && isB p.2
theorem chs_iff (n : ByteArray) : n.data.toList.all chB = true ↔ ∀ i (h : i < n.size), chB (n[i]'h) = true := by
  rw [List.all_eq_true]
  constructor
  · intro h i hi
    exact h _ (by rw [ByteArray.getElem_eq_getElem_data]; exact Array.getElem_mem_toList _)
  · intro h x hx
    obtain ⟨i, hi, rfl⟩ := List.getElem_of_mem hx
    have := h i (by simpa using hi)
    rwa [ByteArray.getElem_eq_getElem_data, ← Array.getElem_toList] at this
theorem okN_small {n : ByteArray} (h : n.size < 1) : okN n = false := by
  unfold okN; rw [decide_eq_false (by omega)]; rfl
theorem okN_big {n : ByteArray} (h : 12 < n.size) : okN n = false := by
  unfold okN; rw [decide_eq_false (p := n.size ≤ 12) (by omega), Bool.false_and, Bool.and_false]
theorem okN_ch {n : ByteArray} {k : Nat} (hk : k < n.size) (h : chB (n[k]'hk) = false) : okN n = false := by
  unfold okN
  cases h2 : n.data.toList.all chB
  · simp
  · rw [(chs_iff n).1 h2 k hk] at h; cases h
theorem okN_all {n : ByteArray} (h1 : ¬ n.size < 1) (h2 : ¬ 12 < n.size) (h : ∀ i, i < n.size → ∀ h : i < n.size, chB (n[i]'h) = true) : okN n = true := by
  unfold okN; rw [(chs_iff n).2 fun i hi => h i hi hi, decide_eq_true (by omega), decide_eq_true (by omega)]; rfl
theorem chB_cases (c : UInt8) : (((c.toNat : Int) < 97 ∧ (c.toNat : Int) < 48 ∧ chB c = false) ∨ ((c.toNat : Int) < 97 ∧ ¬ (c.toNat : Int) < 48 ∧ (57 : Int) < c.toNat ∧ chB c = false)
    ∨ ((c.toNat : Int) < 97 ∧ ¬ (c.toNat : Int) < 48 ∧ ¬ (57 : Int) < c.toNat ∧ chB c = true) ∨ (¬ (c.toNat : Int) < 97 ∧ (122 : Int) < c.toNat ∧ ¬ (c.toNat : Int) < 48 ∧ (57 : Int) < c.toNat ∧ chB c = false) ∨ (¬ (c.toNat : Int) < 97 ∧ ¬ (122 : Int) < c.toNat ∧ chB c = true)) := by
  unfold chB
  simp only [Bool.or_eq_false_iff, Bool.and_eq_false_iff, decide_eq_false_iff_not, Bool.or_eq_true, Bool.and_eq_true, decide_eq_true_eq]
  omega

set_option maxHeartbeats 1000000 in
theorem valid_any (n : ByteArray) (q : Int) (w : World) (q0 : 0 ≤ q) (q4 : q < 4294967296) :
    Calls Tryd.prog 39 #[.agg #[.string n, .int .u32 q]] w fun e w' =>
      e = .returned (.bool (okN n && isB q)) ∧ Below w.heap.size w w' := by
  by_cases h1 : n.size < 1
  · have h1' : (n.size : Int) < 1 := by omega
    go_enter Tryd.func39, Tryd.ntmps39
    have hb0 := Below.refl w.heap.size w
    go_wp2_with fail
    go_ret
    exact ⟨by rw [okN_small h1]; rfl, (by repeat' (first | with_reducible exact hb0 | with_reducible refine Below.drew ?_ | with_reducible refine below_drewN ?_ _ | with_reducible refine Below.alloc ?_ (by have := hb0.size; first | (simp; done) | (simp; omega) | omega) _ | with_reducible refine Below.setCell ?_ (by first | (simp; done) | (simp; omega) | omega) _))⟩
  · have h1' : ¬ (n.size : Int) < 1 := by omega
    by_cases h2 : 12 < n.size
    · have h2' : (12 : Int) < n.size := by omega
      go_enter Tryd.func39, Tryd.ntmps39
      have hb0 := Below.refl w.heap.size w
      go_wp2_with fail
      go_ret
      exact ⟨by rw [okN_big h2]; rfl, (by repeat' (first | with_reducible exact hb0 | with_reducible refine Below.drew ?_ | with_reducible refine below_drewN ?_ _ | with_reducible refine Below.alloc ?_ (by have := hb0.size; first | (simp; done) | (simp; omega) | omega) _ | with_reducible refine Below.setCell ?_ (by first | (simp; done) | (simp; omega) | omega) _))⟩
    · have h2' : ¬ (12 : Int) < n.size := by omega
      go_enter Tryd.func39, Tryd.ntmps39
      have hb0 := Below.refl w.heap.size w
      go_wp2_with fail
      go_loopw [18] (fun i wr => ∃ k : Nat, k ≤ n.size ∧ i = .int .i64 k ∧ (∀ i, i < k → ∀ h : i < n.size, chB (n[i]'h) = true) ∧ Below w.heap.size w wr ∧ (wr.cell? ⟨w.heap.size, 0, none⟩ = some (.string n) ∧ wr.cell? ⟨w.heap.size, 1, none⟩ = some (.int .u32 q))) (fun i _ => n.size - (intOf i).toNat)
      case atStart => exact ⟨0, Nat.zero_le _, rfl, fun i hi => absurd hi (Nat.not_lt_zero _), (by repeat' (first | with_reducible exact hb0 | with_reducible refine Below.drew ?_ | with_reducible refine below_drewN ?_ _ | with_reducible refine Below.alloc ?_ (by have := hb0.size; first | (simp; done) | (simp; omega) | omega) _ | with_reducible refine Below.setCell ?_ (by first | (simp; done) | (simp; omega) | omega) _)), by go_simp, by go_simp⟩
      case round =>
        obtain ⟨k, hk, rfl, hpre, hbw, D_0, D_1⟩ := hrel
        by_cases hlt : k < n.size
        · have hlt' : (k : Int) < (n.size : Int) := by omega
          have hall : chB (n[k]'hlt) = true → ∀ i, i < k + 1 → ∀ h : i < n.size, chB (n[i]'h) = true := fun h i hi h2 => by
            by_cases he : i = k
            · subst he; exact h
            · exact hpre i (by omega) h2
          clear hpre
          rcases chB_cases (n[k]'hlt) with ⟨a1, a2, hch⟩ | ⟨a1, a2, a3, hch⟩ | ⟨a1, a2, a3, hch⟩ | ⟨a1, a2, a3, a4, hch⟩ | ⟨a1, a2, hch⟩
          · skip
            have H_hch := hid hch
            clear hch
            go_wp2_with fail
            go_ret
            exact ⟨by rw [okN_ch hlt H_hch.out]; rfl, (by repeat' (first | with_reducible exact hbw | with_reducible refine Below.drew ?_ | with_reducible refine below_drewN ?_ _ | with_reducible refine Below.alloc ?_ (by have := hbw.size; first | (simp; done) | (simp; omega) | omega) _ | with_reducible refine Below.setCell ?_ (by first | (simp; done) | (simp; omega) | omega) _))⟩
          · skip
            have H_hch := hid hch
            clear hch
            go_wp2_with fail
            go_ret
            exact ⟨by rw [okN_ch hlt H_hch.out]; rfl, (by repeat' (first | with_reducible exact hbw | with_reducible refine Below.drew ?_ | with_reducible refine below_drewN ?_ _ | with_reducible refine Below.alloc ?_ (by have := hbw.size; first | (simp; done) | (simp; omega) | omega) _ | with_reducible refine Below.setCell ?_ (by first | (simp; done) | (simp; omega) | omega) _))⟩
          · skip
            have H_hch := hid hch
            clear hch
            go_wp2_with fail
            go_roundw
            case rel => exact ⟨k + 1, hlt, by go_num, hall H_hch.out, (by repeat' (first | with_reducible exact hbw | with_reducible refine Below.drew ?_ | with_reducible refine below_drewN ?_ _ | with_reducible refine Below.alloc ?_ (by have := hbw.size; first | (simp; done) | (simp; omega) | omega) _ | with_reducible refine Below.setCell ?_ (by first | (simp; done) | (simp; omega) | omega) _)), by go_simp, by go_simp⟩
            case measure => simp [intOf]; omega
          · skip
            have H_hch := hid hch
            clear hch
            go_wp2_with fail
            go_ret
            exact ⟨by rw [okN_ch hlt H_hch.out]; rfl, (by repeat' (first | with_reducible exact hbw | with_reducible refine Below.drew ?_ | with_reducible refine below_drewN ?_ _ | with_reducible refine Below.alloc ?_ (by have := hbw.size; first | (simp; done) | (simp; omega) | omega) _ | with_reducible refine Below.setCell ?_ (by first | (simp; done) | (simp; omega) | omega) _))⟩
          · skip
            have H_hch := hid hch
            clear hch
            go_wp2_with fail
            go_roundw
            case rel => exact ⟨k + 1, hlt, by go_num, hall H_hch.out, (by repeat' (first | with_reducible exact hbw | with_reducible refine Below.drew ?_ | with_reducible refine below_drewN ?_ _ | with_reducible refine Below.alloc ?_ (by have := hbw.size; first | (simp; done) | (simp; omega) | omega) _ | with_reducible refine Below.setCell ?_ (by first | (simp; done) | (simp; omega) | omega) _)), by go_simp, by go_simp⟩
            case measure => simp [intOf]; omega
        · obtain rfl : k = n.size := by omega
          have hok := okN_all h1 h2 hpre
          have H_hpre := hid hpre
          have H_hok := hid hok
          clear hpre hok
          go_wp2_with fail
          go_wp2_with fail
          with_reducible refine (is_any q _ q0 q4).mono ?_
          rintro e w11 ⟨rfl, hc11⟩
          have hb11 : Below w.heap.size w w11 := bchain (by repeat' (first | with_reducible exact hbw | with_reducible refine Below.drew ?_ | with_reducible refine below_drewN ?_ _ | with_reducible refine Below.alloc ?_ (by have := hbw.size; first | (simp; done) | (simp; omega) | omega) _ | with_reducible refine Below.setCell ?_ (by first | (simp; done) | (simp; omega) | omega) _)) hc11
          clear hc11 hbw
          go_wp2_with fail
          go_ret
          exact ⟨by rw [H_hok.out]; rfl, (by repeat' (first | with_reducible exact hb11 | with_reducible refine Below.drew ?_ | with_reducible refine below_drewN ?_ _ | with_reducible refine Below.alloc ?_ (by have := hb11.size; first | (simp; done) | (simp; omega) | omega) _ | with_reducible refine Below.setCell ?_ (by first | (simp; done) | (simp; omega) | omega) _))⟩

set_option maxHeartbeats 1000000 in
theorem rvalid_any (n : ByteArray) (q : Int) (w : World) (q0 : 0 ≤ q) (q4 : q < 4294967296) :
    Calls Tryd.prog 42 #[.agg #[.string n, .int .u32 q]] w fun e w' =>
      e = .returned (.bool (okN n && isB q)) ∧ Below w.heap.size w w' := by
  by_cases h1 : n.size < 1
  · have h1' : (n.size : Int) < 1 := by omega
    go_enter Tryd.func42, Tryd.ntmps42
    have hb0 := Below.refl w.heap.size w
    go_wp2_with fail
    go_ret
    exact ⟨by rw [okN_small h1]; rfl, (by repeat' (first | with_reducible exact hb0 | with_reducible refine Below.drew ?_ | with_reducible refine below_drewN ?_ _ | with_reducible refine Below.alloc ?_ (by have := hb0.size; first | (simp; done) | (simp; omega) | omega) _ | with_reducible refine Below.setCell ?_ (by first | (simp; done) | (simp; omega) | omega) _))⟩
  · have h1' : ¬ (n.size : Int) < 1 := by omega
    by_cases h2 : 12 < n.size
    · have h2' : (12 : Int) < n.size := by omega
      go_enter Tryd.func42, Tryd.ntmps42
      have hb0 := Below.refl w.heap.size w
      go_wp2_with fail
      go_ret
      exact ⟨by rw [okN_big h2]; rfl, (by repeat' (first | with_reducible exact hb0 | with_reducible refine Below.drew ?_ | with_reducible refine below_drewN ?_ _ | with_reducible refine Below.alloc ?_ (by have := hb0.size; first | (simp; done) | (simp; omega) | omega) _ | with_reducible refine Below.setCell ?_ (by first | (simp; done) | (simp; omega) | omega) _))⟩
    · have h2' : ¬ (12 : Int) < n.size := by omega
      cases hq : isB q with
      | false =>
        go_enter Tryd.func42, Tryd.ntmps42
        have hb0 := Below.refl w.heap.size w
        have hcall := fun W => (ris_any q W q0 q4).mono (fun e w' h => (show e = .returned (.bool false) ∧ W = w' from ⟨hq ▸ h.1, h.2⟩))
        go_wp2_with fail
        go_wp2_with fail
        refine (hcall _).mono ?_
        rintro e w' ⟨rfl, rfl⟩
        go_wp2_with fail
        go_ret
        exact ⟨by rw [Bool.and_false]; rfl, (by repeat' (first | with_reducible exact hb0 | with_reducible refine Below.drew ?_ | with_reducible refine below_drewN ?_ _ | with_reducible refine Below.alloc ?_ (by have := hb0.size; first | (simp; done) | (simp; omega) | omega) _ | with_reducible refine Below.setCell ?_ (by first | (simp; done) | (simp; omega) | omega) _))⟩
      | true =>
        have hcall := fun W => (ris_any q W q0 q4).mono (fun e w' h => (show e = .returned (.bool true) ∧ W = w' from ⟨hq ▸ h.1, h.2⟩))
        clear hq
        go_enter Tryd.func42, Tryd.ntmps42
        have hb0 := Below.refl w.heap.size w
        go_wp2_with fail
        go_wp2_with fail
        refine (hcall _).mono ?_
        rintro e w' ⟨rfl, rfl⟩
        go_wp2_with fail
        go_loopw [3] (fun i wr => ∃ k : Nat, k ≤ n.size ∧ i = .int .i64 k ∧ (∀ i, i < k → ∀ h : i < n.size, chB (n[i]'h) = true) ∧ Below w.heap.size w wr ∧ (wr.cell? ⟨w.heap.size, 0, none⟩ = some (.string n) ∧ wr.cell? ⟨w.heap.size, 1, none⟩ = some (.int .u32 q))) (fun i _ => n.size - (intOf i).toNat)
        case atStart => exact ⟨0, Nat.zero_le _, rfl, fun i hi => absurd hi (Nat.not_lt_zero _), (by repeat' (first | with_reducible exact hb0 | with_reducible refine Below.drew ?_ | with_reducible refine below_drewN ?_ _ | with_reducible refine Below.alloc ?_ (by have := hb0.size; first | (simp; done) | (simp; omega) | omega) _ | with_reducible refine Below.setCell ?_ (by first | (simp; done) | (simp; omega) | omega) _)), by go_simp, by go_simp⟩
        case round =>
          obtain ⟨k, hk, rfl, hpre, hbw, D_0, D_1⟩ := hrel
          by_cases hlt : k < n.size
          · have hlt' : (k : Int) < (n.size : Int) := by omega
            have hall : chB (n[k]'hlt) = true → ∀ i, i < k + 1 → ∀ h : i < n.size, chB (n[i]'h) = true := fun h i hi h2 => by
              by_cases he : i = k
              · subst he; exact h
              · exact hpre i (by omega) h2
            clear hpre
            rcases chB_cases (n[k]'hlt) with ⟨a1, a2, hch⟩ | ⟨a1, a2, a3, hch⟩ | ⟨a1, a2, a3, hch⟩ | ⟨a1, a2, a3, a4, hch⟩ | ⟨a1, a2, hch⟩
            · skip
              have H_hch := hid hch
              clear hch
              go_wp2_with fail
              go_ret
              exact ⟨by rw [okN_ch hlt H_hch.out]; rfl, (by repeat' (first | with_reducible exact hbw | with_reducible refine Below.drew ?_ | with_reducible refine below_drewN ?_ _ | with_reducible refine Below.alloc ?_ (by have := hbw.size; first | (simp; done) | (simp; omega) | omega) _ | with_reducible refine Below.setCell ?_ (by first | (simp; done) | (simp; omega) | omega) _))⟩
            · skip
              have H_hch := hid hch
              clear hch
              go_wp2_with fail
              go_ret
              exact ⟨by rw [okN_ch hlt H_hch.out]; rfl, (by repeat' (first | with_reducible exact hbw | with_reducible refine Below.drew ?_ | with_reducible refine below_drewN ?_ _ | with_reducible refine Below.alloc ?_ (by have := hbw.size; first | (simp; done) | (simp; omega) | omega) _ | with_reducible refine Below.setCell ?_ (by first | (simp; done) | (simp; omega) | omega) _))⟩
            · skip
              have H_hch := hid hch
              clear hch
              go_wp2_with fail
              go_roundw
              case rel => exact ⟨k + 1, hlt, by go_num, hall H_hch.out, (by repeat' (first | with_reducible exact hbw | with_reducible refine Below.drew ?_ | with_reducible refine below_drewN ?_ _ | with_reducible refine Below.alloc ?_ (by have := hbw.size; first | (simp; done) | (simp; omega) | omega) _ | with_reducible refine Below.setCell ?_ (by first | (simp; done) | (simp; omega) | omega) _)), by go_simp, by go_simp⟩
              case measure => simp [intOf]; omega
            · skip
              have H_hch := hid hch
              clear hch
              go_wp2_with fail
              go_ret
              exact ⟨by rw [okN_ch hlt H_hch.out]; rfl, (by repeat' (first | with_reducible exact hbw | with_reducible refine Below.drew ?_ | with_reducible refine below_drewN ?_ _ | with_reducible refine Below.alloc ?_ (by have := hbw.size; first | (simp; done) | (simp; omega) | omega) _ | with_reducible refine Below.setCell ?_ (by first | (simp; done) | (simp; omega) | omega) _))⟩
            · skip
              have H_hch := hid hch
              clear hch
              go_wp2_with fail
              go_roundw
              case rel => exact ⟨k + 1, hlt, by go_num, hall H_hch.out, (by repeat' (first | with_reducible exact hbw | with_reducible refine Below.drew ?_ | with_reducible refine below_drewN ?_ _ | with_reducible refine Below.alloc ?_ (by have := hbw.size; first | (simp; done) | (simp; omega) | omega) _ | with_reducible refine Below.setCell ?_ (by first | (simp; done) | (simp; omega) | omega) _)), by go_simp, by go_simp⟩
              case measure => simp [intOf]; omega
          · obtain rfl : k = n.size := by omega
            have hok := okN_all h1 h2 hpre
            have H_hpre := hid hpre
            have H_hok := hid hok
            clear hpre hok
            go_wp2_with fail
            go_ret
            exact ⟨by rw [H_hok.out]; rfl, (by repeat' (first | with_reducible exact hbw | with_reducible refine Below.drew ?_ | with_reducible refine below_drewN ?_ _ | with_reducible refine Below.alloc ?_ (by have := hbw.size; first | (simp; done) | (simp; omega) | omega) _ | with_reducible refine Below.setCell ?_ (by first | (simp; done) | (simp; omega) | omega) _))⟩
end Go.Proofs.YthdldmkeoglflaaDoor
