/- The setup's secret: its check, its public key. -/
import Derived.Test.YthdldmkeoglflaaDoorGroupLast
namespace Go.Proofs.YthdldmkeoglflaaDoor
set_option maxRecDepth 100000
set_option linter.unusedSimpArgs false
set_option linter.unusedVariables false
set_option linter.unnecessarySimpa false
open Go.RowKit

def pubK (s : Int) : Int := gpw 4 s.toNat 1000000007
theorem pubK_rng (s : Int) : 0 ≤ pubK s ∧ pubK s < 1000000007 := ⟨pw_nonneg _ _ _ (by omega), pw_lt _ _ _ (by omega)⟩
/-- Whether a number is a secret. -/
def secB (s : Int) : Bool := decide (1 ≤ s) && decide (s < 500000003)

theorem check_ok (s : Int) (w : World) (h1 : 1 ≤ s) (h2 : s < 500000003) :
    Calls Tryd.prog 58 #[.int .u32 s] w fun e w' =>
      e = .returned (.int .i64 0) ∧ w = w' := by
  have e1 : IntKind.u32.wrap (s - 1) = s - 1 := by rw [IntKind.wrap_u32]; omega
  have e2 : s - 1 < 500000002 := by omega
  go_enter Tryd.func58, Tryd.ntmps58
  have hb0 := Below.refl w.heap.size w
  go_wp2_with fail
  go_ret
  exact ⟨rfl, rfl⟩
theorem check_no (s : Int) (w : World) (h0 : 0 ≤ s) (h4 : s < 4294967296) (h : s = 0 ∨ 500000003 ≤ s) :
    Calls Tryd.prog 58 #[.int .u32 s] w fun e w' =>
      e = .returned (.int .i64 2) ∧ w = w' := by
  obtain ⟨z, hz, hz2⟩ : ∃ z, IntKind.u32.wrap (s - 1) = z ∧ 500000002 ≤ z := ⟨_, rfl, by rw [IntKind.wrap_u32]; omega⟩
  clear h
  go_enter Tryd.func58, Tryd.ntmps58
  have hb0 := Below.refl w.heap.size w
  go_wp2_with fail
  go_ret
  exact ⟨rfl, rfl⟩
theorem public_ok (s : Int) (w : World) (h1 : 1 ≤ s) (h2 : s < 500000003) :
    Calls Tryd.prog 25 #[.int .u32 s] w fun e w' =>
      e = .returned (.tuple #[.int .u32 (pubK s), .int .i64 0]) ∧ Below w.heap.size w w' := by
  go_enter Tryd.func25, Tryd.ntmps25
  have hb0 := Below.refl w.heap.size w
  go_wp2_with fail
  refine (check_ok s _ h1 h2).mono ?_
  rintro e w' ⟨rfl, rfl⟩
  go_wp2_with fail
  with_reducible refine (base_I s _ (by omega) (by omega)).mono ?_
  rintro e w1 ⟨rfl, hc1⟩
  have hb1 : Below w.heap.size w w1 := bchain (by repeat' (first | with_reducible exact hb0 | with_reducible refine Below.drew ?_ | with_reducible refine below_drewN ?_ _ | with_reducible refine Below.alloc ?_ (by have := hb0.size; first | (simp; done) | (simp; omega) | omega) _ | with_reducible refine Below.setCell ?_ (by first | (simp; done) | (simp; omega) | omega) _)) hc1
  clear hc1 hb0
  go_wp2_with fail
  go_ret2
  exact ⟨rfl, by repeat' (first | with_reducible exact hb1 | with_reducible refine Below.drew ?_ | with_reducible refine below_drewN ?_ _ | with_reducible refine Below.alloc ?_ (by have := hb1.size; first | (simp; done) | (simp; omega) | omega) _ | with_reducible refine Below.setCell ?_ (by first | (simp; done) | (simp; omega) | omega) _)⟩
theorem public_no (s : Int) (w : World) (h0 : 0 ≤ s) (h4 : s < 4294967296) (h : s = 0 ∨ 500000003 ≤ s) :
    Calls Tryd.prog 25 #[.int .u32 s] w fun e w' =>
      e = .returned (.tuple #[.int .u32 0, .int .i64 2]) ∧ Below w.heap.size w w' := by
  have H := hid h
  clear h
  go_enter Tryd.func25, Tryd.ntmps25
  have hb0 := Below.refl w.heap.size w
  go_wp2_with fail
  refine (check_no s _ h0 h4 H.out).mono ?_
  rintro e w' ⟨rfl, rfl⟩
  go_wp2_with fail
  go_ret2
  exact ⟨rfl, by repeat' (first | with_reducible exact hb0 | with_reducible refine Below.drew ?_ | with_reducible refine below_drewN ?_ _ | with_reducible refine Below.alloc ?_ (by have := hb0.size; first | (simp; done) | (simp; omega) | omega) _ | with_reducible refine Below.setCell ?_ (by first | (simp; done) | (simp; omega) | omega) _)⟩
theorem secB_no {s : Int} (h0 : 0 ≤ s) (h : secB s = false) : s = 0 ∨ 500000003 ≤ s := by
  simp only [secB, Bool.and_eq_false_iff, decide_eq_false_iff_not] at h; omega
theorem secB_ok {s : Int} (h : secB s = true) : 1 ≤ s ∧ s < 500000003 := by
  simpa only [secB, Bool.and_eq_true, decide_eq_true_eq] using h
/-- sign.Public at any secret. -/
theorem public_any (s : Int) (w : World) (h0 : 0 ≤ s) (h4 : s < 4294967296) :
    Calls Tryd.prog 25 #[.int .u32 s] w fun e w' =>
      e = .returned (.tuple #[.int .u32 (if secB s then pubK s else 0), .int .i64 (if secB s then 0 else 2)]) ∧ Below w.heap.size w w' := by
  cases h : secB s with
  | true => exact public_ok s w (secB_ok h).1 (secB_ok h).2
  | false => exact public_no s w h0 h4 (secB_no h0 h)

theorem rkey_any (s : Int) (w : World) (h0 : 0 ≤ s) (h4 : s < 4294967296) :
    Calls Tryd.prog 64 #[.int .u32 s] w fun e w' =>
      e = .returned (.int .u32 (pubK s)) ∧ w = w' := by
  obtain ⟨k, hk⟩ : ∃ k : Nat, s.toNat = k := ⟨_, rfl⟩
  have hs : s = (k : Int) := by omega
  have hp : pubK s = gpw 4 k 1000000007 := by unfold pubK; rw [hk]
  rw [hp]
  subst hs
  clear hp hk
  go_enter Tryd.func64, Tryd.ntmps64
  have hb0 := Below.refl w.heap.size w
  go_wp2_with fail
  refine (rbase_any k _ (by omega)).mono ?_
  rintro e w' ⟨rfl, rfl⟩
  go_wp2_with fail
  go_ret
  exact ⟨rfl, rfl⟩
theorem rcheck_any (s : Int) (w : World) (h0 : 0 ≤ s) (h4 : s < 4294967296) :
    Calls Tryd.prog 41 #[.int .u32 s] w fun e w' =>
      e = .returned (.int .i64 (if secB s then 0 else 2)) ∧ w = w' := by
  cases h : secB s with
  | true =>
    obtain ⟨h1, h2⟩ := secB_ok h
    have h3 : (s == 0) = false := by simp; omega
    clear h
    go_enter Tryd.func41, Tryd.ntmps41
    have hb0 := Below.refl w.heap.size w
    go_wp2_with fail
    go_ret
    exact ⟨rfl, rfl⟩
  | false =>
    rcases secB_no h0 h with h5 | h5
    · subst h5
      clear h
      go_enter Tryd.func41, Tryd.ntmps41
      have hb0 := Below.refl w.heap.size w
      go_wp2_with fail
      go_ret
      exact ⟨rfl, rfl⟩
    · have h3 : (s == 0) = false := by simp; omega
      clear h
      go_enter Tryd.func41, Tryd.ntmps41
      have hb0 := Below.refl w.heap.size w
      go_wp2_with fail
      go_ret
      exact ⟨rfl, rfl⟩
