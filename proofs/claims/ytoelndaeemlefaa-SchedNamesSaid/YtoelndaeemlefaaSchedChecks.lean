/- What Check returns. -/
import Derived.Test.YtoelndaeemlefaaSchedWalks
namespace Go.Proofs.Ytoelndaeemlefaa
set_option linter.unusedSimpArgs false
set_option linter.unusedVariables false
set_option linter.unnecessarySimpa false
open Go.RowKit



set_option maxHeartbeats 4000000 in
theorem tcheck_any (l a : List Int) (la aa : Option Addr) (lc ac : Nat) (w : World) (hl : CellsAt w la (l.map (Value.int .i64))) (ha : CellsAt w aa (a.map (Value.int .i64))) (hml : l.length ≤ maxLen) :
    Calls Try.prog 21 #[.agg #[.slice la l.length lc, .slice aa a.length ac]] w fun e w' =>
      e = .returned (.int .i64 (tErr l a)) ∧ Below w.heap.size w w' := by
  unfold maxLen at hml
  by_cases h1 : l.length < 1
  · have h1' : (l.length : Int) < 1 := by omega
    have he : tErr l a = 8 := by unfold tErr; simp [h1]
    have H_he := hid he
    clear he
    go_enter Try.func21, Try.ntmps21
    have hb0 := Below.refl w.heap.size w
    go_wp2_with fail
    go_ret
    exact ⟨ret_int H_he.out.symm, (by repeat' (first | with_reducible exact hb0 | with_reducible refine Below.drew ?_ | with_reducible refine below_drewN ?_ _ | with_reducible refine Below.alloc ?_ (by have := hb0.size; first | (simp; done) | (simp; omega) | omega) _ | with_reducible refine Below.setCell ?_ (by first | (simp; done) | (simp; omega) | omega) _))⟩
  by_cases h2 : 12 < l.length
  · have h1' : ¬ (l.length : Int) < 1 := by omega
    have h2' : (12 : Int) < (l.length : Int) := by omega
    have he : tErr l a = 8 := by unfold tErr; simp [h1, h2]
    have H_he := hid he
    clear he
    go_enter Try.func21, Try.ntmps21
    have hb0 := Below.refl w.heap.size w
    go_wp2_with fail
    go_ret
    exact ⟨ret_int H_he.out.symm, (by repeat' (first | with_reducible exact hb0 | with_reducible refine Below.drew ?_ | with_reducible refine below_drewN ?_ _ | with_reducible refine Below.alloc ?_ (by have := hb0.size; first | (simp; done) | (simp; omega) | omega) _ | with_reducible refine Below.setCell ?_ (by first | (simp; done) | (simp; omega) | omega) _))⟩
  by_cases h3 : a.length = l.length
  · have h1' : ¬ (l.length : Int) < 1 := by omega
    have h2' : ¬ (12 : Int) < (l.length : Int) := by omega
    obtain ⟨b, o, rfl, hr⟩ := hl.intG (by omega)
    obtain ⟨b2, o2, rfl, hr2⟩ := ha.intG (by omega)
    clear hl ha
    have Hr := hid hr
    have Hr2 := hid hr2
    clear hr hr2
    go_enter Try.func21, Try.ntmps21
    have hb0 := Below.refl w.heap.size w
    go_wp2_with fail
    go_loopw [25] (fun i wr => ∃ k : Nat, k ≤ l.length ∧ i = .int .i64 k ∧ Below w.heap.size w wr ∧ (wr.cell? ⟨w.heap.size, 0, none⟩ = some (.slice (some ⟨b, o, none⟩) l.length lc) ∧ wr.cell? ⟨w.heap.size, 1, none⟩ = some (.slice (some ⟨b2, o2, none⟩) a.length ac)) ∧ Hid (∀ j, j < k → validAt l a j = true)) (fun i _ => l.length - (intOf i).toNat)
    case atStart => exact ⟨0, Nat.zero_le _, rfl, (by repeat' (first | with_reducible exact hb0 | with_reducible refine Below.drew ?_ | with_reducible refine below_drewN ?_ _ | with_reducible refine Below.alloc ?_ (by have := hb0.size; first | (simp; done) | (simp; omega) | omega) _ | with_reducible refine Below.setCell ?_ (by first | (simp; done) | (simp; omega) | omega) _)), ⟨by go_simp, by go_simp⟩, hid (fun j hj => by omega)⟩
    case round =>
      obtain ⟨k, hk, rfl, hbw, ⟨P_0, P_1⟩, Hall⟩ := hrel
      by_cases hlt : k < l.length
      · have hlt' : (k : Int) < (l.length : Int) := by omega
        have hlt2 : (k : Int) < (a.length : Int) := by omega
        obtain ⟨c1, c2, c3⟩ := Hr.out k hlt
        obtain ⟨d1, d2, d3⟩ := Hr2.out k (by omega)
        replace c1 := cell_later hbw c1
        replace d1 := cell_later hbw d1
        by_cases q1 : g l k < 0
        · skip
          have hbad : tErr l a = 8 := tErr_bad (i := k) (by omega) (by simp [validAt]; omega)
          clear Hall
          have H_hbad := hid hbad
          clear hbad
          go_wp2_with fail
          go_ret
          exact ⟨ret_int H_hbad.out.symm, (by repeat' (first | with_reducible exact hbw | with_reducible refine Below.drew ?_ | with_reducible refine below_drewN ?_ _ | with_reducible refine Below.alloc ?_ (by have := hbw.size; first | (simp; done) | (simp; omega) | omega) _ | with_reducible refine Below.setCell ?_ (by first | (simp; done) | (simp; omega) | omega) _))⟩
        by_cases q2 : 60 < g l k
        · skip
          have hbad : tErr l a = 8 := tErr_bad (i := k) (by omega) (by simp [validAt]; omega)
          clear Hall
          have H_hbad := hid hbad
          clear hbad
          go_wp2_with fail
          go_ret
          exact ⟨ret_int H_hbad.out.symm, (by repeat' (first | with_reducible exact hbw | with_reducible refine Below.drew ?_ | with_reducible refine below_drewN ?_ _ | with_reducible refine Below.alloc ?_ (by have := hbw.size; first | (simp; done) | (simp; omega) | omega) _ | with_reducible refine Below.setCell ?_ (by first | (simp; done) | (simp; omega) | omega) _))⟩
        by_cases q3 : g a k < -1
        · skip
          have hbad : tErr l a = 8 := tErr_bad (i := k) (by omega) (by simp [validAt]; omega)
          clear Hall
          have H_hbad := hid hbad
          clear hbad
          go_wp2_with fail
          go_ret
          exact ⟨ret_int H_hbad.out.symm, (by repeat' (first | with_reducible exact hbw | with_reducible refine Below.drew ?_ | with_reducible refine below_drewN ?_ _ | with_reducible refine Below.alloc ?_ (by have := hbw.size; first | (simp; done) | (simp; omega) | omega) _ | with_reducible refine Below.setCell ?_ (by first | (simp; done) | (simp; omega) | omega) _))⟩
        by_cases q4 : (k : Int) ≤ g a k
        · skip
          have hbad : tErr l a = 8 := tErr_bad (i := k) (by omega) (by simp [validAt]; omega)
          clear Hall
          have H_hbad := hid hbad
          clear hbad
          go_wp2_with fail
          go_ret
          exact ⟨ret_int H_hbad.out.symm, (by repeat' (first | with_reducible exact hbw | with_reducible refine Below.drew ?_ | with_reducible refine below_drewN ?_ _ | with_reducible refine Below.alloc ?_ (by have := hbw.size; first | (simp; done) | (simp; omega) | omega) _ | with_reducible refine Below.setCell ?_ (by first | (simp; done) | (simp; omega) | omega) _))⟩
        go_wp2_with fail
        go_roundw
        case rel => exact ⟨k + 1, by omega, by go_num, (by repeat' (first | with_reducible exact hbw | with_reducible refine Below.drew ?_ | with_reducible refine below_drewN ?_ _ | with_reducible refine Below.alloc ?_ (by have := hbw.size; first | (simp; done) | (simp; omega) | omega) _ | with_reducible refine Below.setCell ?_ (by first | (simp; done) | (simp; omega) | omega) _)), ⟨by go_simp, by go_simp⟩, hid (fun j hj => by
          by_cases hjk : j < k
          · exact Hall.out j hjk
          · obtain rfl : j = k := by omega
            simp [validAt]; omega)⟩
        case measure => simp [intOf]; omega
      · obtain rfl : k = l.length := by omega
        have he : tErr l a = 0 := tErr_zero (by omega) (by omega) h3 Hall.out
        clear Hall
        have H_he := hid he
        clear he
        go_wp2_with fail
        go_ret
        exact ⟨ret_int H_he.out.symm, (by repeat' (first | with_reducible exact hbw | with_reducible refine Below.drew ?_ | with_reducible refine below_drewN ?_ _ | with_reducible refine Below.alloc ?_ (by have := hbw.size; first | (simp; done) | (simp; omega) | omega) _ | with_reducible refine Below.setCell ?_ (by first | (simp; done) | (simp; omega) | omega) _))⟩
  · have h1' : ¬ (l.length : Int) < 1 := by omega
    have h2' : ¬ (12 : Int) < (l.length : Int) := by omega
    have h3' : ((a.length : Int) != (l.length : Int)) = true := by rw [bne_iff_ne]; omega
    have h3'' : ¬ ((a.length : Int) = (l.length : Int)) := by omega
    have he : tErr l a = 8 := by unfold tErr; simp [h1, h2, h3]
    have H_he := hid he
    clear he
    go_enter Try.func21, Try.ntmps21
    have hb0 := Below.refl w.heap.size w
    go_wp2_with fail
    go_ret
    exact ⟨ret_int H_he.out.symm, (by repeat' (first | with_reducible exact hb0 | with_reducible refine Below.drew ?_ | with_reducible refine below_drewN ?_ _ | with_reducible refine Below.alloc ?_ (by have := hb0.size; first | (simp; done) | (simp; omega) | omega) _ | with_reducible refine Below.setCell ?_ (by first | (simp; done) | (simp; omega) | omega) _))⟩
set_option maxHeartbeats 4000000 in
theorem rtcheck_any (l a : List Int) (la aa : Option Addr) (lc ac : Nat) (w : World) (hl : CellsAt w la (l.map (Value.int .i64))) (ha : CellsAt w aa (a.map (Value.int .i64))) (hml : l.length ≤ maxLen) :
    Calls Try.prog 22 #[.agg #[.slice la l.length lc, .slice aa a.length ac]] w fun e w' =>
      e = .returned (.int .i64 (tErr l a)) ∧ Below w.heap.size w w' := by
  unfold maxLen at hml
  by_cases h1 : l.length < 1
  · have h1' : (l.length : Int) < 1 := by omega
    have he : tErr l a = 8 := by unfold tErr; simp [h1]
    have H_he := hid he
    clear he
    go_enter Try.func22, Try.ntmps22
    have hb0 := Below.refl w.heap.size w
    go_wp2_with fail
    go_ret
    exact ⟨ret_int H_he.out.symm, (by repeat' (first | with_reducible exact hb0 | with_reducible refine Below.drew ?_ | with_reducible refine below_drewN ?_ _ | with_reducible refine Below.alloc ?_ (by have := hb0.size; first | (simp; done) | (simp; omega) | omega) _ | with_reducible refine Below.setCell ?_ (by first | (simp; done) | (simp; omega) | omega) _))⟩
  by_cases h2 : 12 < l.length
  · have h1' : ¬ (l.length : Int) < 1 := by omega
    have h2' : (12 : Int) < (l.length : Int) := by omega
    have he : tErr l a = 8 := by unfold tErr; simp [h1, h2]
    have H_he := hid he
    clear he
    go_enter Try.func22, Try.ntmps22
    have hb0 := Below.refl w.heap.size w
    go_wp2_with fail
    go_ret
    exact ⟨ret_int H_he.out.symm, (by repeat' (first | with_reducible exact hb0 | with_reducible refine Below.drew ?_ | with_reducible refine below_drewN ?_ _ | with_reducible refine Below.alloc ?_ (by have := hb0.size; first | (simp; done) | (simp; omega) | omega) _ | with_reducible refine Below.setCell ?_ (by first | (simp; done) | (simp; omega) | omega) _))⟩
  by_cases h3 : a.length = l.length
  · have h1' : ¬ (l.length : Int) < 1 := by omega
    have h2' : ¬ (12 : Int) < (l.length : Int) := by omega
    obtain ⟨b, o, rfl, hr⟩ := hl.intG (by omega)
    obtain ⟨b2, o2, rfl, hr2⟩ := ha.intG (by omega)
    clear hl ha
    have Hr := hid hr
    have Hr2 := hid hr2
    clear hr hr2
    go_enter Try.func22, Try.ntmps22
    have hb0 := Below.refl w.heap.size w
    go_wp2_with fail
    go_loopw [3] (fun i wr => ∃ k : Nat, k ≤ l.length ∧ i = .int .i64 k ∧ Below w.heap.size w wr ∧ (wr.cell? ⟨w.heap.size, 0, none⟩ = some (.slice (some ⟨b, o, none⟩) l.length lc) ∧ wr.cell? ⟨w.heap.size, 1, none⟩ = some (.slice (some ⟨b2, o2, none⟩) a.length ac)) ∧ Hid (∀ j, j < k → validAt l a j = true)) (fun i _ => l.length - (intOf i).toNat)
    case atStart => exact ⟨0, Nat.zero_le _, rfl, (by repeat' (first | with_reducible exact hb0 | with_reducible refine Below.drew ?_ | with_reducible refine below_drewN ?_ _ | with_reducible refine Below.alloc ?_ (by have := hb0.size; first | (simp; done) | (simp; omega) | omega) _ | with_reducible refine Below.setCell ?_ (by first | (simp; done) | (simp; omega) | omega) _)), ⟨by go_simp, by go_simp⟩, hid (fun j hj => by omega)⟩
    case round =>
      obtain ⟨k, hk, rfl, hbw, ⟨P_0, P_1⟩, Hall⟩ := hrel
      by_cases hlt : k < l.length
      · have hlt' : (k : Int) < (l.length : Int) := by omega
        have hlt2 : (k : Int) < (a.length : Int) := by omega
        obtain ⟨c1, c2, c3⟩ := Hr.out k hlt
        obtain ⟨d1, d2, d3⟩ := Hr2.out k (by omega)
        replace c1 := cell_later hbw c1
        replace d1 := cell_later hbw d1
        by_cases q1 : g l k < 0
        · skip
          have hbad : tErr l a = 8 := tErr_bad (i := k) (by omega) (by simp [validAt]; omega)
          clear Hall
          have H_hbad := hid hbad
          clear hbad
          go_wp2_with fail
          go_ret
          exact ⟨ret_int H_hbad.out.symm, (by repeat' (first | with_reducible exact hbw | with_reducible refine Below.drew ?_ | with_reducible refine below_drewN ?_ _ | with_reducible refine Below.alloc ?_ (by have := hbw.size; first | (simp; done) | (simp; omega) | omega) _ | with_reducible refine Below.setCell ?_ (by first | (simp; done) | (simp; omega) | omega) _))⟩
        by_cases q2 : 60 < g l k
        · skip
          have hbad : tErr l a = 8 := tErr_bad (i := k) (by omega) (by simp [validAt]; omega)
          clear Hall
          have H_hbad := hid hbad
          clear hbad
          go_wp2_with fail
          go_ret
          exact ⟨ret_int H_hbad.out.symm, (by repeat' (first | with_reducible exact hbw | with_reducible refine Below.drew ?_ | with_reducible refine below_drewN ?_ _ | with_reducible refine Below.alloc ?_ (by have := hbw.size; first | (simp; done) | (simp; omega) | omega) _ | with_reducible refine Below.setCell ?_ (by first | (simp; done) | (simp; omega) | omega) _))⟩
        by_cases q3 : g a k < -1
        · skip
          have hbad : tErr l a = 8 := tErr_bad (i := k) (by omega) (by simp [validAt]; omega)
          clear Hall
          have H_hbad := hid hbad
          clear hbad
          go_wp2_with fail
          go_ret
          exact ⟨ret_int H_hbad.out.symm, (by repeat' (first | with_reducible exact hbw | with_reducible refine Below.drew ?_ | with_reducible refine below_drewN ?_ _ | with_reducible refine Below.alloc ?_ (by have := hbw.size; first | (simp; done) | (simp; omega) | omega) _ | with_reducible refine Below.setCell ?_ (by first | (simp; done) | (simp; omega) | omega) _))⟩
        by_cases q4 : (k : Int) ≤ g a k
        · skip
          have hbad : tErr l a = 8 := tErr_bad (i := k) (by omega) (by simp [validAt]; omega)
          clear Hall
          have H_hbad := hid hbad
          clear hbad
          go_wp2_with fail
          go_ret
          exact ⟨ret_int H_hbad.out.symm, (by repeat' (first | with_reducible exact hbw | with_reducible refine Below.drew ?_ | with_reducible refine below_drewN ?_ _ | with_reducible refine Below.alloc ?_ (by have := hbw.size; first | (simp; done) | (simp; omega) | omega) _ | with_reducible refine Below.setCell ?_ (by first | (simp; done) | (simp; omega) | omega) _))⟩
        go_wp2_with fail
        go_roundw
        case rel => exact ⟨k + 1, by omega, by go_num, (by repeat' (first | with_reducible exact hbw | with_reducible refine Below.drew ?_ | with_reducible refine below_drewN ?_ _ | with_reducible refine Below.alloc ?_ (by have := hbw.size; first | (simp; done) | (simp; omega) | omega) _ | with_reducible refine Below.setCell ?_ (by first | (simp; done) | (simp; omega) | omega) _)), ⟨by go_simp, by go_simp⟩, hid (fun j hj => by
          by_cases hjk : j < k
          · exact Hall.out j hjk
          · obtain rfl : j = k := by omega
            simp [validAt]; omega)⟩
        case measure => simp [intOf]; omega
      · obtain rfl : k = l.length := by omega
        have he : tErr l a = 0 := tErr_zero (by omega) (by omega) h3 Hall.out
        clear Hall
        have H_he := hid he
        clear he
        go_wp2_with fail
        go_ret
        exact ⟨ret_int H_he.out.symm, (by repeat' (first | with_reducible exact hbw | with_reducible refine Below.drew ?_ | with_reducible refine below_drewN ?_ _ | with_reducible refine Below.alloc ?_ (by have := hbw.size; first | (simp; done) | (simp; omega) | omega) _ | with_reducible refine Below.setCell ?_ (by first | (simp; done) | (simp; omega) | omega) _))⟩
  · have h1' : ¬ (l.length : Int) < 1 := by omega
    have h2' : ¬ (12 : Int) < (l.length : Int) := by omega
    have h3' : ((a.length : Int) != (l.length : Int)) = true := by rw [bne_iff_ne]; omega
    have h3'' : ¬ ((a.length : Int) = (l.length : Int)) := by omega
    have he : tErr l a = 8 := by unfold tErr; simp [h1, h2, h3]
    have H_he := hid he
    clear he
    go_enter Try.func22, Try.ntmps22
    have hb0 := Below.refl w.heap.size w
    go_wp2_with fail
    go_ret
    exact ⟨ret_int H_he.out.symm, (by repeat' (first | with_reducible exact hb0 | with_reducible refine Below.drew ?_ | with_reducible refine below_drewN ?_ _ | with_reducible refine Below.alloc ?_ (by have := hb0.size; first | (simp; done) | (simp; omega) | omega) _ | with_reducible refine Below.setCell ?_ (by first | (simp; done) | (simp; omega) | omega) _))⟩

theorem step_at {p : List Int → Nat → Bool} {l : List Int} {k : Nat} (h : ∀ j, j < k → p l j = true) (hk : p l k = true) : ∀ j, j < k + 1 → p l j = true := by
  intro j hj
  by_cases hjk : j < k
  · exact h j hjk
  · obtain rfl : j = k := by omega
    exact hk

set_option maxHeartbeats 4000000 in
theorem pcheck_any (l a ps : List Int) (la aa pa : Option Addr) (lc ac pc : Nat) (w : World) (hl : CellsAt w la (l.map (Value.int .i64))) (ha : CellsAt w aa (a.map (Value.int .i64))) (hp : CellsAt w pa (ps.map (Value.int .i64))) (hml : l.length ≤ maxLen) :
    Calls Try.prog 36 #[.agg #[.slice la l.length lc, .slice aa a.length ac], .slice pa ps.length pc] w fun e w' =>
      e = .returned (.int .i64 (pkErr l a ps)) ∧ Below w.heap.size w w' := by
  unfold maxLen at hml
  rcases tErr_cases l a with h8 | h8
  · have hn := (tErr_ok h8).1
    have hn2 := (tErr_ok h8).2.1
    by_cases h3 : 300 < ps.length
    · have h3' : (300 : Int) < (ps.length : Int) := by omega
      have he : pkErr l a ps = 4 := by unfold pkErr; rw [if_pos h8, if_pos h3]
      have H_he := hid he
      have H_h8 := hid h8
      clear he h8
      go_enter Try.func36, Try.ntmps36
      have hb0 := Below.refl w.heap.size w
      go_wp2_with fail
      refine (tcheck_any l a la aa lc ac _ (hl.alloc _) (ha.alloc _) hml).mono ?_
      rintro e w1 ⟨rfl, hc1⟩
      have hb1 : Below w.heap.size w w1 := bchain (by repeat' (first | with_reducible exact hb0 | with_reducible refine Below.drew ?_ | with_reducible refine below_drewN ?_ _ | with_reducible refine Below.alloc ?_ (by have := hb0.size; first | (simp; done) | (simp; omega) | omega) _ | with_reducible refine Below.setCell ?_ (by first | (simp; done) | (simp; omega) | omega) _)) hc1
      clear hc1 hb0
      rw [H_h8.out]
      go_wp2_with fail
      go_ret
      exact ⟨ret_int H_he.out.symm, (by repeat' (first | with_reducible exact hb1 | with_reducible refine Below.drew ?_ | with_reducible refine below_drewN ?_ _ | with_reducible refine Below.alloc ?_ (by have := hb1.size; first | (simp; done) | (simp; omega) | omega) _ | with_reducible refine Below.setCell ?_ (by first | (simp; done) | (simp; omega) | omega) _))⟩
    · have h3' : ¬ (300 : Int) < (ps.length : Int) := by omega
      have H_h8 := hid h8
      clear h8
      go_enter Try.func36, Try.ntmps36
      have hb0 := Below.refl w.heap.size w
      go_wp2_with fail
      refine (tcheck_any l a la aa lc ac _ (hl.alloc _) (ha.alloc _) hml).mono ?_
      rintro e w1 ⟨rfl, hc1⟩
      have hb1 : Below w.heap.size w w1 := bchain (by repeat' (first | with_reducible exact hb0 | with_reducible refine Below.drew ?_ | with_reducible refine below_drewN ?_ _ | with_reducible refine Below.alloc ?_ (by have := hb0.size; first | (simp; done) | (simp; omega) | omega) _ | with_reducible refine Below.setCell ?_ (by first | (simp; done) | (simp; omega) | omega) _)) hc1
      have P_0 : w1.cell? ⟨w.heap.size, 0, none⟩ = some (.slice la l.length lc) := (hc1.cell (p := ⟨w.heap.size, 0, none⟩) (by first | (simp; done) | (simp; omega))).trans (by first | (simp; done) | go_simp)
      have P_1 : w1.cell? ⟨w.heap.size, 1, none⟩ = some (.slice aa a.length ac) := (hc1.cell (p := ⟨w.heap.size, 1, none⟩) (by first | (simp; done) | (simp; omega))).trans (by first | (simp; done) | go_simp)
      have P_l : w.heap.size < w1.heap.size := Nat.lt_of_lt_of_le (by first | (simp; done) | (simp; omega)) hc1.size
      clear hc1 hb0
      rw [H_h8.out]
      go_wp2_with fail
      go_loopw [18] (fun i wr => ∃ k : Nat, k ≤ ps.length ∧ i = .int .i64 k ∧ Below w.heap.size w wr ∧ (wr.cell? ⟨w.heap.size, 0, none⟩ = some (.slice la l.length lc) ∧ wr.cell? ⟨w.heap.size, 1, none⟩ = some (.slice aa a.length ac)) ∧ Hid (∀ j, j < k → 0 ≤ g ps j ∧ g ps j < l.length)) (fun i _ => ps.length - (intOf i).toNat)
      case atStart => exact ⟨0, Nat.zero_le _, rfl, (by repeat' (first | with_reducible exact hb1 | with_reducible refine Below.drew ?_ | with_reducible refine below_drewN ?_ _ | with_reducible refine Below.alloc ?_ (by have := hb1.size; first | (simp; done) | (simp; omega) | omega) _ | with_reducible refine Below.setCell ?_ (by first | (simp; done) | (simp; omega) | omega) _)), ⟨by go_simp, by go_simp⟩, hid (fun j hj => by omega)⟩
      case round =>
        clear P_0 P_1 P_l
        obtain ⟨k, hk, rfl, hbw, ⟨P_0, P_1⟩, Hall⟩ := hrel
        by_cases hlt : k < ps.length
        · have hlt' : (k : Int) < (ps.length : Int) := by omega
          obtain ⟨b, o, rfl, hr⟩ := hp.intG (by omega)
          obtain ⟨c1, c2, c3⟩ := hr k hlt
          clear hr
          replace c1 := cell_later hbw c1
          by_cases q1 : g ps k < 0
          · skip
            have hbad : pkErr l a ps = 2 := pkErr_bad H_h8.out (by omega) hlt (by omega)
            clear Hall
            have H_hbad := hid hbad
            clear hbad
            go_wp2_with fail
            skip
            go_ret
            exact ⟨ret_int H_hbad.out.symm, (by repeat' (first | with_reducible exact hbw | with_reducible refine Below.drew ?_ | with_reducible refine below_drewN ?_ _ | with_reducible refine Below.alloc ?_ (by have := hbw.size; first | (simp; done) | (simp; omega) | omega) _ | with_reducible refine Below.setCell ?_ (by first | (simp; done) | (simp; omega) | omega) _))⟩
          by_cases q2 : (l.length : Int) ≤ g ps k
          · skip
            have hbad : pkErr l a ps = 2 := pkErr_bad H_h8.out (by omega) hlt (by omega)
            clear Hall
            have H_hbad := hid hbad
            clear hbad
            go_wp2_with fail
            skip
            go_ret
            exact ⟨ret_int H_hbad.out.symm, (by repeat' (first | with_reducible exact hbw | with_reducible refine Below.drew ?_ | with_reducible refine below_drewN ?_ _ | with_reducible refine Below.alloc ?_ (by have := hbw.size; first | (simp; done) | (simp; omega) | omega) _ | with_reducible refine Below.setCell ?_ (by first | (simp; done) | (simp; omega) | omega) _))⟩
          go_wp2_with fail
          skip
          go_roundw
          case rel => exact ⟨k + 1, by omega, by go_num, (by repeat' (first | with_reducible exact hbw | with_reducible refine Below.drew ?_ | with_reducible refine below_drewN ?_ _ | with_reducible refine Below.alloc ?_ (by have := hbw.size; first | (simp; done) | (simp; omega) | omega) _ | with_reducible refine Below.setCell ?_ (by first | (simp; done) | (simp; omega) | omega) _)), ⟨by go_simp, by go_simp⟩, hid (fun j hj => by
            by_cases hjk : j < k
            · exact Hall.out j hjk
            · obtain rfl : j = k := by omega
              omega)⟩
          case measure => simp [intOf]; omega
        · obtain rfl : k = ps.length := by omega
          have he : pkErr l a ps = 0 := pkErr_zero H_h8.out (by omega) Hall.out
          clear Hall
          have H_he := hid he
          clear he
          go_wp2_with fail
          go_ret
          exact ⟨ret_int H_he.out.symm, (by repeat' (first | with_reducible exact hbw | with_reducible refine Below.drew ?_ | with_reducible refine below_drewN ?_ _ | with_reducible refine Below.alloc ?_ (by have := hbw.size; first | (simp; done) | (simp; omega) | omega) _ | with_reducible refine Below.setCell ?_ (by first | (simp; done) | (simp; omega) | omega) _))⟩
  · have he : pkErr l a ps = 8 := by unfold pkErr; rw [if_neg (by omega)]
    have H_he := hid he
    have H_h8 := hid h8
    clear he h8
    go_enter Try.func36, Try.ntmps36
    have hb0 := Below.refl w.heap.size w
    go_wp2_with fail
    refine (tcheck_any l a la aa lc ac _ (hl.alloc _) (ha.alloc _) hml).mono ?_
    rintro e w1 ⟨rfl, hc1⟩
    have hb1 : Below w.heap.size w w1 := bchain (by repeat' (first | with_reducible exact hb0 | with_reducible refine Below.drew ?_ | with_reducible refine below_drewN ?_ _ | with_reducible refine Below.alloc ?_ (by have := hb0.size; first | (simp; done) | (simp; omega) | omega) _ | with_reducible refine Below.setCell ?_ (by first | (simp; done) | (simp; omega) | omega) _)) hc1
    clear hc1 hb0
    rw [H_h8.out]
    go_wp2_with fail
    go_ret
    exact ⟨ret_int H_he.out.symm, (by repeat' (first | with_reducible exact hb1 | with_reducible refine Below.drew ?_ | with_reducible refine below_drewN ?_ _ | with_reducible refine Below.alloc ?_ (by have := hb1.size; first | (simp; done) | (simp; omega) | omega) _ | with_reducible refine Below.setCell ?_ (by first | (simp; done) | (simp; omega) | omega) _))⟩
set_option maxHeartbeats 4000000 in
theorem rpicks_any (l a ps : List Int) (la aa pa : Option Addr) (lc ac pc : Nat) (w : World) (hl : CellsAt w la (l.map (Value.int .i64))) (ha : CellsAt w aa (a.map (Value.int .i64))) (hp : CellsAt w pa (ps.map (Value.int .i64))) (hml : l.length ≤ maxLen) :
    Calls Try.prog 29 #[.agg #[.slice la l.length lc, .slice aa a.length ac], .slice pa ps.length pc] w fun e w' =>
      e = .returned (.int .i64 (pkErr l a ps)) ∧ Below w.heap.size w w' := by
  unfold maxLen at hml
  rcases tErr_cases l a with h8 | h8
  · have hn := (tErr_ok h8).1
    have hn2 := (tErr_ok h8).2.1
    by_cases h3 : 300 < ps.length
    · have h3' : (300 : Int) < (ps.length : Int) := by omega
      have he : pkErr l a ps = 4 := by unfold pkErr; rw [if_pos h8, if_pos h3]
      have H_he := hid he
      have H_h8 := hid h8
      clear he h8
      go_enter Try.func29, Try.ntmps29
      have hb0 := Below.refl w.heap.size w
      go_wp2_with fail
      refine (rtcheck_any l a la aa lc ac _ (hl.alloc _) (ha.alloc _) hml).mono ?_
      rintro e w1 ⟨rfl, hc1⟩
      have hb1 : Below w.heap.size w w1 := bchain (by repeat' (first | with_reducible exact hb0 | with_reducible refine Below.drew ?_ | with_reducible refine below_drewN ?_ _ | with_reducible refine Below.alloc ?_ (by have := hb0.size; first | (simp; done) | (simp; omega) | omega) _ | with_reducible refine Below.setCell ?_ (by first | (simp; done) | (simp; omega) | omega) _)) hc1
      clear hc1 hb0
      rw [H_h8.out]
      go_wp2_with fail
      go_ret
      exact ⟨ret_int H_he.out.symm, (by repeat' (first | with_reducible exact hb1 | with_reducible refine Below.drew ?_ | with_reducible refine below_drewN ?_ _ | with_reducible refine Below.alloc ?_ (by have := hb1.size; first | (simp; done) | (simp; omega) | omega) _ | with_reducible refine Below.setCell ?_ (by first | (simp; done) | (simp; omega) | omega) _))⟩
    · have h3' : ¬ (300 : Int) < (ps.length : Int) := by omega
      have H_h8 := hid h8
      clear h8
      go_enter Try.func29, Try.ntmps29
      have hb0 := Below.refl w.heap.size w
      go_wp2_with fail
      refine (rtcheck_any l a la aa lc ac _ (hl.alloc _) (ha.alloc _) hml).mono ?_
      rintro e w1 ⟨rfl, hc1⟩
      have hb1 : Below w.heap.size w w1 := bchain (by repeat' (first | with_reducible exact hb0 | with_reducible refine Below.drew ?_ | with_reducible refine below_drewN ?_ _ | with_reducible refine Below.alloc ?_ (by have := hb0.size; first | (simp; done) | (simp; omega) | omega) _ | with_reducible refine Below.setCell ?_ (by first | (simp; done) | (simp; omega) | omega) _)) hc1
      have P_0 : w1.cell? ⟨w.heap.size, 0, none⟩ = some (.slice la l.length lc) := (hc1.cell (p := ⟨w.heap.size, 0, none⟩) (by first | (simp; done) | (simp; omega))).trans (by first | (simp; done) | go_simp)
      have P_1 : w1.cell? ⟨w.heap.size, 1, none⟩ = some (.slice aa a.length ac) := (hc1.cell (p := ⟨w.heap.size, 1, none⟩) (by first | (simp; done) | (simp; omega))).trans (by first | (simp; done) | go_simp)
      have P_l : w.heap.size < w1.heap.size := Nat.lt_of_lt_of_le (by first | (simp; done) | (simp; omega)) hc1.size
      clear hc1 hb0
      rw [H_h8.out]
      go_wp2_with fail
      go_loopw [5] (fun i wr => ∃ k : Nat, k ≤ ps.length ∧ i = .int .i64 k ∧ Below w.heap.size w wr ∧ (wr.cell? ⟨w.heap.size, 0, none⟩ = some (.slice la l.length lc) ∧ wr.cell? ⟨w.heap.size, 1, none⟩ = some (.slice aa a.length ac)) ∧ Hid (∀ j, j < k → 0 ≤ g ps j ∧ g ps j < l.length)) (fun i _ => ps.length - (intOf i).toNat)
      case atStart => exact ⟨0, Nat.zero_le _, rfl, (by repeat' (first | with_reducible exact hb1 | with_reducible refine Below.drew ?_ | with_reducible refine below_drewN ?_ _ | with_reducible refine Below.alloc ?_ (by have := hb1.size; first | (simp; done) | (simp; omega) | omega) _ | with_reducible refine Below.setCell ?_ (by first | (simp; done) | (simp; omega) | omega) _)), ⟨by go_simp, by go_simp⟩, hid (fun j hj => by omega)⟩
      case round =>
        clear P_0 P_1 P_l
        obtain ⟨k, hk, rfl, hbw, ⟨P_0, P_1⟩, Hall⟩ := hrel
        by_cases hlt : k < ps.length
        · have hlt' : (k : Int) < (ps.length : Int) := by omega
          obtain ⟨b, o, rfl, hr⟩ := hp.intG (by omega)
          obtain ⟨c1, c2, c3⟩ := hr k hlt
          clear hr
          replace c1 := cell_later hbw c1
          by_cases q1 : g ps k < 0
          · skip
            have hbad : pkErr l a ps = 2 := pkErr_bad H_h8.out (by omega) hlt (by omega)
            clear Hall
            have H_hbad := hid hbad
            clear hbad
            go_wp2_with fail
            go_quiet (fail); go_wp2_with fail
            go_ret
            exact ⟨ret_int H_hbad.out.symm, (by repeat' (first | with_reducible exact hbw | with_reducible refine Below.drew ?_ | with_reducible refine below_drewN ?_ _ | with_reducible refine Below.alloc ?_ (by have := hbw.size; first | (simp; done) | (simp; omega) | omega) _ | with_reducible refine Below.setCell ?_ (by first | (simp; done) | (simp; omega) | omega) _))⟩
          by_cases q2 : (l.length : Int) ≤ g ps k
          · skip
            have hbad : pkErr l a ps = 2 := pkErr_bad H_h8.out (by omega) hlt (by omega)
            clear Hall
            have H_hbad := hid hbad
            clear hbad
            go_wp2_with fail
            go_quiet (fail); go_wp2_with fail
            go_ret
            exact ⟨ret_int H_hbad.out.symm, (by repeat' (first | with_reducible exact hbw | with_reducible refine Below.drew ?_ | with_reducible refine below_drewN ?_ _ | with_reducible refine Below.alloc ?_ (by have := hbw.size; first | (simp; done) | (simp; omega) | omega) _ | with_reducible refine Below.setCell ?_ (by first | (simp; done) | (simp; omega) | omega) _))⟩
          go_wp2_with fail
          go_quiet (fail); go_wp2_with fail
          go_roundw
          case rel => exact ⟨k + 1, by omega, by go_num, (by repeat' (first | with_reducible exact hbw | with_reducible refine Below.drew ?_ | with_reducible refine below_drewN ?_ _ | with_reducible refine Below.alloc ?_ (by have := hbw.size; first | (simp; done) | (simp; omega) | omega) _ | with_reducible refine Below.setCell ?_ (by first | (simp; done) | (simp; omega) | omega) _)), ⟨by go_simp, by go_simp⟩, hid (fun j hj => by
            by_cases hjk : j < k
            · exact Hall.out j hjk
            · obtain rfl : j = k := by omega
              omega)⟩
          case measure => simp [intOf]; omega
        · obtain rfl : k = ps.length := by omega
          have he : pkErr l a ps = 0 := pkErr_zero H_h8.out (by omega) Hall.out
          clear Hall
          have H_he := hid he
          clear he
          go_wp2_with fail
          go_ret
          exact ⟨ret_int H_he.out.symm, (by repeat' (first | with_reducible exact hbw | with_reducible refine Below.drew ?_ | with_reducible refine below_drewN ?_ _ | with_reducible refine Below.alloc ?_ (by have := hbw.size; first | (simp; done) | (simp; omega) | omega) _ | with_reducible refine Below.setCell ?_ (by first | (simp; done) | (simp; omega) | omega) _))⟩
  · have he : pkErr l a ps = 8 := by unfold pkErr; rw [if_neg (by omega)]
    have H_he := hid he
    have H_h8 := hid h8
    clear he h8
    go_enter Try.func29, Try.ntmps29
    have hb0 := Below.refl w.heap.size w
    go_wp2_with fail
    refine (rtcheck_any l a la aa lc ac _ (hl.alloc _) (ha.alloc _) hml).mono ?_
    rintro e w1 ⟨rfl, hc1⟩
    have hb1 : Below w.heap.size w w1 := bchain (by repeat' (first | with_reducible exact hb0 | with_reducible refine Below.drew ?_ | with_reducible refine below_drewN ?_ _ | with_reducible refine Below.alloc ?_ (by have := hb0.size; first | (simp; done) | (simp; omega) | omega) _ | with_reducible refine Below.setCell ?_ (by first | (simp; done) | (simp; omega) | omega) _)) hc1
    have P_0 : w1.cell? ⟨w.heap.size, 0, none⟩ = some (.slice la l.length lc) := (hc1.cell (p := ⟨w.heap.size, 0, none⟩) (by first | (simp; done) | (simp; omega))).trans (by first | (simp; done) | go_simp)
    have P_1 : w1.cell? ⟨w.heap.size, 1, none⟩ = some (.slice aa a.length ac) := (hc1.cell (p := ⟨w.heap.size, 1, none⟩) (by first | (simp; done) | (simp; omega))).trans (by first | (simp; done) | go_simp)
    have P_l : w.heap.size < w1.heap.size := Nat.lt_of_lt_of_le (by first | (simp; done) | (simp; omega)) hc1.size
    clear hc1 hb0
    rw [H_h8.out]
    have hl1 := hl.later hb1
    have ha1 := ha.later hb1
    go_wp2_with fail
    refine (rtcheck_any l a la aa lc ac _ hl1 ha1 hml).mono ?_
    rintro e w2 ⟨rfl, hc2⟩
    have hb2 : Below w.heap.size w w2 := bchain (by repeat' (first | with_reducible exact hb1 | with_reducible refine Below.drew ?_ | with_reducible refine below_drewN ?_ _ | with_reducible refine Below.alloc ?_ (by have := hb1.size; first | (simp; done) | (simp; omega) | omega) _ | with_reducible refine Below.setCell ?_ (by first | (simp; done) | (simp; omega) | omega) _)) hc2
    have hst2 : Below w1.heap.size w1 w2 := bchain (by repeat' (first | with_reducible exact Below.refl _ _ | with_reducible refine Below.drew ?_ | with_reducible refine below_drewN ?_ _ | with_reducible refine Below.alloc ?_ (by first | (simp; done) | (simp; omega) | omega) _ | with_reducible refine Below.setCell ?_ (by first | (simp; done) | (simp; omega) | omega) _)) hc2
    replace P_0 := cell_later hst2 P_0
    replace P_1 := cell_later hst2 P_1
    replace P_l := Nat.lt_of_lt_of_le P_l hst2.size
    clear hst2
    clear hc2 hb1
    rw [H_h8.out]
    clear P_0 P_1 P_l
    go_wp2_with fail
    go_ret
    exact ⟨ret_int H_he.out.symm, (by repeat' (first | with_reducible exact hb2 | with_reducible refine Below.drew ?_ | with_reducible refine below_drewN ?_ _ | with_reducible refine Below.alloc ?_ (by have := hb2.size; first | (simp; done) | (simp; omega) | omega) _ | with_reducible refine Below.setCell ?_ (by first | (simp; done) | (simp; omega) | omega) _))⟩

end Go.Proofs.Ytoelndaeemlefaa
