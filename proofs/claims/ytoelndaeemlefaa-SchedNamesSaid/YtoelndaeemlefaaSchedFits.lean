/- What fit and sum return; a run on a part of the picks. -/
import Derived.Test.YtoelndaeemlefaaSchedAlive
import Derived.Test.YtoelndaeemlefaaSchedTheory
namespace Go.Proofs.Ytoelndaeemlefaa
set_option linter.unusedSimpArgs false
set_option linter.unusedVariables false
set_option linter.unnecessarySimpa false
open Go.RowKit

set_option maxHeartbeats 1000000 in
theorem fit_any (l a : List Int) (la aa : Option Addr) (lc ac : Nat) (w : World) (hl : CellsAt w la (l.map (Value.int .i64))) (ha : CellsAt w aa (a.map (Value.int .i64))) (hml : l.length ≤ maxLen) :
    Calls Try.prog 28 #[.agg #[.slice la l.length lc, .slice aa a.length ac]] w fun e w' =>
      e = .returned (.bool (decide (tErr l a = 0))) ∧ Below w.heap.size w w' := by
  by_cases h1 : 100 < l.length ∨ 100 < a.length
  · have hg : decide (100 < l.length ∨ 100 < a.length) = true := by simpa using h1
    have he : decide (tErr l a = 0) = false := by
      rw [decide_eq_false_iff_not]
      intro h
      have := tErr_ok h
      omega
    have H_hg := hid hg
    have H_he := hid he
    clear hg he
    clear h1
    go_enter Try.func28, Try.ntmps28
    have hb0 := Below.refl w.heap.size w
    go_wp2_with fail
    refine (great_any l a la aa lc ac _).mono ?_
    rintro e w1 ⟨rfl, hc1⟩
    have hb1 : Below w.heap.size w w1 := bchain (by repeat' (first | with_reducible exact hb0 | with_reducible refine Below.drew ?_ | with_reducible refine below_drewN ?_ _ | with_reducible refine Below.alloc ?_ (by have := hb0.size; first | (simp; done) | (simp; omega) | omega) _ | with_reducible refine Below.setCell ?_ (by first | (simp; done) | (simp; omega) | omega) _)) hc1
    have P_0 : w1.cell? ⟨w.heap.size, 0, none⟩ = some (.slice la l.length lc) := (hc1.cell (p := ⟨w.heap.size, 0, none⟩) (by first | (simp; done) | (simp; omega))).trans (by first | (simp; done) | go_simp)
    have P_1 : w1.cell? ⟨w.heap.size, 1, none⟩ = some (.slice aa a.length ac) := (hc1.cell (p := ⟨w.heap.size, 1, none⟩) (by first | (simp; done) | (simp; omega))).trans (by first | (simp; done) | go_simp)
    have P_l : w.heap.size < w1.heap.size := Nat.lt_of_lt_of_le (by first | (simp; done) | (simp; omega)) hc1.size
    clear hc1 hb0
    rw [H_hg.out]
    go_wp2_with fail
    go_ret
    exact ⟨ret_bool H_he.out.symm, (by repeat' (first | with_reducible exact hb1 | with_reducible refine Below.drew ?_ | with_reducible refine below_drewN ?_ _ | with_reducible refine Below.alloc ?_ (by have := hb1.size; first | (simp; done) | (simp; omega) | omega) _ | with_reducible refine Below.setCell ?_ (by first | (simp; done) | (simp; omega) | omega) _))⟩
  · have hg : decide (100 < l.length ∨ 100 < a.length) = false := by simpa using h1
    clear h1
    rcases tErr_cases l a with h8 | h8
    · have he : decide (tErr l a = 0) = true := by simp [h8]
      have H_hg := hid hg
      have H_he := hid he
      have H_h8 := hid h8
      clear hg he h8
      go_enter Try.func28, Try.ntmps28
      have hb0 := Below.refl w.heap.size w
      go_wp2_with fail
      refine (great_any l a la aa lc ac _).mono ?_
      rintro e w1 ⟨rfl, hc1⟩
      have hb1 : Below w.heap.size w w1 := bchain (by repeat' (first | with_reducible exact hb0 | with_reducible refine Below.drew ?_ | with_reducible refine below_drewN ?_ _ | with_reducible refine Below.alloc ?_ (by have := hb0.size; first | (simp; done) | (simp; omega) | omega) _ | with_reducible refine Below.setCell ?_ (by first | (simp; done) | (simp; omega) | omega) _)) hc1
      have P_0 : w1.cell? ⟨w.heap.size, 0, none⟩ = some (.slice la l.length lc) := (hc1.cell (p := ⟨w.heap.size, 0, none⟩) (by first | (simp; done) | (simp; omega))).trans (by first | (simp; done) | go_simp)
      have P_1 : w1.cell? ⟨w.heap.size, 1, none⟩ = some (.slice aa a.length ac) := (hc1.cell (p := ⟨w.heap.size, 1, none⟩) (by first | (simp; done) | (simp; omega))).trans (by first | (simp; done) | go_simp)
      have P_l : w.heap.size < w1.heap.size := Nat.lt_of_lt_of_le (by first | (simp; done) | (simp; omega)) hc1.size
      clear hc1 hb0
      rw [H_hg.out]
      go_wp2_with fail
      refine (rtcheck_any l a la aa lc ac _ (hl.later hb1) (ha.later hb1) hml).mono ?_
      rintro e w2 ⟨rfl, hc2⟩
      have hb2 : Below w.heap.size w w2 := bchain (by repeat' (first | with_reducible exact hb1 | with_reducible refine Below.drew ?_ | with_reducible refine below_drewN ?_ _ | with_reducible refine Below.alloc ?_ (by have := hb1.size; first | (simp; done) | (simp; omega) | omega) _ | with_reducible refine Below.setCell ?_ (by first | (simp; done) | (simp; omega) | omega) _)) hc2
      have hst2 : Below w1.heap.size w1 w2 := bchain (by repeat' (first | with_reducible exact Below.refl _ _ | with_reducible refine Below.drew ?_ | with_reducible refine below_drewN ?_ _ | with_reducible refine Below.alloc ?_ (by first | (simp; done) | (simp; omega) | omega) _ | with_reducible refine Below.setCell ?_ (by first | (simp; done) | (simp; omega) | omega) _)) hc2
      replace P_0 := cell_later hst2 P_0
      replace P_1 := cell_later hst2 P_1
      replace P_l := Nat.lt_of_lt_of_le P_l hst2.size
      clear hst2
      clear hc2 hb1
      rw [H_h8.out]
      go_wp2_with fail
      go_ret
      exact ⟨ret_bool H_he.out.symm, (by repeat' (first | with_reducible exact hb2 | with_reducible refine Below.drew ?_ | with_reducible refine below_drewN ?_ _ | with_reducible refine Below.alloc ?_ (by have := hb2.size; first | (simp; done) | (simp; omega) | omega) _ | with_reducible refine Below.setCell ?_ (by first | (simp; done) | (simp; omega) | omega) _))⟩
    · have he : decide (tErr l a = 0) = false := by simp [h8]
      have H_hg := hid hg
      have H_he := hid he
      have H_h8 := hid h8
      clear hg he h8
      go_enter Try.func28, Try.ntmps28
      have hb0 := Below.refl w.heap.size w
      go_wp2_with fail
      refine (great_any l a la aa lc ac _).mono ?_
      rintro e w1 ⟨rfl, hc1⟩
      have hb1 : Below w.heap.size w w1 := bchain (by repeat' (first | with_reducible exact hb0 | with_reducible refine Below.drew ?_ | with_reducible refine below_drewN ?_ _ | with_reducible refine Below.alloc ?_ (by have := hb0.size; first | (simp; done) | (simp; omega) | omega) _ | with_reducible refine Below.setCell ?_ (by first | (simp; done) | (simp; omega) | omega) _)) hc1
      have P_0 : w1.cell? ⟨w.heap.size, 0, none⟩ = some (.slice la l.length lc) := (hc1.cell (p := ⟨w.heap.size, 0, none⟩) (by first | (simp; done) | (simp; omega))).trans (by first | (simp; done) | go_simp)
      have P_1 : w1.cell? ⟨w.heap.size, 1, none⟩ = some (.slice aa a.length ac) := (hc1.cell (p := ⟨w.heap.size, 1, none⟩) (by first | (simp; done) | (simp; omega))).trans (by first | (simp; done) | go_simp)
      have P_l : w.heap.size < w1.heap.size := Nat.lt_of_lt_of_le (by first | (simp; done) | (simp; omega)) hc1.size
      clear hc1 hb0
      rw [H_hg.out]
      go_wp2_with fail
      refine (rtcheck_any l a la aa lc ac _ (hl.later hb1) (ha.later hb1) hml).mono ?_
      rintro e w2 ⟨rfl, hc2⟩
      have hb2 : Below w.heap.size w w2 := bchain (by repeat' (first | with_reducible exact hb1 | with_reducible refine Below.drew ?_ | with_reducible refine below_drewN ?_ _ | with_reducible refine Below.alloc ?_ (by have := hb1.size; first | (simp; done) | (simp; omega) | omega) _ | with_reducible refine Below.setCell ?_ (by first | (simp; done) | (simp; omega) | omega) _)) hc2
      have hst2 : Below w1.heap.size w1 w2 := bchain (by repeat' (first | with_reducible exact Below.refl _ _ | with_reducible refine Below.drew ?_ | with_reducible refine below_drewN ?_ _ | with_reducible refine Below.alloc ?_ (by first | (simp; done) | (simp; omega) | omega) _ | with_reducible refine Below.setCell ?_ (by first | (simp; done) | (simp; omega) | omega) _)) hc2
      replace P_0 := cell_later hst2 P_0
      replace P_1 := cell_later hst2 P_1
      replace P_l := Nat.lt_of_lt_of_le P_l hst2.size
      clear hst2
      clear hc2 hb1
      rw [H_h8.out]
      go_wp2_with fail
      go_ret
      exact ⟨ret_bool H_he.out.symm, (by repeat' (first | with_reducible exact hb2 | with_reducible refine Below.drew ?_ | with_reducible refine below_drewN ?_ _ | with_reducible refine Below.alloc ?_ (by have := hb2.size; first | (simp; done) | (simp; omega) | omega) _ | with_reducible refine Below.setCell ?_ (by first | (simp; done) | (simp; omega) | omega) _))⟩

set_option maxHeartbeats 1000000 in
theorem sum_same (n : Nat) (xs : List Int) (v : Int) (a : Option Addr) (c : Nat) (w : World) (hn : n = xs.length) (hv : sumTo xs xs.length = v) (hx : CellsAt w a (xs.map (Value.int .i64))) (hxl : xs.length ≤ 12) (hb : ∀ j, j < xs.length → 0 ≤ g xs j ∧ g xs j ≤ 60) :
    Calls Try.prog 31 #[.slice a n c] w fun e w' =>
      e = .returned (.int .i64 v) ∧ w' = w := by
  subst hn hv
  go_enter Try.func31, Try.ntmps31
  have hb0 := Below.refl w.heap.size w
  go_wp2_with fail
  go_loopw [3, 4] (fun s i wr => ∃ k : Nat, k ≤ xs.length ∧ s = .int .i64 (sumTo xs k) ∧ i = .int .i64 k ∧ wr = w) (fun _ i _ => xs.length - (intOf i).toNat)
  case atStart => exact ⟨0, Nat.zero_le _, rfl, rfl, rfl⟩
  case round =>
    obtain ⟨k, hk, rfl, rfl, rfl⟩ := hrel
    by_cases hlt : k < xs.length
    · have hlt' : (k : Int) < (xs.length : Int) := by omega
      obtain ⟨b, o, rfl, hr⟩ := hx.intG (by omega)
      obtain ⟨c1, c2, c3⟩ := hr k hlt
      clear hr
      have s1 := sumTo_nonneg (fun i hi => (hb i hi).1) k (by omega)
      have s2 := sumTo_le (fun i hi => (hb i hi).2) k (by omega)
      have s3 := (hb k hlt).1
      have s4 := (hb k hlt).2
      clear hb
      go_wp2_with fail
      go_roundw
      case rel => exact ⟨k + 1, by omega, by simp [sumTo], by go_num, by first | trivial | rfl⟩
      case measure => simp [intOf]; omega
    · obtain rfl : k = xs.length := by omega
      go_wp2_with fail
      go_ret
      exact ⟨rfl, by first | trivial | rfl⟩

theorem wp_gen {P : Program} {c : Code} {Q : Exit → Act → World → Prop} {a : Act} {w : World} (h : ∀ w', Below w.heap.size w w' → Code.wp P c Q a w') : Code.wp P c Q a w := h w (Below.refl _ _)
/-- A run, whose result is known. -/
theorem run_f (l a ps xs ys ds : List Int) (er : Int) (n m o p q r : Nat) (la aa pa : Option Addr) (lc ac pc : Nat) (w : World) (hn : n = l.length) (hm : m = a.length) (ho : o = ps.length) (hp : p = xs.length) (hq : q = ys.length) (hr0 : r = ds.length) (hr : tkRun l a ps = ((xs, ys), ds, er)) (hml : l.length ≤ maxLen) (hl : CellsAt w la (l.map (Value.int .i64))) (ha : CellsAt w aa (a.map (Value.int .i64))) (hpc : CellsAt w pa (ps.map (Value.int .i64))) :
    Calls Try.prog 19 #[.agg #[.slice la n lc, .slice aa m ac], .slice pa o pc] w fun e w' =>
      (∃ b1 c1 b2 c2 b3 c3, e = .returned (.tuple #[.agg #[.slice b1 p c1, .slice b2 q c2], .slice b3 r c3, .int .i64 er]) ∧ CellsAt w' b1 (xs.map (Value.int .i64)) ∧ CellsAt w' b2 (ys.map (Value.int .i64)) ∧ CellsAt w' b3 (ds.map (Value.int .i64)) ∧ (∀ ad, b1 = some ad → w.heap.size ≤ ad.block) ∧ (∀ ad, b2 = some ad → w.heap.size ≤ ad.block) ∧ (∀ ad, b3 = some ad → w.heap.size ≤ ad.block)) ∧ Below w.heap.size w w' := by
  subst hn hm ho hp hq hr0
  refine (run_any l a ps la aa pa lc ac pc w hl ha hpc hml).mono fun e w' ⟨⟨b1, c1, b2, c2, b3, c3, h1, h2, h3, h4, h6⟩, h5⟩ => ?_
  rw [hr] at h1 h2 h3 h4
  exact ⟨⟨b1, c1, b2, c2, b3, c3, h1, h2, h3, h4, h6⟩, h5⟩

end Go.Proofs.Ytoelndaeemlefaa
