/- The reference's Pick and Same. -/
import Derived.Test.YtoelndaeemlefaaSchedPick
namespace Go.Proofs.Ytoelndaeemlefaa
set_option linter.unusedSimpArgs false
set_option linter.unusedVariables false
set_option linter.unnecessarySimpa false
open Go.RowKit

def sameT (l a l2 a2 : List Int) : Bool := decide (l = l2) && decide (a = a2)
theorem sameT_self (l a : List Int) : sameT l a l a = true := by simp [sameT]
set_option maxHeartbeats 1000000 in
theorem same_any (l a l2 a2 : List Int) (la aa la2 aa2 : Option Addr) (lc ac lc2 ac2 : Nat) (w : World) (hl : CellsAt w la (l.map (Value.int .i64))) (ha : CellsAt w aa (a.map (Value.int .i64))) (hl2 : CellsAt w la2 (l2.map (Value.int .i64))) (ha2 : CellsAt w aa2 (a2.map (Value.int .i64))) (hml : l.length ≤ maxLen) (hma : a.length ≤ maxLen) :
    Calls Try.prog 17 #[.agg #[.slice la l.length lc, .slice aa a.length ac], .agg #[.slice la2 l2.length lc2, .slice aa2 a2.length ac2]] w fun e w' =>
      e = .returned (.bool (sameT l a l2 a2)) ∧ Below w.heap.size w w' := by
  by_cases h1 : l = l2
  · have he : sameT l a l2 a2 = decide (a = a2) := by simp [sameT, h1]
    have hd : decide (l = l2) = true := by simpa using h1
    have H_he := hid he
    have H_hd := hid hd
    clear he hd
    clear h1
    go_enter Try.func17, Try.ntmps17
    have hb0 := Below.refl w.heap.size w
    go_wp2_with fail
    refine (sameInts_any l l2 la la2 lc lc2 _ ((hl.alloc _).alloc _) ((hl2.alloc _).alloc _) hml).mono ?_
    rintro e w1 ⟨rfl, hc1⟩
    have hb1 : Below w.heap.size w w1 := bchain (by repeat' (first | with_reducible exact hb0 | with_reducible refine Below.drew ?_ | with_reducible refine below_drewN ?_ _ | with_reducible refine Below.alloc ?_ (by have := hb0.size; first | (simp; done) | (simp; omega) | omega) _ | with_reducible refine Below.setCell ?_ (by first | (simp; done) | (simp; omega) | omega) _)) hc1
    have P_0 : w1.cell? ⟨w.heap.size, 0, none⟩ = some (.slice la l.length lc) := (hc1.cell (p := ⟨w.heap.size, 0, none⟩) (by first | (simp; done) | (simp; omega))).trans (by first | (simp; done) | go_simp)
    have P_1 : w1.cell? ⟨w.heap.size, 1, none⟩ = some (.slice aa a.length ac) := (hc1.cell (p := ⟨w.heap.size, 1, none⟩) (by first | (simp; done) | (simp; omega))).trans (by first | (simp; done) | go_simp)
    have P_l : w.heap.size < w1.heap.size := Nat.lt_of_lt_of_le (by first | (simp; done) | (simp; omega)) hc1.size
    have Q_0 : w1.cell? ⟨(w.heap.size + 1), 0, none⟩ = some (.slice la2 l2.length lc2) := (hc1.cell (p := ⟨(w.heap.size + 1), 0, none⟩) (by first | (simp; done) | (simp; omega))).trans (by first | (simp; done) | go_simp)
    have Q_1 : w1.cell? ⟨(w.heap.size + 1), 1, none⟩ = some (.slice aa2 a2.length ac2) := (hc1.cell (p := ⟨(w.heap.size + 1), 1, none⟩) (by first | (simp; done) | (simp; omega))).trans (by first | (simp; done) | go_simp)
    have Q_l : (w.heap.size + 1) < w1.heap.size := Nat.lt_of_lt_of_le (by first | (simp; done) | (simp; omega)) hc1.size
    clear hc1 hb0
    rw [H_hd.out]
    go_wp2_with fail
    refine (sameInts_any a a2 aa aa2 ac ac2 _ (ha.later hb1) (ha2.later hb1) hma).mono ?_
    rintro e w2 ⟨rfl, hc2⟩
    have hb2 : Below w.heap.size w w2 := bchain (by repeat' (first | with_reducible exact hb1 | with_reducible refine Below.drew ?_ | with_reducible refine below_drewN ?_ _ | with_reducible refine Below.alloc ?_ (by have := hb1.size; first | (simp; done) | (simp; omega) | omega) _ | with_reducible refine Below.setCell ?_ (by first | (simp; done) | (simp; omega) | omega) _)) hc2
    have hst2 : Below w1.heap.size w1 w2 := bchain (by repeat' (first | with_reducible exact Below.refl _ _ | with_reducible refine Below.drew ?_ | with_reducible refine below_drewN ?_ _ | with_reducible refine Below.alloc ?_ (by first | (simp; done) | (simp; omega) | omega) _ | with_reducible refine Below.setCell ?_ (by first | (simp; done) | (simp; omega) | omega) _)) hc2
    replace P_0 := cell_later hst2 P_0
    replace P_1 := cell_later hst2 P_1
    replace P_l := Nat.lt_of_lt_of_le P_l hst2.size
    replace Q_0 := cell_later hst2 Q_0
    replace Q_1 := cell_later hst2 Q_1
    replace Q_l := Nat.lt_of_lt_of_le Q_l hst2.size
    clear hst2
    clear hc2 hb1
    rw [← H_he.out]
    go_wp2_with fail
    go_ret
    exact ⟨rfl, (by repeat' (first | with_reducible exact hb2 | with_reducible refine Below.drew ?_ | with_reducible refine below_drewN ?_ _ | with_reducible refine Below.alloc ?_ (by have := hb2.size; first | (simp; done) | (simp; omega) | omega) _ | with_reducible refine Below.setCell ?_ (by first | (simp; done) | (simp; omega) | omega) _))⟩
  · have he : sameT l a l2 a2 = false := by simp [sameT, h1]
    have hd : decide (l = l2) = false := by simpa using h1
    have H_he := hid he
    have H_hd := hid hd
    clear he hd
    clear h1
    go_enter Try.func17, Try.ntmps17
    have hb0 := Below.refl w.heap.size w
    go_wp2_with fail
    refine (sameInts_any l l2 la la2 lc lc2 _ ((hl.alloc _).alloc _) ((hl2.alloc _).alloc _) hml).mono ?_
    rintro e w1 ⟨rfl, hc1⟩
    have hb1 : Below w.heap.size w w1 := bchain (by repeat' (first | with_reducible exact hb0 | with_reducible refine Below.drew ?_ | with_reducible refine below_drewN ?_ _ | with_reducible refine Below.alloc ?_ (by have := hb0.size; first | (simp; done) | (simp; omega) | omega) _ | with_reducible refine Below.setCell ?_ (by first | (simp; done) | (simp; omega) | omega) _)) hc1
    have P_0 : w1.cell? ⟨w.heap.size, 0, none⟩ = some (.slice la l.length lc) := (hc1.cell (p := ⟨w.heap.size, 0, none⟩) (by first | (simp; done) | (simp; omega))).trans (by first | (simp; done) | go_simp)
    have P_1 : w1.cell? ⟨w.heap.size, 1, none⟩ = some (.slice aa a.length ac) := (hc1.cell (p := ⟨w.heap.size, 1, none⟩) (by first | (simp; done) | (simp; omega))).trans (by first | (simp; done) | go_simp)
    have P_l : w.heap.size < w1.heap.size := Nat.lt_of_lt_of_le (by first | (simp; done) | (simp; omega)) hc1.size
    have Q_0 : w1.cell? ⟨(w.heap.size + 1), 0, none⟩ = some (.slice la2 l2.length lc2) := (hc1.cell (p := ⟨(w.heap.size + 1), 0, none⟩) (by first | (simp; done) | (simp; omega))).trans (by first | (simp; done) | go_simp)
    have Q_1 : w1.cell? ⟨(w.heap.size + 1), 1, none⟩ = some (.slice aa2 a2.length ac2) := (hc1.cell (p := ⟨(w.heap.size + 1), 1, none⟩) (by first | (simp; done) | (simp; omega))).trans (by first | (simp; done) | go_simp)
    have Q_l : (w.heap.size + 1) < w1.heap.size := Nat.lt_of_lt_of_le (by first | (simp; done) | (simp; omega)) hc1.size
    clear hc1 hb0
    rw [H_hd.out]
    go_wp2_with fail
    go_ret
    exact ⟨ret_bool H_he.out.symm, (by repeat' (first | with_reducible exact hb1 | with_reducible refine Below.drew ?_ | with_reducible refine below_drewN ?_ _ | with_reducible refine Below.alloc ?_ (by have := hb1.size; first | (simp; done) | (simp; omega) | omega) _ | with_reducible refine Below.setCell ?_ (by first | (simp; done) | (simp; omega) | omega) _))⟩

set_option maxHeartbeats 4000000 in
theorem rpick_any (l a : List Int) (i : Int) (la aa : Option Addr) (lc ac : Nat) (w : World) (hl : CellsAt w la (l.map (Value.int .i64))) (ha : CellsAt w aa (a.map (Value.int .i64))) (hml : l.length ≤ maxLen) :
    Calls Try.prog 16 #[.agg #[.slice la l.length lc, .slice aa a.length ac], .int .i64 i] w fun e w' =>
      TkPick w' e (tkRun l a [i]) ∧ Below w.heap.size w w' := by
  have hml2 : l.length ≤ 9223372036854775807 := by unfold maxLen at hml; omega
  rcases tErr_cases l a with h8 | h8
  · by_cases hin : 0 ≤ i ∧ i < l.length
    · have hk : pkErr l a [i] = 0 := pkErr_zero h8 (by simp) (fun j hj => by simp at hj; subst hj; simpa [g] using hin)
      obtain ⟨n1, n2⟩ := hin
      have n1' : ¬ i < 0 := by omega
      have n2' : ¬ (l.length : Int) ≤ i := by omega
      have he0 : (tkRun l a [i]).2.2 = 0 := by simp [tkRun, hk]
      have H_h8 := hid h8
      have H_hk := hid hk
      have H_he0 := hid he0
      clear h8 hk he0
      go_enter Try.func16, Try.ntmps16
      have hb0 := Below.refl w.heap.size w
      go_wp2_with fail
      refine (rtcheck_any l a la aa lc ac _ ((hl.alloc _).alloc _) ((ha.alloc _).alloc _) hml).mono ?_
      rintro e w1 ⟨rfl, hc1⟩
      have hb1 : Below w.heap.size w w1 := bchain (by repeat' (first | with_reducible exact hb0 | with_reducible refine Below.drew ?_ | with_reducible refine below_drewN ?_ _ | with_reducible refine Below.alloc ?_ (by have := hb0.size; first | (simp; done) | (simp; omega) | omega) _ | with_reducible refine Below.setCell ?_ (by first | (simp; done) | (simp; omega) | omega) _)) hc1
      have P_0 : w1.cell? ⟨w.heap.size, 0, none⟩ = some (.slice la l.length lc) := (hc1.cell (p := ⟨w.heap.size, 0, none⟩) (by first | (simp; done) | (simp; omega))).trans (by first | (simp; done) | go_simp)
      have P_1 : w1.cell? ⟨w.heap.size, 1, none⟩ = some (.slice aa a.length ac) := (hc1.cell (p := ⟨w.heap.size, 1, none⟩) (by first | (simp; done) | (simp; omega))).trans (by first | (simp; done) | go_simp)
      have P_l : w.heap.size < w1.heap.size := Nat.lt_of_lt_of_le (by first | (simp; done) | (simp; omega)) hc1.size
      have O_0 : w1.cell? ⟨(w.heap.size + 1), 0, none⟩ = some (.slice none 0 0) := (hc1.cell (p := ⟨(w.heap.size + 1), 0, none⟩) (by first | (simp; done) | (simp; omega))).trans (by first | (simp; done) | go_simp)
      have O_1 : w1.cell? ⟨(w.heap.size + 1), 1, none⟩ = some (.slice none 0 0) := (hc1.cell (p := ⟨(w.heap.size + 1), 1, none⟩) (by first | (simp; done) | (simp; omega))).trans (by first | (simp; done) | go_simp)
      have O_f0 : w1.frozen? ⟨(w.heap.size + 1), 0, none⟩ = false := (hc1.frozen (p := ⟨(w.heap.size + 1), 0, none⟩) (by first | (simp; done) | (simp; omega))).trans (by first | (simp; done) | go_simp)
      have O_f1 : w1.frozen? ⟨(w.heap.size + 1), 1, none⟩ = false := (hc1.frozen (p := ⟨(w.heap.size + 1), 1, none⟩) (by first | (simp; done) | (simp; omega))).trans (by first | (simp; done) | go_simp)
      have O_l : (w.heap.size + 1) < w1.heap.size := Nat.lt_of_lt_of_le (by first | (simp; done) | (simp; omega)) hc1.size
      clear hc1 hb0
      rw [H_h8.out]
      have hz1 := O_l
      go_wp2_with fail
      refine (rrun_any l a [i] la aa _ lc ac 1 _ ((hl.later hb1).alloc _) ((ha.later hb1).alloc _) (by simpa using cellsAt_one w1 (.int .i64 i) 3) hml).mono ?_
      rintro e w2 ⟨⟨l1, lc1, a1, ac1, d1, dc1, rfl, k1, k2, k3, f1, f2, _⟩, hc2⟩
      have hb2 : Below w.heap.size w w2 := bchain (by repeat' (first | with_reducible exact hb1 | with_reducible refine Below.drew ?_ | with_reducible refine below_drewN ?_ _ | with_reducible refine Below.alloc ?_ (by have := hb1.size; first | (simp; done) | (simp; omega) | omega) _ | with_reducible refine Below.setCell ?_ (by first | (simp; done) | (simp; omega) | omega) _)) hc2
      have hst2 : Below w1.heap.size w1 w2 := bchain (by repeat' (first | with_reducible exact Below.refl _ _ | with_reducible refine Below.drew ?_ | with_reducible refine below_drewN ?_ _ | with_reducible refine Below.alloc ?_ (by first | (simp; done) | (simp; omega) | omega) _ | with_reducible refine Below.setCell ?_ (by first | (simp; done) | (simp; omega) | omega) _)) hc2
      replace P_0 := cell_later hst2 P_0
      replace P_1 := cell_later hst2 P_1
      replace P_l := Nat.lt_of_lt_of_le P_l hst2.size
      replace O_0 := cell_later hst2 O_0
      replace O_1 := cell_later hst2 O_1
      replace O_f0 := frozen_later hst2 O_l O_f0
      replace O_f1 := frozen_later hst2 O_l O_f1
      replace O_l := Nat.lt_of_lt_of_le O_l hst2.size
      clear hst2
      clear hc2 hb1
      simp only [World.size_alloc] at f1 f2
      rw [H_he0.out]
      go_wp2_with fail
      have p1 : ∀ ad, l1 = some ad → ad.block ≠ w.heap.size + 1 := fun ad e => by have := f1 ad e; omega
      have p2 : ∀ ad, a1 = some ad → ad.block ≠ w.heap.size + 1 := fun ad e => by have := f2 ad e; omega
      refine bodyPost_ret (v := .tuple #[.agg #[.slice l1 (tkRun l a [i]).1.1.length lc1, .slice a1 (tkRun l a [i]).1.2.length ac1], .bool (decide (0 < (tkRun l a [i]).2.1.length)), .int .i64 0]) (by simp [results, Try.results16, go_sem, *]) rfl ⟨⟨_, _, _, _, by rw [H_he0.out], (by repeat' (first | with_reducible exact k1 | with_reducible refine CellsAt.setFarG ?_ ?_ _ | with_reducible refine CellsAt.alloc ?_ _ | with_reducible refine CellsAt.drew ?_ | with_reducible refine CellsAt.drewN ?_ _ | exact p1)), (by repeat' (first | with_reducible exact k2 | with_reducible refine CellsAt.setFarG ?_ ?_ _ | with_reducible refine CellsAt.alloc ?_ _ | with_reducible refine CellsAt.drew ?_ | with_reducible refine CellsAt.drewN ?_ _ | exact p2))⟩, (by repeat' (first | with_reducible exact hb2 | with_reducible refine Below.drew ?_ | with_reducible refine below_drewN ?_ _ | with_reducible refine Below.alloc ?_ (by have := hb2.size; first | (simp; done) | (simp; omega) | omega) _ | with_reducible refine Below.setCell ?_ (by first | (simp; done) | (simp; omega) | omega) _))⟩
    · have hk : pkErr l a [i] = 2 := pkErr_bad h8 (by simp) (j := 0) (by simp) (by simp [g]; omega)
      have he : ((([], []), [], 2) : (List Int × List Int) × List Int × Int) = tkRun l a [i] := by simp [tkRun, hk]
      have H_h8 := hid h8
      have H_he := hid he
      have H_hk := hid hk
      clear h8 he hk
      by_cases n1 : i < 0
      · clear hin
        go_enter Try.func16, Try.ntmps16
        have hb0 := Below.refl w.heap.size w
        go_wp2_with fail
        refine (rtcheck_any l a la aa lc ac _ ((hl.alloc _).alloc _) ((ha.alloc _).alloc _) hml).mono ?_
        rintro e w1 ⟨rfl, hc1⟩
        have hb1 : Below w.heap.size w w1 := bchain (by repeat' (first | with_reducible exact hb0 | with_reducible refine Below.drew ?_ | with_reducible refine below_drewN ?_ _ | with_reducible refine Below.alloc ?_ (by have := hb0.size; first | (simp; done) | (simp; omega) | omega) _ | with_reducible refine Below.setCell ?_ (by first | (simp; done) | (simp; omega) | omega) _)) hc1
        have P_0 : w1.cell? ⟨w.heap.size, 0, none⟩ = some (.slice la l.length lc) := (hc1.cell (p := ⟨w.heap.size, 0, none⟩) (by first | (simp; done) | (simp; omega))).trans (by first | (simp; done) | go_simp)
        have P_1 : w1.cell? ⟨w.heap.size, 1, none⟩ = some (.slice aa a.length ac) := (hc1.cell (p := ⟨w.heap.size, 1, none⟩) (by first | (simp; done) | (simp; omega))).trans (by first | (simp; done) | go_simp)
        have P_l : w.heap.size < w1.heap.size := Nat.lt_of_lt_of_le (by first | (simp; done) | (simp; omega)) hc1.size
        have O_0 : w1.cell? ⟨(w.heap.size + 1), 0, none⟩ = some (.slice none 0 0) := (hc1.cell (p := ⟨(w.heap.size + 1), 0, none⟩) (by first | (simp; done) | (simp; omega))).trans (by first | (simp; done) | go_simp)
        have O_1 : w1.cell? ⟨(w.heap.size + 1), 1, none⟩ = some (.slice none 0 0) := (hc1.cell (p := ⟨(w.heap.size + 1), 1, none⟩) (by first | (simp; done) | (simp; omega))).trans (by first | (simp; done) | go_simp)
        have O_f0 : w1.frozen? ⟨(w.heap.size + 1), 0, none⟩ = false := (hc1.frozen (p := ⟨(w.heap.size + 1), 0, none⟩) (by first | (simp; done) | (simp; omega))).trans (by first | (simp; done) | go_simp)
        have O_f1 : w1.frozen? ⟨(w.heap.size + 1), 1, none⟩ = false := (hc1.frozen (p := ⟨(w.heap.size + 1), 1, none⟩) (by first | (simp; done) | (simp; omega))).trans (by first | (simp; done) | go_simp)
        have O_l : (w.heap.size + 1) < w1.heap.size := Nat.lt_of_lt_of_le (by first | (simp; done) | (simp; omega)) hc1.size
        clear hc1 hb0
        rw [H_h8.out]
        go_wp2_with fail
        exact bodyPost_ret (v := .tuple #[.agg #[.slice none 0 0, .slice none 0 0], .bool false, .int .i64 2]) (by simp [results, Try.results16, go_sem, *]) rfl ⟨TkPick.of ⟨none, 0, none, 0, rfl, .inl rfl, .inl rfl⟩ H_he.out, (by repeat' (first | with_reducible exact hb1 | with_reducible refine Below.drew ?_ | with_reducible refine below_drewN ?_ _ | with_reducible refine Below.alloc ?_ (by have := hb1.size; first | (simp; done) | (simp; omega) | omega) _ | with_reducible refine Below.setCell ?_ (by first | (simp; done) | (simp; omega) | omega) _))⟩
      · have n2 : (l.length : Int) ≤ i := by omega
        clear hin
        go_enter Try.func16, Try.ntmps16
        have hb0 := Below.refl w.heap.size w
        go_wp2_with fail
        refine (rtcheck_any l a la aa lc ac _ ((hl.alloc _).alloc _) ((ha.alloc _).alloc _) hml).mono ?_
        rintro e w1 ⟨rfl, hc1⟩
        have hb1 : Below w.heap.size w w1 := bchain (by repeat' (first | with_reducible exact hb0 | with_reducible refine Below.drew ?_ | with_reducible refine below_drewN ?_ _ | with_reducible refine Below.alloc ?_ (by have := hb0.size; first | (simp; done) | (simp; omega) | omega) _ | with_reducible refine Below.setCell ?_ (by first | (simp; done) | (simp; omega) | omega) _)) hc1
        have P_0 : w1.cell? ⟨w.heap.size, 0, none⟩ = some (.slice la l.length lc) := (hc1.cell (p := ⟨w.heap.size, 0, none⟩) (by first | (simp; done) | (simp; omega))).trans (by first | (simp; done) | go_simp)
        have P_1 : w1.cell? ⟨w.heap.size, 1, none⟩ = some (.slice aa a.length ac) := (hc1.cell (p := ⟨w.heap.size, 1, none⟩) (by first | (simp; done) | (simp; omega))).trans (by first | (simp; done) | go_simp)
        have P_l : w.heap.size < w1.heap.size := Nat.lt_of_lt_of_le (by first | (simp; done) | (simp; omega)) hc1.size
        have O_0 : w1.cell? ⟨(w.heap.size + 1), 0, none⟩ = some (.slice none 0 0) := (hc1.cell (p := ⟨(w.heap.size + 1), 0, none⟩) (by first | (simp; done) | (simp; omega))).trans (by first | (simp; done) | go_simp)
        have O_1 : w1.cell? ⟨(w.heap.size + 1), 1, none⟩ = some (.slice none 0 0) := (hc1.cell (p := ⟨(w.heap.size + 1), 1, none⟩) (by first | (simp; done) | (simp; omega))).trans (by first | (simp; done) | go_simp)
        have O_f0 : w1.frozen? ⟨(w.heap.size + 1), 0, none⟩ = false := (hc1.frozen (p := ⟨(w.heap.size + 1), 0, none⟩) (by first | (simp; done) | (simp; omega))).trans (by first | (simp; done) | go_simp)
        have O_f1 : w1.frozen? ⟨(w.heap.size + 1), 1, none⟩ = false := (hc1.frozen (p := ⟨(w.heap.size + 1), 1, none⟩) (by first | (simp; done) | (simp; omega))).trans (by first | (simp; done) | go_simp)
        have O_l : (w.heap.size + 1) < w1.heap.size := Nat.lt_of_lt_of_le (by first | (simp; done) | (simp; omega)) hc1.size
        clear hc1 hb0
        rw [H_h8.out]
        go_wp2_with fail
        exact bodyPost_ret (v := .tuple #[.agg #[.slice none 0 0, .slice none 0 0], .bool false, .int .i64 2]) (by simp [results, Try.results16, go_sem, *]) rfl ⟨TkPick.of ⟨none, 0, none, 0, rfl, .inl rfl, .inl rfl⟩ H_he.out, (by repeat' (first | with_reducible exact hb1 | with_reducible refine Below.drew ?_ | with_reducible refine below_drewN ?_ _ | with_reducible refine Below.alloc ?_ (by have := hb1.size; first | (simp; done) | (simp; omega) | omega) _ | with_reducible refine Below.setCell ?_ (by first | (simp; done) | (simp; omega) | omega) _))⟩
  · have he : ((([], []), [], 8) : (List Int × List Int) × List Int × Int) = tkRun l a [i] := by simp [tkRun, pkErr, h8]
    have H_h8 := hid h8
    have H_he := hid he
    clear h8 he
    go_enter Try.func16, Try.ntmps16
    have hb0 := Below.refl w.heap.size w
    go_wp2_with fail
    refine (rtcheck_any l a la aa lc ac _ ((hl.alloc _).alloc _) ((ha.alloc _).alloc _) hml).mono ?_
    rintro e w1 ⟨rfl, hc1⟩
    have hb1 : Below w.heap.size w w1 := bchain (by repeat' (first | with_reducible exact hb0 | with_reducible refine Below.drew ?_ | with_reducible refine below_drewN ?_ _ | with_reducible refine Below.alloc ?_ (by have := hb0.size; first | (simp; done) | (simp; omega) | omega) _ | with_reducible refine Below.setCell ?_ (by first | (simp; done) | (simp; omega) | omega) _)) hc1
    have P_0 : w1.cell? ⟨w.heap.size, 0, none⟩ = some (.slice la l.length lc) := (hc1.cell (p := ⟨w.heap.size, 0, none⟩) (by first | (simp; done) | (simp; omega))).trans (by first | (simp; done) | go_simp)
    have P_1 : w1.cell? ⟨w.heap.size, 1, none⟩ = some (.slice aa a.length ac) := (hc1.cell (p := ⟨w.heap.size, 1, none⟩) (by first | (simp; done) | (simp; omega))).trans (by first | (simp; done) | go_simp)
    have P_l : w.heap.size < w1.heap.size := Nat.lt_of_lt_of_le (by first | (simp; done) | (simp; omega)) hc1.size
    have O_0 : w1.cell? ⟨(w.heap.size + 1), 0, none⟩ = some (.slice none 0 0) := (hc1.cell (p := ⟨(w.heap.size + 1), 0, none⟩) (by first | (simp; done) | (simp; omega))).trans (by first | (simp; done) | go_simp)
    have O_1 : w1.cell? ⟨(w.heap.size + 1), 1, none⟩ = some (.slice none 0 0) := (hc1.cell (p := ⟨(w.heap.size + 1), 1, none⟩) (by first | (simp; done) | (simp; omega))).trans (by first | (simp; done) | go_simp)
    have O_f0 : w1.frozen? ⟨(w.heap.size + 1), 0, none⟩ = false := (hc1.frozen (p := ⟨(w.heap.size + 1), 0, none⟩) (by first | (simp; done) | (simp; omega))).trans (by first | (simp; done) | go_simp)
    have O_f1 : w1.frozen? ⟨(w.heap.size + 1), 1, none⟩ = false := (hc1.frozen (p := ⟨(w.heap.size + 1), 1, none⟩) (by first | (simp; done) | (simp; omega))).trans (by first | (simp; done) | go_simp)
    have O_l : (w.heap.size + 1) < w1.heap.size := Nat.lt_of_lt_of_le (by first | (simp; done) | (simp; omega)) hc1.size
    clear hc1 hb0
    rw [H_h8.out]
    go_wp2_with fail
    refine (rtcheck_any l a la aa lc ac _ (hl.later hb1) (ha.later hb1) hml).mono ?_
    rintro e w2 ⟨rfl, hc2⟩
    have hb2 : Below w.heap.size w w2 := bchain (by repeat' (first | with_reducible exact hb1 | with_reducible refine Below.drew ?_ | with_reducible refine below_drewN ?_ _ | with_reducible refine Below.alloc ?_ (by have := hb1.size; first | (simp; done) | (simp; omega) | omega) _ | with_reducible refine Below.setCell ?_ (by first | (simp; done) | (simp; omega) | omega) _)) hc2
    have hst2 : Below w1.heap.size w1 w2 := bchain (by repeat' (first | with_reducible exact Below.refl _ _ | with_reducible refine Below.drew ?_ | with_reducible refine below_drewN ?_ _ | with_reducible refine Below.alloc ?_ (by first | (simp; done) | (simp; omega) | omega) _ | with_reducible refine Below.setCell ?_ (by first | (simp; done) | (simp; omega) | omega) _)) hc2
    replace P_0 := cell_later hst2 P_0
    replace P_1 := cell_later hst2 P_1
    replace P_l := Nat.lt_of_lt_of_le P_l hst2.size
    replace O_0 := cell_later hst2 O_0
    replace O_1 := cell_later hst2 O_1
    replace O_f0 := frozen_later hst2 O_l O_f0
    replace O_f1 := frozen_later hst2 O_l O_f1
    replace O_l := Nat.lt_of_lt_of_le O_l hst2.size
    clear hst2
    clear hc2 hb1
    rw [H_h8.out]
    go_wp2_with fail
    exact bodyPost_ret (v := .tuple #[.agg #[.slice none 0 0, .slice none 0 0], .bool false, .int .i64 8]) (by simp [results, Try.results16, go_sem, *]) rfl ⟨TkPick.of ⟨none, 0, none, 0, rfl, .inl rfl, .inl rfl⟩ H_he.out, (by repeat' (first | with_reducible exact hb2 | with_reducible refine Below.drew ?_ | with_reducible refine below_drewN ?_ _ | with_reducible refine Below.alloc ?_ (by have := hb2.size; first | (simp; done) | (simp; omega) | omega) _ | with_reducible refine Below.setCell ?_ (by first | (simp; done) | (simp; omega) | omega) _))⟩

end Go.Proofs.Ytoelndaeemlefaa
