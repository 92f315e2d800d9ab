/- What the reference's New, Runnable, SameInts and Same return. -/
import Derived.Test.YtoelndaeemlefaaSchedNew
namespace Go.Proofs.Ytoelndaeemlefaa
set_option linter.unusedSimpArgs false
set_option linter.unusedVariables false
set_option linter.unnecessarySimpa false
open Go.RowKit

theorem take_eq_succ {xs ys : List Int} {k : Nat} (hk : k < xs.length) (hl : xs.length = ys.length) (h : xs.take k = ys.take k) (he : xs[k]?.getD 0 = ys[k]?.getD 0) : xs.take (k + 1) = ys.take (k + 1) := by
  have hk2 : k < ys.length := by omega
  rw [List.take_succ_eq_append_getElem hk, List.take_succ_eq_append_getElem hk2, h]
  simp only [List.getElem?_eq_getElem hk, List.getElem?_eq_getElem hk2, Option.getD_some] at he
  rw [he]
theorem take_ne {xs ys : List Int} {k : Nat} (hk : k < xs.length) (hl : xs.length = ys.length) (he : ¬ xs[k]?.getD 0 = ys[k]?.getD 0) : xs ≠ ys := by
  intro h; subst h; exact he rfl

set_option maxHeartbeats 600000 in
theorem sameInts_any (xs ys : List Int) (a b : Option Addr) (c d : Nat) (w : World) (hx : CellsAt w a (xs.map (Value.int .i64))) (hy : CellsAt w b (ys.map (Value.int .i64))) (hxl : xs.length ≤ maxLen) :
    Calls Try.prog 18 #[.slice a xs.length c, .slice b ys.length d] w fun e w' =>
      e = .returned (.bool (decide (xs = ys))) ∧ Below w.heap.size w w' := by
  by_cases hlen : xs.length = ys.length
  · unfold maxLen at hxl
    have Hlen := hid hlen
    have hlen2 : ((xs.length : Int) != (ys.length : Int)) = false := by rw [bne_eq_false_iff_eq]; omega
    have hle1 : xs.length ≤ ys.length := by omega
    have hle2 : ys.length ≤ xs.length := by omega
    clear hlen
    go_enter Try.func18, Try.ntmps18
    have hb0 := Below.refl w.heap.size w
    go_wp2_with fail
    go_loopw [5] (fun i wr => ∃ k : Nat, k ≤ xs.length ∧ i = .int .i64 k ∧ Below w.heap.size w wr ∧ xs.take k = ys.take k) (fun i _ => xs.length - (intOf i).toNat)
    case atStart => exact ⟨0, Nat.zero_le _, rfl, hb0, rfl⟩
    case round =>
      obtain ⟨k, hk, rfl, hbw, htk⟩ := hrel
      have Htk := hid htk
      clear htk
      by_cases hlt : k < xs.length
      · obtain ⟨b1, o1, rfl, hr1⟩ := hx.int (by omega)
        obtain ⟨b2, o2, rfl, hr2⟩ := hy.int (by omega)
        have hc1 := (hbw.cell (p := ⟨b1, o1 + k, none⟩) (World.block_lt_of_cell? _ _ (hr1 k hlt))).trans (hr1 k hlt)
        have hc2 := (hbw.cell (p := ⟨b2, o2 + k, none⟩) (World.block_lt_of_cell? _ _ (hr2 k (by omega)))).trans (hr2 k (by omega))
        clear hr1 hr2
        have hlt2 : k < ys.length := by omega
        have hi1 : (k : Int) < (xs.length : Int) := by omega
        have hi2 : (k : Int) < (ys.length : Int) := by omega
        go_wp2_with fail
        go_quiet (fail)
        by_cases he : xs[k] = ys[k]
        · have he1 : (xs[k] != ys[k]) = false := by rw [bne_eq_false_iff_eq]; exact he
          have He := hid he
          clear he
          go_wp2_with fail
          go_roundw
          case rel => exact ⟨k + 1, by omega, by go_num, below_drewN hbw _, take_eq_succ hlt Hlen.out Htk.out (by simp [hlt, hlt2]; exact He.out)⟩
          case measure => simp [intOf]; omega
        · have he1 : (xs[k] != ys[k]) = true := by rw [bne_iff_ne]; exact he
          have hne : decide (xs = ys) = false := by
            rw [decide_eq_false_iff_not]
            exact take_ne hlt Hlen.out (by simp [hlt, hlt2]; exact he)
          have H_hne := hid hne
          clear hne
          clear he
          go_wp2_with fail
          go_ret
          exact ⟨ret_bool H_hne.out.symm, below_drewN hbw _⟩
      · obtain rfl : k = xs.length := by omega
        have heq : decide (xs = ys) = true := by
          have := Htk.out
          rw [List.take_length, Hlen.out, List.take_length] at this
          simpa using this
        have H_heq := hid heq
        clear heq
        go_wp2_with fail
        go_ret
        exact ⟨ret_bool H_heq.out.symm, hbw⟩
  · have hlen2 : ((xs.length : Int) != (ys.length : Int)) = true := by rw [bne_iff_ne]; omega
    have hne : decide (xs = ys) = false := by
      rw [decide_eq_false_iff_not]; intro h; subst h; exact hlen rfl
    have H_hne := hid hne
    have H_hlen := hid hlen
    clear hne hlen
    go_enter Try.func18, Try.ntmps18
    have hb0 := Below.refl w.heap.size w
    go_wp2_with fail
    go_ret
    exact ⟨ret_bool H_hne.out.symm, hb0⟩


set_option maxHeartbeats 4000000 in
theorem rrunnable_any (l a : List Int) (la aa : Option Addr) (lc ac : Nat) (w : World) (hl : CellsAt w la (l.map (Value.int .i64))) (ha : CellsAt w aa (a.map (Value.int .i64))) (hml : l.length ≤ maxLen) :
    Calls Try.prog 14 #[.agg #[.slice la l.length lc, .slice aa a.length ac]] w fun e w' =>
      ListRet w' e (tkRuns l a) ∧ Below w.heap.size w w' := by
  rcases tErr_cases l a with h8 | h8
  · have he : ((runs l a l.length, 0) : List Int × Int) = tkRuns l a := by simp [tkRuns, h8]
    have hlen := (tErr_ok h8).2.2.1
    have hn2 := (tErr_ok h8).2.1
    have htv := TV.of h8
    have H_he := hid he
    have H_h8 := hid h8
    have H_hlen := hid hlen
    clear he h8 hlen
    go_enter Try.func14, Try.ntmps14
    have hb0 := Below.refl w.heap.size w
    go_wp2_with fail
    refine (rtcheck_any l a la aa lc ac _ (hl.alloc _) (ha.alloc _) hml).mono ?_
    rintro e w1 ⟨rfl, hc1⟩
    have hb1 : Below w.heap.size w w1 := bchain (by repeat' (first | with_reducible exact hb0 | with_reducible refine Below.drew ?_ | with_reducible refine below_drewN ?_ _ | with_reducible refine Below.alloc ?_ (by have := hb0.size; first | (simp; done) | (simp; omega) | omega) _ | with_reducible refine Below.setCell ?_ (by first | (simp; done) | (simp; omega) | omega) _)) hc1
    have P_0 : w1.cell? ⟨w.heap.size, 0, none⟩ = some (.slice la l.length lc) := (hc1.cell (p := ⟨w.heap.size, 0, none⟩) (by first | (simp; done) | (simp; omega))).trans (by first | (simp; done) | go_simp)
    have P_1 : w1.cell? ⟨w.heap.size, 1, none⟩ = some (.slice aa a.length ac) := (hc1.cell (p := ⟨w.heap.size, 1, none⟩) (by first | (simp; done) | (simp; omega))).trans (by first | (simp; done) | go_simp)
    have P_l : w.heap.size < w1.heap.size := Nat.lt_of_lt_of_le (by first | (simp; done) | (simp; omega)) hc1.size
    clear hc1 hb0
    rw [H_h8.out]
    go_wp2_with fail
    refine (rall_any l a la aa lc ac _ (hl.later hb1) (ha.later hb1) H_hlen.out htv hn2).mono ?_
    rintro e w2 ⟨oa, oc, rfl, hown, hc2⟩
    have hb2 : Below w.heap.size w w2 := bchain (by repeat' (first | with_reducible exact hb1 | with_reducible refine Below.drew ?_ | with_reducible refine below_drewN ?_ _ | with_reducible refine Below.alloc ?_ (by have := hb1.size; first | (simp; done) | (simp; omega) | omega) _ | with_reducible refine Below.setCell ?_ (by first | (simp; done) | (simp; omega) | omega) _)) hc2
    have hst2 : Below w1.heap.size w1 w2 := bchain (by repeat' (first | with_reducible exact Below.refl _ _ | with_reducible refine Below.drew ?_ | with_reducible refine below_drewN ?_ _ | with_reducible refine Below.alloc ?_ (by first | (simp; done) | (simp; omega) | omega) _ | with_reducible refine Below.setCell ?_ (by first | (simp; done) | (simp; omega) | omega) _)) hc2
    replace P_0 := cell_later hst2 P_0
    replace P_1 := cell_later hst2 P_1
    replace P_l := Nat.lt_of_lt_of_le P_l hst2.size
    clear hst2
    clear hc2 hb1
    go_wp2_with fail
    go_ret2
    exact ⟨ListRet.of ⟨oa, oc, rfl, hown.cellsAt⟩ H_he.out, (by repeat' (first | with_reducible exact hb2 | with_reducible refine Below.drew ?_ | with_reducible refine below_drewN ?_ _ | with_reducible refine Below.alloc ?_ (by have := hb2.size; first | (simp; done) | (simp; omega) | omega) _ | with_reducible refine Below.setCell ?_ (by first | (simp; done) | (simp; omega) | omega) _))⟩
  · have he : (([], 8) : List Int × Int) = tkRuns l a := by simp [tkRuns, h8]
    have H_he := hid he
    have H_h8 := hid h8
    clear he h8
    go_enter Try.func14, Try.ntmps14
    have hb0 := Below.refl w.heap.size w
    go_wp2_with fail
    refine (rtcheck_any l a la aa lc ac _ (hl.alloc _) (ha.alloc _) hml).mono ?_
    rintro e w1 ⟨rfl, hc1⟩
    have hb1 : Below w.heap.size w w1 := bchain (by repeat' (first | with_reducible exact hb0 | with_reducible refine Below.drew ?_ | with_reducible refine below_drewN ?_ _ | with_reducible refine Below.alloc ?_ (by have := hb0.size; first | (simp; done) | (simp; omega) | omega) _ | with_reducible refine Below.setCell ?_ (by first | (simp; done) | (simp; omega) | omega) _)) hc1
    have P_0 : w1.cell? ⟨w.heap.size, 0, none⟩ = some (.slice la l.length lc) := (hc1.cell (p := ⟨w.heap.size, 0, none⟩) (by first | (simp; done) | (simp; omega))).trans (by first | (simp; done) | go_simp)
    have P_1 : w1.cell? ⟨w.heap.size, 1, none⟩ = some (.slice aa a.length ac) := (hc1.cell (p := ⟨w.heap.size, 1, none⟩) (by first | (simp; done) | (simp; omega))).trans (by first | (simp; done) | go_simp)
    have P_l : w.heap.size < w1.heap.size := Nat.lt_of_lt_of_le (by first | (simp; done) | (simp; omega)) hc1.size
    clear hc1 hb0
    rw [H_h8.out]
    go_wp2_with fail
    refine (rtcheck_any l a la aa lc ac _ (hl.later hb1) (ha.later hb1) hml).mono ?_
    rintro e w2 ⟨rfl, hc2⟩
    have hb2 : Below w.heap.size w w2 := bchain (by repeat' (first | with_reducible exact hb1 | with_reducible refine Below.drew ?_ | with_reducible refine below_drewN ?_ _ | with_reducible refine Below.alloc ?_ (by have := hb1.size; first | (simp; done) | (simp; omega) | omega) _ | with_reducible refine Below.setCell ?_ (by first | (simp; done) | (simp; omega) | omega) _)) hc2
    have hst2 : Below w1.heap.size w1 w2 := bchain (by repeat' (first | with_reducible exact Below.refl _ _ | with_reducible refine Below.drew ?_ | with_reducible refine below_drewN ?_ _ | with_reducible refine Below.alloc ?_ (by first | (simp; done) | (simp; omega) | omega) _ | with_reducible refine Below.setCell ?_ (by first | (simp; done) | (simp; omega) | omega) _)) hc2
    replace P_0 := cell_later hst2 P_0
    replace P_1 := cell_later hst2 P_1
    replace P_l := Nat.lt_of_lt_of_le P_l hst2.size
    clear hst2
    clear hc2 hb1
    rw [H_h8.out]
    go_wp2_with fail
    go_ret2
    exact ⟨ListRet.of ⟨none, 0, rfl, .inl rfl⟩ H_he.out, (by repeat' (first | with_reducible exact hb2 | with_reducible refine Below.drew ?_ | with_reducible refine below_drewN ?_ _ | with_reducible refine Below.alloc ?_ (by have := hb2.size; first | (simp; done) | (simp; omega) | omega) _ | with_reducible refine Below.setCell ?_ (by first | (simp; done) | (simp; omega) | omega) _))⟩

set_option maxHeartbeats 4000000 in
theorem rnew_any (l a : List Int) (la aa : Option Addr) (lc ac : Nat) (w : World) (hl : CellsAt w la (l.map (Value.int .i64))) (ha : CellsAt w aa (a.map (Value.int .i64))) (hbl : l.length ≤ 17592186044415) (hba : a.length ≤ 17592186044415) :
    Calls Try.prog 12 #[.slice la l.length lc, .slice aa a.length ac] w fun e w' =>
      TkRet w' e (tkNew l a) ∧ Below w.heap.size w w' := by
  have hml : l.length ≤ maxLen := by unfold maxLen; omega
  rcases tErr_cases l a with h8 | h8
  · have he : (((l, a), 0) : (List Int × List Int) × Int) = tkNew l a := by simp [tkNew, h8]
    have g1 := (tErr_ok h8).1
    have g2 : 0 < a.length := by have := (tErr_ok h8).2.2.1; omega
    have H_he := hid he
    have H_h8 := hid h8
    clear he h8
    go_enter Try.func12, Try.ntmps12
    have hb0 := Below.refl w.heap.size w
    go_wp2_with fail
    refine (rtwin_any l a la aa lc ac _ (hl.alloc _) (ha.alloc _) hbl hba).mono ?_
    rintro e w1 ⟨a1, c1, a2, c2, rfl, k1, k2, f, hc1⟩
    have hb1 : Below w.heap.size w w1 := bchain (by repeat' (first | with_reducible exact hb0 | with_reducible refine Below.drew ?_ | with_reducible refine below_drewN ?_ _ | with_reducible refine Below.alloc ?_ (by have := hb0.size; first | (simp; done) | (simp; omega) | omega) _ | with_reducible refine Below.setCell ?_ (by first | (simp; done) | (simp; omega) | omega) _)) hc1
    have O_0 : w1.cell? ⟨w.heap.size, 0, none⟩ = some (.slice none 0 0) := (hc1.cell (p := ⟨w.heap.size, 0, none⟩) (by first | (simp; done) | (simp; omega))).trans (by first | (simp; done) | go_simp)
    have O_1 : w1.cell? ⟨w.heap.size, 1, none⟩ = some (.slice none 0 0) := (hc1.cell (p := ⟨w.heap.size, 1, none⟩) (by first | (simp; done) | (simp; omega))).trans (by first | (simp; done) | go_simp)
    have O_f0 : w1.frozen? ⟨w.heap.size, 0, none⟩ = false := (hc1.frozen (p := ⟨w.heap.size, 0, none⟩) (by first | (simp; done) | (simp; omega))).trans (by first | (simp; done) | go_simp)
    have O_f1 : w1.frozen? ⟨w.heap.size, 1, none⟩ = false := (hc1.frozen (p := ⟨w.heap.size, 1, none⟩) (by first | (simp; done) | (simp; omega))).trans (by first | (simp; done) | go_simp)
    have O_l : w.heap.size < w1.heap.size := Nat.lt_of_lt_of_le (by first | (simp; done) | (simp; omega)) hc1.size
    clear hc1 hb0
    have z1 := O_l
    go_wp2_with fail
    refine (rtcheck_any l a a1 a2 c1 c2 _ (k1.alloc _) (k2.alloc _) hml).mono ?_
    rintro e w2 ⟨rfl, hc2⟩
    have hb2 : Below w.heap.size w w2 := bchain (by repeat' (first | with_reducible exact hb1 | with_reducible refine Below.drew ?_ | with_reducible refine below_drewN ?_ _ | with_reducible refine Below.alloc ?_ (by have := hb1.size; first | (simp; done) | (simp; omega) | omega) _ | with_reducible refine Below.setCell ?_ (by first | (simp; done) | (simp; omega) | omega) _)) hc2
    have hst2 : Below w1.heap.size w1 w2 := bchain (by repeat' (first | with_reducible exact Below.refl _ _ | with_reducible refine Below.drew ?_ | with_reducible refine below_drewN ?_ _ | with_reducible refine Below.alloc ?_ (by first | (simp; done) | (simp; omega) | omega) _ | with_reducible refine Below.setCell ?_ (by first | (simp; done) | (simp; omega) | omega) _)) hc2
    replace O_0 := cell_later hst2 O_0
    replace O_1 := cell_later hst2 O_1
    replace O_f0 := frozen_later hst2 O_l O_f0
    replace O_f1 := frozen_later hst2 O_l O_f1
    replace O_l := Nat.lt_of_lt_of_le O_l hst2.size
    have T_0 : w2.cell? ⟨w1.heap.size, 0, none⟩ = some (.slice a1 l.length c1) := (hc2.cell (p := ⟨w1.heap.size, 0, none⟩) (by first | (simp; done) | (simp; omega))).trans (by first | (simp; done) | go_simp)
    have T_1 : w2.cell? ⟨w1.heap.size, 1, none⟩ = some (.slice a2 a.length c2) := (hc2.cell (p := ⟨w1.heap.size, 1, none⟩) (by first | (simp; done) | (simp; omega))).trans (by first | (simp; done) | go_simp)
    have T_l : w1.heap.size < w2.heap.size := Nat.lt_of_lt_of_le (by first | (simp; done) | (simp; omega)) hc2.size
    replace k1 := k1.later hst2
    replace k2 := k2.later hst2
    clear hst2
    clear hc2 hb1
    rw [H_h8.out]
    obtain ⟨tk, tf⟩ := f (by omega) g2
    go_wp2_with fail
    have p1 : ∀ ad, a1 = some ad → ad.block ≠ w.heap.size := fun ad e => by have := (tk.own.addr ad e).1; simp at this; omega
    have p2 : ∀ ad, a2 = some ad → ad.block ≠ w.heap.size := fun ad e => by have := tf ad e; simp at this; omega
    exact bodyPost_ret (v := .tuple #[.agg #[.slice a1 l.length c1, .slice a2 a.length c2], .int .i64 0]) (by simp [results, Try.results12, go_sem, *]) rfl ⟨TkRet.of ⟨_, _, _, _, rfl, (by repeat' (first | with_reducible exact k1 | with_reducible refine CellsAt.setFarG ?_ ?_ _ | with_reducible refine CellsAt.alloc ?_ _ | with_reducible refine CellsAt.drew ?_ | with_reducible refine CellsAt.drewN ?_ _ | exact p1)), (by repeat' (first | with_reducible exact k2 | with_reducible refine CellsAt.setFarG ?_ ?_ _ | with_reducible refine CellsAt.alloc ?_ _ | with_reducible refine CellsAt.drew ?_ | with_reducible refine CellsAt.drewN ?_ _ | exact p2))⟩ H_he.out, (by repeat' (first | with_reducible exact hb2 | with_reducible refine Below.drew ?_ | with_reducible refine below_drewN ?_ _ | with_reducible refine Below.alloc ?_ (by have := hb2.size; first | (simp; done) | (simp; omega) | omega) _ | with_reducible refine Below.setCell ?_ (by first | (simp; done) | (simp; omega) | omega) _))⟩
  · have he : ((([], []), 8) : (List Int × List Int) × Int) = tkNew l a := by simp [tkNew, h8]
    have H_he := hid he
    have H_h8 := hid h8
    clear he h8
    go_enter Try.func12, Try.ntmps12
    have hb0 := Below.refl w.heap.size w
    go_wp2_with fail
    refine (rtwin_any l a la aa lc ac _ (hl.alloc _) (ha.alloc _) hbl hba).mono ?_
    rintro e w1 ⟨a1, c1, a2, c2, rfl, k1, k2, f, hc1⟩
    have hb1 : Below w.heap.size w w1 := bchain (by repeat' (first | with_reducible exact hb0 | with_reducible refine Below.drew ?_ | with_reducible refine below_drewN ?_ _ | with_reducible refine Below.alloc ?_ (by have := hb0.size; first | (simp; done) | (simp; omega) | omega) _ | with_reducible refine Below.setCell ?_ (by first | (simp; done) | (simp; omega) | omega) _)) hc1
    have O_0 : w1.cell? ⟨w.heap.size, 0, none⟩ = some (.slice none 0 0) := (hc1.cell (p := ⟨w.heap.size, 0, none⟩) (by first | (simp; done) | (simp; omega))).trans (by first | (simp; done) | go_simp)
    have O_1 : w1.cell? ⟨w.heap.size, 1, none⟩ = some (.slice none 0 0) := (hc1.cell (p := ⟨w.heap.size, 1, none⟩) (by first | (simp; done) | (simp; omega))).trans (by first | (simp; done) | go_simp)
    have O_f0 : w1.frozen? ⟨w.heap.size, 0, none⟩ = false := (hc1.frozen (p := ⟨w.heap.size, 0, none⟩) (by first | (simp; done) | (simp; omega))).trans (by first | (simp; done) | go_simp)
    have O_f1 : w1.frozen? ⟨w.heap.size, 1, none⟩ = false := (hc1.frozen (p := ⟨w.heap.size, 1, none⟩) (by first | (simp; done) | (simp; omega))).trans (by first | (simp; done) | go_simp)
    have O_l : w.heap.size < w1.heap.size := Nat.lt_of_lt_of_le (by first | (simp; done) | (simp; omega)) hc1.size
    clear hc1 hb0
    have z1 := O_l
    go_wp2_with fail
    refine (rtcheck_any l a a1 a2 c1 c2 _ (k1.alloc _) (k2.alloc _) hml).mono ?_
    rintro e w2 ⟨rfl, hc2⟩
    have hb2 : Below w.heap.size w w2 := bchain (by repeat' (first | with_reducible exact hb1 | with_reducible refine Below.drew ?_ | with_reducible refine below_drewN ?_ _ | with_reducible refine Below.alloc ?_ (by have := hb1.size; first | (simp; done) | (simp; omega) | omega) _ | with_reducible refine Below.setCell ?_ (by first | (simp; done) | (simp; omega) | omega) _)) hc2
    have hst2 : Below w1.heap.size w1 w2 := bchain (by repeat' (first | with_reducible exact Below.refl _ _ | with_reducible refine Below.drew ?_ | with_reducible refine below_drewN ?_ _ | with_reducible refine Below.alloc ?_ (by first | (simp; done) | (simp; omega) | omega) _ | with_reducible refine Below.setCell ?_ (by first | (simp; done) | (simp; omega) | omega) _)) hc2
    replace O_0 := cell_later hst2 O_0
    replace O_1 := cell_later hst2 O_1
    replace O_f0 := frozen_later hst2 O_l O_f0
    replace O_f1 := frozen_later hst2 O_l O_f1
    replace O_l := Nat.lt_of_lt_of_le O_l hst2.size
    have T_0 : w2.cell? ⟨w1.heap.size, 0, none⟩ = some (.slice a1 l.length c1) := (hc2.cell (p := ⟨w1.heap.size, 0, none⟩) (by first | (simp; done) | (simp; omega))).trans (by first | (simp; done) | go_simp)
    have T_1 : w2.cell? ⟨w1.heap.size, 1, none⟩ = some (.slice a2 a.length c2) := (hc2.cell (p := ⟨w1.heap.size, 1, none⟩) (by first | (simp; done) | (simp; omega))).trans (by first | (simp; done) | go_simp)
    have T_l : w1.heap.size < w2.heap.size := Nat.lt_of_lt_of_le (by first | (simp; done) | (simp; omega)) hc2.size
    replace k1 := k1.later hst2
    replace k2 := k2.later hst2
    clear hst2
    clear hc2 hb1
    rw [H_h8.out]
    go_wp2_with fail
    refine (rtcheck_any l a a1 a2 c1 c2 _ k1 k2 hml).mono ?_
    rintro e w3 ⟨rfl, hc3⟩
    have hb3 : Below w.heap.size w w3 := bchain (by repeat' (first | with_reducible exact hb2 | with_reducible refine Below.drew ?_ | with_reducible refine below_drewN ?_ _ | with_reducible refine Below.alloc ?_ (by have := hb2.size; first | (simp; done) | (simp; omega) | omega) _ | with_reducible refine Below.setCell ?_ (by first | (simp; done) | (simp; omega) | omega) _)) hc3
    have hst3 : Below w2.heap.size w2 w3 := bchain (by repeat' (first | with_reducible exact Below.refl _ _ | with_reducible refine Below.drew ?_ | with_reducible refine below_drewN ?_ _ | with_reducible refine Below.alloc ?_ (by first | (simp; done) | (simp; omega) | omega) _ | with_reducible refine Below.setCell ?_ (by first | (simp; done) | (simp; omega) | omega) _)) hc3
    replace O_0 := cell_later hst3 O_0
    replace O_1 := cell_later hst3 O_1
    replace O_f0 := frozen_later hst3 O_l O_f0
    replace O_f1 := frozen_later hst3 O_l O_f1
    replace O_l := Nat.lt_of_lt_of_le O_l hst3.size
    replace T_0 := cell_later hst3 T_0
    replace T_1 := cell_later hst3 T_1
    replace T_l := Nat.lt_of_lt_of_le T_l hst3.size
    replace k1 := k1.later hst3
    replace k2 := k2.later hst3
    clear hst3
    clear hc3 hb2
    rw [H_h8.out]
    go_wp2_with fail
    exact bodyPost_ret (v := .tuple #[.agg #[.slice none 0 0, .slice none 0 0], .int .i64 8]) (by simp [results, Try.results12, go_sem, *]) rfl ⟨TkRet.of ⟨_, _, _, _, rfl, .inl rfl, .inl rfl⟩ H_he.out, (by repeat' (first | with_reducible exact hb3 | with_reducible refine Below.drew ?_ | with_reducible refine below_drewN ?_ _ | with_reducible refine Below.alloc ?_ (by have := hb3.size; first | (simp; done) | (simp; omega) | omega) _ | with_reducible refine Below.setCell ?_ (by first | (simp; done) | (simp; omega) | omega) _))⟩

end Go.Proofs.Ytoelndaeemlefaa
