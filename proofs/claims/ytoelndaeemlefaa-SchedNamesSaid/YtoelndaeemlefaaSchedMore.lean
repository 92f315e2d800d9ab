/- What Twin, New, Runnable return, here and in the reference. -/
import Derived.Test.YtoelndaeemlefaaSchedChecks
import Derived.Test.YtoelndaeemlefaaSchedOwn
import Derived.Deep.RegionHeld3
import Derived.Deep.DeepCutAuto
namespace Go.Proofs.Ytoelndaeemlefaa
set_option linter.unusedSimpArgs false
set_option linter.unusedVariables false
set_option linter.unnecessarySimpa false
open Go.RowKit


set_option maxHeartbeats 4000000 in
theorem runnable_any (l a : List Int) (la aa : Option Addr) (lc ac : Nat) (w : World) (hl : CellsAt w la (l.map (Value.int .i64))) (ha : CellsAt w aa (a.map (Value.int .i64))) (hml : l.length ≤ maxLen) :
    Calls Try.prog 13 #[.agg #[.slice la l.length lc, .slice aa a.length ac]] w fun e w' =>
      ListRet w' e (tkRuns l a) ∧ Below w.heap.size w w' := by
  unfold maxLen at hml
  rcases tErr_cases l a with h8 | h8
  · skip
    obtain ⟨i0, hi, hz0, hz1, hz2⟩ := info_parts info_i64
    have hn := (tErr_ok h8).1
    have hn2 := (tErr_ok h8).2.1
    have hlen := (tErr_ok h8).2.2.1
    have hnth := (TV.of h8).nth
    have he : ((runs l a l.length, 0) : List Int × Int) = tkRuns l a := by simp [tkRuns, h8]
    have H_he := hid he
    have H_h8 := hid h8
    have H_hlen := hid hlen
    clear he h8 hlen
    go_enter Try.func13, Try.ntmps13
    have hb0 := Below.refl w.heap.size w
    skip
    go_wp2_with fail
    refine (tcheck_any l a la aa lc ac _ (hl.alloc _) (ha.alloc _) hml).mono ?_
    rintro e w1 ⟨rfl, hc1⟩
    have hb1 : Below w.heap.size w w1 := bchain (by repeat' (first | with_reducible exact hb0 | with_reducible refine Below.drew ?_ | with_reducible refine below_drewN ?_ _ | with_reducible refine Below.alloc ?_ (by have := hb0.size; first | (simp; done) | (simp; omega) | omega) _ | with_reducible refine Below.setCell ?_ (by first | (simp; done) | (simp; omega) | omega) _)) hc1
    have P_0 : w1.cell? ⟨w.heap.size, 0, none⟩ = some (.slice la l.length lc) := (hc1.cell (p := ⟨w.heap.size, 0, none⟩) (by first | (simp; done) | (simp; omega))).trans (by first | (simp; done) | go_simp)
    have P_1 : w1.cell? ⟨w.heap.size, 1, none⟩ = some (.slice aa a.length ac) := (hc1.cell (p := ⟨w.heap.size, 1, none⟩) (by first | (simp; done) | (simp; omega))).trans (by first | (simp; done) | go_simp)
    have P_l : w.heap.size < w1.heap.size := Nat.lt_of_lt_of_le (by first | (simp; done) | (simp; omega)) hc1.size
    clear hc1 hb0
    rw [H_h8.out]
    skip
    go_wp2_with fail
    go_loopw [5, 15] (fun out i wr => ∃ k : Nat, k ≤ l.length ∧ i = .int .i64 k ∧ Below w.heap.size w wr ∧ (wr.cell? ⟨w.heap.size, 0, none⟩ = some (.slice la l.length lc) ∧ wr.cell? ⟨w.heap.size, 1, none⟩ = some (.slice aa a.length ac)) ∧ ∃ oa oc, out = .slice oa (runs l a k).length oc ∧ Hid (OwnX wr (w.heap.size + 1) 3 1 (.slice oa (runs l a k).length oc) (runs l a k).length ((runs l a k).map (Value.int .i64)))) (fun _ i _ => l.length - (intOf i).toNat)
    case atStart => exact ⟨0, Nat.zero_le _, rfl, (by repeat' (first | with_reducible exact hb1 | with_reducible refine Below.drew ?_ | with_reducible refine below_drewN ?_ _ | with_reducible refine Below.alloc ?_ (by have := hb1.size; first | (simp; done) | (simp; omega) | omega) _ | with_reducible refine Below.setCell ?_ (by first | (simp; done) | (simp; omega) | omega) _)), ⟨by go_simp, by go_simp⟩, none, 0, rfl, hid (OwnX.nil _ _ _ _)⟩
    case round =>
      clear P_0 P_1 P_l
      obtain ⟨k, hk, rfl, hbw, ⟨P_0, P_1⟩, oa, oc, rfl, Hown⟩ := hrel
      by_cases hlt : k < l.length
      · have hlt' : (k : Int) < (l.length : Int) := by omega
        obtain ⟨v1, _, v2, v3⟩ := hnth k hlt
        have hrl := runs_len l a k
        have hbz := hbw.size
        by_cases hcan : can l a k = true
        · have hrs : runs l a (k + 1) = runs l a k ++ [(k : Int)] := by rw [runs_succ, if_pos hcan]
          have H_hcan := hid hcan
          clear hcan
          have Ho := Hown.out
          clear Hown
          have P_l : w.heap.size < wr.heap.size := by have := World.block_lt_of_cell? _ _ P_0; simpa using this
          go_wp2_with fail
          refine (can_any l a la aa lc ac k _ (hl.later hbw) (ha.later hbw) hlt H_hlen.out ⟨v2, v3⟩).mono ?_
          rintro e w11 ⟨rfl, hc11⟩
          have hb11 : Below w.heap.size w w11 := bchain (by repeat' (first | with_reducible exact hbw | with_reducible refine Below.drew ?_ | with_reducible refine below_drewN ?_ _ | with_reducible refine Below.alloc ?_ (by have := hbw.size; first | (simp; done) | (simp; omega) | omega) _ | with_reducible refine Below.setCell ?_ (by first | (simp; done) | (simp; omega) | omega) _)) hc11
          have hst11 : Below wr.heap.size wr w11 := bchain (by repeat' (first | with_reducible exact Below.refl _ _ | with_reducible refine Below.drew ?_ | with_reducible refine below_drewN ?_ _ | with_reducible refine Below.alloc ?_ (by first | (simp; done) | (simp; omega) | omega) _ | with_reducible refine Below.setCell ?_ (by first | (simp; done) | (simp; omega) | omega) _)) hc11
          replace P_0 := cell_later hst11 P_0
          replace P_1 := cell_later hst11 P_1
          replace P_l := Nat.lt_of_lt_of_le P_l hst11.size
          replace Ho := Ho.later hst11
          clear hst11
          clear hc11 hbw
          rw [H_hcan.out]
          go_wp2_with (at_builtin; refine stop ?_)
          refine Stop.go ?_
          refine wpList_append_x _ rfl _ _ 22 rfl (w.heap.size + 1) 3 i0 (.int .i64 0) 1 8 Try.underlying22 hi hz0 hz1 hz2 rfl (by decide) _ _ _ rfl (Ho.alloc _) (some ⟨w11.heap.size, 0, none⟩) 1 1 [.int .i64 k] rfl rfl (cellsAt_one w11 _ _) (oneCell_int _ _) (by unfold maxLen; omega) (by omega) (by simp; omega) ?_
          intro a3 c3 w12 hown3 hg hat
          have hb12 : Below w.heap.size w w12 := below_grownX (by repeat' (first | with_reducible exact hb11 | with_reducible refine Below.drew ?_ | with_reducible refine below_drewN ?_ _ | with_reducible refine Below.alloc ?_ (by have := hb11.size; first | (simp; done) | (simp; omega) | omega) _ | with_reducible refine Below.setCell ?_ (by first | (simp; done) | (simp; omega) | omega) _)) (base := w.heap.size) hg (by simp; omega) (fun q hq => by have := (Ho.lt q hq).1; omega)
          have hP : Below (w.heap.size + 1) w11 w12 := below_grownX ((Below.refl (w.heap.size + 1) w11).alloc (by omega) _) hg (by simp; omega) (fun q hq => (Ho.lt q hq).1)
          replace P_0 := (hP.cell (p := ⟨w.heap.size, 0, none⟩) (by simp)).trans P_0
          replace P_1 := (hP.cell (p := ⟨w.heap.size, 1, none⟩) (by simp)).trans P_1
          go_wp2_with fail
          go_roundw
          case rel => exact ⟨k + 1, by omega, by go_num, (by repeat' (first | with_reducible exact hb12 | with_reducible refine Below.drew ?_ | with_reducible refine below_drewN ?_ _ | with_reducible refine Below.alloc ?_ (by have := hb12.size; first | (simp; done) | (simp; omega) | omega) _ | with_reducible refine Below.setCell ?_ (by first | (simp; done) | (simp; omega) | omega) _)), ⟨by go_simp, by go_simp⟩, a3, c3, by rw [hrs]; simp, hid (by rw [hrs]; simpa using hown3)⟩
          case measure => simp [intOf]; omega
        · have hrs : runs l a (k + 1) = runs l a k := by rw [runs_succ, if_neg hcan]
          have hcan : can l a k = false := by simpa using hcan
          have H_hcan := hid hcan
          clear hcan
          have Ho := Hown.out
          clear Hown
          have P_l : w.heap.size < wr.heap.size := by have := World.block_lt_of_cell? _ _ P_0; simpa using this
          go_wp2_with fail
          refine (can_any l a la aa lc ac k _ (hl.later hbw) (ha.later hbw) hlt H_hlen.out ⟨v2, v3⟩).mono ?_
          rintro e w11 ⟨rfl, hc11⟩
          have hb11 : Below w.heap.size w w11 := bchain (by repeat' (first | with_reducible exact hbw | with_reducible refine Below.drew ?_ | with_reducible refine below_drewN ?_ _ | with_reducible refine Below.alloc ?_ (by have := hbw.size; first | (simp; done) | (simp; omega) | omega) _ | with_reducible refine Below.setCell ?_ (by first | (simp; done) | (simp; omega) | omega) _)) hc11
          have hst11 : Below wr.heap.size wr w11 := bchain (by repeat' (first | with_reducible exact Below.refl _ _ | with_reducible refine Below.drew ?_ | with_reducible refine below_drewN ?_ _ | with_reducible refine Below.alloc ?_ (by first | (simp; done) | (simp; omega) | omega) _ | with_reducible refine Below.setCell ?_ (by first | (simp; done) | (simp; omega) | omega) _)) hc11
          replace P_0 := cell_later hst11 P_0
          replace P_1 := cell_later hst11 P_1
          replace P_l := Nat.lt_of_lt_of_le P_l hst11.size
          replace Ho := Ho.later hst11
          clear hst11
          clear hc11 hbw
          rw [H_hcan.out]
          go_wp2_with fail
          go_roundw
          case rel => exact ⟨k + 1, by omega, by go_num, (by repeat' (first | with_reducible exact hb11 | with_reducible refine Below.drew ?_ | with_reducible refine below_drewN ?_ _ | with_reducible refine Below.alloc ?_ (by have := hb11.size; first | (simp; done) | (simp; omega) | omega) _ | with_reducible refine Below.setCell ?_ (by first | (simp; done) | (simp; omega) | omega) _)), ⟨by go_simp, by go_simp⟩, oa, oc, by rw [hrs], hid (by rw [hrs]; exact Ho)⟩
          case measure => simp [intOf]; omega
      · obtain rfl : k = l.length := by omega
        go_wp2_with fail
        go_ret2; exact ⟨ListRet.of ⟨oa, oc, rfl, Hown.out.cellsAt⟩ H_he.out, (by repeat' (first | with_reducible exact hbw | with_reducible refine Below.drew ?_ | with_reducible refine below_drewN ?_ _ | with_reducible refine Below.alloc ?_ (by have := hbw.size; first | (simp; done) | (simp; omega) | omega) _ | with_reducible refine Below.setCell ?_ (by first | (simp; done) | (simp; omega) | omega) _))⟩
  · have he : (([], 8) : List Int × Int) = tkRuns l a := by simp [tkRuns, h8]
    have H_he := hid he
    have H_h8 := hid h8
    clear he h8
    go_enter Try.func13, Try.ntmps13
    have hb0 := Below.refl w.heap.size w
    go_wp2_with fail
    refine (tcheck_any l a la aa lc ac _ (hl.alloc _) (ha.alloc _) hml).mono ?_
    rintro e w1 ⟨rfl, hc1⟩
    have hb1 : Below w.heap.size w w1 := bchain (by repeat' (first | with_reducible exact hb0 | with_reducible refine Below.drew ?_ | with_reducible refine below_drewN ?_ _ | with_reducible refine Below.alloc ?_ (by have := hb0.size; first | (simp; done) | (simp; omega) | omega) _ | with_reducible refine Below.setCell ?_ (by first | (simp; done) | (simp; omega) | omega) _)) hc1
    clear hc1 hb0
    rw [H_h8.out]
    go_wp2_with fail
    go_ret2
    exact ⟨ListRet.of ⟨none, 0, rfl, .inl rfl⟩ H_he.out, (by repeat' (first | with_reducible exact hb1 | with_reducible refine Below.drew ?_ | with_reducible refine below_drewN ?_ _ | with_reducible refine Below.alloc ?_ (by have := hb1.size; first | (simp; done) | (simp; omega) | omega) _ | with_reducible refine Below.setCell ?_ (by first | (simp; done) | (simp; omega) | omega) _))⟩

set_option maxHeartbeats 4000000 in
theorem rall_any (l a : List Int) (la aa : Option Addr) (lc ac : Nat) (w : World) (hl : CellsAt w la (l.map (Value.int .i64))) (ha : CellsAt w aa (a.map (Value.int .i64))) (hlen : a.length = l.length) (hv : TV l a) (hml : l.length ≤ 12) :
    Calls Try.prog 35 #[.agg #[.slice la l.length lc, .slice aa a.length ac]] w fun e w' =>
      ∃ oa oc, e = .returned (.slice oa (runs l a l.length).length oc) ∧ OwnX w' w.heap.size 3 1 (.slice oa (runs l a l.length).length oc) (runs l a l.length).length ((runs l a l.length).map (Value.int .i64)) ∧ Below w.heap.size w w' := by
  obtain ⟨i0, hi, hz0, hz1, hz2⟩ := info_parts info_i64
  have hnth := hv.nth
  have H_hlen := hid hlen
  clear hlen
  go_enter Try.func35, Try.ntmps35
  have hb0 := Below.refl w.heap.size w
  go_wp2_with fail
  go_loopw [3, 4] (fun out i wr => ∃ k : Nat, k ≤ l.length ∧ i = .int .i64 k ∧ Below w.heap.size w wr ∧ (wr.cell? ⟨w.heap.size, 0, none⟩ = some (.slice la l.length lc) ∧ wr.cell? ⟨w.heap.size, 1, none⟩ = some (.slice aa a.length ac)) ∧ ∃ oa oc, out = .slice oa (runs l a k).length oc ∧ Hid (OwnX wr (w.heap.size + 1) 3 1 (.slice oa (runs l a k).length oc) (runs l a k).length ((runs l a k).map (Value.int .i64)))) (fun _ i _ => l.length - (intOf i).toNat)
  case atStart => exact ⟨0, Nat.zero_le _, rfl, (by repeat' (first | with_reducible exact hb0 | with_reducible refine Below.drew ?_ | with_reducible refine below_drewN ?_ _ | with_reducible refine Below.alloc ?_ (by have := hb0.size; first | (simp; done) | (simp; omega) | omega) _ | with_reducible refine Below.setCell ?_ (by first | (simp; done) | (simp; omega) | omega) _)), ⟨by go_simp, by go_simp⟩, none, 0, rfl, hid (OwnX.nil _ _ _ _)⟩
  case round =>
    obtain ⟨k, hk, rfl, hbw, ⟨P_0, P_1⟩, oa, oc, rfl, Hown⟩ := hrel
    by_cases hlt : k < l.length
    · have hlt' : (k : Int) < (l.length : Int) := by omega
      obtain ⟨v1, _, v2, v3⟩ := hnth k hlt
      have hrl := runs_len l a k
      have hbz := hbw.size
      by_cases hcan : can l a k = true
      · have hrs : runs l a (k + 1) = runs l a k ++ [(k : Int)] := by rw [runs_succ, if_pos hcan]
        have H_hcan := hid hcan
        clear hcan
        have Ho := Hown.out
        clear Hown
        have P_l : w.heap.size < wr.heap.size := by have := World.block_lt_of_cell? _ _ P_0; simpa using this
        go_wp2_with fail
        refine (rcan_any l a la aa lc ac k _ (hl.later hbw) (ha.later hbw) hlt H_hlen.out ⟨v2, v3⟩ v1).mono ?_
        rintro e w11 ⟨rfl, hc11⟩
        have hb11 : Below w.heap.size w w11 := bchain (by repeat' (first | with_reducible exact hbw | with_reducible refine Below.drew ?_ | with_reducible refine below_drewN ?_ _ | with_reducible refine Below.alloc ?_ (by have := hbw.size; first | (simp; done) | (simp; omega) | omega) _ | with_reducible refine Below.setCell ?_ (by first | (simp; done) | (simp; omega) | omega) _)) hc11
        have hst11 : Below wr.heap.size wr w11 := bchain (by repeat' (first | with_reducible exact Below.refl _ _ | with_reducible refine Below.drew ?_ | with_reducible refine below_drewN ?_ _ | with_reducible refine Below.alloc ?_ (by first | (simp; done) | (simp; omega) | omega) _ | with_reducible refine Below.setCell ?_ (by first | (simp; done) | (simp; omega) | omega) _)) hc11
        replace P_0 := cell_later hst11 P_0
        replace P_1 := cell_later hst11 P_1
        replace P_l := Nat.lt_of_lt_of_le P_l hst11.size
        replace Ho := Ho.later hst11
        clear hst11
        clear hc11 hbw
        rw [H_hcan.out]
        go_wp2_with (at_builtin; refine stop ?_)
        refine Stop.go ?_
        refine wpList_append_x _ rfl _ _ 22 rfl (w.heap.size + 1) 3 i0 (.int .i64 0) 1 8 Try.underlying22 hi hz0 hz1 hz2 rfl (by decide) _ _ _ rfl (Ho.alloc _) (some ⟨w11.heap.size, 0, none⟩) 1 1 [.int .i64 k] rfl rfl (cellsAt_one w11 _ _) (oneCell_int _ _) (by unfold maxLen; omega) (by omega) (by simp; omega) ?_
        intro a3 c3 w12 hown3 hg hat
        have hb12 : Below w.heap.size w w12 := below_grownX (by repeat' (first | with_reducible exact hb11 | with_reducible refine Below.drew ?_ | with_reducible refine below_drewN ?_ _ | with_reducible refine Below.alloc ?_ (by have := hb11.size; first | (simp; done) | (simp; omega) | omega) _ | with_reducible refine Below.setCell ?_ (by first | (simp; done) | (simp; omega) | omega) _)) (base := w.heap.size) hg (by simp; omega) (fun q hq => by have := (Ho.lt q hq).1; omega)
        have hP : Below (w.heap.size + 1) w11 w12 := below_grownX ((Below.refl (w.heap.size + 1) w11).alloc (by omega) _) hg (by simp; omega) (fun q hq => (Ho.lt q hq).1)
        replace P_0 := (hP.cell (p := ⟨w.heap.size, 0, none⟩) (by simp)).trans P_0
        replace P_1 := (hP.cell (p := ⟨w.heap.size, 1, none⟩) (by simp)).trans P_1
        go_wp2_with fail
        go_roundw
        case rel => exact ⟨k + 1, by omega, by go_num, (by repeat' (first | with_reducible exact hb12 | with_reducible refine Below.drew ?_ | with_reducible refine below_drewN ?_ _ | with_reducible refine Below.alloc ?_ (by have := hb12.size; first | (simp; done) | (simp; omega) | omega) _ | with_reducible refine Below.setCell ?_ (by first | (simp; done) | (simp; omega) | omega) _)), ⟨by go_simp, by go_simp⟩, a3, c3, by rw [hrs]; simp, hid (by rw [hrs]; simpa using hown3)⟩
        case measure => simp [intOf]; omega
      · have hrs : runs l a (k + 1) = runs l a k := by rw [runs_succ, if_neg hcan]
        have hcan : can l a k = false := by simpa using hcan
        have H_hcan := hid hcan
        clear hcan
        have Ho := Hown.out
        clear Hown
        have P_l : w.heap.size < wr.heap.size := by have := World.block_lt_of_cell? _ _ P_0; simpa using this
        go_wp2_with fail
        refine (rcan_any l a la aa lc ac k _ (hl.later hbw) (ha.later hbw) hlt H_hlen.out ⟨v2, v3⟩ v1).mono ?_
        rintro e w11 ⟨rfl, hc11⟩
        have hb11 : Below w.heap.size w w11 := bchain (by repeat' (first | with_reducible exact hbw | with_reducible refine Below.drew ?_ | with_reducible refine below_drewN ?_ _ | with_reducible refine Below.alloc ?_ (by have := hbw.size; first | (simp; done) | (simp; omega) | omega) _ | with_reducible refine Below.setCell ?_ (by first | (simp; done) | (simp; omega) | omega) _)) hc11
        have hst11 : Below wr.heap.size wr w11 := bchain (by repeat' (first | with_reducible exact Below.refl _ _ | with_reducible refine Below.drew ?_ | with_reducible refine below_drewN ?_ _ | with_reducible refine Below.alloc ?_ (by first | (simp; done) | (simp; omega) | omega) _ | with_reducible refine Below.setCell ?_ (by first | (simp; done) | (simp; omega) | omega) _)) hc11
        replace P_0 := cell_later hst11 P_0
        replace P_1 := cell_later hst11 P_1
        replace P_l := Nat.lt_of_lt_of_le P_l hst11.size
        replace Ho := Ho.later hst11
        clear hst11
        clear hc11 hbw
        rw [H_hcan.out]
        go_wp2_with fail
        go_roundw
        case rel => exact ⟨k + 1, by omega, by go_num, (by repeat' (first | with_reducible exact hb11 | with_reducible refine Below.drew ?_ | with_reducible refine below_drewN ?_ _ | with_reducible refine Below.alloc ?_ (by have := hb11.size; first | (simp; done) | (simp; omega) | omega) _ | with_reducible refine Below.setCell ?_ (by first | (simp; done) | (simp; omega) | omega) _)), ⟨by go_simp, by go_simp⟩, oa, oc, by rw [hrs], hid (by rw [hrs]; exact Ho)⟩
        case measure => simp [intOf]; omega
    · obtain rfl : k = l.length := by omega
      go_wp2_with fail
      go_ret; exact ⟨oa, oc, rfl, Hown.out.mono (by omega), (by repeat' (first | with_reducible exact hbw | with_reducible refine Below.drew ?_ | with_reducible refine below_drewN ?_ _ | with_reducible refine Below.alloc ?_ (by have := hbw.size; first | (simp; done) | (simp; omega) | omega) _ | with_reducible refine Below.setCell ?_ (by first | (simp; done) | (simp; omega) | omega) _))⟩


end Go.Proofs.Ytoelndaeemlefaa
