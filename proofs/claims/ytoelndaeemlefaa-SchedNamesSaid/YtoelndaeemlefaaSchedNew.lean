/- What New returns. -/
import Derived.Test.YtoelndaeemlefaaSchedTwin
namespace Go.Proofs.Ytoelndaeemlefaa
set_option linter.unusedSimpArgs false
set_option linter.unusedVariables false
set_option linter.unnecessarySimpa false
open Go.RowKit

set_option maxHeartbeats 4000000 in
theorem new_any (l a : List Int) (la aa : Option Addr) (lc ac : Nat) (w : World) (hl : CellsAt w la (l.map (Value.int .i64))) (ha : CellsAt w aa (a.map (Value.int .i64))) (hbl : l.length ≤ 17592186044415) (hba : a.length ≤ 17592186044415) :
    Calls Try.prog 11 #[.slice la l.length lc, .slice aa a.length ac] w fun e w' =>
      TkRet w' e (tkNew l a) ∧ Below w.heap.size w w' := by
  have hml : l.length ≤ maxLen := by unfold maxLen; omega
  rcases tErr_cases l a with h8 | h8
  · have he : (((l, a), 0) : (List Int × List Int) × Int) = tkNew l a := by simp [tkNew, h8]
    have H_he := hid he
    have H_h8 := hid h8
    clear he h8
    go_enter Try.func11, Try.ntmps11
    have hb0 := Below.refl w.heap.size w
    go_wp2_with fail
    refine (cloneI_any la l.length lc l _ rfl (hl.alloc _) hbl).mono ?_
    rintro e w1 ⟨a1, c1, rfl, o1, hc1⟩
    have hb1 : Below w.heap.size w w1 := bchain (by repeat' (first | with_reducible exact hb0 | with_reducible refine Below.drew ?_ | with_reducible refine below_drewN ?_ _ | with_reducible refine Below.alloc ?_ (by have := hb0.size; first | (simp; done) | (simp; omega) | omega) _ | with_reducible refine Below.setCell ?_ (by first | (simp; done) | (simp; omega) | omega) _)) hc1
    have O_0 : w1.cell? ⟨w.heap.size, 0, none⟩ = some (.slice none 0 0) := (hc1.cell (p := ⟨w.heap.size, 0, none⟩) (by first | (simp; done) | (simp; omega))).trans (by first | (simp; done) | go_simp)
    have O_1 : w1.cell? ⟨w.heap.size, 1, none⟩ = some (.slice none 0 0) := (hc1.cell (p := ⟨w.heap.size, 1, none⟩) (by first | (simp; done) | (simp; omega))).trans (by first | (simp; done) | go_simp)
    have O_f0 : w1.frozen? ⟨w.heap.size, 0, none⟩ = false := (hc1.frozen (p := ⟨w.heap.size, 0, none⟩) (by first | (simp; done) | (simp; omega))).trans (by first | (simp; done) | go_simp)
    have O_f1 : w1.frozen? ⟨w.heap.size, 1, none⟩ = false := (hc1.frozen (p := ⟨w.heap.size, 1, none⟩) (by first | (simp; done) | (simp; omega))).trans (by first | (simp; done) | go_simp)
    have O_l : w.heap.size < w1.heap.size := Nat.lt_of_lt_of_le (by first | (simp; done) | (simp; omega)) hc1.size
    clear hc1 hb0
    have k1 := o1.cellsAt
    have f1 := o1.addr
    have z1 := O_l
    clear o1
    go_wp2_with fail
    refine (cloneI_any aa a.length ac a _ rfl (ha.later hb1) hba).mono ?_
    rintro e w2 ⟨a2, c2, rfl, o2, hc2⟩
    have hb2 : Below w.heap.size w w2 := bchain (by repeat' (first | with_reducible exact hb1 | with_reducible refine Below.drew ?_ | with_reducible refine below_drewN ?_ _ | with_reducible refine Below.alloc ?_ (by have := hb1.size; first | (simp; done) | (simp; omega) | omega) _ | with_reducible refine Below.setCell ?_ (by first | (simp; done) | (simp; omega) | omega) _)) hc2
    have hst2 : Below w1.heap.size w1 w2 := bchain (by repeat' (first | with_reducible exact Below.refl _ _ | with_reducible refine Below.drew ?_ | with_reducible refine below_drewN ?_ _ | with_reducible refine Below.alloc ?_ (by first | (simp; done) | (simp; omega) | omega) _ | with_reducible refine Below.setCell ?_ (by first | (simp; done) | (simp; omega) | omega) _)) hc2
    replace O_0 := cell_later hst2 O_0
    replace O_1 := cell_later hst2 O_1
    replace O_f0 := frozen_later hst2 O_l O_f0
    replace O_f1 := frozen_later hst2 O_l O_f1
    replace O_l := Nat.lt_of_lt_of_le O_l hst2.size
    replace k1 := k1.later hst2
    clear hst2
    clear hc2 hb1
    have k2 := o2.cellsAt
    have f2 := o2.addr
    have z2 := hb2.size
    clear o2
    go_wp2_with fail
    refine (tcheck_any l a a1 a2 c1 c2 _ (k1.alloc _) (k2.alloc _) hml).mono ?_
    rintro e w3 ⟨rfl, hc3⟩
    have hb3 : Below w.heap.size w w3 := bchain (by repeat' (first | with_reducible exact hb2 | with_reducible refine Below.drew ?_ | with_reducible refine below_drewN ?_ _ | with_reducible refine Below.alloc ?_ (by have := hb2.size; first | (simp; done) | (simp; omega) | omega) _ | with_reducible refine Below.setCell ?_ (by first | (simp; done) | (simp; omega) | omega) _)) hc3
    have hst3 : Below w2.heap.size w2 w3 := bchain (by repeat' (first | with_reducible exact Below.refl _ _ | with_reducible refine Below.drew ?_ | with_reducible refine below_drewN ?_ _ | with_reducible refine Below.alloc ?_ (by first | (simp; done) | (simp; omega) | omega) _ | with_reducible refine Below.setCell ?_ (by first | (simp; done) | (simp; omega) | omega) _)) hc3
    replace O_0 := cell_later hst3 O_0
    replace O_1 := cell_later hst3 O_1
    replace O_f0 := frozen_later hst3 O_l O_f0
    replace O_f1 := frozen_later hst3 O_l O_f1
    replace O_l := Nat.lt_of_lt_of_le O_l hst3.size
    have T_0 : w3.cell? ⟨w2.heap.size, 0, none⟩ = some (.slice a1 l.length c1) := (hc3.cell (p := ⟨w2.heap.size, 0, none⟩) (by first | (simp; done) | (simp; omega))).trans (by first | (simp; done) | go_simp)
    have T_1 : w3.cell? ⟨w2.heap.size, 1, none⟩ = some (.slice a2 a.length c2) := (hc3.cell (p := ⟨w2.heap.size, 1, none⟩) (by first | (simp; done) | (simp; omega))).trans (by first | (simp; done) | go_simp)
    have T_l : w2.heap.size < w3.heap.size := Nat.lt_of_lt_of_le (by first | (simp; done) | (simp; omega)) hc3.size
    replace k1 := k1.later hst3
    replace k2 := k2.later hst3
    clear hst3
    clear hc3 hb2
    rw [H_h8.out]
    go_wp2_with fail
    have p1 : ∀ ad, a1 = some ad → ad.block ≠ w.heap.size := fun ad e => by have := (f1 ad e).1; simp at this; omega
    have p2 : ∀ ad, a2 = some ad → ad.block ≠ w.heap.size := fun ad e => by have := (f2 ad e).1; have := z1; omega
    exact bodyPost_ret (v := .tuple #[.agg #[.slice a1 l.length c1, .slice a2 a.length c2], .int .i64 0]) (by simp [results, Try.results11, go_sem, *]) rfl ⟨TkRet.of ⟨_, _, _, _, rfl, (by repeat' (first | with_reducible exact k1 | with_reducible refine CellsAt.setFarG ?_ ?_ _ | with_reducible refine CellsAt.alloc ?_ _ | with_reducible refine CellsAt.drew ?_ | with_reducible refine CellsAt.drewN ?_ _ | exact p1)), (by repeat' (first | with_reducible exact k2 | with_reducible refine CellsAt.setFarG ?_ ?_ _ | with_reducible refine CellsAt.alloc ?_ _ | with_reducible refine CellsAt.drew ?_ | with_reducible refine CellsAt.drewN ?_ _ | exact p2))⟩ H_he.out, (by repeat' (first | with_reducible exact hb3 | with_reducible refine Below.drew ?_ | with_reducible refine below_drewN ?_ _ | with_reducible refine Below.alloc ?_ (by have := hb3.size; first | (simp; done) | (simp; omega) | omega) _ | with_reducible refine Below.setCell ?_ (by first | (simp; done) | (simp; omega) | omega) _))⟩
  · have he : ((([], []), 8) : (List Int × List Int) × Int) = tkNew l a := by simp [tkNew, h8]
    have H_he := hid he
    have H_h8 := hid h8
    clear he h8
    go_enter Try.func11, Try.ntmps11
    have hb0 := Below.refl w.heap.size w
    go_wp2_with fail
    refine (cloneI_any la l.length lc l _ rfl (hl.alloc _) hbl).mono ?_
    rintro e w1 ⟨a1, c1, rfl, o1, hc1⟩
    have hb1 : Below w.heap.size w w1 := bchain (by repeat' (first | with_reducible exact hb0 | with_reducible refine Below.drew ?_ | with_reducible refine below_drewN ?_ _ | with_reducible refine Below.alloc ?_ (by have := hb0.size; first | (simp; done) | (simp; omega) | omega) _ | with_reducible refine Below.setCell ?_ (by first | (simp; done) | (simp; omega) | omega) _)) hc1
    have O_0 : w1.cell? ⟨w.heap.size, 0, none⟩ = some (.slice none 0 0) := (hc1.cell (p := ⟨w.heap.size, 0, none⟩) (by first | (simp; done) | (simp; omega))).trans (by first | (simp; done) | go_simp)
    have O_1 : w1.cell? ⟨w.heap.size, 1, none⟩ = some (.slice none 0 0) := (hc1.cell (p := ⟨w.heap.size, 1, none⟩) (by first | (simp; done) | (simp; omega))).trans (by first | (simp; done) | go_simp)
    have O_f0 : w1.frozen? ⟨w.heap.size, 0, none⟩ = false := (hc1.frozen (p := ⟨w.heap.size, 0, none⟩) (by first | (simp; done) | (simp; omega))).trans (by first | (simp; done) | go_simp)
    have O_f1 : w1.frozen? ⟨w.heap.size, 1, none⟩ = false := (hc1.frozen (p := ⟨w.heap.size, 1, none⟩) (by first | (simp; done) | (simp; omega))).trans (by first | (simp; done) | go_simp)
    have O_l : w.heap.size < w1.heap.size := Nat.lt_of_lt_of_le (by first | (simp; done) | (simp; omega)) hc1.size
    clear hc1 hb0
    have k1 := o1.cellsAt
    have f1 := o1.addr
    have z1 := O_l
    clear o1
    go_wp2_with fail
    refine (cloneI_any aa a.length ac a _ rfl (ha.later hb1) hba).mono ?_
    rintro e w2 ⟨a2, c2, rfl, o2, hc2⟩
    have hb2 : Below w.heap.size w w2 := bchain (by repeat' (first | with_reducible exact hb1 | with_reducible refine Below.drew ?_ | with_reducible refine below_drewN ?_ _ | with_reducible refine Below.alloc ?_ (by have := hb1.size; first | (simp; done) | (simp; omega) | omega) _ | with_reducible refine Below.setCell ?_ (by first | (simp; done) | (simp; omega) | omega) _)) hc2
    have hst2 : Below w1.heap.size w1 w2 := bchain (by repeat' (first | with_reducible exact Below.refl _ _ | with_reducible refine Below.drew ?_ | with_reducible refine below_drewN ?_ _ | with_reducible refine Below.alloc ?_ (by first | (simp; done) | (simp; omega) | omega) _ | with_reducible refine Below.setCell ?_ (by first | (simp; done) | (simp; omega) | omega) _)) hc2
    replace O_0 := cell_later hst2 O_0
    replace O_1 := cell_later hst2 O_1
    replace O_f0 := frozen_later hst2 O_l O_f0
    replace O_f1 := frozen_later hst2 O_l O_f1
    replace O_l := Nat.lt_of_lt_of_le O_l hst2.size
    replace k1 := k1.later hst2
    clear hst2
    clear hc2 hb1
    have k2 := o2.cellsAt
    have f2 := o2.addr
    have z2 := hb2.size
    clear o2
    go_wp2_with fail
    refine (tcheck_any l a a1 a2 c1 c2 _ (k1.alloc _) (k2.alloc _) hml).mono ?_
    rintro e w3 ⟨rfl, hc3⟩
    have hb3 : Below w.heap.size w w3 := bchain (by repeat' (first | with_reducible exact hb2 | with_reducible refine Below.drew ?_ | with_reducible refine below_drewN ?_ _ | with_reducible refine Below.alloc ?_ (by have := hb2.size; first | (simp; done) | (simp; omega) | omega) _ | with_reducible refine Below.setCell ?_ (by first | (simp; done) | (simp; omega) | omega) _)) hc3
    have hst3 : Below w2.heap.size w2 w3 := bchain (by repeat' (first | with_reducible exact Below.refl _ _ | with_reducible refine Below.drew ?_ | with_reducible refine below_drewN ?_ _ | with_reducible refine Below.alloc ?_ (by first | (simp; done) | (simp; omega) | omega) _ | with_reducible refine Below.setCell ?_ (by first | (simp; done) | (simp; omega) | omega) _)) hc3
    replace O_0 := cell_later hst3 O_0
    replace O_1 := cell_later hst3 O_1
    replace O_f0 := frozen_later hst3 O_l O_f0
    replace O_f1 := frozen_later hst3 O_l O_f1
    replace O_l := Nat.lt_of_lt_of_le O_l hst3.size
    have T_0 : w3.cell? ⟨w2.heap.size, 0, none⟩ = some (.slice a1 l.length c1) := (hc3.cell (p := ⟨w2.heap.size, 0, none⟩) (by first | (simp; done) | (simp; omega))).trans (by first | (simp; done) | go_simp)
    have T_1 : w3.cell? ⟨w2.heap.size, 1, none⟩ = some (.slice a2 a.length c2) := (hc3.cell (p := ⟨w2.heap.size, 1, none⟩) (by first | (simp; done) | (simp; omega))).trans (by first | (simp; done) | go_simp)
    have T_l : w2.heap.size < w3.heap.size := Nat.lt_of_lt_of_le (by first | (simp; done) | (simp; omega)) hc3.size
    replace k1 := k1.later hst3
    replace k2 := k2.later hst3
    clear hst3
    clear hc3 hb2
    rw [H_h8.out]
    go_wp2_with fail
    exact bodyPost_ret (v := .tuple #[.agg #[.slice none 0 0, .slice none 0 0], .int .i64 8]) (by simp [results, Try.results11, go_sem, *]) rfl ⟨TkRet.of ⟨_, _, _, _, rfl, .inl rfl, .inl rfl⟩ H_he.out, (by repeat' (first | with_reducible exact hb3 | with_reducible refine Below.drew ?_ | with_reducible refine below_drewN ?_ _ | with_reducible refine Below.alloc ?_ (by have := hb3.size; first | (simp; done) | (simp; omega) | omega) _ | with_reducible refine Below.setCell ?_ (by first | (simp; done) | (simp; omega) | omega) _))⟩

end Go.Proofs.Ytoelndaeemlefaa
