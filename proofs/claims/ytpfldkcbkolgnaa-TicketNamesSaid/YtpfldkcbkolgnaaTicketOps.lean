/- What New, Take, Put, Pop and Drain return. -/
import Derived.Test.YtpfldkcbkolgnaaTicketDk
import Derived.Test.YtpfldkcbkolgnaaTicketCheck
import Derived.Test.YtpfldkcbkolgnaaTicketIns
import Derived.Test.YtpfldkcbkolgnaaTicketSearch
namespace Go.Proofs.Ytpfldkcbkolgnaa
set_option linter.unusedSimpArgs false
set_option linter.unusedVariables false
set_option linter.unnecessarySimpa false
open Go.RowKit

theorem dcheck0 (g o r : Int) (a : Option Addr) (c : Nat) (w : World) :
    Calls Try.prog 24 #[.agg #[.int .i64 g, .int .i64 o, .int .i64 r, .slice a 0 c]] w fun e w' =>
      e = .returned (.int .i64 (dErr g o r [])) ∧ Below w.heap.size w w' := dcheck_any g o r [] a c w (.inl rfl) (Nat.zero_le _)
set_option maxHeartbeats 1000000 in
theorem dnew_any (n : Int) (w : World) :
    Calls Try.prog 15 #[.int .i64 n] w fun e w' =>
      RetD w.heap.size w' e (dNew n) ∧ Below w.heap.size w w' := by
  by_cases h1 : n < 1
  · have he : (Dk.zero, (2 : Int)) = dNew n := by unfold dNew; rw [if_neg (by omega)]
    have H_he := hid he
    clear he
    go_enter Try.func15, Try.ntmps15
    have hb0 := Below.refl w.heap.size w
    go_wp2_with fail
    exact bodyPost_ret (v := .tuple #[.agg #[.int .i64 0, .int .i64 0, .int .i64 0, .slice none 0 0], .int .i64 2]) (by simp [results, Try.results15, go_sem, *]) rfl ⟨RetD.of ⟨_, _, rfl, .inl rfl, fresh_none _⟩ H_he.out, (by repeat' (first | with_reducible exact hb0 | with_reducible refine Below.drew ?_ | with_reducible refine below_drewN ?_ _ | with_reducible refine Below.alloc ?_ (by have := hb0.size; first | (simp; done) | (simp; omega) | omega) _ | with_reducible refine Below.setCell ?_ (by first | (simp; done) | (simp; omega) | omega) _))⟩
  by_cases h2 : 16 < n
  · have he : (Dk.zero, (2 : Int)) = dNew n := by unfold dNew; rw [if_neg (by omega)]
    have H_he := hid he
    clear he
    go_enter Try.func15, Try.ntmps15
    have hb0 := Below.refl w.heap.size w
    go_wp2_with fail
    exact bodyPost_ret (v := .tuple #[.agg #[.int .i64 0, .int .i64 0, .int .i64 0, .slice none 0 0], .int .i64 2]) (by simp [results, Try.results15, go_sem, *]) rfl ⟨RetD.of ⟨_, _, rfl, .inl rfl, fresh_none _⟩ H_he.out, (by repeat' (first | with_reducible exact hb0 | with_reducible refine Below.drew ?_ | with_reducible refine below_drewN ?_ _ | with_reducible refine Below.alloc ?_ (by have := hb0.size; first | (simp; done) | (simp; omega) | omega) _ | with_reducible refine Below.setCell ?_ (by first | (simp; done) | (simp; omega) | omega) _))⟩
  · have he : ((⟨0, 0, n, []⟩, (0 : Int)) : Dk × Int) = dNew n := by unfold dNew; rw [if_pos (by omega)]
    have H_he := hid he
    clear he
    go_enter Try.func15, Try.ntmps15
    have hb0 := Below.refl w.heap.size w
    go_wp2_with fail
    exact bodyPost_ret (v := .tuple #[.agg #[.int .i64 0, .int .i64 0, .int .i64 n, .slice none 0 0], .int .i64 0]) (by simp [results, Try.results15, go_sem, *]) rfl ⟨RetD.of ⟨_, _, rfl, .inl rfl, fresh_none _⟩ H_he.out, (by repeat' (first | with_reducible exact hb0 | with_reducible refine Below.drew ?_ | with_reducible refine below_drewN ?_ _ | with_reducible refine Below.alloc ?_ (by have := hb0.size; first | (simp; done) | (simp; omega) | omega) _ | with_reducible refine Below.setCell ?_ (by first | (simp; done) | (simp; omega) | omega) _))⟩


set_option maxHeartbeats 1000000 in
theorem dtake_any (g o r : Int) (hs : Slips) (a : Option Addr) (c : Nat) (w : World) (hc : CellsAt w a (cel hs)) (hb : hs.length ≤ 8796093022206) :
    Calls Try.prog 17 #[.agg #[.int .i64 g, .int .i64 o, .int .i64 r, .slice a hs.length c]] w fun e w' =>
      RetDI w.heap.size w' e (dTake ⟨g, o, r, hs⟩) ∧ Below w.heap.size w w' := by
  have Hml := hid (show hs.length ≤ maxLen from by unfold maxLen; omega)
  rcases dErr_cases g o r hs with h8 | h8
  · by_cases hg : g = 1000000000
    · subst hg
      have he : (Dk.zero, (0 : Int), (18 : Int)) = dTake ⟨1000000000, o, r, hs⟩ := by unfold dTake Dk.err; rw [if_pos h8, if_pos rfl]
      have H_he := hid he
      have H_h8 := hid h8
      clear he h8
      go_enter Try.func17, Try.ntmps17
      have hb0 := Below.refl w.heap.size w
      go_wp2_with fail
      with_reducible refine (dcheck_any 1000000000 o r hs a c _ ((hc.alloc _).alloc _) Hml.out).mono ?_
      rintro e w1 ⟨rfl, hc1⟩
      have hb1 : Below w.heap.size w w1 := bchain (by repeat' (first | with_reducible exact hb0 | with_reducible refine Below.drew ?_ | with_reducible refine below_drewN ?_ _ | with_reducible refine Below.alloc ?_ (by have := hb0.size; first | (simp; done) | (simp; omega) | omega) _ | with_reducible refine Below.setCell ?_ (by first | (simp; done) | (simp; omega) | omega) _)) hc1
      have hst1 : Below w.heap.size w w1 := bchain (by repeat' (first | with_reducible exact Below.refl _ _ | with_reducible refine Below.drew ?_ | with_reducible refine below_drewN ?_ _ | with_reducible refine Below.alloc ?_ (by first | (simp; done) | (simp; omega) | omega) _ | with_reducible refine Below.setCell ?_ (by first | (simp; done) | (simp; omega) | omega) _)) hc1
      have D_0 : w1.cell? ⟨w.heap.size, 0, none⟩ = some (.int .i64 1000000000) := (hc1.cell (p := ⟨w.heap.size, 0, none⟩) (by first | (simp; done) | (simp; omega))).trans (by first | (simp; done) | go_simp)
      have D_1 : w1.cell? ⟨w.heap.size, 1, none⟩ = some (.int .i64 o) := (hc1.cell (p := ⟨w.heap.size, 1, none⟩) (by first | (simp; done) | (simp; omega))).trans (by first | (simp; done) | go_simp)
      have D_2 : w1.cell? ⟨w.heap.size, 2, none⟩ = some (.int .i64 r) := (hc1.cell (p := ⟨w.heap.size, 2, none⟩) (by first | (simp; done) | (simp; omega))).trans (by first | (simp; done) | go_simp)
      have D_3 : w1.cell? ⟨w.heap.size, 3, none⟩ = some (.slice a hs.length c) := (hc1.cell (p := ⟨w.heap.size, 3, none⟩) (by first | (simp; done) | (simp; omega))).trans (by first | (simp; done) | go_simp)
      have D_l : w.heap.size < w1.heap.size := Nat.lt_of_lt_of_le (by first | (simp; done) | (simp; omega)) hc1.size
      have E_0 : w1.cell? ⟨w.heap.size + 1, 0, none⟩ = some (.int .i64 0) := (hc1.cell (p := ⟨w.heap.size + 1, 0, none⟩) (by first | (simp; done) | (simp; omega))).trans (by first | (simp; done) | go_simp)
      have E_1 : w1.cell? ⟨w.heap.size + 1, 1, none⟩ = some (.int .i64 0) := (hc1.cell (p := ⟨w.heap.size + 1, 1, none⟩) (by first | (simp; done) | (simp; omega))).trans (by first | (simp; done) | go_simp)
      have E_2 : w1.cell? ⟨w.heap.size + 1, 2, none⟩ = some (.int .i64 0) := (hc1.cell (p := ⟨w.heap.size + 1, 2, none⟩) (by first | (simp; done) | (simp; omega))).trans (by first | (simp; done) | go_simp)
      have E_3 : w1.cell? ⟨w.heap.size + 1, 3, none⟩ = some (.slice none 0 0) := (hc1.cell (p := ⟨w.heap.size + 1, 3, none⟩) (by first | (simp; done) | (simp; omega))).trans (by first | (simp; done) | go_simp)
      have E_f0 : w1.frozen? ⟨w.heap.size + 1, 0, none⟩ = false := (hc1.frozen (p := ⟨w.heap.size + 1, 0, none⟩) (by first | (simp; done) | (simp; omega))).trans (by first | (simp; done) | go_simp)
      have E_f1 : w1.frozen? ⟨w.heap.size + 1, 1, none⟩ = false := (hc1.frozen (p := ⟨w.heap.size + 1, 1, none⟩) (by first | (simp; done) | (simp; omega))).trans (by first | (simp; done) | go_simp)
      have E_f2 : w1.frozen? ⟨w.heap.size + 1, 2, none⟩ = false := (hc1.frozen (p := ⟨w.heap.size + 1, 2, none⟩) (by first | (simp; done) | (simp; omega))).trans (by first | (simp; done) | go_simp)
      have E_f3 : w1.frozen? ⟨w.heap.size + 1, 3, none⟩ = false := (hc1.frozen (p := ⟨w.heap.size + 1, 3, none⟩) (by first | (simp; done) | (simp; omega))).trans (by first | (simp; done) | go_simp)
      have E_l : w.heap.size + 1 < w1.heap.size := Nat.lt_of_lt_of_le (by first | (simp; done) | (simp; omega)) hc1.size
      replace hc := hc.later hst1
      clear hst1
      clear hc1 hb0
      rw [H_h8.out]
      have z1 := E_l
      go_wp2_with fail
      exact bodyPost_ret (v := .tuple #[.agg #[.int .i64 0, .int .i64 0, .int .i64 0, .slice none 0 0], .int .i64 0, .int .i64 18]) (by simp [results, Try.results17, go_sem, *]) rfl ⟨RetDI.of ⟨_, _, rfl, .inl rfl, fresh_none _⟩ H_he.out, (by repeat' (first | with_reducible exact hb1 | with_reducible refine Below.drew ?_ | with_reducible refine below_drewN ?_ _ | with_reducible refine Below.alloc ?_ (by have := hb1.size; first | (simp; done) | (simp; omega) | omega) _ | with_reducible refine Below.setCell ?_ (by first | (simp; done) | (simp; omega) | omega) _))⟩
    · have he : ((⟨g + 1, o, r, hs⟩, g, (0 : Int)) : Dk × Int × Int) = dTake ⟨g, o, r, hs⟩ := by unfold dTake Dk.err; rw [if_pos h8, if_neg hg]
      have hg1 := (DV.of h8).o1
      have hg2 := (DV.of h8).o2
      have hg3 := (DV.of h8).g1
      have H_he := hid he
      have H_h8 := hid h8
      clear he h8
      go_enter Try.func17, Try.ntmps17
      have hb0 := Below.refl w.heap.size w
      go_wp2_with fail
      with_reducible refine (dcheck_any g o r hs a c _ ((hc.alloc _).alloc _) Hml.out).mono ?_
      rintro e w1 ⟨rfl, hc1⟩
      have hb1 : Below w.heap.size w w1 := bchain (by repeat' (first | with_reducible exact hb0 | with_reducible refine Below.drew ?_ | with_reducible refine below_drewN ?_ _ | with_reducible refine Below.alloc ?_ (by have := hb0.size; first | (simp; done) | (simp; omega) | omega) _ | with_reducible refine Below.setCell ?_ (by first | (simp; done) | (simp; omega) | omega) _)) hc1
      have hst1 : Below w.heap.size w w1 := bchain (by repeat' (first | with_reducible exact Below.refl _ _ | with_reducible refine Below.drew ?_ | with_reducible refine below_drewN ?_ _ | with_reducible refine Below.alloc ?_ (by first | (simp; done) | (simp; omega) | omega) _ | with_reducible refine Below.setCell ?_ (by first | (simp; done) | (simp; omega) | omega) _)) hc1
      have D_0 : w1.cell? ⟨w.heap.size, 0, none⟩ = some (.int .i64 g) := (hc1.cell (p := ⟨w.heap.size, 0, none⟩) (by first | (simp; done) | (simp; omega))).trans (by first | (simp; done) | go_simp)
      have D_1 : w1.cell? ⟨w.heap.size, 1, none⟩ = some (.int .i64 o) := (hc1.cell (p := ⟨w.heap.size, 1, none⟩) (by first | (simp; done) | (simp; omega))).trans (by first | (simp; done) | go_simp)
      have D_2 : w1.cell? ⟨w.heap.size, 2, none⟩ = some (.int .i64 r) := (hc1.cell (p := ⟨w.heap.size, 2, none⟩) (by first | (simp; done) | (simp; omega))).trans (by first | (simp; done) | go_simp)
      have D_3 : w1.cell? ⟨w.heap.size, 3, none⟩ = some (.slice a hs.length c) := (hc1.cell (p := ⟨w.heap.size, 3, none⟩) (by first | (simp; done) | (simp; omega))).trans (by first | (simp; done) | go_simp)
      have D_l : w.heap.size < w1.heap.size := Nat.lt_of_lt_of_le (by first | (simp; done) | (simp; omega)) hc1.size
      have E_0 : w1.cell? ⟨w.heap.size + 1, 0, none⟩ = some (.int .i64 0) := (hc1.cell (p := ⟨w.heap.size + 1, 0, none⟩) (by first | (simp; done) | (simp; omega))).trans (by first | (simp; done) | go_simp)
      have E_1 : w1.cell? ⟨w.heap.size + 1, 1, none⟩ = some (.int .i64 0) := (hc1.cell (p := ⟨w.heap.size + 1, 1, none⟩) (by first | (simp; done) | (simp; omega))).trans (by first | (simp; done) | go_simp)
      have E_2 : w1.cell? ⟨w.heap.size + 1, 2, none⟩ = some (.int .i64 0) := (hc1.cell (p := ⟨w.heap.size + 1, 2, none⟩) (by first | (simp; done) | (simp; omega))).trans (by first | (simp; done) | go_simp)
      have E_3 : w1.cell? ⟨w.heap.size + 1, 3, none⟩ = some (.slice none 0 0) := (hc1.cell (p := ⟨w.heap.size + 1, 3, none⟩) (by first | (simp; done) | (simp; omega))).trans (by first | (simp; done) | go_simp)
      have E_f0 : w1.frozen? ⟨w.heap.size + 1, 0, none⟩ = false := (hc1.frozen (p := ⟨w.heap.size + 1, 0, none⟩) (by first | (simp; done) | (simp; omega))).trans (by first | (simp; done) | go_simp)
      have E_f1 : w1.frozen? ⟨w.heap.size + 1, 1, none⟩ = false := (hc1.frozen (p := ⟨w.heap.size + 1, 1, none⟩) (by first | (simp; done) | (simp; omega))).trans (by first | (simp; done) | go_simp)
      have E_f2 : w1.frozen? ⟨w.heap.size + 1, 2, none⟩ = false := (hc1.frozen (p := ⟨w.heap.size + 1, 2, none⟩) (by first | (simp; done) | (simp; omega))).trans (by first | (simp; done) | go_simp)
      have E_f3 : w1.frozen? ⟨w.heap.size + 1, 3, none⟩ = false := (hc1.frozen (p := ⟨w.heap.size + 1, 3, none⟩) (by first | (simp; done) | (simp; omega))).trans (by first | (simp; done) | go_simp)
      have E_l : w.heap.size + 1 < w1.heap.size := Nat.lt_of_lt_of_le (by first | (simp; done) | (simp; omega)) hc1.size
      replace hc := hc.later hst1
      clear hst1
      clear hc1 hb0
      rw [H_h8.out]
      have z1 := E_l
      go_wp2_with fail
      with_reducible refine (dtwin_any g o r hs a c _ hc (by omega)).mono ?_
      rintro e w2 ⟨a1, c1, rfl, o1, hc2⟩
      have hb2 : Below w.heap.size w w2 := bchain (by repeat' (first | with_reducible exact hb1 | with_reducible refine Below.drew ?_ | with_reducible refine below_drewN ?_ _ | with_reducible refine Below.alloc ?_ (by have := hb1.size; first | (simp; done) | (simp; omega) | omega) _ | with_reducible refine Below.setCell ?_ (by first | (simp; done) | (simp; omega) | omega) _)) hc2
      have hst2 : Below w1.heap.size w1 w2 := bchain (by repeat' (first | with_reducible exact Below.refl _ _ | with_reducible refine Below.drew ?_ | with_reducible refine below_drewN ?_ _ | with_reducible refine Below.alloc ?_ (by first | (simp; done) | (simp; omega) | omega) _ | with_reducible refine Below.setCell ?_ (by first | (simp; done) | (simp; omega) | omega) _)) hc2
      replace D_0 := cell_later hst2 D_0
      replace D_1 := cell_later hst2 D_1
      replace D_2 := cell_later hst2 D_2
      replace D_3 := cell_later hst2 D_3
      replace D_l := Nat.lt_of_lt_of_le D_l hst2.size
      replace E_0 := cell_later hst2 E_0
      replace E_1 := cell_later hst2 E_1
      replace E_2 := cell_later hst2 E_2
      replace E_3 := cell_later hst2 E_3
      replace E_f0 := frozen_later hst2 E_l E_f0
      replace E_f1 := frozen_later hst2 E_l E_f1
      replace E_f2 := frozen_later hst2 E_l E_f2
      replace E_f3 := frozen_later hst2 E_l E_f3
      replace E_l := Nat.lt_of_lt_of_le E_l hst2.size
      replace hc := hc.later hst2
      clear hst2
      clear hc2 hb1
      have k1 := o1.cellsAt
      have p1 : ∀ ad, a1 = some ad → ad.block ≠ w.heap.size + 1 := fun ad e => by have := (o1.addr ad e).1; omega
      have fr1 : Fresh w.heap.size a1 := fun ad e => by have := (o1.addr ad e).1; omega
      clear o1
      go_wp2_with fail
      go_region
      go_wp2_with fail
      exact bodyPost_ret (v := .tuple #[.agg #[.int .i64 (g + 1), .int .i64 o, .int .i64 r, .slice a1 hs.length c1], .int .i64 g, .int .i64 0]) (by simp [results, Try.results17, go_sem, *]) rfl ⟨RetDI.of ⟨_, _, rfl, (by repeat' (first | with_reducible exact k1 | with_reducible refine CellsAt.setFarG ?_ ?_ _ | with_reducible refine CellsAt.alloc ?_ _ | with_reducible refine CellsAt.drew ?_ | with_reducible refine CellsAt.drewN ?_ _ | exact p1)), fr1⟩ H_he.out, (by repeat' (first | with_reducible exact hb2 | with_reducible refine Below.drew ?_ | with_reducible refine below_drewN ?_ _ | with_reducible refine Below.alloc ?_ (by have := hb2.size; first | (simp; done) | (simp; omega) | omega) _ | with_reducible refine Below.setCell ?_ (by first | (simp; done) | (simp; omega) | omega) _))⟩
  · have he : (Dk.zero, (0 : Int), (8 : Int)) = dTake ⟨g, o, r, hs⟩ := by unfold dTake Dk.err; rw [if_neg (by simp only; omega)]
    have H_he := hid he
    have H_h8 := hid h8
    clear he h8
    go_enter Try.func17, Try.ntmps17
    have hb0 := Below.refl w.heap.size w
    go_wp2_with fail
    with_reducible refine (dcheck_any g o r hs a c _ ((hc.alloc _).alloc _) Hml.out).mono ?_
    rintro e w1 ⟨rfl, hc1⟩
    have hb1 : Below w.heap.size w w1 := bchain (by repeat' (first | with_reducible exact hb0 | with_reducible refine Below.drew ?_ | with_reducible refine below_drewN ?_ _ | with_reducible refine Below.alloc ?_ (by have := hb0.size; first | (simp; done) | (simp; omega) | omega) _ | with_reducible refine Below.setCell ?_ (by first | (simp; done) | (simp; omega) | omega) _)) hc1
    have hst1 : Below w.heap.size w w1 := bchain (by repeat' (first | with_reducible exact Below.refl _ _ | with_reducible refine Below.drew ?_ | with_reducible refine below_drewN ?_ _ | with_reducible refine Below.alloc ?_ (by first | (simp; done) | (simp; omega) | omega) _ | with_reducible refine Below.setCell ?_ (by first | (simp; done) | (simp; omega) | omega) _)) hc1
    have D_0 : w1.cell? ⟨w.heap.size, 0, none⟩ = some (.int .i64 g) := (hc1.cell (p := ⟨w.heap.size, 0, none⟩) (by first | (simp; done) | (simp; omega))).trans (by first | (simp; done) | go_simp)
    have D_1 : w1.cell? ⟨w.heap.size, 1, none⟩ = some (.int .i64 o) := (hc1.cell (p := ⟨w.heap.size, 1, none⟩) (by first | (simp; done) | (simp; omega))).trans (by first | (simp; done) | go_simp)
    have D_2 : w1.cell? ⟨w.heap.size, 2, none⟩ = some (.int .i64 r) := (hc1.cell (p := ⟨w.heap.size, 2, none⟩) (by first | (simp; done) | (simp; omega))).trans (by first | (simp; done) | go_simp)
    have D_3 : w1.cell? ⟨w.heap.size, 3, none⟩ = some (.slice a hs.length c) := (hc1.cell (p := ⟨w.heap.size, 3, none⟩) (by first | (simp; done) | (simp; omega))).trans (by first | (simp; done) | go_simp)
    have D_l : w.heap.size < w1.heap.size := Nat.lt_of_lt_of_le (by first | (simp; done) | (simp; omega)) hc1.size
    have E_0 : w1.cell? ⟨w.heap.size + 1, 0, none⟩ = some (.int .i64 0) := (hc1.cell (p := ⟨w.heap.size + 1, 0, none⟩) (by first | (simp; done) | (simp; omega))).trans (by first | (simp; done) | go_simp)
    have E_1 : w1.cell? ⟨w.heap.size + 1, 1, none⟩ = some (.int .i64 0) := (hc1.cell (p := ⟨w.heap.size + 1, 1, none⟩) (by first | (simp; done) | (simp; omega))).trans (by first | (simp; done) | go_simp)
    have E_2 : w1.cell? ⟨w.heap.size + 1, 2, none⟩ = some (.int .i64 0) := (hc1.cell (p := ⟨w.heap.size + 1, 2, none⟩) (by first | (simp; done) | (simp; omega))).trans (by first | (simp; done) | go_simp)
    have E_3 : w1.cell? ⟨w.heap.size + 1, 3, none⟩ = some (.slice none 0 0) := (hc1.cell (p := ⟨w.heap.size + 1, 3, none⟩) (by first | (simp; done) | (simp; omega))).trans (by first | (simp; done) | go_simp)
    have E_f0 : w1.frozen? ⟨w.heap.size + 1, 0, none⟩ = false := (hc1.frozen (p := ⟨w.heap.size + 1, 0, none⟩) (by first | (simp; done) | (simp; omega))).trans (by first | (simp; done) | go_simp)
    have E_f1 : w1.frozen? ⟨w.heap.size + 1, 1, none⟩ = false := (hc1.frozen (p := ⟨w.heap.size + 1, 1, none⟩) (by first | (simp; done) | (simp; omega))).trans (by first | (simp; done) | go_simp)
    have E_f2 : w1.frozen? ⟨w.heap.size + 1, 2, none⟩ = false := (hc1.frozen (p := ⟨w.heap.size + 1, 2, none⟩) (by first | (simp; done) | (simp; omega))).trans (by first | (simp; done) | go_simp)
    have E_f3 : w1.frozen? ⟨w.heap.size + 1, 3, none⟩ = false := (hc1.frozen (p := ⟨w.heap.size + 1, 3, none⟩) (by first | (simp; done) | (simp; omega))).trans (by first | (simp; done) | go_simp)
    have E_l : w.heap.size + 1 < w1.heap.size := Nat.lt_of_lt_of_le (by first | (simp; done) | (simp; omega)) hc1.size
    replace hc := hc.later hst1
    clear hst1
    clear hc1 hb0
    rw [H_h8.out]
    have z1 := E_l
    go_wp2_with fail
    exact bodyPost_ret (v := .tuple #[.agg #[.int .i64 0, .int .i64 0, .int .i64 0, .slice none 0 0], .int .i64 0, .int .i64 8]) (by simp [results, Try.results17, go_sem, *]) rfl ⟨RetDI.of ⟨_, _, rfl, .inl rfl, fresh_none _⟩ H_he.out, (by repeat' (first | with_reducible exact hb1 | with_reducible refine Below.drew ?_ | with_reducible refine below_drewN ?_ _ | with_reducible refine Below.alloc ?_ (by have := hb1.size; first | (simp; done) | (simp; omega) | omega) _ | with_reducible refine Below.setCell ?_ (by first | (simp; done) | (simp; omega) | omega) _))⟩

set_option maxHeartbeats 1000000 in
theorem dpop_any (g o r : Int) (hs : Slips) (a : Option Addr) (c : Nat) (w : World) (hc : CellsAt w a (cel hs)) (hb : hs.length ≤ 8796093022206) :
    Calls Try.prog 21 #[.agg #[.int .i64 g, .int .i64 o, .int .i64 r, .slice a hs.length c]] w fun e w' =>
      RetDS w.heap.size w' e (dPop ⟨g, o, r, hs⟩) ∧ Below w.heap.size w w' := by
  have Hml := hid (show hs.length ≤ maxLen from by unfold maxLen; omega)
  rcases dErr_cases g o r hs with h8 | h8
  · by_cases hh : 0 < hs.length ∧ tg hs 0 = o
    · obtain ⟨h0, ho⟩ := hh
      have he : ((⟨g, o + 1, r, hs.drop 1⟩, (o, wg hs 0), (0 : Int)) : Dk × (Int × Int) × Int) = dPop ⟨g, o, r, hs⟩ := by unfold dPop Dk.err; rw [if_pos h8, if_pos ⟨h0, ho⟩, ho]
      have hg1 := (DV.of h8).o1
      have hg2 := (DV.of h8).o2
      have hg3 := (DV.of h8).g1
      have Ho := hid ho
      clear ho
      obtain ⟨b, oo, rfl, g1, g2, hcell⟩ := hc.slips h0
      obtain ⟨c0, c1⟩ := hcell 0 h0
      clear hcell
      simp only [Nat.zero_mul, Nat.add_zero] at c0 c1
      rw [Ho.out] at c0
      have h0' : (0 : Int) < (hs.length : Int) := by omega
      have hd : ((hs.length : Int) == 0) = false := beq_eq_false_iff_ne.2 (by omega)
      have H_he := hid he
      have H_h8 := hid h8
      clear he h8
      go_enter Try.func21, Try.ntmps21
      have hb0 := Below.refl w.heap.size w
      go_wp2_with fail
      with_reducible refine (dcheck_any g o r hs (some ⟨b, oo, none⟩) c _ (((hc.alloc _).alloc _).alloc _) Hml.out).mono ?_
      rintro e w1 ⟨rfl, hc1⟩
      have hb1 : Below w.heap.size w w1 := bchain (by repeat' (first | with_reducible exact hb0 | with_reducible refine Below.drew ?_ | with_reducible refine below_drewN ?_ _ | with_reducible refine Below.alloc ?_ (by have := hb0.size; first | (simp; done) | (simp; omega) | omega) _ | with_reducible refine Below.setCell ?_ (by first | (simp; done) | (simp; omega) | omega) _)) hc1
      have hst1 : Below w.heap.size w w1 := bchain (by repeat' (first | with_reducible exact Below.refl _ _ | with_reducible refine Below.drew ?_ | with_reducible refine below_drewN ?_ _ | with_reducible refine Below.alloc ?_ (by first | (simp; done) | (simp; omega) | omega) _ | with_reducible refine Below.setCell ?_ (by first | (simp; done) | (simp; omega) | omega) _)) hc1
      have D_0 : w1.cell? ⟨w.heap.size, 0, none⟩ = some (.int .i64 g) := (hc1.cell (p := ⟨w.heap.size, 0, none⟩) (by first | (simp; done) | (simp; omega))).trans (by first | (simp; done) | go_simp)
      have D_1 : w1.cell? ⟨w.heap.size, 1, none⟩ = some (.int .i64 o) := (hc1.cell (p := ⟨w.heap.size, 1, none⟩) (by first | (simp; done) | (simp; omega))).trans (by first | (simp; done) | go_simp)
      have D_2 : w1.cell? ⟨w.heap.size, 2, none⟩ = some (.int .i64 r) := (hc1.cell (p := ⟨w.heap.size, 2, none⟩) (by first | (simp; done) | (simp; omega))).trans (by first | (simp; done) | go_simp)
      have D_3 : w1.cell? ⟨w.heap.size, 3, none⟩ = some (.slice (some ⟨b, oo, none⟩) hs.length c) := (hc1.cell (p := ⟨w.heap.size, 3, none⟩) (by first | (simp; done) | (simp; omega))).trans (by first | (simp; done) | go_simp)
      have D_l : w.heap.size < w1.heap.size := Nat.lt_of_lt_of_le (by first | (simp; done) | (simp; omega)) hc1.size
      have E_0 : w1.cell? ⟨w.heap.size + 1, 0, none⟩ = some (.int .i64 0) := (hc1.cell (p := ⟨w.heap.size + 1, 0, none⟩) (by first | (simp; done) | (simp; omega))).trans (by first | (simp; done) | go_simp)
      have E_1 : w1.cell? ⟨w.heap.size + 1, 1, none⟩ = some (.int .i64 0) := (hc1.cell (p := ⟨w.heap.size + 1, 1, none⟩) (by first | (simp; done) | (simp; omega))).trans (by first | (simp; done) | go_simp)
      have E_2 : w1.cell? ⟨w.heap.size + 1, 2, none⟩ = some (.int .i64 0) := (hc1.cell (p := ⟨w.heap.size + 1, 2, none⟩) (by first | (simp; done) | (simp; omega))).trans (by first | (simp; done) | go_simp)
      have E_3 : w1.cell? ⟨w.heap.size + 1, 3, none⟩ = some (.slice none 0 0) := (hc1.cell (p := ⟨w.heap.size + 1, 3, none⟩) (by first | (simp; done) | (simp; omega))).trans (by first | (simp; done) | go_simp)
      have E_f0 : w1.frozen? ⟨w.heap.size + 1, 0, none⟩ = false := (hc1.frozen (p := ⟨w.heap.size + 1, 0, none⟩) (by first | (simp; done) | (simp; omega))).trans (by first | (simp; done) | go_simp)
      have E_f1 : w1.frozen? ⟨w.heap.size + 1, 1, none⟩ = false := (hc1.frozen (p := ⟨w.heap.size + 1, 1, none⟩) (by first | (simp; done) | (simp; omega))).trans (by first | (simp; done) | go_simp)
      have E_f2 : w1.frozen? ⟨w.heap.size + 1, 2, none⟩ = false := (hc1.frozen (p := ⟨w.heap.size + 1, 2, none⟩) (by first | (simp; done) | (simp; omega))).trans (by first | (simp; done) | go_simp)
      have E_f3 : w1.frozen? ⟨w.heap.size + 1, 3, none⟩ = false := (hc1.frozen (p := ⟨w.heap.size + 1, 3, none⟩) (by first | (simp; done) | (simp; omega))).trans (by first | (simp; done) | go_simp)
      have E_l : w.heap.size + 1 < w1.heap.size := Nat.lt_of_lt_of_le (by first | (simp; done) | (simp; omega)) hc1.size
      have F_0 : w1.cell? ⟨w.heap.size + 1 + 1, 0, none⟩ = some (.int .i64 0) := (hc1.cell (p := ⟨w.heap.size + 1 + 1, 0, none⟩) (by first | (simp; done) | (simp; omega))).trans (by first | (simp; done) | go_simp)
      have F_1 : w1.cell? ⟨w.heap.size + 1 + 1, 1, none⟩ = some (.int .u64 0) := (hc1.cell (p := ⟨w.heap.size + 1 + 1, 1, none⟩) (by first | (simp; done) | (simp; omega))).trans (by first | (simp; done) | go_simp)
      have F_f0 : w1.frozen? ⟨w.heap.size + 1 + 1, 0, none⟩ = false := (hc1.frozen (p := ⟨w.heap.size + 1 + 1, 0, none⟩) (by first | (simp; done) | (simp; omega))).trans (by first | (simp; done) | go_simp)
      have F_f1 : w1.frozen? ⟨w.heap.size + 1 + 1, 1, none⟩ = false := (hc1.frozen (p := ⟨w.heap.size + 1 + 1, 1, none⟩) (by first | (simp; done) | (simp; omega))).trans (by first | (simp; done) | go_simp)
      have F_l : w.heap.size + 1 + 1 < w1.heap.size := Nat.lt_of_lt_of_le (by first | (simp; done) | (simp; omega)) hc1.size
      replace hc := hc.later hst1
      clear hst1
      clear hc1 hb0
      rw [H_h8.out]
      have z1 := E_l
      have z2 := F_l
      replace c0 := cell_later hb1 c0
      go_wp2_with fail
      go_quiet (fail)
      go_wp2_with fail
      go_wp2_with fail
      with_reducible refine (dtwin_any g o r hs (some ⟨b, oo, none⟩) c _ (hc.drewN _) (by omega)).mono ?_
      rintro e w2 ⟨a1, c2, rfl, o1, hc2⟩
      have hb2 : Below w.heap.size w w2 := bchain (by repeat' (first | with_reducible exact hb1 | with_reducible refine Below.drew ?_ | with_reducible refine below_drewN ?_ _ | with_reducible refine Below.alloc ?_ (by have := hb1.size; first | (simp; done) | (simp; omega) | omega) _ | with_reducible refine Below.setCell ?_ (by first | (simp; done) | (simp; omega) | omega) _)) hc2
      have hst2 : Below w1.heap.size w1 w2 := bchain (by repeat' (first | with_reducible exact Below.refl _ _ | with_reducible refine Below.drew ?_ | with_reducible refine below_drewN ?_ _ | with_reducible refine Below.alloc ?_ (by first | (simp; done) | (simp; omega) | omega) _ | with_reducible refine Below.setCell ?_ (by first | (simp; done) | (simp; omega) | omega) _)) hc2
      replace D_0 := cell_later hst2 D_0
      replace D_1 := cell_later hst2 D_1
      replace D_2 := cell_later hst2 D_2
      replace D_3 := cell_later hst2 D_3
      replace D_l := Nat.lt_of_lt_of_le D_l hst2.size
      replace E_0 := cell_later hst2 E_0
      replace E_1 := cell_later hst2 E_1
      replace E_2 := cell_later hst2 E_2
      replace E_3 := cell_later hst2 E_3
      replace E_f0 := frozen_later hst2 E_l E_f0
      replace E_f1 := frozen_later hst2 E_l E_f1
      replace E_f2 := frozen_later hst2 E_l E_f2
      replace E_f3 := frozen_later hst2 E_l E_f3
      replace E_l := Nat.lt_of_lt_of_le E_l hst2.size
      replace F_0 := cell_later hst2 F_0
      replace F_1 := cell_later hst2 F_1
      replace F_f0 := frozen_later hst2 F_l F_f0
      replace F_f1 := frozen_later hst2 F_l F_f1
      replace F_l := Nat.lt_of_lt_of_le F_l hst2.size
      replace hc := hc.later hst2
      clear hst2
      clear hc2 hb1
      have k1 := o1.cellsAt
      have q1 := o1.addr
      obtain ⟨b1, oo1, rfl, y1, y2, hcell⟩ := k1.slips h0
      have p0 := (q1 _ rfl).1
      simp only [World.heap_drewN] at p0
      have Ho1 := hid o1
      obtain ⟨d0, d1⟩ := hcell 0 h0
      clear hcell q1 o1
      simp only [Nat.zero_mul, Nat.add_zero] at d0 d1
      rw [Ho.out] at d0
      have kk : CellsAt w2 (some ⟨b1, oo1 + 2, none⟩) (cel (hs.drop 1)) := by rw [cel_drop]; exact k1.drop 2
      clear k1
      have hlen : hs.length - 1 = (hs.drop 1).length := by rw [List.length_drop]
      have H_hlen := hid hlen
      clear hlen
      by_cases hcap : c2 = 1
      · obtain rfl := hcap
        have hl1 : hs.length ≤ 1 := by obtain ⟨_, _, e0, e1, _⟩ := Ho1.out.cells; cases e0; exact e1
        have kk : CellsAt w2 (some ⟨b1, oo1, none⟩) (cel (hs.drop 1)) := .inl (by rw [List.drop_of_length_le hl1]; rfl)
        have p1 : ∀ ad, (some ⟨b1, oo1, none⟩ : Option Addr) = some ad → ad.block ≠ w.heap.size + 1 := fun ad e => by cases e; simp; omega
        have p2 : ∀ ad, (some ⟨b1, oo1, none⟩ : Option Addr) = some ad → ad.block ≠ w.heap.size + 1 + 1 := fun ad e => by cases e; simp; omega
        go_wp2_with fail
        go_region
        go_wp2_with fail
        exact bodyPost_ret (v := .tuple #[.agg #[.int .i64 g, .int .i64 (o + 1), .int .i64 r, .slice (some ⟨b1, oo1, none⟩) (hs.length - 1) 0], .agg #[.int .i64 o, .int .u64 (wg hs 0)], .int .i64 0]) (by simp [results, Try.results21, go_sem, *]) rfl ⟨RetDS.of (RetDS.mk' H_hlen.out rfl (by repeat' (first | with_reducible exact kk | with_reducible refine CellsAt.setFarG ?_ ?_ _ | with_reducible refine CellsAt.alloc ?_ _ | with_reducible refine CellsAt.drew ?_ | exact p1 | exact p2)) (fun ad e => by cases e; simp; omega)) H_he.out, (by repeat' (first | with_reducible exact hb2 | with_reducible refine Below.drew ?_ | with_reducible refine below_drewN ?_ _ | with_reducible refine Below.alloc ?_ (by have := hb2.size; first | (simp; done) | (simp; omega) | omega) _ | with_reducible refine Below.setCell ?_ (by first | (simp; done) | (simp; omega) | omega) _))⟩
      · have p1 : ∀ ad, (some ⟨b1, oo1 + 2, none⟩ : Option Addr) = some ad → ad.block ≠ w.heap.size + 1 := fun ad e => by cases e; simp; omega
        have p2 : ∀ ad, (some ⟨b1, oo1 + 2, none⟩ : Option Addr) = some ad → ad.block ≠ w.heap.size + 1 + 1 := fun ad e => by cases e; simp; omega
        go_wp2_with fail
        go_region
        go_wp2_with fail
        exact bodyPost_ret (v := .tuple #[.agg #[.int .i64 g, .int .i64 (o + 1), .int .i64 r, .slice (some ⟨b1, oo1 + 2, none⟩) (hs.length - 1) (c2 - 1)], .agg #[.int .i64 o, .int .u64 (wg hs 0)], .int .i64 0]) (by simp [results, Try.results21, go_sem, *]) rfl ⟨RetDS.of (RetDS.mk' H_hlen.out rfl (by repeat' (first | with_reducible exact kk | with_reducible refine CellsAt.setFarG ?_ ?_ _ | with_reducible refine CellsAt.alloc ?_ _ | with_reducible refine CellsAt.drew ?_ | exact p1 | exact p2)) (fun ad e => by cases e; simp; omega)) H_he.out, (by repeat' (first | with_reducible exact hb2 | with_reducible refine Below.drew ?_ | with_reducible refine below_drewN ?_ _ | with_reducible refine Below.alloc ?_ (by have := hb2.size; first | (simp; done) | (simp; omega) | omega) _ | with_reducible refine Below.setCell ?_ (by first | (simp; done) | (simp; omega) | omega) _))⟩
    · have he : (Dk.zero, ((0 : Int), (0 : Int)), (38 : Int)) = dPop ⟨g, o, r, hs⟩ := by unfold dPop Dk.err; rw [if_pos h8, if_neg hh]
      have H_he := hid he
      have H_h8 := hid h8
      clear he h8
      by_cases h0 : 0 < hs.length
      · have hn : ¬ (tg hs 0 = o) := fun h => hh ⟨h0, h⟩
        clear hh
        obtain ⟨b, oo, rfl, g1, g2, hcell⟩ := hc.slips h0
        obtain ⟨c0, c1⟩ := hcell 0 h0
        clear hcell
        simp only [Nat.zero_mul, Nat.add_zero] at c0 c1
        have h0' : (0 : Int) < (hs.length : Int) := by omega
        have hd : ((hs.length : Int) == 0) = false := beq_eq_false_iff_ne.2 (by omega)
        go_enter Try.func21, Try.ntmps21
        have hb0 := Below.refl w.heap.size w
        go_wp2_with fail
        with_reducible refine (dcheck_any g o r hs (some ⟨b, oo, none⟩) c _ (((hc.alloc _).alloc _).alloc _) Hml.out).mono ?_
        rintro e w1 ⟨rfl, hc1⟩
        have hb1 : Below w.heap.size w w1 := bchain (by repeat' (first | with_reducible exact hb0 | with_reducible refine Below.drew ?_ | with_reducible refine below_drewN ?_ _ | with_reducible refine Below.alloc ?_ (by have := hb0.size; first | (simp; done) | (simp; omega) | omega) _ | with_reducible refine Below.setCell ?_ (by first | (simp; done) | (simp; omega) | omega) _)) hc1
        have hst1 : Below w.heap.size w w1 := bchain (by repeat' (first | with_reducible exact Below.refl _ _ | with_reducible refine Below.drew ?_ | with_reducible refine below_drewN ?_ _ | with_reducible refine Below.alloc ?_ (by first | (simp; done) | (simp; omega) | omega) _ | with_reducible refine Below.setCell ?_ (by first | (simp; done) | (simp; omega) | omega) _)) hc1
        have D_0 : w1.cell? ⟨w.heap.size, 0, none⟩ = some (.int .i64 g) := (hc1.cell (p := ⟨w.heap.size, 0, none⟩) (by first | (simp; done) | (simp; omega))).trans (by first | (simp; done) | go_simp)
        have D_1 : w1.cell? ⟨w.heap.size, 1, none⟩ = some (.int .i64 o) := (hc1.cell (p := ⟨w.heap.size, 1, none⟩) (by first | (simp; done) | (simp; omega))).trans (by first | (simp; done) | go_simp)
        have D_2 : w1.cell? ⟨w.heap.size, 2, none⟩ = some (.int .i64 r) := (hc1.cell (p := ⟨w.heap.size, 2, none⟩) (by first | (simp; done) | (simp; omega))).trans (by first | (simp; done) | go_simp)
        have D_3 : w1.cell? ⟨w.heap.size, 3, none⟩ = some (.slice (some ⟨b, oo, none⟩) hs.length c) := (hc1.cell (p := ⟨w.heap.size, 3, none⟩) (by first | (simp; done) | (simp; omega))).trans (by first | (simp; done) | go_simp)
        have D_l : w.heap.size < w1.heap.size := Nat.lt_of_lt_of_le (by first | (simp; done) | (simp; omega)) hc1.size
        have E_0 : w1.cell? ⟨w.heap.size + 1, 0, none⟩ = some (.int .i64 0) := (hc1.cell (p := ⟨w.heap.size + 1, 0, none⟩) (by first | (simp; done) | (simp; omega))).trans (by first | (simp; done) | go_simp)
        have E_1 : w1.cell? ⟨w.heap.size + 1, 1, none⟩ = some (.int .i64 0) := (hc1.cell (p := ⟨w.heap.size + 1, 1, none⟩) (by first | (simp; done) | (simp; omega))).trans (by first | (simp; done) | go_simp)
        have E_2 : w1.cell? ⟨w.heap.size + 1, 2, none⟩ = some (.int .i64 0) := (hc1.cell (p := ⟨w.heap.size + 1, 2, none⟩) (by first | (simp; done) | (simp; omega))).trans (by first | (simp; done) | go_simp)
        have E_3 : w1.cell? ⟨w.heap.size + 1, 3, none⟩ = some (.slice none 0 0) := (hc1.cell (p := ⟨w.heap.size + 1, 3, none⟩) (by first | (simp; done) | (simp; omega))).trans (by first | (simp; done) | go_simp)
        have E_f0 : w1.frozen? ⟨w.heap.size + 1, 0, none⟩ = false := (hc1.frozen (p := ⟨w.heap.size + 1, 0, none⟩) (by first | (simp; done) | (simp; omega))).trans (by first | (simp; done) | go_simp)
        have E_f1 : w1.frozen? ⟨w.heap.size + 1, 1, none⟩ = false := (hc1.frozen (p := ⟨w.heap.size + 1, 1, none⟩) (by first | (simp; done) | (simp; omega))).trans (by first | (simp; done) | go_simp)
        have E_f2 : w1.frozen? ⟨w.heap.size + 1, 2, none⟩ = false := (hc1.frozen (p := ⟨w.heap.size + 1, 2, none⟩) (by first | (simp; done) | (simp; omega))).trans (by first | (simp; done) | go_simp)
        have E_f3 : w1.frozen? ⟨w.heap.size + 1, 3, none⟩ = false := (hc1.frozen (p := ⟨w.heap.size + 1, 3, none⟩) (by first | (simp; done) | (simp; omega))).trans (by first | (simp; done) | go_simp)
        have E_l : w.heap.size + 1 < w1.heap.size := Nat.lt_of_lt_of_le (by first | (simp; done) | (simp; omega)) hc1.size
        have F_0 : w1.cell? ⟨w.heap.size + 1 + 1, 0, none⟩ = some (.int .i64 0) := (hc1.cell (p := ⟨w.heap.size + 1 + 1, 0, none⟩) (by first | (simp; done) | (simp; omega))).trans (by first | (simp; done) | go_simp)
        have F_1 : w1.cell? ⟨w.heap.size + 1 + 1, 1, none⟩ = some (.int .u64 0) := (hc1.cell (p := ⟨w.heap.size + 1 + 1, 1, none⟩) (by first | (simp; done) | (simp; omega))).trans (by first | (simp; done) | go_simp)
        have F_f0 : w1.frozen? ⟨w.heap.size + 1 + 1, 0, none⟩ = false := (hc1.frozen (p := ⟨w.heap.size + 1 + 1, 0, none⟩) (by first | (simp; done) | (simp; omega))).trans (by first | (simp; done) | go_simp)
        have F_f1 : w1.frozen? ⟨w.heap.size + 1 + 1, 1, none⟩ = false := (hc1.frozen (p := ⟨w.heap.size + 1 + 1, 1, none⟩) (by first | (simp; done) | (simp; omega))).trans (by first | (simp; done) | go_simp)
        have F_l : w.heap.size + 1 + 1 < w1.heap.size := Nat.lt_of_lt_of_le (by first | (simp; done) | (simp; omega)) hc1.size
        replace hc := hc.later hst1
        clear hst1
        clear hc1 hb0
        rw [H_h8.out]
        have z1 := E_l
        have z2 := F_l
        replace c0 := cell_later hb1 c0
        go_wp2_with fail
        go_quiet (fail)
        go_wp2_with fail
        exact bodyPost_ret (v := .tuple #[.agg #[.int .i64 0, .int .i64 0, .int .i64 0, .slice none 0 0], .agg #[.int .i64 0, .int .u64 0], .int .i64 38]) (by simp [results, Try.results21, go_sem, *]) rfl ⟨RetDS.of ⟨_, _, rfl, .inl rfl, fresh_none _⟩ H_he.out, (by repeat' (first | with_reducible exact hb1 | with_reducible refine Below.drew ?_ | with_reducible refine below_drewN ?_ _ | with_reducible refine Below.alloc ?_ (by have := hb1.size; first | (simp; done) | (simp; omega) | omega) _ | with_reducible refine Below.setCell ?_ (by first | (simp; done) | (simp; omega) | omega) _))⟩
      · obtain rfl : hs = [] := List.eq_nil_of_length_eq_zero (by omega)
        clear hh h0 hb
        simp only [List.length_nil] at *
        go_enter Try.func21, Try.ntmps21
        have hb0 := Below.refl w.heap.size w
        go_wp2_with fail
        with_reducible refine (dcheck0 g o r a c _).mono ?_
        rintro e w1 ⟨rfl, hc1⟩
        have hb1 : Below w.heap.size w w1 := bchain (by repeat' (first | with_reducible exact hb0 | with_reducible refine Below.drew ?_ | with_reducible refine below_drewN ?_ _ | with_reducible refine Below.alloc ?_ (by have := hb0.size; first | (simp; done) | (simp; omega) | omega) _ | with_reducible refine Below.setCell ?_ (by first | (simp; done) | (simp; omega) | omega) _)) hc1
        have D_0 : w1.cell? ⟨w.heap.size, 0, none⟩ = some (.int .i64 g) := (hc1.cell (p := ⟨w.heap.size, 0, none⟩) (by first | (simp; done) | (simp; omega))).trans (by first | (simp; done) | go_simp)
        have D_1 : w1.cell? ⟨w.heap.size, 1, none⟩ = some (.int .i64 o) := (hc1.cell (p := ⟨w.heap.size, 1, none⟩) (by first | (simp; done) | (simp; omega))).trans (by first | (simp; done) | go_simp)
        have D_2 : w1.cell? ⟨w.heap.size, 2, none⟩ = some (.int .i64 r) := (hc1.cell (p := ⟨w.heap.size, 2, none⟩) (by first | (simp; done) | (simp; omega))).trans (by first | (simp; done) | go_simp)
        have D_3 : w1.cell? ⟨w.heap.size, 3, none⟩ = some (.slice a 0 c) := (hc1.cell (p := ⟨w.heap.size, 3, none⟩) (by first | (simp; done) | (simp; omega))).trans (by first | (simp; done) | go_simp)
        have D_l : w.heap.size < w1.heap.size := Nat.lt_of_lt_of_le (by first | (simp; done) | (simp; omega)) hc1.size
        have E_0 : w1.cell? ⟨w.heap.size + 1, 0, none⟩ = some (.int .i64 0) := (hc1.cell (p := ⟨w.heap.size + 1, 0, none⟩) (by first | (simp; done) | (simp; omega))).trans (by first | (simp; done) | go_simp)
        have E_1 : w1.cell? ⟨w.heap.size + 1, 1, none⟩ = some (.int .i64 0) := (hc1.cell (p := ⟨w.heap.size + 1, 1, none⟩) (by first | (simp; done) | (simp; omega))).trans (by first | (simp; done) | go_simp)
        have E_2 : w1.cell? ⟨w.heap.size + 1, 2, none⟩ = some (.int .i64 0) := (hc1.cell (p := ⟨w.heap.size + 1, 2, none⟩) (by first | (simp; done) | (simp; omega))).trans (by first | (simp; done) | go_simp)
        have E_3 : w1.cell? ⟨w.heap.size + 1, 3, none⟩ = some (.slice none 0 0) := (hc1.cell (p := ⟨w.heap.size + 1, 3, none⟩) (by first | (simp; done) | (simp; omega))).trans (by first | (simp; done) | go_simp)
        have E_f0 : w1.frozen? ⟨w.heap.size + 1, 0, none⟩ = false := (hc1.frozen (p := ⟨w.heap.size + 1, 0, none⟩) (by first | (simp; done) | (simp; omega))).trans (by first | (simp; done) | go_simp)
        have E_f1 : w1.frozen? ⟨w.heap.size + 1, 1, none⟩ = false := (hc1.frozen (p := ⟨w.heap.size + 1, 1, none⟩) (by first | (simp; done) | (simp; omega))).trans (by first | (simp; done) | go_simp)
        have E_f2 : w1.frozen? ⟨w.heap.size + 1, 2, none⟩ = false := (hc1.frozen (p := ⟨w.heap.size + 1, 2, none⟩) (by first | (simp; done) | (simp; omega))).trans (by first | (simp; done) | go_simp)
        have E_f3 : w1.frozen? ⟨w.heap.size + 1, 3, none⟩ = false := (hc1.frozen (p := ⟨w.heap.size + 1, 3, none⟩) (by first | (simp; done) | (simp; omega))).trans (by first | (simp; done) | go_simp)
        have E_l : w.heap.size + 1 < w1.heap.size := Nat.lt_of_lt_of_le (by first | (simp; done) | (simp; omega)) hc1.size
        have F_0 : w1.cell? ⟨w.heap.size + 1 + 1, 0, none⟩ = some (.int .i64 0) := (hc1.cell (p := ⟨w.heap.size + 1 + 1, 0, none⟩) (by first | (simp; done) | (simp; omega))).trans (by first | (simp; done) | go_simp)
        have F_1 : w1.cell? ⟨w.heap.size + 1 + 1, 1, none⟩ = some (.int .u64 0) := (hc1.cell (p := ⟨w.heap.size + 1 + 1, 1, none⟩) (by first | (simp; done) | (simp; omega))).trans (by first | (simp; done) | go_simp)
        have F_f0 : w1.frozen? ⟨w.heap.size + 1 + 1, 0, none⟩ = false := (hc1.frozen (p := ⟨w.heap.size + 1 + 1, 0, none⟩) (by first | (simp; done) | (simp; omega))).trans (by first | (simp; done) | go_simp)
        have F_f1 : w1.frozen? ⟨w.heap.size + 1 + 1, 1, none⟩ = false := (hc1.frozen (p := ⟨w.heap.size + 1 + 1, 1, none⟩) (by first | (simp; done) | (simp; omega))).trans (by first | (simp; done) | go_simp)
        have F_l : w.heap.size + 1 + 1 < w1.heap.size := Nat.lt_of_lt_of_le (by first | (simp; done) | (simp; omega)) hc1.size
        clear hc1 hb0
        rw [H_h8.out]
        go_wp2_with fail
        go_quiet (fail)
        go_wp2_with fail
        exact bodyPost_ret (v := .tuple #[.agg #[.int .i64 0, .int .i64 0, .int .i64 0, .slice none 0 0], .agg #[.int .i64 0, .int .u64 0], .int .i64 38]) (by simp [results, Try.results21, go_sem, *]) rfl ⟨RetDS.of ⟨_, _, rfl, .inl rfl, fresh_none _⟩ H_he.out, (by repeat' (first | with_reducible exact hb1 | with_reducible refine Below.drew ?_ | with_reducible refine below_drewN ?_ _ | with_reducible refine Below.alloc ?_ (by have := hb1.size; first | (simp; done) | (simp; omega) | omega) _ | with_reducible refine Below.setCell ?_ (by first | (simp; done) | (simp; omega) | omega) _))⟩
  · have he : (Dk.zero, ((0 : Int), (0 : Int)), (8 : Int)) = dPop ⟨g, o, r, hs⟩ := by unfold dPop Dk.err; rw [if_neg (by simp only; omega)]
    have H_he := hid he
    have H_h8 := hid h8
    clear he h8
    go_enter Try.func21, Try.ntmps21
    have hb0 := Below.refl w.heap.size w
    go_wp2_with fail
    with_reducible refine (dcheck_any g o r hs a c _ (((hc.alloc _).alloc _).alloc _) Hml.out).mono ?_
    rintro e w1 ⟨rfl, hc1⟩
    have hb1 : Below w.heap.size w w1 := bchain (by repeat' (first | with_reducible exact hb0 | with_reducible refine Below.drew ?_ | with_reducible refine below_drewN ?_ _ | with_reducible refine Below.alloc ?_ (by have := hb0.size; first | (simp; done) | (simp; omega) | omega) _ | with_reducible refine Below.setCell ?_ (by first | (simp; done) | (simp; omega) | omega) _)) hc1
    have hst1 : Below w.heap.size w w1 := bchain (by repeat' (first | with_reducible exact Below.refl _ _ | with_reducible refine Below.drew ?_ | with_reducible refine below_drewN ?_ _ | with_reducible refine Below.alloc ?_ (by first | (simp; done) | (simp; omega) | omega) _ | with_reducible refine Below.setCell ?_ (by first | (simp; done) | (simp; omega) | omega) _)) hc1
    have D_0 : w1.cell? ⟨w.heap.size, 0, none⟩ = some (.int .i64 g) := (hc1.cell (p := ⟨w.heap.size, 0, none⟩) (by first | (simp; done) | (simp; omega))).trans (by first | (simp; done) | go_simp)
    have D_1 : w1.cell? ⟨w.heap.size, 1, none⟩ = some (.int .i64 o) := (hc1.cell (p := ⟨w.heap.size, 1, none⟩) (by first | (simp; done) | (simp; omega))).trans (by first | (simp; done) | go_simp)
    have D_2 : w1.cell? ⟨w.heap.size, 2, none⟩ = some (.int .i64 r) := (hc1.cell (p := ⟨w.heap.size, 2, none⟩) (by first | (simp; done) | (simp; omega))).trans (by first | (simp; done) | go_simp)
    have D_3 : w1.cell? ⟨w.heap.size, 3, none⟩ = some (.slice a hs.length c) := (hc1.cell (p := ⟨w.heap.size, 3, none⟩) (by first | (simp; done) | (simp; omega))).trans (by first | (simp; done) | go_simp)
    have D_l : w.heap.size < w1.heap.size := Nat.lt_of_lt_of_le (by first | (simp; done) | (simp; omega)) hc1.size
    have E_0 : w1.cell? ⟨w.heap.size + 1, 0, none⟩ = some (.int .i64 0) := (hc1.cell (p := ⟨w.heap.size + 1, 0, none⟩) (by first | (simp; done) | (simp; omega))).trans (by first | (simp; done) | go_simp)
    have E_1 : w1.cell? ⟨w.heap.size + 1, 1, none⟩ = some (.int .i64 0) := (hc1.cell (p := ⟨w.heap.size + 1, 1, none⟩) (by first | (simp; done) | (simp; omega))).trans (by first | (simp; done) | go_simp)
    have E_2 : w1.cell? ⟨w.heap.size + 1, 2, none⟩ = some (.int .i64 0) := (hc1.cell (p := ⟨w.heap.size + 1, 2, none⟩) (by first | (simp; done) | (simp; omega))).trans (by first | (simp; done) | go_simp)
    have E_3 : w1.cell? ⟨w.heap.size + 1, 3, none⟩ = some (.slice none 0 0) := (hc1.cell (p := ⟨w.heap.size + 1, 3, none⟩) (by first | (simp; done) | (simp; omega))).trans (by first | (simp; done) | go_simp)
    have E_f0 : w1.frozen? ⟨w.heap.size + 1, 0, none⟩ = false := (hc1.frozen (p := ⟨w.heap.size + 1, 0, none⟩) (by first | (simp; done) | (simp; omega))).trans (by first | (simp; done) | go_simp)
    have E_f1 : w1.frozen? ⟨w.heap.size + 1, 1, none⟩ = false := (hc1.frozen (p := ⟨w.heap.size + 1, 1, none⟩) (by first | (simp; done) | (simp; omega))).trans (by first | (simp; done) | go_simp)
    have E_f2 : w1.frozen? ⟨w.heap.size + 1, 2, none⟩ = false := (hc1.frozen (p := ⟨w.heap.size + 1, 2, none⟩) (by first | (simp; done) | (simp; omega))).trans (by first | (simp; done) | go_simp)
    have E_f3 : w1.frozen? ⟨w.heap.size + 1, 3, none⟩ = false := (hc1.frozen (p := ⟨w.heap.size + 1, 3, none⟩) (by first | (simp; done) | (simp; omega))).trans (by first | (simp; done) | go_simp)
    have E_l : w.heap.size + 1 < w1.heap.size := Nat.lt_of_lt_of_le (by first | (simp; done) | (simp; omega)) hc1.size
    have F_0 : w1.cell? ⟨w.heap.size + 1 + 1, 0, none⟩ = some (.int .i64 0) := (hc1.cell (p := ⟨w.heap.size + 1 + 1, 0, none⟩) (by first | (simp; done) | (simp; omega))).trans (by first | (simp; done) | go_simp)
    have F_1 : w1.cell? ⟨w.heap.size + 1 + 1, 1, none⟩ = some (.int .u64 0) := (hc1.cell (p := ⟨w.heap.size + 1 + 1, 1, none⟩) (by first | (simp; done) | (simp; omega))).trans (by first | (simp; done) | go_simp)
    have F_f0 : w1.frozen? ⟨w.heap.size + 1 + 1, 0, none⟩ = false := (hc1.frozen (p := ⟨w.heap.size + 1 + 1, 0, none⟩) (by first | (simp; done) | (simp; omega))).trans (by first | (simp; done) | go_simp)
    have F_f1 : w1.frozen? ⟨w.heap.size + 1 + 1, 1, none⟩ = false := (hc1.frozen (p := ⟨w.heap.size + 1 + 1, 1, none⟩) (by first | (simp; done) | (simp; omega))).trans (by first | (simp; done) | go_simp)
    have F_l : w.heap.size + 1 + 1 < w1.heap.size := Nat.lt_of_lt_of_le (by first | (simp; done) | (simp; omega)) hc1.size
    replace hc := hc.later hst1
    clear hst1
    clear hc1 hb0
    rw [H_h8.out]
    have z1 := E_l
    have z2 := F_l
    go_wp2_with fail
    exact bodyPost_ret (v := .tuple #[.agg #[.int .i64 0, .int .i64 0, .int .i64 0, .slice none 0 0], .agg #[.int .i64 0, .int .u64 0], .int .i64 8]) (by simp [results, Try.results21, go_sem, *]) rfl ⟨RetDS.of ⟨_, _, rfl, .inl rfl, fresh_none _⟩ H_he.out, (by repeat' (first | with_reducible exact hb1 | with_reducible refine Below.drew ?_ | with_reducible refine below_drewN ?_ _ | with_reducible refine Below.alloc ?_ (by have := hb1.size; first | (simp; done) | (simp; omega) | omega) _ | with_reducible refine Below.setCell ?_ (by first | (simp; done) | (simp; omega) | omega) _))⟩

end Go.Proofs.Ytpfldkcbkolgnaa
