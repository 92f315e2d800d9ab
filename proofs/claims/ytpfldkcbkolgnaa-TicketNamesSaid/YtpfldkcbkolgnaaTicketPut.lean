/- What Put returns. -/
import Derived.Test.YtpfldkcbkolgnaaTicketDrain
namespace Go.Proofs.Ytpfldkcbkolgnaa
set_option linter.unusedSimpArgs false
set_option linter.unusedVariables false
set_option linter.unnecessarySimpa false
open Go.RowKit


theorem heap_new2 (w : World) (o p : Obj) : ((w.alloc o).alloc p).heap[w.heap.size + 1]? = some p := by
  have := heap_alloc_new (w.alloc o) p
  simpa using this
theorem slip_one (t x : Int) : ∀ u ∈ [Value.int .i64 t, Value.int .u64 x], u.oneCell' = true := by
  intro u hu
  simp at hu
  rcases hu with rfl | rfl <;> rfl

set_option maxHeartbeats 4000000 in
theorem dput_any (g o r t x : Int) (hs : Slips) (a : Option Addr) (c : Nat) (w : World) (hc : CellsAt w a (cel hs)) (hb : hs.length ≤ 8796093022206) :
    Calls Try.prog 10 #[.agg #[.int .i64 g, .int .i64 o, .int .i64 r, .slice a hs.length c], .int .i64 t, .int .u64 x] w fun e w' =>
      RetD w.heap.size w' e (dPut ⟨g, o, r, hs⟩ t x) ∧ Below w.heap.size w w' := by
  have Hml := hid (show hs.length ≤ maxLen from by unfold maxLen; omega)
  rcases dErr_cases g o r hs with h8 | h8
  · have V := DV.of h8
    have hg1 := V.o1
    have hg2 := V.o2
    have hg3 := V.g1
    have hroom := V.room
    rw [← V.held] at hroom
    have hheld := V.held
    have HV := hid V
    clear V
    have H_h8 := hid h8
    have H_hheld := hid hheld
    clear h8 hheld
    by_cases t1 : t < o
    · skip
      have he : (Dk.zero, (2 : Int)) = dPut ⟨g, o, r, hs⟩ t x := by unfold dPut Dk.err; rw [if_pos H_h8.out, if_pos (.inl t1)]
      have H_he := hid he
      clear he
      go_enter Try.func10, Try.ntmps10
      have hb0 := Below.refl w.heap.size w
      go_wp2_with fail
      with_reducible refine (dcheck_any g o r hs a c _ ((hc.alloc _).alloc _) Hml.out).mono ?_
      rintro e w1 ⟨rfl, hc1⟩
      have hb1 : Below w.heap.size w w1 := bchain (by repeat' (first | with_reducible exact hb0 | with_reducible refine Below.drew ?_ | with_reducible refine below_drewN ?_ _ | with_reducible refine Below.alloc ?_ (by have := hb0.size; first | (simp; done) | (simp; omega) | omega) _ | with_reducible refine Below.setCell ?_ (by first | (simp; done) | (simp; omega) | omega) _)) hc1
      have hst1 : Below w.heap.size w w1 := bchain (by repeat' (first | with_reducible exact Below.refl _ _ | with_reducible refine Below.drew ?_ | with_reducible refine below_drewN ?_ _ | with_reducible refine Below.alloc ?_ (by first | (simp; done) | (simp; omega) | omega) _ | with_reducible refine Below.setCell ?_ (by first | (simp; done) | (simp; omega) | omega) _)) hc1
      have D_0 : w1.cell? ⟨w.heap.size, 0, none⟩ = some (.int .i64 g) := (hc1.cell (p := ⟨w.heap.size, 0, none⟩) (by first | (simp; done) | (simp; omega))).trans (by first | (simp; done) | go_simp)
      have D_1 : w1.cell? ⟨w.heap.size, 1, none⟩ = some (.int .i64 o) := (hc1.cell (p := ⟨w.heap.size, 1, none⟩) (by first | (simp; done) | (simp; omega))).trans (by first | (simp; done) | go_simp)
      have D_2 : w1.cell? ⟨w.heap.size, 2, none⟩ = some (.int .i64 r) := (hc1.cell (p := ⟨w.heap.size, 2, none⟩) (by first | (simp; done) | (simp; omega))).trans (by first | (simp; done) | go_simp)
      have D_3 : w1.cell? ⟨w.heap.size, 3, none⟩ = some (.slice a hs.length c) := (hc1.cell (p := ⟨w.heap.size, 3, none⟩) (by first | (simp; done) | (simp; omega))).trans (by first | (simp; done) | go_simp)
      have D_l : w.heap.size < w1.heap.size := Nat.lt_of_lt_of_le (by first | (simp; done) | (simp; omega)) hc1.size
      have E_0 : w1.cell? ⟨w.heap.size + 1, 0, none⟩ = some (.int .i64 0) := (hc1.cell (p := ⟨w.heap.size + 1, 0, none⟩) (by first | (simp; done) | (simp; omega))).trans (by first | (simp; done) | go_simp)
      have E_1 : w1.cell? ⟨w.heap.size + 1, 1, none⟩ = some (.int .i64 0) := (hc1.cell (p := ⟨w.heap.size + 1, 1, none⟩) (by first | (simp; done) | (simp; omega))).trans (by first | (simp; done) | go_simp)
      have E_2 : w1.cell? ⟨w.heap.size + 1, 2, none⟩ = some (.int .i64 0) := (hc1.cell (p := ⟨w.heap.size + 1, 2, none⟩) (by first | (simp; done) | (simp; omega))).trans (by first | (simp; done) | go_simp)
      have E_3 : w1.cell? ⟨w.heap.size + 1, 3, none⟩ = some (.slice none 0 0) := (hc1.cell (p := ⟨w.heap.size + 1, 3, none⟩) (by first | (simp; done) | (simp; omega))).trans (by first | (simp; done) | go_simp)
      have E_f0 : w1.frozen? ⟨w.heap.size + 1, 0, none⟩ = false := (hc1.frozen (p := ⟨w.heap.size + 1, 0, none⟩) (by first | (simp; done) | (simp; omega))).trans (by first | (simp; done) | go_simp)
      have E_f1 : w1.frozen? ⟨w.heap.size + 1, 1, none⟩ = false := (hc1.frozen (p := ⟨w.heap.size + 1, 1, none⟩) (by first | (simp; done) | (simp; omega))).trans (by first | (simp; done) | go_simp)
      have E_f2 : w1.frozen? ⟨w.heap.size + 1, 2, none⟩ = false := (hc1.frozen (p := ⟨w.heap.size + 1, 2, none⟩) (by first | (simp; done) | (simp; omega))).trans (by first | (simp; done) | go_simp)
      have E_f3 : w1.frozen? ⟨w.heap.size + 1, 3, none⟩ = false := (hc1.frozen (p := ⟨w.heap.size + 1, 3, none⟩) (by first | (simp; done) | (simp; omega))).trans (by first | (simp; done) | go_simp)
      have E_l : w.heap.size + 1 < w1.heap.size := Nat.lt_of_lt_of_le (by first | (simp; done) | (simp; omega)) hc1.size
      replace hc := hc.later hst1
      clear hst1
      clear hc1 hb0
      rw [H_h8.out]
      have z1 := E_l
      go_wp2_with fail
      exact bodyPost_ret (v := .tuple #[.agg #[.int .i64 0, .int .i64 0, .int .i64 0, .slice none 0 0], .int .i64 2]) (by simp [results, Try.results10, go_sem, *]) rfl ⟨RetD.of ⟨_, _, rfl, .inl rfl, fresh_none _⟩ H_he.out, (by repeat' (first | with_reducible exact hb1 | with_reducible refine Below.drew ?_ | with_reducible refine below_drewN ?_ _ | with_reducible refine Below.alloc ?_ (by have := hb1.size; first | (simp; done) | (simp; omega) | omega) _ | with_reducible refine Below.setCell ?_ (by first | (simp; done) | (simp; omega) | omega) _))⟩
    by_cases t2 : g ≤ t
    · skip
      have he : (Dk.zero, (2 : Int)) = dPut ⟨g, o, r, hs⟩ t x := by unfold dPut Dk.err; rw [if_pos H_h8.out, if_pos (.inr t2)]
      have H_he := hid he
      clear he
      go_enter Try.func10, Try.ntmps10
      have hb0 := Below.refl w.heap.size w
      go_wp2_with fail
      with_reducible refine (dcheck_any g o r hs a c _ ((hc.alloc _).alloc _) Hml.out).mono ?_
      rintro e w1 ⟨rfl, hc1⟩
      have hb1 : Below w.heap.size w w1 := bchain (by repeat' (first | with_reducible exact hb0 | with_reducible refine Below.drew ?_ | with_reducible refine below_drewN ?_ _ | with_reducible refine Below.alloc ?_ (by have := hb0.size; first | (simp; done) | (simp; omega) | omega) _ | with_reducible refine Below.setCell ?_ (by first | (simp; done) | (simp; omega) | omega) _)) hc1
      have hst1 : Below w.heap.size w w1 := bchain (by repeat' (first | with_reducible exact Below.refl _ _ | with_reducible refine Below.drew ?_ | with_reducible refine below_drewN ?_ _ | with_reducible refine Below.alloc ?_ (by first | (simp; done) | (simp; omega) | omega) _ | with_reducible refine Below.setCell ?_ (by first | (simp; done) | (simp; omega) | omega) _)) hc1
      have D_0 : w1.cell? ⟨w.heap.size, 0, none⟩ = some (.int .i64 g) := (hc1.cell (p := ⟨w.heap.size, 0, none⟩) (by first | (simp; done) | (simp; omega))).trans (by first | (simp; done) | go_simp)
      have D_1 : w1.cell? ⟨w.heap.size, 1, none⟩ = some (.int .i64 o) := (hc1.cell (p := ⟨w.heap.size, 1, none⟩) (by first | (simp; done) | (simp; omega))).trans (by first | (simp; done) | go_simp)
      have D_2 : w1.cell? ⟨w.heap.size, 2, none⟩ = some (.int .i64 r) := (hc1.cell (p := ⟨w.heap.size, 2, none⟩) (by first | (simp; done) | (simp; omega))).trans (by first | (simp; done) | go_simp)
      have D_3 : w1.cell? ⟨w.heap.size, 3, none⟩ = some (.slice a hs.length c) := (hc1.cell (p := ⟨w.heap.size, 3, none⟩) (by first | (simp; done) | (simp; omega))).trans (by first | (simp; done) | go_simp)
      have D_l : w.heap.size < w1.heap.size := Nat.lt_of_lt_of_le (by first | (simp; done) | (simp; omega)) hc1.size
      have E_0 : w1.cell? ⟨w.heap.size + 1, 0, none⟩ = some (.int .i64 0) := (hc1.cell (p := ⟨w.heap.size + 1, 0, none⟩) (by first | (simp; done) | (simp; omega))).trans (by first | (simp; done) | go_simp)
      have E_1 : w1.cell? ⟨w.heap.size + 1, 1, none⟩ = some (.int .i64 0) := (hc1.cell (p := ⟨w.heap.size + 1, 1, none⟩) (by first | (simp; done) | (simp; omega))).trans (by first | (simp; done) | go_simp)
      have E_2 : w1.cell? ⟨w.heap.size + 1, 2, none⟩ = some (.int .i64 0) := (hc1.cell (p := ⟨w.heap.size + 1, 2, none⟩) (by first | (simp; done) | (simp; omega))).trans (by first | (simp; done) | go_simp)
      have E_3 : w1.cell? ⟨w.heap.size + 1, 3, none⟩ = some (.slice none 0 0) := (hc1.cell (p := ⟨w.heap.size + 1, 3, none⟩) (by first | (simp; done) | (simp; omega))).trans (by first | (simp; done) | go_simp)
      have E_f0 : w1.frozen? ⟨w.heap.size + 1, 0, none⟩ = false := (hc1.frozen (p := ⟨w.heap.size + 1, 0, none⟩) (by first | (simp; done) | (simp; omega))).trans (by first | (simp; done) | go_simp)
      have E_f1 : w1.frozen? ⟨w.heap.size + 1, 1, none⟩ = false := (hc1.frozen (p := ⟨w.heap.size + 1, 1, none⟩) (by first | (simp; done) | (simp; omega))).trans (by first | (simp; done) | go_simp)
      have E_f2 : w1.frozen? ⟨w.heap.size + 1, 2, none⟩ = false := (hc1.frozen (p := ⟨w.heap.size + 1, 2, none⟩) (by first | (simp; done) | (simp; omega))).trans (by first | (simp; done) | go_simp)
      have E_f3 : w1.frozen? ⟨w.heap.size + 1, 3, none⟩ = false := (hc1.frozen (p := ⟨w.heap.size + 1, 3, none⟩) (by first | (simp; done) | (simp; omega))).trans (by first | (simp; done) | go_simp)
      have E_l : w.heap.size + 1 < w1.heap.size := Nat.lt_of_lt_of_le (by first | (simp; done) | (simp; omega)) hc1.size
      replace hc := hc.later hst1
      clear hst1
      clear hc1 hb0
      rw [H_h8.out]
      have z1 := E_l
      go_wp2_with fail
      exact bodyPost_ret (v := .tuple #[.agg #[.int .i64 0, .int .i64 0, .int .i64 0, .slice none 0 0], .int .i64 2]) (by simp [results, Try.results10, go_sem, *]) rfl ⟨RetD.of ⟨_, _, rfl, .inl rfl, fresh_none _⟩ H_he.out, (by repeat' (first | with_reducible exact hb1 | with_reducible refine Below.drew ?_ | with_reducible refine below_drewN ?_ _ | with_reducible refine Below.alloc ?_ (by have := hb1.size; first | (simp; done) | (simp; omega) | omega) _ | with_reducible refine Below.setCell ?_ (by first | (simp; done) | (simp; omega) | omega) _))⟩
    have hlbl := lb_le hs t
    have Hr := hid (show ∀ i, i < hs.length → 0 ≤ tg hs i ∧ tg hs i ≤ 1000000000 from fun i hi => by have := HV.out.nth i hi; omega)
    have Hsr := fun (w : World) (hc : CellsAt w a (cel hs)) => search_any hs a c t w hc (by omega) HV.out.inc Hr.out (by omega) (by omega)
    cases hh : hasT hs t
    · rw [hh] at Hsr
      have HS := hid Hsr
      clear Hsr
      by_cases t3 : t = o
      · subst t3
        have he : ((⟨g, t, r, insD hs t x⟩, (0 : Int)) : Dk × Int) = dPut ⟨g, t, r, hs⟩ t x := by unfold dPut Dk.err; simp only; rw [if_pos H_h8.out, if_neg (by omega), if_neg (by rw [hh]; simp), if_neg (by simp)]
        have H_he := hid he
        clear he
        clear hh
        go_enter Try.func10, Try.ntmps10
        have hb0 := Below.refl w.heap.size w
        go_wp2_with fail
        with_reducible refine (dcheck_any g t r hs a c _ ((hc.alloc _).alloc _) Hml.out).mono ?_
        rintro e w1 ⟨rfl, hc1⟩
        have hb1 : Below w.heap.size w w1 := bchain (by repeat' (first | with_reducible exact hb0 | with_reducible refine Below.drew ?_ | with_reducible refine below_drewN ?_ _ | with_reducible refine Below.alloc ?_ (by have := hb0.size; first | (simp; done) | (simp; omega) | omega) _ | with_reducible refine Below.setCell ?_ (by first | (simp; done) | (simp; omega) | omega) _)) hc1
        have hst1 : Below w.heap.size w w1 := bchain (by repeat' (first | with_reducible exact Below.refl _ _ | with_reducible refine Below.drew ?_ | with_reducible refine below_drewN ?_ _ | with_reducible refine Below.alloc ?_ (by first | (simp; done) | (simp; omega) | omega) _ | with_reducible refine Below.setCell ?_ (by first | (simp; done) | (simp; omega) | omega) _)) hc1
        have D_0 : w1.cell? ⟨w.heap.size, 0, none⟩ = some (.int .i64 g) := (hc1.cell (p := ⟨w.heap.size, 0, none⟩) (by first | (simp; done) | (simp; omega))).trans (by first | (simp; done) | go_simp)
        have D_1 : w1.cell? ⟨w.heap.size, 1, none⟩ = some (.int .i64 t) := (hc1.cell (p := ⟨w.heap.size, 1, none⟩) (by first | (simp; done) | (simp; omega))).trans (by first | (simp; done) | go_simp)
        have D_2 : w1.cell? ⟨w.heap.size, 2, none⟩ = some (.int .i64 r) := (hc1.cell (p := ⟨w.heap.size, 2, none⟩) (by first | (simp; done) | (simp; omega))).trans (by first | (simp; done) | go_simp)
        have D_3 : w1.cell? ⟨w.heap.size, 3, none⟩ = some (.slice a hs.length c) := (hc1.cell (p := ⟨w.heap.size, 3, none⟩) (by first | (simp; done) | (simp; omega))).trans (by first | (simp; done) | go_simp)
        have D_l : w.heap.size < w1.heap.size := Nat.lt_of_lt_of_le (by first | (simp; done) | (simp; omega)) hc1.size
        have E_0 : w1.cell? ⟨w.heap.size + 1, 0, none⟩ = some (.int .i64 0) := (hc1.cell (p := ⟨w.heap.size + 1, 0, none⟩) (by first | (simp; done) | (simp; omega))).trans (by first | (simp; done) | go_simp)
        have E_1 : w1.cell? ⟨w.heap.size + 1, 1, none⟩ = some (.int .i64 0) := (hc1.cell (p := ⟨w.heap.size + 1, 1, none⟩) (by first | (simp; done) | (simp; omega))).trans (by first | (simp; done) | go_simp)
        have E_2 : w1.cell? ⟨w.heap.size + 1, 2, none⟩ = some (.int .i64 0) := (hc1.cell (p := ⟨w.heap.size + 1, 2, none⟩) (by first | (simp; done) | (simp; omega))).trans (by first | (simp; done) | go_simp)
        have E_3 : w1.cell? ⟨w.heap.size + 1, 3, none⟩ = some (.slice none 0 0) := (hc1.cell (p := ⟨w.heap.size + 1, 3, none⟩) (by first | (simp; done) | (simp; omega))).trans (by first | (simp; done) | go_simp)
        have E_f0 : w1.frozen? ⟨w.heap.size + 1, 0, none⟩ = false := (hc1.frozen (p := ⟨w.heap.size + 1, 0, none⟩) (by first | (simp; done) | (simp; omega))).trans (by first | (simp; done) | go_simp)
        have E_f1 : w1.frozen? ⟨w.heap.size + 1, 1, none⟩ = false := (hc1.frozen (p := ⟨w.heap.size + 1, 1, none⟩) (by first | (simp; done) | (simp; omega))).trans (by first | (simp; done) | go_simp)
        have E_f2 : w1.frozen? ⟨w.heap.size + 1, 2, none⟩ = false := (hc1.frozen (p := ⟨w.heap.size + 1, 2, none⟩) (by first | (simp; done) | (simp; omega))).trans (by first | (simp; done) | go_simp)
        have E_f3 : w1.frozen? ⟨w.heap.size + 1, 3, none⟩ = false := (hc1.frozen (p := ⟨w.heap.size + 1, 3, none⟩) (by first | (simp; done) | (simp; omega))).trans (by first | (simp; done) | go_simp)
        have E_l : w.heap.size + 1 < w1.heap.size := Nat.lt_of_lt_of_le (by first | (simp; done) | (simp; omega)) hc1.size
        replace hc := hc.later hst1
        clear hst1
        clear hc1 hb0
        rw [H_h8.out]
        go_wp2_with fail
        with_reducible refine (HS.out _ hc).mono ?_
        rintro e w2 ⟨rfl, hc2⟩
        have hb2 : Below w.heap.size w w2 := bchain (by repeat' (first | with_reducible exact hb1 | with_reducible refine Below.drew ?_ | with_reducible refine below_drewN ?_ _ | with_reducible refine Below.alloc ?_ (by have := hb1.size; first | (simp; done) | (simp; omega) | omega) _ | with_reducible refine Below.setCell ?_ (by first | (simp; done) | (simp; omega) | omega) _)) hc2
        have hst2 : Below w1.heap.size w1 w2 := bchain (by repeat' (first | with_reducible exact Below.refl _ _ | with_reducible refine Below.drew ?_ | with_reducible refine below_drewN ?_ _ | with_reducible refine Below.alloc ?_ (by first | (simp; done) | (simp; omega) | omega) _ | with_reducible refine Below.setCell ?_ (by first | (simp; done) | (simp; omega) | omega) _)) hc2
        replace D_0 := cell_later hst2 D_0
        replace D_1 := cell_later hst2 D_1
        replace D_2 := cell_later hst2 D_2
        replace D_3 := cell_later hst2 D_3
        replace D_l := Nat.lt_of_lt_of_le D_l hst2.size
        replace E_0 := cell_later hst2 E_0
        replace E_1 := cell_later hst2 E_1
        replace E_2 := cell_later hst2 E_2
        replace E_3 := cell_later hst2 E_3
        replace E_f0 := frozen_later hst2 E_l E_f0
        replace E_f1 := frozen_later hst2 E_l E_f1
        replace E_f2 := frozen_later hst2 E_l E_f2
        replace E_f3 := frozen_later hst2 E_l E_f3
        replace E_l := Nat.lt_of_lt_of_le E_l hst2.size
        replace hc := hc.later hst2
        clear hst2
        clear hc2 hb1
        go_wp2_with fail
        refine wp_gen fun w3 hc3 => ?_
        have hb3 : Below w.heap.size w w3 := bchain (by repeat' (first | with_reducible exact hb2 | with_reducible refine Below.drew ?_ | with_reducible refine below_drewN ?_ _ | with_reducible refine Below.alloc ?_ (by have := hb2.size; first | (simp; done) | (simp; omega) | omega) _ | with_reducible refine Below.setCell ?_ (by first | (simp; done) | (simp; omega) | omega) _)) hc3
        have hst3 : Below w2.heap.size w2 w3 := bchain (by repeat' (first | with_reducible exact Below.refl _ _ | with_reducible refine Below.drew ?_ | with_reducible refine below_drewN ?_ _ | with_reducible refine Below.alloc ?_ (by first | (simp; done) | (simp; omega) | omega) _ | with_reducible refine Below.setCell ?_ (by first | (simp; done) | (simp; omega) | omega) _)) hc3
        replace D_0 := cell_later hst3 D_0
        replace D_1 := cell_later hst3 D_1
        replace D_2 := cell_later hst3 D_2
        replace D_3 := cell_later hst3 D_3
        replace D_l := Nat.lt_of_lt_of_le D_l hst3.size
        replace E_0 := cell_later hst3 E_0
        replace E_1 := cell_later hst3 E_1
        replace E_2 := cell_later hst3 E_2
        replace E_3 := cell_later hst3 E_3
        replace E_f0 := frozen_later hst3 E_l E_f0
        replace E_f1 := frozen_later hst3 E_l E_f1
        replace E_f2 := frozen_later hst3 E_l E_f2
        replace E_f3 := frozen_later hst3 E_l E_f3
        replace E_l := Nat.lt_of_lt_of_le E_l hst3.size
        replace hc := hc.later hst3
        clear hst3
        have KD_0 := cell_on D_0
        have KD_1 := cell_on D_1
        have KD_2 := cell_on D_2
        have KD_3 := cell_on D_3
        refine wp_region_on (by kernel_rfl) (by kernel_rfl) ?_
        repeat (first | go_big_quiet_step (fail) | quiet_step (fail))
        refine wpQuiet_nil ?_
        intro w4 hc4
        clear KD_0 KD_1 KD_2 KD_3
        have hb4 : Below w.heap.size w w4 := bchain (by repeat' (first | with_reducible exact hb3 | with_reducible refine Below.drew ?_ | with_reducible refine below_drewN ?_ _ | with_reducible refine Below.alloc ?_ (by have := hb3.size; first | (simp; done) | (simp; omega) | omega) _ | with_reducible refine Below.setCell ?_ (by first | (simp; done) | (simp; omega) | omega) _)) hc4
        have hst4 : Below w3.heap.size w3 w4 := bchain (by repeat' (first | with_reducible exact Below.refl _ _ | with_reducible refine Below.drew ?_ | with_reducible refine below_drewN ?_ _ | with_reducible refine Below.alloc ?_ (by first | (simp; done) | (simp; omega) | omega) _ | with_reducible refine Below.setCell ?_ (by first | (simp; done) | (simp; omega) | omega) _)) hc4
        replace D_0 := cell_later hst4 D_0
        replace D_1 := cell_later hst4 D_1
        replace D_2 := cell_later hst4 D_2
        replace D_3 := cell_later hst4 D_3
        replace D_l := Nat.lt_of_lt_of_le D_l hst4.size
        replace E_0 := cell_later hst4 E_0
        replace E_1 := cell_later hst4 E_1
        replace E_2 := cell_later hst4 E_2
        replace E_3 := cell_later hst4 E_3
        replace E_f0 := frozen_later hst4 E_l E_f0
        replace E_f1 := frozen_later hst4 E_l E_f1
        replace E_f2 := frozen_later hst4 E_l E_f2
        replace E_f3 := frozen_later hst4 E_l E_f3
        replace E_l := Nat.lt_of_lt_of_le E_l hst4.size
        replace hc := hc.later hst4
        clear hst4
        have z4 := E_l
        go_wp2_with fail
        with_reducible refine (dtwin_any g t r hs a c _ hc (by omega)).mono ?_
        rintro e w5 ⟨a1, c1, rfl, o1, hc5⟩
        have hb5 : Below w.heap.size w w5 := bchain (by repeat' (first | with_reducible exact hb4 | with_reducible refine Below.drew ?_ | with_reducible refine below_drewN ?_ _ | with_reducible refine Below.alloc ?_ (by have := hb4.size; first | (simp; done) | (simp; omega) | omega) _ | with_reducible refine Below.setCell ?_ (by first | (simp; done) | (simp; omega) | omega) _)) hc5
        have hst5 : Below w4.heap.size w4 w5 := bchain (by repeat' (first | with_reducible exact Below.refl _ _ | with_reducible refine Below.drew ?_ | with_reducible refine below_drewN ?_ _ | with_reducible refine Below.alloc ?_ (by first | (simp; done) | (simp; omega) | omega) _ | with_reducible refine Below.setCell ?_ (by first | (simp; done) | (simp; omega) | omega) _)) hc5
        replace D_0 := cell_later hst5 D_0
        replace D_1 := cell_later hst5 D_1
        replace D_2 := cell_later hst5 D_2
        replace D_3 := cell_later hst5 D_3
        replace D_l := Nat.lt_of_lt_of_le D_l hst5.size
        replace E_0 := cell_later hst5 E_0
        replace E_1 := cell_later hst5 E_1
        replace E_2 := cell_later hst5 E_2
        replace E_3 := cell_later hst5 E_3
        replace E_f0 := frozen_later hst5 E_l E_f0
        replace E_f1 := frozen_later hst5 E_l E_f1
        replace E_f2 := frozen_later hst5 E_l E_f2
        replace E_f3 := frozen_later hst5 E_l E_f3
        replace E_l := Nat.lt_of_lt_of_le E_l hst5.size
        replace hc := hc.later hst5
        clear hst5
        obtain ⟨hcell5, hfroz5⟩ := bcell hc5
        have hz5 := hc5.size
        clear hcell5 hfroz5 hc5
        have z5 := E_l
        have b5 := hb5
        clear D_0 D_1 D_2 D_3 D_l hc
        go_wp2_with fail
        have hv1 := heap_new2 w5 (.cells #[.int .i64 g, .int .i64 t, .int .i64 r, .slice a1 hs.length c1] 26) (.cells #[.int .i64 t, .int .u64 x] 38)
        have q1 := o1.addr
        refine (insS_any (lb hs t) hs.length c1 w4.heap.size (w5.heap.size + 1) 1 a1 (cel hs) [.int .i64 t, .int .u64 x] _ (lb_le hs t) ((o1.alloc _).alloc _) (cel_one hs) rfl hv1 (slip_one _ _) hb (by first | (simp; done) | (simp; omega) | omega) (fun ad e => by have := (q1 ad e).2; omega)).mono ?_
        rintro e w6 ⟨a2, c2, rfl, o2, hg, hk⟩
        obtain ⟨hcell, hfroz⟩ := gcell hg o1
        have hz := hg.size
        simp only [World.size_alloc] at hz
        have X_0 : w6.cell? ⟨w5.heap.size, 0, none⟩ = some (.int .i64 g) := (hcell w5.heap.size 0 (by first | (simp; done) | (simp; omega) | omega) (.inr (Nat.le_refl _))).trans (by first | (simp; done) | go_simp)
        have X_1 : w6.cell? ⟨w5.heap.size, 1, none⟩ = some (.int .i64 t) := (hcell w5.heap.size 1 (by first | (simp; done) | (simp; omega) | omega) (.inr (Nat.le_refl _))).trans (by first | (simp; done) | go_simp)
        have X_2 : w6.cell? ⟨w5.heap.size, 2, none⟩ = some (.int .i64 r) := (hcell w5.heap.size 2 (by first | (simp; done) | (simp; omega) | omega) (.inr (Nat.le_refl _))).trans (by first | (simp; done) | go_simp)
        have X_3 : w6.cell? ⟨w5.heap.size, 3, none⟩ = some (.slice a1 hs.length c1) := (hcell w5.heap.size 3 (by first | (simp; done) | (simp; omega) | omega) (.inr (Nat.le_refl _))).trans (by first | (simp; done) | go_simp)
        have X_f3 : w6.frozen? ⟨w5.heap.size, 3, none⟩ = false := (hfroz w5.heap.size 3 (by first | (simp; done) | (simp; omega) | omega) (.inr (Nat.le_refl _))).trans (by first | (simp; done) | go_simp)
        have hst : Below w5.heap.size w5 ((w5.alloc (.cells #[.int .i64 g, .int .i64 t, .int .i64 r, .slice a1 hs.length c1] 26)).alloc (.cells #[.int .i64 t, .int .u64 x] 38)) := ((Below.refl _ _).alloc (Nat.le_refl _) _).alloc (by first | (simp; done) | (simp; omega) | omega) _
        have E_0' := (hcell (w.heap.size + 1) 0 (by first | (simp; done) | (simp; omega) | omega) (.inl z4)).trans (cell_later hst E_0)
        have E_1' := (hcell (w.heap.size + 1) 1 (by first | (simp; done) | (simp; omega) | omega) (.inl z4)).trans (cell_later hst E_1)
        have E_2' := (hcell (w.heap.size + 1) 2 (by first | (simp; done) | (simp; omega) | omega) (.inl z4)).trans (cell_later hst E_2)
        have E_3' := (hcell (w.heap.size + 1) 3 (by first | (simp; done) | (simp; omega) | omega) (.inl z4)).trans (cell_later hst E_3)
        have E_f0' := (hfroz (w.heap.size + 1) 0 (by first | (simp; done) | (simp; omega) | omega) (.inl z4)).trans (frozen_later hst z5 E_f0)
        have E_f1' := (hfroz (w.heap.size + 1) 1 (by first | (simp; done) | (simp; omega) | omega) (.inl z4)).trans (frozen_later hst z5 E_f1)
        have E_f2' := (hfroz (w.heap.size + 1) 2 (by first | (simp; done) | (simp; omega) | omega) (.inl z4)).trans (frozen_later hst z5 E_f2)
        have E_f3' := (hfroz (w.heap.size + 1) 3 (by first | (simp; done) | (simp; omega) | omega) (.inl z4)).trans (frozen_later hst z5 E_f3)
        have hb6 : Below w.heap.size w w6 := below_grownX ((b5.alloc (by first | (simp; done) | (simp; omega) | omega) _).alloc (by first | (simp; done) | (simp; omega) | omega) _) hg (by first | (simp; done) | (simp; omega) | omega) (fun k hk => by have := (o1.lt k hk).1; omega)
        have z6 : w.heap.size + 1 < w6.heap.size := by omega
        have z7 : w5.heap.size < w6.heap.size := by omega
        have hne : w5.heap.size ≠ w.heap.size + 1 := by omega
        have kk := o2.cellsAt
        rw [← insD_cel] at kk
        have p1 : ∀ ad, a2 = some ad → ad.block ≠ w.heap.size + 1 ∧ ad.block ≠ w5.heap.size ∧ w.heap.size + 1 < ad.block := fun ad e => by
          subst e
          rcases hk ad.block rfl with h | h
          · have := o1.lt _ h; omega
          · simp only [World.size_alloc] at h; omega
        have hil : hs.length + 1 = (insD hs t x).length := (insD_len _ _ _).symm
        have H_hil := hid hil
        clear hil
        clear E_0 E_1 E_2 E_3 E_f0 E_f1 E_f2 E_f3 hcell hfroz hst hg hk o1 o2 q1 hv1
        go_wp2_with fail
        exact bodyPost_ret (v := .tuple #[.agg #[.int .i64 g, .int .i64 t, .int .i64 r, .slice a2 (hs.length + 1) c2], .int .i64 0]) (by simp [results, Try.results10, go_sem, *]) rfl ⟨RetD.of (RetD.mk' H_hil.out rfl (by repeat' (first | with_reducible exact kk | with_reducible refine CellsAt.setFarG ?_ ?_ _ | exact fun ad e => (p1 ad e).1 | exact fun ad e => (p1 ad e).2.1)) (fun ad e => by have := (p1 ad e).2.2; omega)) H_he.out, (by repeat' (first | with_reducible exact hb6 | with_reducible refine Below.drew ?_ | with_reducible refine below_drewN ?_ _ | with_reducible refine Below.alloc ?_ (by have := hb6.size; first | (simp; done) | (simp; omega) | omega) _ | with_reducible refine Below.setCell ?_ (by first | (simp; done) | (simp; omega) | omega) _))⟩
      · by_cases t4 : ((heldN o hs : Nat) : Int) = r
        · skip
          have he : (Dk.zero, (38 : Int)) = dPut ⟨g, o, r, hs⟩ t x := by unfold dPut Dk.err; simp only; rw [if_pos H_h8.out, if_neg (by omega), if_neg (by rw [hh]; simp), if_pos ⟨t3, by rw [← H_hheld.out]; omega⟩]
          have H_he := hid he
          clear he
          have t4' : (((heldN o hs : Nat) : Int) == r) = true := by simpa using t4
          clear hh t4
          go_enter Try.func10, Try.ntmps10
          have hb0 := Below.refl w.heap.size w
          go_wp2_with fail
          with_reducible refine (dcheck_any g o r hs a c _ ((hc.alloc _).alloc _) Hml.out).mono ?_
          rintro e w1 ⟨rfl, hc1⟩
          have hb1 : Below w.heap.size w w1 := bchain (by repeat' (first | with_reducible exact hb0 | with_reducible refine Below.drew ?_ | with_reducible refine below_drewN ?_ _ | with_reducible refine Below.alloc ?_ (by have := hb0.size; first | (simp; done) | (simp; omega) | omega) _ | with_reducible refine Below.setCell ?_ (by first | (simp; done) | (simp; omega) | omega) _)) hc1
          have hst1 : Below w.heap.size w w1 := bchain (by repeat' (first | with_reducible exact Below.refl _ _ | with_reducible refine Below.drew ?_ | with_reducible refine below_drewN ?_ _ | with_reducible refine Below.alloc ?_ (by first | (simp; done) | (simp; omega) | omega) _ | with_reducible refine Below.setCell ?_ (by first | (simp; done) | (simp; omega) | omega) _)) hc1
          have D_0 : w1.cell? ⟨w.heap.size, 0, none⟩ = some (.int .i64 g) := (hc1.cell (p := ⟨w.heap.size, 0, none⟩) (by first | (simp; done) | (simp; omega))).trans (by first | (simp; done) | go_simp)
          have D_1 : w1.cell? ⟨w.heap.size, 1, none⟩ = some (.int .i64 o) := (hc1.cell (p := ⟨w.heap.size, 1, none⟩) (by first | (simp; done) | (simp; omega))).trans (by first | (simp; done) | go_simp)
          have D_2 : w1.cell? ⟨w.heap.size, 2, none⟩ = some (.int .i64 r) := (hc1.cell (p := ⟨w.heap.size, 2, none⟩) (by first | (simp; done) | (simp; omega))).trans (by first | (simp; done) | go_simp)
          have D_3 : w1.cell? ⟨w.heap.size, 3, none⟩ = some (.slice a hs.length c) := (hc1.cell (p := ⟨w.heap.size, 3, none⟩) (by first | (simp; done) | (simp; omega))).trans (by first | (simp; done) | go_simp)
          have D_l : w.heap.size < w1.heap.size := Nat.lt_of_lt_of_le (by first | (simp; done) | (simp; omega)) hc1.size
          have E_0 : w1.cell? ⟨w.heap.size + 1, 0, none⟩ = some (.int .i64 0) := (hc1.cell (p := ⟨w.heap.size + 1, 0, none⟩) (by first | (simp; done) | (simp; omega))).trans (by first | (simp; done) | go_simp)
          have E_1 : w1.cell? ⟨w.heap.size + 1, 1, none⟩ = some (.int .i64 0) := (hc1.cell (p := ⟨w.heap.size + 1, 1, none⟩) (by first | (simp; done) | (simp; omega))).trans (by first | (simp; done) | go_simp)
          have E_2 : w1.cell? ⟨w.heap.size + 1, 2, none⟩ = some (.int .i64 0) := (hc1.cell (p := ⟨w.heap.size + 1, 2, none⟩) (by first | (simp; done) | (simp; omega))).trans (by first | (simp; done) | go_simp)
          have E_3 : w1.cell? ⟨w.heap.size + 1, 3, none⟩ = some (.slice none 0 0) := (hc1.cell (p := ⟨w.heap.size + 1, 3, none⟩) (by first | (simp; done) | (simp; omega))).trans (by first | (simp; done) | go_simp)
          have E_f0 : w1.frozen? ⟨w.heap.size + 1, 0, none⟩ = false := (hc1.frozen (p := ⟨w.heap.size + 1, 0, none⟩) (by first | (simp; done) | (simp; omega))).trans (by first | (simp; done) | go_simp)
          have E_f1 : w1.frozen? ⟨w.heap.size + 1, 1, none⟩ = false := (hc1.frozen (p := ⟨w.heap.size + 1, 1, none⟩) (by first | (simp; done) | (simp; omega))).trans (by first | (simp; done) | go_simp)
          have E_f2 : w1.frozen? ⟨w.heap.size + 1, 2, none⟩ = false := (hc1.frozen (p := ⟨w.heap.size + 1, 2, none⟩) (by first | (simp; done) | (simp; omega))).trans (by first | (simp; done) | go_simp)
          have E_f3 : w1.frozen? ⟨w.heap.size + 1, 3, none⟩ = false := (hc1.frozen (p := ⟨w.heap.size + 1, 3, none⟩) (by first | (simp; done) | (simp; omega))).trans (by first | (simp; done) | go_simp)
          have E_l : w.heap.size + 1 < w1.heap.size := Nat.lt_of_lt_of_le (by first | (simp; done) | (simp; omega)) hc1.size
          replace hc := hc.later hst1
          clear hst1
          clear hc1 hb0
          rw [H_h8.out]
          have z1 := E_l
          go_wp2_with fail
          with_reducible refine (HS.out _ hc).mono ?_
          rintro e w2 ⟨rfl, hc2⟩
          have hb2 : Below w.heap.size w w2 := bchain (by repeat' (first | with_reducible exact hb1 | with_reducible refine Below.drew ?_ | with_reducible refine below_drewN ?_ _ | with_reducible refine Below.alloc ?_ (by have := hb1.size; first | (simp; done) | (simp; omega) | omega) _ | with_reducible refine Below.setCell ?_ (by first | (simp; done) | (simp; omega) | omega) _)) hc2
          have hst2 : Below w1.heap.size w1 w2 := bchain (by repeat' (first | with_reducible exact Below.refl _ _ | with_reducible refine Below.drew ?_ | with_reducible refine below_drewN ?_ _ | with_reducible refine Below.alloc ?_ (by first | (simp; done) | (simp; omega) | omega) _ | with_reducible refine Below.setCell ?_ (by first | (simp; done) | (simp; omega) | omega) _)) hc2
          replace D_0 := cell_later hst2 D_0
          replace D_1 := cell_later hst2 D_1
          replace D_2 := cell_later hst2 D_2
          replace D_3 := cell_later hst2 D_3
          replace D_l := Nat.lt_of_lt_of_le D_l hst2.size
          replace E_0 := cell_later hst2 E_0
          replace E_1 := cell_later hst2 E_1
          replace E_2 := cell_later hst2 E_2
          replace E_3 := cell_later hst2 E_3
          replace E_f0 := frozen_later hst2 E_l E_f0
          replace E_f1 := frozen_later hst2 E_l E_f1
          replace E_f2 := frozen_later hst2 E_l E_f2
          replace E_f3 := frozen_later hst2 E_l E_f3
          replace E_l := Nat.lt_of_lt_of_le E_l hst2.size
          replace hc := hc.later hst2
          clear hst2
          clear hc2 hb1
          go_wp2_with fail
          refine wp_gen fun w3 hc3 => ?_
          have hb3 : Below w.heap.size w w3 := bchain (by repeat' (first | with_reducible exact hb2 | with_reducible refine Below.drew ?_ | with_reducible refine below_drewN ?_ _ | with_reducible refine Below.alloc ?_ (by have := hb2.size; first | (simp; done) | (simp; omega) | omega) _ | with_reducible refine Below.setCell ?_ (by first | (simp; done) | (simp; omega) | omega) _)) hc3
          have hst3 : Below w2.heap.size w2 w3 := bchain (by repeat' (first | with_reducible exact Below.refl _ _ | with_reducible refine Below.drew ?_ | with_reducible refine below_drewN ?_ _ | with_reducible refine Below.alloc ?_ (by first | (simp; done) | (simp; omega) | omega) _ | with_reducible refine Below.setCell ?_ (by first | (simp; done) | (simp; omega) | omega) _)) hc3
          replace D_0 := cell_later hst3 D_0
          replace D_1 := cell_later hst3 D_1
          replace D_2 := cell_later hst3 D_2
          replace D_3 := cell_later hst3 D_3
          replace D_l := Nat.lt_of_lt_of_le D_l hst3.size
          replace E_0 := cell_later hst3 E_0
          replace E_1 := cell_later hst3 E_1
          replace E_2 := cell_later hst3 E_2
          replace E_3 := cell_later hst3 E_3
          replace E_f0 := frozen_later hst3 E_l E_f0
          replace E_f1 := frozen_later hst3 E_l E_f1
          replace E_f2 := frozen_later hst3 E_l E_f2
          replace E_f3 := frozen_later hst3 E_l E_f3
          replace E_l := Nat.lt_of_lt_of_le E_l hst3.size
          replace hc := hc.later hst3
          clear hst3
          have KD_0 := cell_on D_0
          have KD_1 := cell_on D_1
          have KD_2 := cell_on D_2
          have KD_3 := cell_on D_3
          refine wp_region_on (by kernel_rfl) (by kernel_rfl) ?_
          repeat (first | go_big_quiet_step ((first | (go_at_call 29; exact calls_on (held_any g o r hs a c _ (hc.on _) Hml.out)))) | quiet_step ((first | (go_at_call 29; exact calls_on (held_any g o r hs a c _ (hc.on _) Hml.out)))))
          refine wpQuiet_nil ?_
          intro w4 hc4
          clear KD_0 KD_1 KD_2 KD_3
          have hb4 : Below w.heap.size w w4 := bchain (by repeat' (first | with_reducible exact hb3 | with_reducible refine Below.drew ?_ | with_reducible refine below_drewN ?_ _ | with_reducible refine Below.alloc ?_ (by have := hb3.size; first | (simp; done) | (simp; omega) | omega) _ | with_reducible refine Below.setCell ?_ (by first | (simp; done) | (simp; omega) | omega) _)) hc4
          have hst4 : Below w3.heap.size w3 w4 := bchain (by repeat' (first | with_reducible exact Below.refl _ _ | with_reducible refine Below.drew ?_ | with_reducible refine below_drewN ?_ _ | with_reducible refine Below.alloc ?_ (by first | (simp; done) | (simp; omega) | omega) _ | with_reducible refine Below.setCell ?_ (by first | (simp; done) | (simp; omega) | omega) _)) hc4
          replace D_0 := cell_later hst4 D_0
          replace D_1 := cell_later hst4 D_1
          replace D_2 := cell_later hst4 D_2
          replace D_3 := cell_later hst4 D_3
          replace D_l := Nat.lt_of_lt_of_le D_l hst4.size
          replace E_0 := cell_later hst4 E_0
          replace E_1 := cell_later hst4 E_1
          replace E_2 := cell_later hst4 E_2
          replace E_3 := cell_later hst4 E_3
          replace E_f0 := frozen_later hst4 E_l E_f0
          replace E_f1 := frozen_later hst4 E_l E_f1
          replace E_f2 := frozen_later hst4 E_l E_f2
          replace E_f3 := frozen_later hst4 E_l E_f3
          replace E_l := Nat.lt_of_lt_of_le E_l hst4.size
          replace hc := hc.later hst4
          clear hst4
          go_wp2_with fail
          exact bodyPost_ret (v := .tuple #[.agg #[.int .i64 0, .int .i64 0, .int .i64 0, .slice none 0 0], .int .i64 38]) (by simp [results, Try.results10, go_sem, *]) rfl ⟨RetD.of ⟨_, _, rfl, .inl rfl, fresh_none _⟩ H_he.out, (by repeat' (first | with_reducible exact hb4 | with_reducible refine Below.drew ?_ | with_reducible refine below_drewN ?_ _ | with_reducible refine Below.alloc ?_ (by have := hb4.size; first | (simp; done) | (simp; omega) | omega) _ | with_reducible refine Below.setCell ?_ (by first | (simp; done) | (simp; omega) | omega) _))⟩
        · have he : ((⟨g, o, r, insD hs t x⟩, (0 : Int)) : Dk × Int) = dPut ⟨g, o, r, hs⟩ t x := by unfold dPut Dk.err; simp only; rw [if_pos H_h8.out, if_neg (by omega), if_neg (by rw [hh]; simp), if_neg (by rw [← H_hheld.out]; omega)]
          have H_he := hid he
          clear he
          have t4' : (((heldN o hs : Nat) : Int) == r) = false := beq_eq_false_iff_ne.2 t4
          clear hh t4
          go_enter Try.func10, Try.ntmps10
          have hb0 := Below.refl w.heap.size w
          go_wp2_with fail
          with_reducible refine (dcheck_any g o r hs a c _ ((hc.alloc _).alloc _) Hml.out).mono ?_
          rintro e w1 ⟨rfl, hc1⟩
          have hb1 : Below w.heap.size w w1 := bchain (by repeat' (first | with_reducible exact hb0 | with_reducible refine Below.drew ?_ | with_reducible refine below_drewN ?_ _ | with_reducible refine Below.alloc ?_ (by have := hb0.size; first | (simp; done) | (simp; omega) | omega) _ | with_reducible refine Below.setCell ?_ (by first | (simp; done) | (simp; omega) | omega) _)) hc1
          have hst1 : Below w.heap.size w w1 := bchain (by repeat' (first | with_reducible exact Below.refl _ _ | with_reducible refine Below.drew ?_ | with_reducible refine below_drewN ?_ _ | with_reducible refine Below.alloc ?_ (by first | (simp; done) | (simp; omega) | omega) _ | with_reducible refine Below.setCell ?_ (by first | (simp; done) | (simp; omega) | omega) _)) hc1
          have D_0 : w1.cell? ⟨w.heap.size, 0, none⟩ = some (.int .i64 g) := (hc1.cell (p := ⟨w.heap.size, 0, none⟩) (by first | (simp; done) | (simp; omega))).trans (by first | (simp; done) | go_simp)
          have D_1 : w1.cell? ⟨w.heap.size, 1, none⟩ = some (.int .i64 o) := (hc1.cell (p := ⟨w.heap.size, 1, none⟩) (by first | (simp; done) | (simp; omega))).trans (by first | (simp; done) | go_simp)
          have D_2 : w1.cell? ⟨w.heap.size, 2, none⟩ = some (.int .i64 r) := (hc1.cell (p := ⟨w.heap.size, 2, none⟩) (by first | (simp; done) | (simp; omega))).trans (by first | (simp; done) | go_simp)
          have D_3 : w1.cell? ⟨w.heap.size, 3, none⟩ = some (.slice a hs.length c) := (hc1.cell (p := ⟨w.heap.size, 3, none⟩) (by first | (simp; done) | (simp; omega))).trans (by first | (simp; done) | go_simp)
          have D_l : w.heap.size < w1.heap.size := Nat.lt_of_lt_of_le (by first | (simp; done) | (simp; omega)) hc1.size
          have E_0 : w1.cell? ⟨w.heap.size + 1, 0, none⟩ = some (.int .i64 0) := (hc1.cell (p := ⟨w.heap.size + 1, 0, none⟩) (by first | (simp; done) | (simp; omega))).trans (by first | (simp; done) | go_simp)
          have E_1 : w1.cell? ⟨w.heap.size + 1, 1, none⟩ = some (.int .i64 0) := (hc1.cell (p := ⟨w.heap.size + 1, 1, none⟩) (by first | (simp; done) | (simp; omega))).trans (by first | (simp; done) | go_simp)
          have E_2 : w1.cell? ⟨w.heap.size + 1, 2, none⟩ = some (.int .i64 0) := (hc1.cell (p := ⟨w.heap.size + 1, 2, none⟩) (by first | (simp; done) | (simp; omega))).trans (by first | (simp; done) | go_simp)
          have E_3 : w1.cell? ⟨w.heap.size + 1, 3, none⟩ = some (.slice none 0 0) := (hc1.cell (p := ⟨w.heap.size + 1, 3, none⟩) (by first | (simp; done) | (simp; omega))).trans (by first | (simp; done) | go_simp)
          have E_f0 : w1.frozen? ⟨w.heap.size + 1, 0, none⟩ = false := (hc1.frozen (p := ⟨w.heap.size + 1, 0, none⟩) (by first | (simp; done) | (simp; omega))).trans (by first | (simp; done) | go_simp)
          have E_f1 : w1.frozen? ⟨w.heap.size + 1, 1, none⟩ = false := (hc1.frozen (p := ⟨w.heap.size + 1, 1, none⟩) (by first | (simp; done) | (simp; omega))).trans (by first | (simp; done) | go_simp)
          have E_f2 : w1.frozen? ⟨w.heap.size + 1, 2, none⟩ = false := (hc1.frozen (p := ⟨w.heap.size + 1, 2, none⟩) (by first | (simp; done) | (simp; omega))).trans (by first | (simp; done) | go_simp)
          have E_f3 : w1.frozen? ⟨w.heap.size + 1, 3, none⟩ = false := (hc1.frozen (p := ⟨w.heap.size + 1, 3, none⟩) (by first | (simp; done) | (simp; omega))).trans (by first | (simp; done) | go_simp)
          have E_l : w.heap.size + 1 < w1.heap.size := Nat.lt_of_lt_of_le (by first | (simp; done) | (simp; omega)) hc1.size
          replace hc := hc.later hst1
          clear hst1
          clear hc1 hb0
          rw [H_h8.out]
          have z1 := E_l
          go_wp2_with fail
          with_reducible refine (HS.out _ hc).mono ?_
          rintro e w2 ⟨rfl, hc2⟩
          have hb2 : Below w.heap.size w w2 := bchain (by repeat' (first | with_reducible exact hb1 | with_reducible refine Below.drew ?_ | with_reducible refine below_drewN ?_ _ | with_reducible refine Below.alloc ?_ (by have := hb1.size; first | (simp; done) | (simp; omega) | omega) _ | with_reducible refine Below.setCell ?_ (by first | (simp; done) | (simp; omega) | omega) _)) hc2
          have hst2 : Below w1.heap.size w1 w2 := bchain (by repeat' (first | with_reducible exact Below.refl _ _ | with_reducible refine Below.drew ?_ | with_reducible refine below_drewN ?_ _ | with_reducible refine Below.alloc ?_ (by first | (simp; done) | (simp; omega) | omega) _ | with_reducible refine Below.setCell ?_ (by first | (simp; done) | (simp; omega) | omega) _)) hc2
          replace D_0 := cell_later hst2 D_0
          replace D_1 := cell_later hst2 D_1
          replace D_2 := cell_later hst2 D_2
          replace D_3 := cell_later hst2 D_3
          replace D_l := Nat.lt_of_lt_of_le D_l hst2.size
          replace E_0 := cell_later hst2 E_0
          replace E_1 := cell_later hst2 E_1
          replace E_2 := cell_later hst2 E_2
          replace E_3 := cell_later hst2 E_3
          replace E_f0 := frozen_later hst2 E_l E_f0
          replace E_f1 := frozen_later hst2 E_l E_f1
          replace E_f2 := frozen_later hst2 E_l E_f2
          replace E_f3 := frozen_later hst2 E_l E_f3
          replace E_l := Nat.lt_of_lt_of_le E_l hst2.size
          replace hc := hc.later hst2
          clear hst2
          clear hc2 hb1
          go_wp2_with fail
          refine wp_gen fun w3 hc3 => ?_
          have hb3 : Below w.heap.size w w3 := bchain (by repeat' (first | with_reducible exact hb2 | with_reducible refine Below.drew ?_ | with_reducible refine below_drewN ?_ _ | with_reducible refine Below.alloc ?_ (by have := hb2.size; first | (simp; done) | (simp; omega) | omega) _ | with_reducible refine Below.setCell ?_ (by first | (simp; done) | (simp; omega) | omega) _)) hc3
          have hst3 : Below w2.heap.size w2 w3 := bchain (by repeat' (first | with_reducible exact Below.refl _ _ | with_reducible refine Below.drew ?_ | with_reducible refine below_drewN ?_ _ | with_reducible refine Below.alloc ?_ (by first | (simp; done) | (simp; omega) | omega) _ | with_reducible refine Below.setCell ?_ (by first | (simp; done) | (simp; omega) | omega) _)) hc3
          replace D_0 := cell_later hst3 D_0
          replace D_1 := cell_later hst3 D_1
          replace D_2 := cell_later hst3 D_2
          replace D_3 := cell_later hst3 D_3
          replace D_l := Nat.lt_of_lt_of_le D_l hst3.size
          replace E_0 := cell_later hst3 E_0
          replace E_1 := cell_later hst3 E_1
          replace E_2 := cell_later hst3 E_2
          replace E_3 := cell_later hst3 E_3
          replace E_f0 := frozen_later hst3 E_l E_f0
          replace E_f1 := frozen_later hst3 E_l E_f1
          replace E_f2 := frozen_later hst3 E_l E_f2
          replace E_f3 := frozen_later hst3 E_l E_f3
          replace E_l := Nat.lt_of_lt_of_le E_l hst3.size
          replace hc := hc.later hst3
          clear hst3
          have KD_0 := cell_on D_0
          have KD_1 := cell_on D_1
          have KD_2 := cell_on D_2
          have KD_3 := cell_on D_3
          refine wp_region_on (by kernel_rfl) (by kernel_rfl) ?_
          repeat (first | go_big_quiet_step ((first | (go_at_call 29; exact calls_on (held_any g o r hs a c _ (hc.on _) Hml.out)))) | quiet_step ((first | (go_at_call 29; exact calls_on (held_any g o r hs a c _ (hc.on _) Hml.out)))))
          refine wpQuiet_nil ?_
          intro w4 hc4
          clear KD_0 KD_1 KD_2 KD_3
          have hb4 : Below w.heap.size w w4 := bchain (by repeat' (first | with_reducible exact hb3 | with_reducible refine Below.drew ?_ | with_reducible refine below_drewN ?_ _ | with_reducible refine Below.alloc ?_ (by have := hb3.size; first | (simp; done) | (simp; omega) | omega) _ | with_reducible refine Below.setCell ?_ (by first | (simp; done) | (simp; omega) | omega) _)) hc4
          have hst4 : Below w3.heap.size w3 w4 := bchain (by repeat' (first | with_reducible exact Below.refl _ _ | with_reducible refine Below.drew ?_ | with_reducible refine below_drewN ?_ _ | with_reducible refine Below.alloc ?_ (by first | (simp; done) | (simp; omega) | omega) _ | with_reducible refine Below.setCell ?_ (by first | (simp; done) | (simp; omega) | omega) _)) hc4
          replace D_0 := cell_later hst4 D_0
          replace D_1 := cell_later hst4 D_1
          replace D_2 := cell_later hst4 D_2
          replace D_3 := cell_later hst4 D_3
          replace D_l := Nat.lt_of_lt_of_le D_l hst4.size
          replace E_0 := cell_later hst4 E_0
          replace E_1 := cell_later hst4 E_1
          replace E_2 := cell_later hst4 E_2
          replace E_3 := cell_later hst4 E_3
          replace E_f0 := frozen_later hst4 E_l E_f0
          replace E_f1 := frozen_later hst4 E_l E_f1
          replace E_f2 := frozen_later hst4 E_l E_f2
          replace E_f3 := frozen_later hst4 E_l E_f3
          replace E_l := Nat.lt_of_lt_of_le E_l hst4.size
          replace hc := hc.later hst4
          clear hst4
          have z4 := E_l
          go_wp2_with fail
          with_reducible refine (dtwin_any g o r hs a c _ hc (by omega)).mono ?_
          rintro e w5 ⟨a1, c1, rfl, o1, hc5⟩
          have hb5 : Below w.heap.size w w5 := bchain (by repeat' (first | with_reducible exact hb4 | with_reducible refine Below.drew ?_ | with_reducible refine below_drewN ?_ _ | with_reducible refine Below.alloc ?_ (by have := hb4.size; first | (simp; done) | (simp; omega) | omega) _ | with_reducible refine Below.setCell ?_ (by first | (simp; done) | (simp; omega) | omega) _)) hc5
          have hst5 : Below w4.heap.size w4 w5 := bchain (by repeat' (first | with_reducible exact Below.refl _ _ | with_reducible refine Below.drew ?_ | with_reducible refine below_drewN ?_ _ | with_reducible refine Below.alloc ?_ (by first | (simp; done) | (simp; omega) | omega) _ | with_reducible refine Below.setCell ?_ (by first | (simp; done) | (simp; omega) | omega) _)) hc5
          replace D_0 := cell_later hst5 D_0
          replace D_1 := cell_later hst5 D_1
          replace D_2 := cell_later hst5 D_2
          replace D_3 := cell_later hst5 D_3
          replace D_l := Nat.lt_of_lt_of_le D_l hst5.size
          replace E_0 := cell_later hst5 E_0
          replace E_1 := cell_later hst5 E_1
          replace E_2 := cell_later hst5 E_2
          replace E_3 := cell_later hst5 E_3
          replace E_f0 := frozen_later hst5 E_l E_f0
          replace E_f1 := frozen_later hst5 E_l E_f1
          replace E_f2 := frozen_later hst5 E_l E_f2
          replace E_f3 := frozen_later hst5 E_l E_f3
          replace E_l := Nat.lt_of_lt_of_le E_l hst5.size
          replace hc := hc.later hst5
          clear hst5
          obtain ⟨hcell5, hfroz5⟩ := bcell hc5
          have hz5 := hc5.size
          clear hcell5 hfroz5 hc5
          have z5 := E_l
          have b5 := hb5
          clear D_0 D_1 D_2 D_3 D_l hc
          go_wp2_with fail
          have hv1 := heap_new2 w5 (.cells #[.int .i64 g, .int .i64 o, .int .i64 r, .slice a1 hs.length c1] 26) (.cells #[.int .i64 t, .int .u64 x] 38)
          have q1 := o1.addr
          refine (insS_any (lb hs t) hs.length c1 w4.heap.size (w5.heap.size + 1) 1 a1 (cel hs) [.int .i64 t, .int .u64 x] _ (lb_le hs t) ((o1.alloc _).alloc _) (cel_one hs) rfl hv1 (slip_one _ _) hb (by first | (simp; done) | (simp; omega) | omega) (fun ad e => by have := (q1 ad e).2; omega)).mono ?_
          rintro e w6 ⟨a2, c2, rfl, o2, hg, hk⟩
          obtain ⟨hcell, hfroz⟩ := gcell hg o1
          have hz := hg.size
          simp only [World.size_alloc] at hz
          have X_0 : w6.cell? ⟨w5.heap.size, 0, none⟩ = some (.int .i64 g) := (hcell w5.heap.size 0 (by first | (simp; done) | (simp; omega) | omega) (.inr (Nat.le_refl _))).trans (by first | (simp; done) | go_simp)
          have X_1 : w6.cell? ⟨w5.heap.size, 1, none⟩ = some (.int .i64 o) := (hcell w5.heap.size 1 (by first | (simp; done) | (simp; omega) | omega) (.inr (Nat.le_refl _))).trans (by first | (simp; done) | go_simp)
          have X_2 : w6.cell? ⟨w5.heap.size, 2, none⟩ = some (.int .i64 r) := (hcell w5.heap.size 2 (by first | (simp; done) | (simp; omega) | omega) (.inr (Nat.le_refl _))).trans (by first | (simp; done) | go_simp)
          have X_3 : w6.cell? ⟨w5.heap.size, 3, none⟩ = some (.slice a1 hs.length c1) := (hcell w5.heap.size 3 (by first | (simp; done) | (simp; omega) | omega) (.inr (Nat.le_refl _))).trans (by first | (simp; done) | go_simp)
          have X_f3 : w6.frozen? ⟨w5.heap.size, 3, none⟩ = false := (hfroz w5.heap.size 3 (by first | (simp; done) | (simp; omega) | omega) (.inr (Nat.le_refl _))).trans (by first | (simp; done) | go_simp)
          have hst : Below w5.heap.size w5 ((w5.alloc (.cells #[.int .i64 g, .int .i64 o, .int .i64 r, .slice a1 hs.length c1] 26)).alloc (.cells #[.int .i64 t, .int .u64 x] 38)) := ((Below.refl _ _).alloc (Nat.le_refl _) _).alloc (by first | (simp; done) | (simp; omega) | omega) _
          have E_0' := (hcell (w.heap.size + 1) 0 (by first | (simp; done) | (simp; omega) | omega) (.inl z4)).trans (cell_later hst E_0)
          have E_1' := (hcell (w.heap.size + 1) 1 (by first | (simp; done) | (simp; omega) | omega) (.inl z4)).trans (cell_later hst E_1)
          have E_2' := (hcell (w.heap.size + 1) 2 (by first | (simp; done) | (simp; omega) | omega) (.inl z4)).trans (cell_later hst E_2)
          have E_3' := (hcell (w.heap.size + 1) 3 (by first | (simp; done) | (simp; omega) | omega) (.inl z4)).trans (cell_later hst E_3)
          have E_f0' := (hfroz (w.heap.size + 1) 0 (by first | (simp; done) | (simp; omega) | omega) (.inl z4)).trans (frozen_later hst z5 E_f0)
          have E_f1' := (hfroz (w.heap.size + 1) 1 (by first | (simp; done) | (simp; omega) | omega) (.inl z4)).trans (frozen_later hst z5 E_f1)
          have E_f2' := (hfroz (w.heap.size + 1) 2 (by first | (simp; done) | (simp; omega) | omega) (.inl z4)).trans (frozen_later hst z5 E_f2)
          have E_f3' := (hfroz (w.heap.size + 1) 3 (by first | (simp; done) | (simp; omega) | omega) (.inl z4)).trans (frozen_later hst z5 E_f3)
          have hb6 : Below w.heap.size w w6 := below_grownX ((b5.alloc (by first | (simp; done) | (simp; omega) | omega) _).alloc (by first | (simp; done) | (simp; omega) | omega) _) hg (by first | (simp; done) | (simp; omega) | omega) (fun k hk => by have := (o1.lt k hk).1; omega)
          have z6 : w.heap.size + 1 < w6.heap.size := by omega
          have z7 : w5.heap.size < w6.heap.size := by omega
          have hne : w5.heap.size ≠ w.heap.size + 1 := by omega
          have kk := o2.cellsAt
          rw [← insD_cel] at kk
          have p1 : ∀ ad, a2 = some ad → ad.block ≠ w.heap.size + 1 ∧ ad.block ≠ w5.heap.size ∧ w.heap.size + 1 < ad.block := fun ad e => by
            subst e
            rcases hk ad.block rfl with h | h
            · have := o1.lt _ h; omega
            · simp only [World.size_alloc] at h; omega
          have hil : hs.length + 1 = (insD hs t x).length := (insD_len _ _ _).symm
          have H_hil := hid hil
          clear hil
          clear E_0 E_1 E_2 E_3 E_f0 E_f1 E_f2 E_f3 hcell hfroz hst hg hk o1 o2 q1 hv1
          go_wp2_with fail
          exact bodyPost_ret (v := .tuple #[.agg #[.int .i64 g, .int .i64 o, .int .i64 r, .slice a2 (hs.length + 1) c2], .int .i64 0]) (by simp [results, Try.results10, go_sem, *]) rfl ⟨RetD.of (RetD.mk' H_hil.out rfl (by repeat' (first | with_reducible exact kk | with_reducible refine CellsAt.setFarG ?_ ?_ _ | exact fun ad e => (p1 ad e).1 | exact fun ad e => (p1 ad e).2.1)) (fun ad e => by have := (p1 ad e).2.2; omega)) H_he.out, (by repeat' (first | with_reducible exact hb6 | with_reducible refine Below.drew ?_ | with_reducible refine below_drewN ?_ _ | with_reducible refine Below.alloc ?_ (by have := hb6.size; first | (simp; done) | (simp; omega) | omega) _ | with_reducible refine Below.setCell ?_ (by first | (simp; done) | (simp; omega) | omega) _))⟩
    · skip
      have he : (Dk.zero, (14 : Int)) = dPut ⟨g, o, r, hs⟩ t x := by unfold dPut Dk.err; rw [if_pos H_h8.out, if_neg (by simp only; omega), if_pos hh]
      have H_he := hid he
      clear he
      rw [hh] at Hsr
      have HS := hid Hsr
      clear Hsr hh
      go_enter Try.func10, Try.ntmps10
      have hb0 := Below.refl w.heap.size w
      go_wp2_with fail
      with_reducible refine (dcheck_any g o r hs a c _ ((hc.alloc _).alloc _) Hml.out).mono ?_
      rintro e w1 ⟨rfl, hc1⟩
      have hb1 : Below w.heap.size w w1 := bchain (by repeat' (first | with_reducible exact hb0 | with_reducible refine Below.drew ?_ | with_reducible refine below_drewN ?_ _ | with_reducible refine Below.alloc ?_ (by have := hb0.size; first | (simp; done) | (simp; omega) | omega) _ | with_reducible refine Below.setCell ?_ (by first | (simp; done) | (simp; omega) | omega) _)) hc1
      have hst1 : Below w.heap.size w w1 := bchain (by repeat' (first | with_reducible exact Below.refl _ _ | with_reducible refine Below.drew ?_ | with_reducible refine below_drewN ?_ _ | with_reducible refine Below.alloc ?_ (by first | (simp; done) | (simp; omega) | omega) _ | with_reducible refine Below.setCell ?_ (by first | (simp; done) | (simp; omega) | omega) _)) hc1
      have D_0 : w1.cell? ⟨w.heap.size, 0, none⟩ = some (.int .i64 g) := (hc1.cell (p := ⟨w.heap.size, 0, none⟩) (by first | (simp; done) | (simp; omega))).trans (by first | (simp; done) | go_simp)
      have D_1 : w1.cell? ⟨w.heap.size, 1, none⟩ = some (.int .i64 o) := (hc1.cell (p := ⟨w.heap.size, 1, none⟩) (by first | (simp; done) | (simp; omega))).trans (by first | (simp; done) | go_simp)
      have D_2 : w1.cell? ⟨w.heap.size, 2, none⟩ = some (.int .i64 r) := (hc1.cell (p := ⟨w.heap.size, 2, none⟩) (by first | (simp; done) | (simp; omega))).trans (by first | (simp; done) | go_simp)
      have D_3 : w1.cell? ⟨w.heap.size, 3, none⟩ = some (.slice a hs.length c) := (hc1.cell (p := ⟨w.heap.size, 3, none⟩) (by first | (simp; done) | (simp; omega))).trans (by first | (simp; done) | go_simp)
      have D_l : w.heap.size < w1.heap.size := Nat.lt_of_lt_of_le (by first | (simp; done) | (simp; omega)) hc1.size
      have E_0 : w1.cell? ⟨w.heap.size + 1, 0, none⟩ = some (.int .i64 0) := (hc1.cell (p := ⟨w.heap.size + 1, 0, none⟩) (by first | (simp; done) | (simp; omega))).trans (by first | (simp; done) | go_simp)
      have E_1 : w1.cell? ⟨w.heap.size + 1, 1, none⟩ = some (.int .i64 0) := (hc1.cell (p := ⟨w.heap.size + 1, 1, none⟩) (by first | (simp; done) | (simp; omega))).trans (by first | (simp; done) | go_simp)
      have E_2 : w1.cell? ⟨w.heap.size + 1, 2, none⟩ = some (.int .i64 0) := (hc1.cell (p := ⟨w.heap.size + 1, 2, none⟩) (by first | (simp; done) | (simp; omega))).trans (by first | (simp; done) | go_simp)
      have E_3 : w1.cell? ⟨w.heap.size + 1, 3, none⟩ = some (.slice none 0 0) := (hc1.cell (p := ⟨w.heap.size + 1, 3, none⟩) (by first | (simp; done) | (simp; omega))).trans (by first | (simp; done) | go_simp)
      have E_f0 : w1.frozen? ⟨w.heap.size + 1, 0, none⟩ = false := (hc1.frozen (p := ⟨w.heap.size + 1, 0, none⟩) (by first | (simp; done) | (simp; omega))).trans (by first | (simp; done) | go_simp)
      have E_f1 : w1.frozen? ⟨w.heap.size + 1, 1, none⟩ = false := (hc1.frozen (p := ⟨w.heap.size + 1, 1, none⟩) (by first | (simp; done) | (simp; omega))).trans (by first | (simp; done) | go_simp)
      have E_f2 : w1.frozen? ⟨w.heap.size + 1, 2, none⟩ = false := (hc1.frozen (p := ⟨w.heap.size + 1, 2, none⟩) (by first | (simp; done) | (simp; omega))).trans (by first | (simp; done) | go_simp)
      have E_f3 : w1.frozen? ⟨w.heap.size + 1, 3, none⟩ = false := (hc1.frozen (p := ⟨w.heap.size + 1, 3, none⟩) (by first | (simp; done) | (simp; omega))).trans (by first | (simp; done) | go_simp)
      have E_l : w.heap.size + 1 < w1.heap.size := Nat.lt_of_lt_of_le (by first | (simp; done) | (simp; omega)) hc1.size
      replace hc := hc.later hst1
      clear hst1
      clear hc1 hb0
      rw [H_h8.out]
      have z1 := E_l
      go_wp2_with fail
      with_reducible refine (HS.out _ hc).mono ?_
      rintro e w2 ⟨rfl, hc2⟩
      have hb2 : Below w.heap.size w w2 := bchain (by repeat' (first | with_reducible exact hb1 | with_reducible refine Below.drew ?_ | with_reducible refine below_drewN ?_ _ | with_reducible refine Below.alloc ?_ (by have := hb1.size; first | (simp; done) | (simp; omega) | omega) _ | with_reducible refine Below.setCell ?_ (by first | (simp; done) | (simp; omega) | omega) _)) hc2
      have hst2 : Below w1.heap.size w1 w2 := bchain (by repeat' (first | with_reducible exact Below.refl _ _ | with_reducible refine Below.drew ?_ | with_reducible refine below_drewN ?_ _ | with_reducible refine Below.alloc ?_ (by first | (simp; done) | (simp; omega) | omega) _ | with_reducible refine Below.setCell ?_ (by first | (simp; done) | (simp; omega) | omega) _)) hc2
      replace D_0 := cell_later hst2 D_0
      replace D_1 := cell_later hst2 D_1
      replace D_2 := cell_later hst2 D_2
      replace D_3 := cell_later hst2 D_3
      replace D_l := Nat.lt_of_lt_of_le D_l hst2.size
      replace E_0 := cell_later hst2 E_0
      replace E_1 := cell_later hst2 E_1
      replace E_2 := cell_later hst2 E_2
      replace E_3 := cell_later hst2 E_3
      replace E_f0 := frozen_later hst2 E_l E_f0
      replace E_f1 := frozen_later hst2 E_l E_f1
      replace E_f2 := frozen_later hst2 E_l E_f2
      replace E_f3 := frozen_later hst2 E_l E_f3
      replace E_l := Nat.lt_of_lt_of_le E_l hst2.size
      replace hc := hc.later hst2
      clear hst2
      clear hc2 hb1
      go_wp2_with fail
      exact bodyPost_ret (v := .tuple #[.agg #[.int .i64 0, .int .i64 0, .int .i64 0, .slice none 0 0], .int .i64 14]) (by simp [results, Try.results10, go_sem, *]) rfl ⟨RetD.of ⟨_, _, rfl, .inl rfl, fresh_none _⟩ H_he.out, (by repeat' (first | with_reducible exact hb2 | with_reducible refine Below.drew ?_ | with_reducible refine below_drewN ?_ _ | with_reducible refine Below.alloc ?_ (by have := hb2.size; first | (simp; done) | (simp; omega) | omega) _ | with_reducible refine Below.setCell ?_ (by first | (simp; done) | (simp; omega) | omega) _))⟩
  · have he : (Dk.zero, (8 : Int)) = dPut ⟨g, o, r, hs⟩ t x := by unfold dPut Dk.err; rw [if_neg (by simp only; omega)]
    have H_he := hid he
    have H_h8 := hid h8
    clear he h8
    go_enter Try.func10, Try.ntmps10
    have hb0 := Below.refl w.heap.size w
    go_wp2_with fail
    with_reducible refine (dcheck_any g o r hs a c _ ((hc.alloc _).alloc _) Hml.out).mono ?_
    rintro e w1 ⟨rfl, hc1⟩
    have hb1 : Below w.heap.size w w1 := bchain (by repeat' (first | with_reducible exact hb0 | with_reducible refine Below.drew ?_ | with_reducible refine below_drewN ?_ _ | with_reducible refine Below.alloc ?_ (by have := hb0.size; first | (simp; done) | (simp; omega) | omega) _ | with_reducible refine Below.setCell ?_ (by first | (simp; done) | (simp; omega) | omega) _)) hc1
    have hst1 : Below w.heap.size w w1 := bchain (by repeat' (first | with_reducible exact Below.refl _ _ | with_reducible refine Below.drew ?_ | with_reducible refine below_drewN ?_ _ | with_reducible refine Below.alloc ?_ (by first | (simp; done) | (simp; omega) | omega) _ | with_reducible refine Below.setCell ?_ (by first | (simp; done) | (simp; omega) | omega) _)) hc1
    have D_0 : w1.cell? ⟨w.heap.size, 0, none⟩ = some (.int .i64 g) := (hc1.cell (p := ⟨w.heap.size, 0, none⟩) (by first | (simp; done) | (simp; omega))).trans (by first | (simp; done) | go_simp)
    have D_1 : w1.cell? ⟨w.heap.size, 1, none⟩ = some (.int .i64 o) := (hc1.cell (p := ⟨w.heap.size, 1, none⟩) (by first | (simp; done) | (simp; omega))).trans (by first | (simp; done) | go_simp)
    have D_2 : w1.cell? ⟨w.heap.size, 2, none⟩ = some (.int .i64 r) := (hc1.cell (p := ⟨w.heap.size, 2, none⟩) (by first | (simp; done) | (simp; omega))).trans (by first | (simp; done) | go_simp)
    have D_3 : w1.cell? ⟨w.heap.size, 3, none⟩ = some (.slice a hs.length c) := (hc1.cell (p := ⟨w.heap.size, 3, none⟩) (by first | (simp; done) | (simp; omega))).trans (by first | (simp; done) | go_simp)
    have D_l : w.heap.size < w1.heap.size := Nat.lt_of_lt_of_le (by first | (simp; done) | (simp; omega)) hc1.size
    have E_0 : w1.cell? ⟨w.heap.size + 1, 0, none⟩ = some (.int .i64 0) := (hc1.cell (p := ⟨w.heap.size + 1, 0, none⟩) (by first | (simp; done) | (simp; omega))).trans (by first | (simp; done) | go_simp)
    have E_1 : w1.cell? ⟨w.heap.size + 1, 1, none⟩ = some (.int .i64 0) := (hc1.cell (p := ⟨w.heap.size + 1, 1, none⟩) (by first | (simp; done) | (simp; omega))).trans (by first | (simp; done) | go_simp)
    have E_2 : w1.cell? ⟨w.heap.size + 1, 2, none⟩ = some (.int .i64 0) := (hc1.cell (p := ⟨w.heap.size + 1, 2, none⟩) (by first | (simp; done) | (simp; omega))).trans (by first | (simp; done) | go_simp)
    have E_3 : w1.cell? ⟨w.heap.size + 1, 3, none⟩ = some (.slice none 0 0) := (hc1.cell (p := ⟨w.heap.size + 1, 3, none⟩) (by first | (simp; done) | (simp; omega))).trans (by first | (simp; done) | go_simp)
    have E_f0 : w1.frozen? ⟨w.heap.size + 1, 0, none⟩ = false := (hc1.frozen (p := ⟨w.heap.size + 1, 0, none⟩) (by first | (simp; done) | (simp; omega))).trans (by first | (simp; done) | go_simp)
    have E_f1 : w1.frozen? ⟨w.heap.size + 1, 1, none⟩ = false := (hc1.frozen (p := ⟨w.heap.size + 1, 1, none⟩) (by first | (simp; done) | (simp; omega))).trans (by first | (simp; done) | go_simp)
    have E_f2 : w1.frozen? ⟨w.heap.size + 1, 2, none⟩ = false := (hc1.frozen (p := ⟨w.heap.size + 1, 2, none⟩) (by first | (simp; done) | (simp; omega))).trans (by first | (simp; done) | go_simp)
    have E_f3 : w1.frozen? ⟨w.heap.size + 1, 3, none⟩ = false := (hc1.frozen (p := ⟨w.heap.size + 1, 3, none⟩) (by first | (simp; done) | (simp; omega))).trans (by first | (simp; done) | go_simp)
    have E_l : w.heap.size + 1 < w1.heap.size := Nat.lt_of_lt_of_le (by first | (simp; done) | (simp; omega)) hc1.size
    replace hc := hc.later hst1
    clear hst1
    clear hc1 hb0
    rw [H_h8.out]
    have z1 := E_l
    go_wp2_with fail
    exact bodyPost_ret (v := .tuple #[.agg #[.int .i64 0, .int .i64 0, .int .i64 0, .slice none 0 0], .int .i64 8]) (by simp [results, Try.results10, go_sem, *]) rfl ⟨RetD.of ⟨_, _, rfl, .inl rfl, fresh_none _⟩ H_he.out, (by repeat' (first | with_reducible exact hb1 | with_reducible refine Below.drew ?_ | with_reducible refine below_drewN ?_ _ | with_reducible refine Below.alloc ?_ (by have := hb1.size; first | (simp; done) | (simp; omega) | omega) _ | with_reducible refine Below.setCell ?_ (by first | (simp; done) | (simp; omega) | omega) _))⟩

end Go.Proofs.Ytpfldkcbkolgnaa
