/- What the reference's Put returns. -/
import Derived.Test.YtpfldkcbkolgnaaTicketROps
import Derived.Test.YtpfldkcbkolgnaaTicketPut
import Derived.Test.YtpfldkcbkolgnaaTicketBub
namespace Go.Proofs.Ytpfldkcbkolgnaa
set_option linter.unusedSimpArgs false
set_option linter.unusedVariables false
set_option linter.unnecessarySimpa false
open Go.RowKit


theorem cellsAt_blk {w : World} {vb : Nat} {news : List Value} {t : TypeId} (hv : w.heap[vb]? = some (.cells news.toArray t (0, 0))) : CellsAt w (some ⟨vb, 0, none⟩) news :=
  .inr ⟨vb, 0, rfl, fun j u hj => by rw [Nat.zero_add, cell_of_row w vb j news.toArray t (0, 0) hv]; simpa using hj⟩
theorem atI_has (t : Int) (hs : Slips) : decide (0 ≤ atI t hs) = hasT hs t := idxI_any _ hs

/- $1: the ticket that goes out next; $2: the ticket -/
set_option maxHeartbeats 4000000 in
theorem rdput_any (g o r t x : Int) (hs : Slips) (a : Option Addr) (c : Nat) (w : World) (hc : CellsAt w a (cel hs)) (hb : hs.length ≤ 8796093022206) :
    Calls Try.prog 19 #[.agg #[.int .i64 g, .int .i64 o, .int .i64 r, .slice a hs.length c], .int .i64 t, .int .u64 x] w fun e w' =>
      RetD w.heap.size w' e (dPut ⟨g, o, r, hs⟩ t x) ∧ Below w.heap.size w w' := by
  obtain ⟨i0, ii, iz0, iz1, iz2⟩ := info_parts info_slip
  have Hml := hid (show hs.length ≤ maxLen from by unfold maxLen; omega)
  rcases dErr_cases g o r hs with h8 | h8
  · have V := DV.of h8
    have hg1 := V.o1
    have hg2 := V.o2
    have hg3 := V.g1
    have hroom := V.room
    have HV := hid V
    clear V
    have H_h8 := hid h8
    clear h8
    by_cases t1 : t < o
    · skip
      have he : (Dk.zero, (2 : Int)) = dPut ⟨g, o, r, hs⟩ t x := by unfold dPut Dk.err; rw [if_pos H_h8.out, if_pos (.inl t1)]
      have H_he := hid he
      clear he
      go_enter Try.func19, Try.ntmps19
      have hb0 := Below.refl w.heap.size w
      go_wp2_with fail
      with_reducible refine (rdcheck_any g o r hs a c _ ((hc.alloc _).alloc _) Hml.out).mono ?_
      rintro e w1 ⟨rfl, hc1⟩
      have hb1 : Below w.heap.size w w1 := bchain (by repeat' (first | with_reducible exact hb0 | with_reducible refine Below.drew ?_ | with_reducible refine below_drewN ?_ _ | with_reducible refine Below.alloc ?_ (by have := hb0.size; first | (simp; done) | (simp; omega) | omega) _ | with_reducible refine Below.setCell ?_ (by first | (simp; done) | (simp; omega) | omega) _)) hc1
      have hst1 : Below w.heap.size w w1 := bchain (by repeat' (first | with_reducible exact Below.refl _ _ | with_reducible refine Below.drew ?_ | with_reducible refine below_drewN ?_ _ | with_reducible refine Below.alloc ?_ (by first | (simp; done) | (simp; omega) | omega) _ | with_reducible refine Below.setCell ?_ (by first | (simp; done) | (simp; omega) | omega) _)) hc1
      have D_0 : w1.cell? ⟨w.heap.size, 0, none⟩ = some (.int .i64 g) := (hc1.cell (p := ⟨w.heap.size, 0, none⟩) (by first | (simp; done) | (simp; omega))).trans (by first | (simp; done) | go_simp)
      have D_1 : w1.cell? ⟨w.heap.size, 1, none⟩ = some (.int .i64 o) := (hc1.cell (p := ⟨w.heap.size, 1, none⟩) (by first | (simp; done) | (simp; omega))).trans (by first | (simp; done) | go_simp)
      have D_2 : w1.cell? ⟨w.heap.size, 2, none⟩ = some (.int .i64 r) := (hc1.cell (p := ⟨w.heap.size, 2, none⟩) (by first | (simp; done) | (simp; omega))).trans (by first | (simp; done) | go_simp)
      have D_3 : w1.cell? ⟨w.heap.size, 3, none⟩ = some (.slice a hs.length c) := (hc1.cell (p := ⟨w.heap.size, 3, none⟩) (by first | (simp; done) | (simp; omega))).trans (by first | (simp; done) | go_simp)
      have D_l : w.heap.size < w1.heap.size := Nat.lt_of_lt_of_le (by first | (simp; done) | (simp; omega)) hc1.size
      have E_0 : w1.cell? ⟨w.heap.size + 1, 0, none⟩ = some (.int .i64 0) := (hc1.cell (p := ⟨w.heap.size + 1, 0, none⟩) (by first | (simp; done) | (simp; omega))).trans (by first | (simp; done) | go_simp)
      have E_1 : w1.cell? ⟨w.heap.size + 1, 1, none⟩ = some (.int .i64 0) := (hc1.cell (p := ⟨w.heap.size + 1, 1, none⟩) (by first | (simp; done) | (simp; omega))).trans (by first | (simp; done) | go_simp)
      have E_2 : w1.cell? ⟨w.heap.size + 1, 2, none⟩ = some (.int .i64 0) := (hc1.cell (p := ⟨w.heap.size + 1, 2, none⟩) (by first | (simp; done) | (simp; omega))).trans (by first | (simp; done) | go_simp)
      have E_3 : w1.cell? ⟨w.heap.size + 1, 3, none⟩ = some (.slice none 0 0) := (hc1.cell (p := ⟨w.heap.size + 1, 3, none⟩) (by first | (simp; done) | (simp; omega))).trans (by first | (simp; done) | go_simp)
      have E_f0 : w1.frozen? ⟨w.heap.size + 1, 0, none⟩ = false := (hc1.frozen (p := ⟨w.heap.size + 1, 0, none⟩) (by first | (simp; done) | (simp; omega))).trans (by first | (simp; done) | go_simp)
      have E_f1 : w1.frozen? ⟨w.heap.size + 1, 1, none⟩ = false := (hc1.frozen (p := ⟨w.heap.size + 1, 1, none⟩) (by first | (simp; done) | (simp; omega))).trans (by first | (simp; done) | go_simp)
      have E_f2 : w1.frozen? ⟨w.heap.size + 1, 2, none⟩ = false := (hc1.frozen (p := ⟨w.heap.size + 1, 2, none⟩) (by first | (simp; done) | (simp; omega))).trans (by first | (simp; done) | go_simp)
      have E_f3 : w1.frozen? ⟨w.heap.size + 1, 3, none⟩ = false := (hc1.frozen (p := ⟨w.heap.size + 1, 3, none⟩) (by first | (simp; done) | (simp; omega))).trans (by first | (simp; done) | go_simp)
      have E_l : w.heap.size + 1 < w1.heap.size := Nat.lt_of_lt_of_le (by first | (simp; done) | (simp; omega)) hc1.size
      replace hc := hc.later hst1
      clear hst1
      clear hc1 hb0
      rw [H_h8.out]
      have z1 := E_l
      go_wp2_with fail
      exact bodyPost_ret (v := .tuple #[.agg #[.int .i64 0, .int .i64 0, .int .i64 0, .slice none 0 0], .int .i64 2]) (by simp [results, Try.results19, go_sem, *]) rfl ⟨RetD.of ⟨_, _, rfl, .inl rfl, fresh_none _⟩ H_he.out, (by repeat' (first | with_reducible exact hb1 | with_reducible refine Below.drew ?_ | with_reducible refine below_drewN ?_ _ | with_reducible refine Below.alloc ?_ (by have := hb1.size; first | (simp; done) | (simp; omega) | omega) _ | with_reducible refine Below.setCell ?_ (by first | (simp; done) | (simp; omega) | omega) _))⟩
    by_cases t2 : g ≤ t
    · skip
      have he : (Dk.zero, (2 : Int)) = dPut ⟨g, o, r, hs⟩ t x := by unfold dPut Dk.err; rw [if_pos H_h8.out, if_pos (.inr t2)]
      have H_he := hid he
      clear he
      go_enter Try.func19, Try.ntmps19
      have hb0 := Below.refl w.heap.size w
      go_wp2_with fail
      with_reducible refine (rdcheck_any g o r hs a c _ ((hc.alloc _).alloc _) Hml.out).mono ?_
      rintro e w1 ⟨rfl, hc1⟩
      have hb1 : Below w.heap.size w w1 := bchain (by repeat' (first | with_reducible exact hb0 | with_reducible refine Below.drew ?_ | with_reducible refine below_drewN ?_ _ | with_reducible refine Below.alloc ?_ (by have := hb0.size; first | (simp; done) | (simp; omega) | omega) _ | with_reducible refine Below.setCell ?_ (by first | (simp; done) | (simp; omega) | omega) _)) hc1
      have hst1 : Below w.heap.size w w1 := bchain (by repeat' (first | with_reducible exact Below.refl _ _ | with_reducible refine Below.drew ?_ | with_reducible refine below_drewN ?_ _ | with_reducible refine Below.alloc ?_ (by first | (simp; done) | (simp; omega) | omega) _ | with_reducible refine Below.setCell ?_ (by first | (simp; done) | (simp; omega) | omega) _)) hc1
      have D_0 : w1.cell? ⟨w.heap.size, 0, none⟩ = some (.int .i64 g) := (hc1.cell (p := ⟨w.heap.size, 0, none⟩) (by first | (simp; done) | (simp; omega))).trans (by first | (simp; done) | go_simp)
      have D_1 : w1.cell? ⟨w.heap.size, 1, none⟩ = some (.int .i64 o) := (hc1.cell (p := ⟨w.heap.size, 1, none⟩) (by first | (simp; done) | (simp; omega))).trans (by first | (simp; done) | go_simp)
      have D_2 : w1.cell? ⟨w.heap.size, 2, none⟩ = some (.int .i64 r) := (hc1.cell (p := ⟨w.heap.size, 2, none⟩) (by first | (simp; done) | (simp; omega))).trans (by first | (simp; done) | go_simp)
      have D_3 : w1.cell? ⟨w.heap.size, 3, none⟩ = some (.slice a hs.length c) := (hc1.cell (p := ⟨w.heap.size, 3, none⟩) (by first | (simp; done) | (simp; omega))).trans (by first | (simp; done) | go_simp)
      have D_l : w.heap.size < w1.heap.size := Nat.lt_of_lt_of_le (by first | (simp; done) | (simp; omega)) hc1.size
      have E_0 : w1.cell? ⟨w.heap.size + 1, 0, none⟩ = some (.int .i64 0) := (hc1.cell (p := ⟨w.heap.size + 1, 0, none⟩) (by first | (simp; done) | (simp; omega))).trans (by first | (simp; done) | go_simp)
      have E_1 : w1.cell? ⟨w.heap.size + 1, 1, none⟩ = some (.int .i64 0) := (hc1.cell (p := ⟨w.heap.size + 1, 1, none⟩) (by first | (simp; done) | (simp; omega))).trans (by first | (simp; done) | go_simp)
      have E_2 : w1.cell? ⟨w.heap.size + 1, 2, none⟩ = some (.int .i64 0) := (hc1.cell (p := ⟨w.heap.size + 1, 2, none⟩) (by first | (simp; done) | (simp; omega))).trans (by first | (simp; done) | go_simp)
      have E_3 : w1.cell? ⟨w.heap.size + 1, 3, none⟩ = some (.slice none 0 0) := (hc1.cell (p := ⟨w.heap.size + 1, 3, none⟩) (by first | (simp; done) | (simp; omega))).trans (by first | (simp; done) | go_simp)
      have E_f0 : w1.frozen? ⟨w.heap.size + 1, 0, none⟩ = false := (hc1.frozen (p := ⟨w.heap.size + 1, 0, none⟩) (by first | (simp; done) | (simp; omega))).trans (by first | (simp; done) | go_simp)
      have E_f1 : w1.frozen? ⟨w.heap.size + 1, 1, none⟩ = false := (hc1.frozen (p := ⟨w.heap.size + 1, 1, none⟩) (by first | (simp; done) | (simp; omega))).trans (by first | (simp; done) | go_simp)
      have E_f2 : w1.frozen? ⟨w.heap.size + 1, 2, none⟩ = false := (hc1.frozen (p := ⟨w.heap.size + 1, 2, none⟩) (by first | (simp; done) | (simp; omega))).trans (by first | (simp; done) | go_simp)
      have E_f3 : w1.frozen? ⟨w.heap.size + 1, 3, none⟩ = false := (hc1.frozen (p := ⟨w.heap.size + 1, 3, none⟩) (by first | (simp; done) | (simp; omega))).trans (by first | (simp; done) | go_simp)
      have E_l : w.heap.size + 1 < w1.heap.size := Nat.lt_of_lt_of_le (by first | (simp; done) | (simp; omega)) hc1.size
      replace hc := hc.later hst1
      clear hst1
      clear hc1 hb0
      rw [H_h8.out]
      have z1 := E_l
      go_wp2_with fail
      exact bodyPost_ret (v := .tuple #[.agg #[.int .i64 0, .int .i64 0, .int .i64 0, .slice none 0 0], .int .i64 2]) (by simp [results, Try.results19, go_sem, *]) rfl ⟨RetD.of ⟨_, _, rfl, .inl rfl, fresh_none _⟩ H_he.out, (by repeat' (first | with_reducible exact hb1 | with_reducible refine Below.drew ?_ | with_reducible refine below_drewN ?_ _ | with_reducible refine Below.alloc ?_ (by have := hb1.size; first | (simp; done) | (simp; omega) | omega) _ | with_reducible refine Below.setCell ?_ (by first | (simp; done) | (simp; omega) | omega) _))⟩
    have hat := atI_has t hs
    cases hh : hasT hs t
    · rw [hh] at hat
      have hat' : ¬ (0 ≤ atI t hs) := by simpa using hat
      clear hat
      by_cases t3 : t = o
      · subst t3
        have he : ((⟨g, t, r, insD hs t x⟩, (0 : Int)) : Dk × Int) = dPut ⟨g, t, r, hs⟩ t x := by unfold dPut Dk.err; simp only; rw [if_pos H_h8.out, if_neg (by omega), if_neg (by rw [hh]; simp), if_neg (by simp)]
        have H_he := hid he
        clear he
        have Hh := hid hh
        clear hh
        go_enter Try.func19, Try.ntmps19
        have hb0 := Below.refl w.heap.size w
        go_wp2_with fail
        with_reducible refine (rdcheck_any g t r hs a c _ ((hc.alloc _).alloc _) Hml.out).mono ?_
        rintro e w1 ⟨rfl, hc1⟩
        have hb1 : Below w.heap.size w w1 := bchain (by repeat' (first | with_reducible exact hb0 | with_reducible refine Below.drew ?_ | with_reducible refine below_drewN ?_ _ | with_reducible refine Below.alloc ?_ (by have := hb0.size; first | (simp; done) | (simp; omega) | omega) _ | with_reducible refine Below.setCell ?_ (by first | (simp; done) | (simp; omega) | omega) _)) hc1
        have hst1 : Below w.heap.size w w1 := bchain (by repeat' (first | with_reducible exact Below.refl _ _ | with_reducible refine Below.drew ?_ | with_reducible refine below_drewN ?_ _ | with_reducible refine Below.alloc ?_ (by first | (simp; done) | (simp; omega) | omega) _ | with_reducible refine Below.setCell ?_ (by first | (simp; done) | (simp; omega) | omega) _)) hc1
        have D_0 : w1.cell? ⟨w.heap.size, 0, none⟩ = some (.int .i64 g) := (hc1.cell (p := ⟨w.heap.size, 0, none⟩) (by first | (simp; done) | (simp; omega))).trans (by first | (simp; done) | go_simp)
        have D_1 : w1.cell? ⟨w.heap.size, 1, none⟩ = some (.int .i64 t) := (hc1.cell (p := ⟨w.heap.size, 1, none⟩) (by first | (simp; done) | (simp; omega))).trans (by first | (simp; done) | go_simp)
        have D_2 : w1.cell? ⟨w.heap.size, 2, none⟩ = some (.int .i64 r) := (hc1.cell (p := ⟨w.heap.size, 2, none⟩) (by first | (simp; done) | (simp; omega))).trans (by first | (simp; done) | go_simp)
        have D_3 : w1.cell? ⟨w.heap.size, 3, none⟩ = some (.slice a hs.length c) := (hc1.cell (p := ⟨w.heap.size, 3, none⟩) (by first | (simp; done) | (simp; omega))).trans (by first | (simp; done) | go_simp)
        have D_l : w.heap.size < w1.heap.size := Nat.lt_of_lt_of_le (by first | (simp; done) | (simp; omega)) hc1.size
        have E_0 : w1.cell? ⟨w.heap.size + 1, 0, none⟩ = some (.int .i64 0) := (hc1.cell (p := ⟨w.heap.size + 1, 0, none⟩) (by first | (simp; done) | (simp; omega))).trans (by first | (simp; done) | go_simp)
        have E_1 : w1.cell? ⟨w.heap.size + 1, 1, none⟩ = some (.int .i64 0) := (hc1.cell (p := ⟨w.heap.size + 1, 1, none⟩) (by first | (simp; done) | (simp; omega))).trans (by first | (simp; done) | go_simp)
        have E_2 : w1.cell? ⟨w.heap.size + 1, 2, none⟩ = some (.int .i64 0) := (hc1.cell (p := ⟨w.heap.size + 1, 2, none⟩) (by first | (simp; done) | (simp; omega))).trans (by first | (simp; done) | go_simp)
        have E_3 : w1.cell? ⟨w.heap.size + 1, 3, none⟩ = some (.slice none 0 0) := (hc1.cell (p := ⟨w.heap.size + 1, 3, none⟩) (by first | (simp; done) | (simp; omega))).trans (by first | (simp; done) | go_simp)
        have E_f0 : w1.frozen? ⟨w.heap.size + 1, 0, none⟩ = false := (hc1.frozen (p := ⟨w.heap.size + 1, 0, none⟩) (by first | (simp; done) | (simp; omega))).trans (by first | (simp; done) | go_simp)
        have E_f1 : w1.frozen? ⟨w.heap.size + 1, 1, none⟩ = false := (hc1.frozen (p := ⟨w.heap.size + 1, 1, none⟩) (by first | (simp; done) | (simp; omega))).trans (by first | (simp; done) | go_simp)
        have E_f2 : w1.frozen? ⟨w.heap.size + 1, 2, none⟩ = false := (hc1.frozen (p := ⟨w.heap.size + 1, 2, none⟩) (by first | (simp; done) | (simp; omega))).trans (by first | (simp; done) | go_simp)
        have E_f3 : w1.frozen? ⟨w.heap.size + 1, 3, none⟩ = false := (hc1.frozen (p := ⟨w.heap.size + 1, 3, none⟩) (by first | (simp; done) | (simp; omega))).trans (by first | (simp; done) | go_simp)
        have E_l : w.heap.size + 1 < w1.heap.size := Nat.lt_of_lt_of_le (by first | (simp; done) | (simp; omega)) hc1.size
        replace hc := hc.later hst1
        clear hst1
        clear hc1 hb0
        rw [H_h8.out]
        go_wp2_with fail
        with_reducible refine (at_any g t r t hs a c _ hc Hml.out).mono ?_
        rintro e w2 ⟨rfl, hc2⟩
        have hb2 : Below w.heap.size w w2 := bchain (by repeat' (first | with_reducible exact hb1 | with_reducible refine Below.drew ?_ | with_reducible refine below_drewN ?_ _ | with_reducible refine Below.alloc ?_ (by have := hb1.size; first | (simp; done) | (simp; omega) | omega) _ | with_reducible refine Below.setCell ?_ (by first | (simp; done) | (simp; omega) | omega) _)) hc2
        have hst2 : Below w1.heap.size w1 w2 := bchain (by repeat' (first | with_reducible exact Below.refl _ _ | with_reducible refine Below.drew ?_ | with_reducible refine below_drewN ?_ _ | with_reducible refine Below.alloc ?_ (by first | (simp; done) | (simp; omega) | omega) _ | with_reducible refine Below.setCell ?_ (by first | (simp; done) | (simp; omega) | omega) _)) hc2
        replace D_0 := cell_later hst2 D_0
        replace D_1 := cell_later hst2 D_1
        replace D_2 := cell_later hst2 D_2
        replace D_3 := cell_later hst2 D_3
        replace D_l := Nat.lt_of_lt_of_le D_l hst2.size
        replace E_0 := cell_later hst2 E_0
        replace E_1 := cell_later hst2 E_1
        replace E_2 := cell_later hst2 E_2
        replace E_3 := cell_later hst2 E_3
        replace E_f0 := frozen_later hst2 E_l E_f0
        replace E_f1 := frozen_later hst2 E_l E_f1
        replace E_f2 := frozen_later hst2 E_l E_f2
        replace E_f3 := frozen_later hst2 E_l E_f3
        replace E_l := Nat.lt_of_lt_of_le E_l hst2.size
        replace hc := hc.later hst2
        clear hst2
        clear hc2 hb1
        go_wp2_with fail
        refine wp_gen fun w3 hc3 => ?_
        have hb3 : Below w.heap.size w w3 := bchain (by repeat' (first | with_reducible exact hb2 | with_reducible refine Below.drew ?_ | with_reducible refine below_drewN ?_ _ | with_reducible refine Below.alloc ?_ (by have := hb2.size; first | (simp; done) | (simp; omega) | omega) _ | with_reducible refine Below.setCell ?_ (by first | (simp; done) | (simp; omega) | omega) _)) hc3
        have hst3 : Below w2.heap.size w2 w3 := bchain (by repeat' (first | with_reducible exact Below.refl _ _ | with_reducible refine Below.drew ?_ | with_reducible refine below_drewN ?_ _ | with_reducible refine Below.alloc ?_ (by first | (simp; done) | (simp; omega) | omega) _ | with_reducible refine Below.setCell ?_ (by first | (simp; done) | (simp; omega) | omega) _)) hc3
        replace D_0 := cell_later hst3 D_0
        replace D_1 := cell_later hst3 D_1
        replace D_2 := cell_later hst3 D_2
        replace D_3 := cell_later hst3 D_3
        replace D_l := Nat.lt_of_lt_of_le D_l hst3.size
        replace E_0 := cell_later hst3 E_0
        replace E_1 := cell_later hst3 E_1
        replace E_2 := cell_later hst3 E_2
        replace E_3 := cell_later hst3 E_3
        replace E_f0 := frozen_later hst3 E_l E_f0
        replace E_f1 := frozen_later hst3 E_l E_f1
        replace E_f2 := frozen_later hst3 E_l E_f2
        replace E_f3 := frozen_later hst3 E_l E_f3
        replace E_l := Nat.lt_of_lt_of_le E_l hst3.size
        replace hc := hc.later hst3
        clear hst3
        have KD_0 := cell_on D_0
        have KD_1 := cell_on D_1
        have KD_2 := cell_on D_2
        have KD_3 := cell_on D_3
        refine wp_region_on (by kernel_rfl) (by kernel_rfl) ?_
        repeat (first | go_big_quiet_step (fail) | quiet_step (fail))
        refine wpQuiet_nil ?_
        intro w4 hc4
        clear KD_0 KD_1 KD_2 KD_3
        have hb4 : Below w.heap.size w w4 := bchain (by repeat' (first | with_reducible exact hb3 | with_reducible refine Below.drew ?_ | with_reducible refine below_drewN ?_ _ | with_reducible refine Below.alloc ?_ (by have := hb3.size; first | (simp; done) | (simp; omega) | omega) _ | with_reducible refine Below.setCell ?_ (by first | (simp; done) | (simp; omega) | omega) _)) hc4
        have hst4 : Below w3.heap.size w3 w4 := bchain (by repeat' (first | with_reducible exact Below.refl _ _ | with_reducible refine Below.drew ?_ | with_reducible refine below_drewN ?_ _ | with_reducible refine Below.alloc ?_ (by first | (simp; done) | (simp; omega) | omega) _ | with_reducible refine Below.setCell ?_ (by first | (simp; done) | (simp; omega) | omega) _)) hc4
        replace D_0 := cell_later hst4 D_0
        replace D_1 := cell_later hst4 D_1
        replace D_2 := cell_later hst4 D_2
        replace D_3 := cell_later hst4 D_3
        replace D_l := Nat.lt_of_lt_of_le D_l hst4.size
        replace E_0 := cell_later hst4 E_0
        replace E_1 := cell_later hst4 E_1
        replace E_2 := cell_later hst4 E_2
        replace E_3 := cell_later hst4 E_3
        replace E_f0 := frozen_later hst4 E_l E_f0
        replace E_f1 := frozen_later hst4 E_l E_f1
        replace E_f2 := frozen_later hst4 E_l E_f2
        replace E_f3 := frozen_later hst4 E_l E_f3
        replace E_l := Nat.lt_of_lt_of_le E_l hst4.size
        replace hc := hc.later hst4
        clear hst4
        have z4 := E_l
        go_wp2_with fail
        with_reducible refine (rdtwin_any g t r hs a c _ hc (by omega)).mono ?_
        rintro e w5 ⟨a1, c1, rfl, o1, hc5⟩
        have hb5 : Below w.heap.size w w5 := bchain (by repeat' (first | with_reducible exact hb4 | with_reducible refine Below.drew ?_ | with_reducible refine below_drewN ?_ _ | with_reducible refine Below.alloc ?_ (by have := hb4.size; first | (simp; done) | (simp; omega) | omega) _ | with_reducible refine Below.setCell ?_ (by first | (simp; done) | (simp; omega) | omega) _)) hc5
        have hst5 : Below w4.heap.size w4 w5 := bchain (by repeat' (first | with_reducible exact Below.refl _ _ | with_reducible refine Below.drew ?_ | with_reducible refine below_drewN ?_ _ | with_reducible refine Below.alloc ?_ (by first | (simp; done) | (simp; omega) | omega) _ | with_reducible refine Below.setCell ?_ (by first | (simp; done) | (simp; omega) | omega) _)) hc5
        replace D_0 := cell_later hst5 D_0
        replace D_1 := cell_later hst5 D_1
        replace D_2 := cell_later hst5 D_2
        replace D_3 := cell_later hst5 D_3
        replace D_l := Nat.lt_of_lt_of_le D_l hst5.size
        replace E_0 := cell_later hst5 E_0
        replace E_1 := cell_later hst5 E_1
        replace E_2 := cell_later hst5 E_2
        replace E_3 := cell_later hst5 E_3
        replace E_f0 := frozen_later hst5 E_l E_f0
        replace E_f1 := frozen_later hst5 E_l E_f1
        replace E_f2 := frozen_later hst5 E_l E_f2
        replace E_f3 := frozen_later hst5 E_l E_f3
        replace E_l := Nat.lt_of_lt_of_le E_l hst5.size
        replace hc := hc.later hst5
        clear hst5
        obtain ⟨hcell5, hfroz5⟩ := bcell hc5
        have hz5 := hc5.size
        clear hcell5 hfroz5 hc5
        have z5 := E_l
        have b5 := hb5
        clear D_0 D_1 D_2 D_3 D_l hc
        have hv1 := heap_new2 w5 (.cells #[.int .i64 g, .int .i64 t, .int .i64 r, .slice a1 hs.length c1] 26) (.cells #[.int .i64 t, .int .u64 x] 38)
        have q1 := o1.addr
        go_wp2_with (at_builtin; refine stop ?_)
        refine Stop.go ?_
        refine wpList_append_x _ rfl _ _ 24 rfl w4.heap.size 38 i0 (.agg #[.int .i64 0, .int .u64 0]) 2 16 Try.underlying24 ii iz0 iz1 iz2 rfl (by decide) (.slice a1 hs.length c1) hs.length (cel hs) rfl ((o1.alloc _).alloc _) (some ⟨w5.heap.size + 1, 0, none⟩) 1 1 [.int .i64 t, .int .u64 x] rfl rfl (cellsAt_blk hv1) (slip_one _ _) (by unfold maxLen; omega) (by omega) (by first | (simp; done) | (simp; omega) | omega) ?_
        intro a2 c2 w6 o2 hg hk
        replace hg : World.grownBy _ w6 (Value.slice a1 hs.length c1).ownBlock := hg
        obtain ⟨hcell, hfroz⟩ := gcell hg o1
        have hz := hg.size
        simp only [World.size_alloc] at hz
        have X_0 : w6.cell? ⟨w5.heap.size, 0, none⟩ = some (.int .i64 g) := (hcell w5.heap.size 0 (by first | (simp; done) | (simp; omega) | omega) (.inr (Nat.le_refl _))).trans (by first | (simp; done) | go_simp)
        have X_1 : w6.cell? ⟨w5.heap.size, 1, none⟩ = some (.int .i64 t) := (hcell w5.heap.size 1 (by first | (simp; done) | (simp; omega) | omega) (.inr (Nat.le_refl _))).trans (by first | (simp; done) | go_simp)
        have X_2 : w6.cell? ⟨w5.heap.size, 2, none⟩ = some (.int .i64 r) := (hcell w5.heap.size 2 (by first | (simp; done) | (simp; omega) | omega) (.inr (Nat.le_refl _))).trans (by first | (simp; done) | go_simp)
        have X_3 : w6.cell? ⟨w5.heap.size, 3, none⟩ = some (.slice a1 hs.length c1) := (hcell w5.heap.size 3 (by first | (simp; done) | (simp; omega) | omega) (.inr (Nat.le_refl _))).trans (by first | (simp; done) | go_simp)
        have X_f3 : w6.frozen? ⟨w5.heap.size, 3, none⟩ = false := (hfroz w5.heap.size 3 (by first | (simp; done) | (simp; omega) | omega) (.inr (Nat.le_refl _))).trans (by first | (simp; done) | go_simp)
        have hst : Below w5.heap.size w5 ((w5.alloc (.cells #[.int .i64 g, .int .i64 t, .int .i64 r, .slice a1 hs.length c1] 26)).alloc (.cells #[.int .i64 t, .int .u64 x] 38)) := ((Below.refl _ _).alloc (Nat.le_refl _) _).alloc (by first | (simp; done) | (simp; omega) | omega) _
        have E_0' := (hcell (w.heap.size + 1) 0 (by first | (simp; done) | (simp; omega) | omega) (.inl z4)).trans (cell_later hst E_0)
        have E_1' := (hcell (w.heap.size + 1) 1 (by first | (simp; done) | (simp; omega) | omega) (.inl z4)).trans (cell_later hst E_1)
        have E_2' := (hcell (w.heap.size + 1) 2 (by first | (simp; done) | (simp; omega) | omega) (.inl z4)).trans (cell_later hst E_2)
        have E_3' := (hcell (w.heap.size + 1) 3 (by first | (simp; done) | (simp; omega) | omega) (.inl z4)).trans (cell_later hst E_3)
        have E_f0' := (hfroz (w.heap.size + 1) 0 (by first | (simp; done) | (simp; omega) | omega) (.inl z4)).trans (frozen_later hst z5 E_f0)
        have E_f1' := (hfroz (w.heap.size + 1) 1 (by first | (simp; done) | (simp; omega) | omega) (.inl z4)).trans (frozen_later hst z5 E_f1)
        have E_f2' := (hfroz (w.heap.size + 1) 2 (by first | (simp; done) | (simp; omega) | omega) (.inl z4)).trans (frozen_later hst z5 E_f2)
        have E_f3' := (hfroz (w.heap.size + 1) 3 (by first | (simp; done) | (simp; omega) | omega) (.inl z4)).trans (frozen_later hst z5 E_f3)
        have hb6 : Below w.heap.size w w6 := below_grownX ((b5.alloc (by first | (simp; done) | (simp; omega) | omega) _).alloc (by first | (simp; done) | (simp; omega) | omega) _) hg (by first | (simp; done) | (simp; omega) | omega) (fun k hk => by have := (o1.lt k hk).1; omega)
        have z6 : w.heap.size + 1 < w6.heap.size := by omega
        have z7 : w5.heap.size < w6.heap.size := by omega
        have hne : w5.heap.size ≠ w.heap.size + 1 := by omega
        obtain ⟨b, rfl, hb1, hb2, _, _⟩ := o2.atS (by omega)
        have p1 : b ≠ w.heap.size + 1 ∧ b ≠ w5.heap.size := by
          rcases hk b rfl with h | h
          · have := o1.lt _ h; omega
          · simp only [World.size_alloc] at h; omega
        obtain ⟨p1, p2⟩ := p1
        have o3 : OwnX w6 w4.heap.size 38 2 (.slice (some ⟨b, 0, none⟩) (hs.length + 1) c2) (hs.length + 1) (cel (bub hs t x hs.length)) := by
          rw [bub_end, cel_append]; exact o2
        have hil : hs.length + 1 = (insD hs t x).length := (insD_len _ _ _).symm
        have H_hil := hid hil
        clear hil
        clear E_0 E_1 E_2 E_3 E_f0 E_f1 E_f2 E_f3 hcell hfroz hst hg hk o1 o2 q1 hv1
        go_wp2_with fail
        go_loopw [9] (fun i wr => ∃ k : Nat, lb hs t ≤ k ∧ k ≤ hs.length ∧ i = .int .i64 k ∧ Below w.heap.size w wr ∧ (wr.cell? ⟨w5.heap.size, 0, none⟩ = some (.int .i64 g) ∧ wr.cell? ⟨w5.heap.size, 1, none⟩ = some (.int .i64 t) ∧ wr.cell? ⟨w5.heap.size, 2, none⟩ = some (.int .i64 r) ∧ wr.cell? ⟨w5.heap.size, 3, none⟩ = some (.slice (some ⟨b, 0, none⟩) (hs.length + 1) c2)) ∧ (wr.cell? ⟨w.heap.size + 1, 0, none⟩ = some (.int .i64 0) ∧ wr.cell? ⟨w.heap.size + 1, 1, none⟩ = some (.int .i64 0) ∧ wr.cell? ⟨w.heap.size + 1, 2, none⟩ = some (.int .i64 0) ∧ wr.cell? ⟨w.heap.size + 1, 3, none⟩ = some (.slice none 0 0)) ∧ (wr.frozen? ⟨w.heap.size + 1, 0, none⟩ = false ∧ wr.frozen? ⟨w.heap.size + 1, 1, none⟩ = false ∧ wr.frozen? ⟨w.heap.size + 1, 2, none⟩ = false ∧ wr.frozen? ⟨w.heap.size + 1, 3, none⟩ = false) ∧ OwnX wr w4.heap.size 38 2 (.slice (some ⟨b, 0, none⟩) (hs.length + 1) c2) (hs.length + 1) (cel (bub hs t x k))) (fun i _ => (intOf i).toNat)
        case atStart => exact ⟨hs.length, lb_le _ _, Nat.le_refl _, by go_num, (by repeat' (first | with_reducible exact hb6 | with_reducible refine Below.drew ?_ | with_reducible refine below_drewN ?_ _ | with_reducible refine Below.alloc ?_ (by have := hb6.size; first | (simp; done) | (simp; omega) | omega) _ | with_reducible refine Below.setCell ?_ (by first | (simp; done) | (simp; omega) | omega) _)), ⟨by go_simp, by go_simp, by go_simp, by go_simp⟩, ⟨by go_simp, by go_simp, by go_simp, by go_simp⟩, ⟨by go_simp, by go_simp, by go_simp, by go_simp⟩, o3.setFar (by simp [Value.ownBlock]; omega) _⟩
        case round =>
          clear X_0 X_1 X_2 X_3 X_f3 E_0' E_1' E_2' E_3' E_f0' E_f1' E_f2' E_f3' o3
          obtain ⟨k, hk1, hk2, rfl, hbw, ⟨X_0, X_1, X_2, X_3⟩, ⟨E_0, E_1, E_2, E_3⟩, ⟨E_f0, E_f1, E_f2, E_f3⟩, o4⟩ := hrel
          have zz := o4.addr _ rfl
          have y1 : w5.heap.size < wr.heap.size := World.block_lt_of_cell? _ _ X_0
          have y2 : w.heap.size + 1 < wr.heap.size := World.block_lt_of_cell? _ _ E_0
          by_cases hgo : 0 < k ∧ t < tg hs (k - 1)
          · obtain ⟨hk0, hlt⟩ := hgo
            obtain ⟨m, rfl⟩ : ∃ m, k = m + 1 := ⟨k - 1, by omega⟩
            have hm : m < hs.length := by omega
            simp only [Nat.add_sub_cancel] at hlt
            have hlm : lb hs t ≤ m := by have := lb_iff HV.out.inc t m hm; omega
            have hbl := bub_len hs t x hk2
            obtain ⟨_, e0, _, _, hcel, hfro⟩ := o4.atS (by omega)
            cases e0
            have c01 := cel_at (bub hs t x (m + 1)) (m + 1) (by omega)
            have d01 := cel_at (bub hs t x (m + 1)) m (by omega)
            rw [(bub_at hk2).1, (bub_at hk2).2] at c01
            rw [(bub_below hm).1, (bub_below hm).2] at d01
            have c0 := hcel _ _ c01.1
            have c1 := hcel _ _ c01.2
            have d0 := hcel _ _ d01.1
            have d1 := hcel _ _ d01.2
            have f0 := hfro ((m + 1) * 2)
            have f1 := hfro ((m + 1) * 2 + 1)
            have f2 := hfro (m * 2)
            have f3 := hfro (m * 2 + 1)
            have l0 : (cel (bub hs t x (m + 1))).length = (hs.length + 1) * 2 := by rw [cel_len, hbl]
            have hcb := bub_cel (t := t) (x := x) hm
            have e1 : ((m + 1 : Nat) : Int) - 1 = m := by omega
            have e2 : ((m : Int) + 1) < ((hs.length : Int) + 1) := by omega
            have e3 : (m : Int) < ((hs.length : Int) + 1) := by omega
            have e4 : (0 : Int) < ((m + 1 : Nat) : Int) := by omega
            have e5 : (m : Int) + 1 - 1 = m := by omega
            have H_hbl := hid hbl
            have H_l0 := hid l0
            have H_hcb := hid hcb
            clear hbl l0 hcb
            clear hcel hfro c01 d01
            go_wp2_with fail
            go_quiet (fail)
            go_wp2_with fail
            refine wp_gen fun w7 hc7 => ?_
            have hb7 : Below w.heap.size w w7 := bchain (below_drewN hbw _) hc7
            have zz7 : b < w7.heap.size := Nat.lt_of_lt_of_le zz.2 hc7.size
            have z71 : w.heap.size + 1 < w7.heap.size := Nat.lt_of_lt_of_le (by omega : w.heap.size + 1 < wr.heap.size) hc7.size
            have z72 : w5.heap.size < w7.heap.size := Nat.lt_of_lt_of_le (by omega : w5.heap.size < wr.heap.size) hc7.size
            replace c0 := cell_later (w := wr.drewN nq) hc7 c0
            replace c1 := cell_later (w := wr.drewN nq) hc7 c1
            replace d0 := cell_later (w := wr.drewN nq) hc7 d0
            replace d1 := cell_later (w := wr.drewN nq) hc7 d1
            replace f0 := frozen_later (w := wr.drewN nq) hc7 zz.2 f0
            replace f1 := frozen_later (w := wr.drewN nq) hc7 zz.2 f1
            replace f2 := frozen_later (w := wr.drewN nq) hc7 zz.2 f2
            replace f3 := frozen_later (w := wr.drewN nq) hc7 zz.2 f3
            replace X_0 := cell_later (w := wr.drewN nq) hc7 X_0
            replace X_1 := cell_later (w := wr.drewN nq) hc7 X_1
            replace X_2 := cell_later (w := wr.drewN nq) hc7 X_2
            replace X_3 := cell_later (w := wr.drewN nq) hc7 X_3
            replace E_0 := cell_later (w := wr.drewN nq) hc7 E_0
            replace E_1 := cell_later (w := wr.drewN nq) hc7 E_1
            replace E_2 := cell_later (w := wr.drewN nq) hc7 E_2
            replace E_3 := cell_later (w := wr.drewN nq) hc7 E_3
            replace E_f0 := frozen_later (w := wr.drewN nq) hc7 (by show w.heap.size + 1 < wr.heap.size; omega) E_f0
            replace E_f1 := frozen_later (w := wr.drewN nq) hc7 (by show w.heap.size + 1 < wr.heap.size; omega) E_f1
            replace E_f2 := frozen_later (w := wr.drewN nq) hc7 (by show w.heap.size + 1 < wr.heap.size; omega) E_f2
            replace E_f3 := frozen_later (w := wr.drewN nq) hc7 (by show w.heap.size + 1 < wr.heap.size; omega) E_f3
            replace o4 := OwnX.later (w := wr.drewN nq) o4 hc7
            clear hc7
            go_region
            go_wp2_with fail
            go_roundw
            case rel => exact ⟨m, hlm, by omega, by go_num, (by repeat' (first | with_reducible exact hb7 | with_reducible refine Below.drew ?_ | with_reducible refine below_drewN ?_ _ | with_reducible refine Below.alloc ?_ (by have := hb7.size; first | (simp; done) | (simp; omega) | omega) _ | with_reducible refine Below.setCell ?_ (by first | (simp; done) | (simp; omega) | omega) _)), ⟨by go_simp, by go_simp, by go_simp, by go_simp⟩, ⟨by go_simp, by go_simp, by go_simp, by go_simp⟩, ⟨by go_simp, by go_simp, by go_simp, by go_simp⟩, by
              rw [← H_hcb.out]
              have hl := H_l0.out
              exact (((o4.setAtS (by omega) _).setAtS (by simp; omega) _).setAtS (by simp; omega) _).setAtS (by simp; omega) _⟩
            case measure => simp [intOf]
          · skip
            have hk : k = lb hs t := by
              rcases Nat.eq_zero_or_pos k with h0 | h0
              · omega
              · have h1 := lb_iff HV.out.inc t (k - 1) (by omega)
                have h2 : ¬ (t < tg hs (k - 1)) := fun h => hgo ⟨h0, h⟩
                have h3 : tg hs (k - 1) ≠ t := fun e => by
                  have h4 : hasT hs t = true := by
                    unfold hasT
                    exact List.any_eq_true.2 ⟨hs[k - 1], List.getElem_mem (by omega), by rw [hs_at (by omega)]; simp [e]⟩
                  rw [Hh.out] at h4; cases h4
                omega
            have kk := o4.cellsAt
            rw [hk, bub_ins] at kk
            have k4 : CellsAt wr (some ⟨b, 0, none⟩) (cel (bub hs t x k)) := o4.cellsAt
            rcases Nat.eq_zero_or_pos k with h0 | h0
            · subst h0
              clear hk o4 k4 hgo
              go_wp2_with fail
              go_quiet (fail)
              go_wp2_with fail
              exact bodyPost_ret (v := .tuple #[.agg #[.int .i64 g, .int .i64 t, .int .i64 r, .slice (some ⟨b, 0, none⟩) (hs.length + 1) c2], .int .i64 0]) (by simp [results, Try.results19, go_sem, *]) rfl ⟨RetD.of (RetD.mk' H_hil.out rfl (by repeat' (first | with_reducible exact kk | with_reducible refine CellsAt.setFarG ?_ ?_ _ | with_reducible refine CellsAt.drewN ?_ _ | exact fun ad e => by cases e; exact p1)) (fun ad e => by cases e; simp; omega)) H_he.out, (by repeat' (first | with_reducible exact hbw | with_reducible refine Below.drew ?_ | with_reducible refine below_drewN ?_ _ | with_reducible refine Below.alloc ?_ (by have := hbw.size; first | (simp; done) | (simp; omega) | omega) _ | with_reducible refine Below.setCell ?_ (by first | (simp; done) | (simp; omega) | omega) _))⟩
            · obtain ⟨m, rfl⟩ : ∃ m, k = m + 1 := ⟨k - 1, by omega⟩
              have hm : m < hs.length := by omega
              have hlt : ¬ (t < tg hs m) := fun h => hgo ⟨by omega, by simpa using h⟩
              have hbl := bub_len hs t x hk2
              obtain ⟨_, e0, _, _, hcel, hfro⟩ := o4.atS (by omega)
              cases e0
              have c01 := cel_at (bub hs t x (m + 1)) (m + 1) (by omega)
              have d01 := cel_at (bub hs t x (m + 1)) m (by omega)
              rw [(bub_at hk2).1, (bub_at hk2).2] at c01
              rw [(bub_below hm).1, (bub_below hm).2] at d01
              have c0 := hcel _ _ c01.1
              have d0 := hcel _ _ d01.1
              have e1 : ((m + 1 : Nat) : Int) - 1 = m := by omega
              have e2 : ((m : Int) + 1) < ((hs.length : Int) + 1) := by omega
              have e3 : (m : Int) < ((hs.length : Int) + 1) := by omega
              have e4 : (0 : Int) < ((m + 1 : Nat) : Int) := by omega
              have e5 : (m : Int) + 1 - 1 = m := by omega
              clear hcel hfro c01 d01 hk o4 k4 hgo hbl
              go_wp2_with fail
              go_quiet (fail)
              go_wp2_with fail
              exact bodyPost_ret (v := .tuple #[.agg #[.int .i64 g, .int .i64 t, .int .i64 r, .slice (some ⟨b, 0, none⟩) (hs.length + 1) c2], .int .i64 0]) (by simp [results, Try.results19, go_sem, *]) rfl ⟨RetD.of (RetD.mk' H_hil.out rfl (by repeat' (first | with_reducible exact kk | with_reducible refine CellsAt.setFarG ?_ ?_ _ | with_reducible refine CellsAt.drewN ?_ _ | exact fun ad e => by cases e; exact p1)) (fun ad e => by cases e; simp; omega)) H_he.out, (by repeat' (first | with_reducible exact hbw | with_reducible refine Below.drew ?_ | with_reducible refine below_drewN ?_ _ | with_reducible refine Below.alloc ?_ (by have := hbw.size; first | (simp; done) | (simp; omega) | omega) _ | with_reducible refine Below.setCell ?_ (by first | (simp; done) | (simp; omega) | omega) _))⟩
      · by_cases t4 : r ≤ ((besides o hs : Nat) : Int)
        · skip
          have he : (Dk.zero, (38 : Int)) = dPut ⟨g, o, r, hs⟩ t x := by unfold dPut Dk.err; simp only; rw [if_pos H_h8.out, if_neg (by omega), if_neg (by rw [hh]; simp), if_pos ⟨t3, t4⟩]
          have H_he := hid he
          clear he
          clear hh
          go_enter Try.func19, Try.ntmps19
          have hb0 := Below.refl w.heap.size w
          go_wp2_with fail
          with_reducible refine (rdcheck_any g o r hs a c _ ((hc.alloc _).alloc _) Hml.out).mono ?_
          rintro e w1 ⟨rfl, hc1⟩
          have hb1 : Below w.heap.size w w1 := bchain (by repeat' (first | with_reducible exact hb0 | with_reducible refine Below.drew ?_ | with_reducible refine below_drewN ?_ _ | with_reducible refine Below.alloc ?_ (by have := hb0.size; first | (simp; done) | (simp; omega) | omega) _ | with_reducible refine Below.setCell ?_ (by first | (simp; done) | (simp; omega) | omega) _)) hc1
          have hst1 : Below w.heap.size w w1 := bchain (by repeat' (first | with_reducible exact Below.refl _ _ | with_reducible refine Below.drew ?_ | with_reducible refine below_drewN ?_ _ | with_reducible refine Below.alloc ?_ (by first | (simp; done) | (simp; omega) | omega) _ | with_reducible refine Below.setCell ?_ (by first | (simp; done) | (simp; omega) | omega) _)) hc1
          have D_0 : w1.cell? ⟨w.heap.size, 0, none⟩ = some (.int .i64 g) := (hc1.cell (p := ⟨w.heap.size, 0, none⟩) (by first | (simp; done) | (simp; omega))).trans (by first | (simp; done) | go_simp)
          have D_1 : w1.cell? ⟨w.heap.size, 1, none⟩ = some (.int .i64 o) := (hc1.cell (p := ⟨w.heap.size, 1, none⟩) (by first | (simp; done) | (simp; omega))).trans (by first | (simp; done) | go_simp)
          have D_2 : w1.cell? ⟨w.heap.size, 2, none⟩ = some (.int .i64 r) := (hc1.cell (p := ⟨w.heap.size, 2, none⟩) (by first | (simp; done) | (simp; omega))).trans (by first | (simp; done) | go_simp)
          have D_3 : w1.cell? ⟨w.heap.size, 3, none⟩ = some (.slice a hs.length c) := (hc1.cell (p := ⟨w.heap.size, 3, none⟩) (by first | (simp; done) | (simp; omega))).trans (by first | (simp; done) | go_simp)
          have D_l : w.heap.size < w1.heap.size := Nat.lt_of_lt_of_le (by first | (simp; done) | (simp; omega)) hc1.size
          have E_0 : w1.cell? ⟨w.heap.size + 1, 0, none⟩ = some (.int .i64 0) := (hc1.cell (p := ⟨w.heap.size + 1, 0, none⟩) (by first | (simp; done) | (simp; omega))).trans (by first | (simp; done) | go_simp)
          have E_1 : w1.cell? ⟨w.heap.size + 1, 1, none⟩ = some (.int .i64 0) := (hc1.cell (p := ⟨w.heap.size + 1, 1, none⟩) (by first | (simp; done) | (simp; omega))).trans (by first | (simp; done) | go_simp)
          have E_2 : w1.cell? ⟨w.heap.size + 1, 2, none⟩ = some (.int .i64 0) := (hc1.cell (p := ⟨w.heap.size + 1, 2, none⟩) (by first | (simp; done) | (simp; omega))).trans (by first | (simp; done) | go_simp)
          have E_3 : w1.cell? ⟨w.heap.size + 1, 3, none⟩ = some (.slice none 0 0) := (hc1.cell (p := ⟨w.heap.size + 1, 3, none⟩) (by first | (simp; done) | (simp; omega))).trans (by first | (simp; done) | go_simp)
          have E_f0 : w1.frozen? ⟨w.heap.size + 1, 0, none⟩ = false := (hc1.frozen (p := ⟨w.heap.size + 1, 0, none⟩) (by first | (simp; done) | (simp; omega))).trans (by first | (simp; done) | go_simp)
          have E_f1 : w1.frozen? ⟨w.heap.size + 1, 1, none⟩ = false := (hc1.frozen (p := ⟨w.heap.size + 1, 1, none⟩) (by first | (simp; done) | (simp; omega))).trans (by first | (simp; done) | go_simp)
          have E_f2 : w1.frozen? ⟨w.heap.size + 1, 2, none⟩ = false := (hc1.frozen (p := ⟨w.heap.size + 1, 2, none⟩) (by first | (simp; done) | (simp; omega))).trans (by first | (simp; done) | go_simp)
          have E_f3 : w1.frozen? ⟨w.heap.size + 1, 3, none⟩ = false := (hc1.frozen (p := ⟨w.heap.size + 1, 3, none⟩) (by first | (simp; done) | (simp; omega))).trans (by first | (simp; done) | go_simp)
          have E_l : w.heap.size + 1 < w1.heap.size := Nat.lt_of_lt_of_le (by first | (simp; done) | (simp; omega)) hc1.size
          replace hc := hc.later hst1
          clear hst1
          clear hc1 hb0
          rw [H_h8.out]
          have z1 := E_l
          go_wp2_with fail
          with_reducible refine (at_any g o r t hs a c _ hc Hml.out).mono ?_
          rintro e w2 ⟨rfl, hc2⟩
          have hb2 : Below w.heap.size w w2 := bchain (by repeat' (first | with_reducible exact hb1 | with_reducible refine Below.drew ?_ | with_reducible refine below_drewN ?_ _ | with_reducible refine Below.alloc ?_ (by have := hb1.size; first | (simp; done) | (simp; omega) | omega) _ | with_reducible refine Below.setCell ?_ (by first | (simp; done) | (simp; omega) | omega) _)) hc2
          have hst2 : Below w1.heap.size w1 w2 := bchain (by repeat' (first | with_reducible exact Below.refl _ _ | with_reducible refine Below.drew ?_ | with_reducible refine below_drewN ?_ _ | with_reducible refine Below.alloc ?_ (by first | (simp; done) | (simp; omega) | omega) _ | with_reducible refine Below.setCell ?_ (by first | (simp; done) | (simp; omega) | omega) _)) hc2
          replace D_0 := cell_later hst2 D_0
          replace D_1 := cell_later hst2 D_1
          replace D_2 := cell_later hst2 D_2
          replace D_3 := cell_later hst2 D_3
          replace D_l := Nat.lt_of_lt_of_le D_l hst2.size
          replace E_0 := cell_later hst2 E_0
          replace E_1 := cell_later hst2 E_1
          replace E_2 := cell_later hst2 E_2
          replace E_3 := cell_later hst2 E_3
          replace E_f0 := frozen_later hst2 E_l E_f0
          replace E_f1 := frozen_later hst2 E_l E_f1
          replace E_f2 := frozen_later hst2 E_l E_f2
          replace E_f3 := frozen_later hst2 E_l E_f3
          replace E_l := Nat.lt_of_lt_of_le E_l hst2.size
          replace hc := hc.later hst2
          clear hst2
          clear hc2 hb1
          go_wp2_with fail
          refine wp_gen fun w3 hc3 => ?_
          have hb3 : Below w.heap.size w w3 := bchain (by repeat' (first | with_reducible exact hb2 | with_reducible refine Below.drew ?_ | with_reducible refine below_drewN ?_ _ | with_reducible refine Below.alloc ?_ (by have := hb2.size; first | (simp; done) | (simp; omega) | omega) _ | with_reducible refine Below.setCell ?_ (by first | (simp; done) | (simp; omega) | omega) _)) hc3
          have hst3 : Below w2.heap.size w2 w3 := bchain (by repeat' (first | with_reducible exact Below.refl _ _ | with_reducible refine Below.drew ?_ | with_reducible refine below_drewN ?_ _ | with_reducible refine Below.alloc ?_ (by first | (simp; done) | (simp; omega) | omega) _ | with_reducible refine Below.setCell ?_ (by first | (simp; done) | (simp; omega) | omega) _)) hc3
          replace D_0 := cell_later hst3 D_0
          replace D_1 := cell_later hst3 D_1
          replace D_2 := cell_later hst3 D_2
          replace D_3 := cell_later hst3 D_3
          replace D_l := Nat.lt_of_lt_of_le D_l hst3.size
          replace E_0 := cell_later hst3 E_0
          replace E_1 := cell_later hst3 E_1
          replace E_2 := cell_later hst3 E_2
          replace E_3 := cell_later hst3 E_3
          replace E_f0 := frozen_later hst3 E_l E_f0
          replace E_f1 := frozen_later hst3 E_l E_f1
          replace E_f2 := frozen_later hst3 E_l E_f2
          replace E_f3 := frozen_later hst3 E_l E_f3
          replace E_l := Nat.lt_of_lt_of_le E_l hst3.size
          replace hc := hc.later hst3
          clear hst3
          have KD_0 := cell_on D_0
          have KD_1 := cell_on D_1
          have KD_2 := cell_on D_2
          have KD_3 := cell_on D_3
          refine wp_region_on (by kernel_rfl) (by kernel_rfl) ?_
          repeat (first | go_big_quiet_step ((first | (go_at_call 11; exact calls_on (besides_any g o r hs a c _ (hc.on _) Hml.out)))) | quiet_step ((first | (go_at_call 11; exact calls_on (besides_any g o r hs a c _ (hc.on _) Hml.out)))))
          refine wpQuiet_nil ?_
          intro w4 hc4
          clear KD_0 KD_1 KD_2 KD_3
          have hb4 : Below w.heap.size w w4 := bchain (by repeat' (first | with_reducible exact hb3 | with_reducible refine Below.drew ?_ | with_reducible refine below_drewN ?_ _ | with_reducible refine Below.alloc ?_ (by have := hb3.size; first | (simp; done) | (simp; omega) | omega) _ | with_reducible refine Below.setCell ?_ (by first | (simp; done) | (simp; omega) | omega) _)) hc4
          have hst4 : Below w3.heap.size w3 w4 := bchain (by repeat' (first | with_reducible exact Below.refl _ _ | with_reducible refine Below.drew ?_ | with_reducible refine below_drewN ?_ _ | with_reducible refine Below.alloc ?_ (by first | (simp; done) | (simp; omega) | omega) _ | with_reducible refine Below.setCell ?_ (by first | (simp; done) | (simp; omega) | omega) _)) hc4
          replace D_0 := cell_later hst4 D_0
          replace D_1 := cell_later hst4 D_1
          replace D_2 := cell_later hst4 D_2
          replace D_3 := cell_later hst4 D_3
          replace D_l := Nat.lt_of_lt_of_le D_l hst4.size
          replace E_0 := cell_later hst4 E_0
          replace E_1 := cell_later hst4 E_1
          replace E_2 := cell_later hst4 E_2
          replace E_3 := cell_later hst4 E_3
          replace E_f0 := frozen_later hst4 E_l E_f0
          replace E_f1 := frozen_later hst4 E_l E_f1
          replace E_f2 := frozen_later hst4 E_l E_f2
          replace E_f3 := frozen_later hst4 E_l E_f3
          replace E_l := Nat.lt_of_lt_of_le E_l hst4.size
          replace hc := hc.later hst4
          clear hst4
          go_wp2_with fail
          exact bodyPost_ret (v := .tuple #[.agg #[.int .i64 0, .int .i64 0, .int .i64 0, .slice none 0 0], .int .i64 38]) (by simp [results, Try.results19, go_sem, *]) rfl ⟨RetD.of ⟨_, _, rfl, .inl rfl, fresh_none _⟩ H_he.out, (by repeat' (first | with_reducible exact hb4 | with_reducible refine Below.drew ?_ | with_reducible refine below_drewN ?_ _ | with_reducible refine Below.alloc ?_ (by have := hb4.size; first | (simp; done) | (simp; omega) | omega) _ | with_reducible refine Below.setCell ?_ (by first | (simp; done) | (simp; omega) | omega) _))⟩
        · have he : ((⟨g, o, r, insD hs t x⟩, (0 : Int)) : Dk × Int) = dPut ⟨g, o, r, hs⟩ t x := by unfold dPut Dk.err; simp only; rw [if_pos H_h8.out, if_neg (by omega), if_neg (by rw [hh]; simp), if_neg (fun h => t4 h.2)]
          have H_he := hid he
          clear he
          have Hh := hid hh
          clear hh
          go_enter Try.func19, Try.ntmps19
          have hb0 := Below.refl w.heap.size w
          go_wp2_with fail
          with_reducible refine (rdcheck_any g o r hs a c _ ((hc.alloc _).alloc _) Hml.out).mono ?_
          rintro e w1 ⟨rfl, hc1⟩
          have hb1 : Below w.heap.size w w1 := bchain (by repeat' (first | with_reducible exact hb0 | with_reducible refine Below.drew ?_ | with_reducible refine below_drewN ?_ _ | with_reducible refine Below.alloc ?_ (by have := hb0.size; first | (simp; done) | (simp; omega) | omega) _ | with_reducible refine Below.setCell ?_ (by first | (simp; done) | (simp; omega) | omega) _)) hc1
          have hst1 : Below w.heap.size w w1 := bchain (by repeat' (first | with_reducible exact Below.refl _ _ | with_reducible refine Below.drew ?_ | with_reducible refine below_drewN ?_ _ | with_reducible refine Below.alloc ?_ (by first | (simp; done) | (simp; omega) | omega) _ | with_reducible refine Below.setCell ?_ (by first | (simp; done) | (simp; omega) | omega) _)) hc1
          have D_0 : w1.cell? ⟨w.heap.size, 0, none⟩ = some (.int .i64 g) := (hc1.cell (p := ⟨w.heap.size, 0, none⟩) (by first | (simp; done) | (simp; omega))).trans (by first | (simp; done) | go_simp)
          have D_1 : w1.cell? ⟨w.heap.size, 1, none⟩ = some (.int .i64 o) := (hc1.cell (p := ⟨w.heap.size, 1, none⟩) (by first | (simp; done) | (simp; omega))).trans (by first | (simp; done) | go_simp)
          have D_2 : w1.cell? ⟨w.heap.size, 2, none⟩ = some (.int .i64 r) := (hc1.cell (p := ⟨w.heap.size, 2, none⟩) (by first | (simp; done) | (simp; omega))).trans (by first | (simp; done) | go_simp)
          have D_3 : w1.cell? ⟨w.heap.size, 3, none⟩ = some (.slice a hs.length c) := (hc1.cell (p := ⟨w.heap.size, 3, none⟩) (by first | (simp; done) | (simp; omega))).trans (by first | (simp; done) | go_simp)
          have D_l : w.heap.size < w1.heap.size := Nat.lt_of_lt_of_le (by first | (simp; done) | (simp; omega)) hc1.size
          have E_0 : w1.cell? ⟨w.heap.size + 1, 0, none⟩ = some (.int .i64 0) := (hc1.cell (p := ⟨w.heap.size + 1, 0, none⟩) (by first | (simp; done) | (simp; omega))).trans (by first | (simp; done) | go_simp)
          have E_1 : w1.cell? ⟨w.heap.size + 1, 1, none⟩ = some (.int .i64 0) := (hc1.cell (p := ⟨w.heap.size + 1, 1, none⟩) (by first | (simp; done) | (simp; omega))).trans (by first | (simp; done) | go_simp)
          have E_2 : w1.cell? ⟨w.heap.size + 1, 2, none⟩ = some (.int .i64 0) := (hc1.cell (p := ⟨w.heap.size + 1, 2, none⟩) (by first | (simp; done) | (simp; omega))).trans (by first | (simp; done) | go_simp)
          have E_3 : w1.cell? ⟨w.heap.size + 1, 3, none⟩ = some (.slice none 0 0) := (hc1.cell (p := ⟨w.heap.size + 1, 3, none⟩) (by first | (simp; done) | (simp; omega))).trans (by first | (simp; done) | go_simp)
          have E_f0 : w1.frozen? ⟨w.heap.size + 1, 0, none⟩ = false := (hc1.frozen (p := ⟨w.heap.size + 1, 0, none⟩) (by first | (simp; done) | (simp; omega))).trans (by first | (simp; done) | go_simp)
          have E_f1 : w1.frozen? ⟨w.heap.size + 1, 1, none⟩ = false := (hc1.frozen (p := ⟨w.heap.size + 1, 1, none⟩) (by first | (simp; done) | (simp; omega))).trans (by first | (simp; done) | go_simp)
          have E_f2 : w1.frozen? ⟨w.heap.size + 1, 2, none⟩ = false := (hc1.frozen (p := ⟨w.heap.size + 1, 2, none⟩) (by first | (simp; done) | (simp; omega))).trans (by first | (simp; done) | go_simp)
          have E_f3 : w1.frozen? ⟨w.heap.size + 1, 3, none⟩ = false := (hc1.frozen (p := ⟨w.heap.size + 1, 3, none⟩) (by first | (simp; done) | (simp; omega))).trans (by first | (simp; done) | go_simp)
          have E_l : w.heap.size + 1 < w1.heap.size := Nat.lt_of_lt_of_le (by first | (simp; done) | (simp; omega)) hc1.size
          replace hc := hc.later hst1
          clear hst1
          clear hc1 hb0
          rw [H_h8.out]
          have z1 := E_l
          go_wp2_with fail
          with_reducible refine (at_any g o r t hs a c _ hc Hml.out).mono ?_
          rintro e w2 ⟨rfl, hc2⟩
          have hb2 : Below w.heap.size w w2 := bchain (by repeat' (first | with_reducible exact hb1 | with_reducible refine Below.drew ?_ | with_reducible refine below_drewN ?_ _ | with_reducible refine Below.alloc ?_ (by have := hb1.size; first | (simp; done) | (simp; omega) | omega) _ | with_reducible refine Below.setCell ?_ (by first | (simp; done) | (simp; omega) | omega) _)) hc2
          have hst2 : Below w1.heap.size w1 w2 := bchain (by repeat' (first | with_reducible exact Below.refl _ _ | with_reducible refine Below.drew ?_ | with_reducible refine below_drewN ?_ _ | with_reducible refine Below.alloc ?_ (by first | (simp; done) | (simp; omega) | omega) _ | with_reducible refine Below.setCell ?_ (by first | (simp; done) | (simp; omega) | omega) _)) hc2
          replace D_0 := cell_later hst2 D_0
          replace D_1 := cell_later hst2 D_1
          replace D_2 := cell_later hst2 D_2
          replace D_3 := cell_later hst2 D_3
          replace D_l := Nat.lt_of_lt_of_le D_l hst2.size
          replace E_0 := cell_later hst2 E_0
          replace E_1 := cell_later hst2 E_1
          replace E_2 := cell_later hst2 E_2
          replace E_3 := cell_later hst2 E_3
          replace E_f0 := frozen_later hst2 E_l E_f0
          replace E_f1 := frozen_later hst2 E_l E_f1
          replace E_f2 := frozen_later hst2 E_l E_f2
          replace E_f3 := frozen_later hst2 E_l E_f3
          replace E_l := Nat.lt_of_lt_of_le E_l hst2.size
          replace hc := hc.later hst2
          clear hst2
          clear hc2 hb1
          go_wp2_with fail
          refine wp_gen fun w3 hc3 => ?_
          have hb3 : Below w.heap.size w w3 := bchain (by repeat' (first | with_reducible exact hb2 | with_reducible refine Below.drew ?_ | with_reducible refine below_drewN ?_ _ | with_reducible refine Below.alloc ?_ (by have := hb2.size; first | (simp; done) | (simp; omega) | omega) _ | with_reducible refine Below.setCell ?_ (by first | (simp; done) | (simp; omega) | omega) _)) hc3
          have hst3 : Below w2.heap.size w2 w3 := bchain (by repeat' (first | with_reducible exact Below.refl _ _ | with_reducible refine Below.drew ?_ | with_reducible refine below_drewN ?_ _ | with_reducible refine Below.alloc ?_ (by first | (simp; done) | (simp; omega) | omega) _ | with_reducible refine Below.setCell ?_ (by first | (simp; done) | (simp; omega) | omega) _)) hc3
          replace D_0 := cell_later hst3 D_0
          replace D_1 := cell_later hst3 D_1
          replace D_2 := cell_later hst3 D_2
          replace D_3 := cell_later hst3 D_3
          replace D_l := Nat.lt_of_lt_of_le D_l hst3.size
          replace E_0 := cell_later hst3 E_0
          replace E_1 := cell_later hst3 E_1
          replace E_2 := cell_later hst3 E_2
          replace E_3 := cell_later hst3 E_3
          replace E_f0 := frozen_later hst3 E_l E_f0
          replace E_f1 := frozen_later hst3 E_l E_f1
          replace E_f2 := frozen_later hst3 E_l E_f2
          replace E_f3 := frozen_later hst3 E_l E_f3
          replace E_l := Nat.lt_of_lt_of_le E_l hst3.size
          replace hc := hc.later hst3
          clear hst3
          have KD_0 := cell_on D_0
          have KD_1 := cell_on D_1
          have KD_2 := cell_on D_2
          have KD_3 := cell_on D_3
          refine wp_region_on (by kernel_rfl) (by kernel_rfl) ?_
          repeat (first | go_big_quiet_step ((first | (go_at_call 11; exact calls_on (besides_any g o r hs a c _ (hc.on _) Hml.out)))) | quiet_step ((first | (go_at_call 11; exact calls_on (besides_any g o r hs a c _ (hc.on _) Hml.out)))))
          refine wpQuiet_nil ?_
          intro w4 hc4
          clear KD_0 KD_1 KD_2 KD_3
          have hb4 : Below w.heap.size w w4 := bchain (by repeat' (first | with_reducible exact hb3 | with_reducible refine Below.drew ?_ | with_reducible refine below_drewN ?_ _ | with_reducible refine Below.alloc ?_ (by have := hb3.size; first | (simp; done) | (simp; omega) | omega) _ | with_reducible refine Below.setCell ?_ (by first | (simp; done) | (simp; omega) | omega) _)) hc4
          have hst4 : Below w3.heap.size w3 w4 := bchain (by repeat' (first | with_reducible exact Below.refl _ _ | with_reducible refine Below.drew ?_ | with_reducible refine below_drewN ?_ _ | with_reducible refine Below.alloc ?_ (by first | (simp; done) | (simp; omega) | omega) _ | with_reducible refine Below.setCell ?_ (by first | (simp; done) | (simp; omega) | omega) _)) hc4
          replace D_0 := cell_later hst4 D_0
          replace D_1 := cell_later hst4 D_1
          replace D_2 := cell_later hst4 D_2
          replace D_3 := cell_later hst4 D_3
          replace D_l := Nat.lt_of_lt_of_le D_l hst4.size
          replace E_0 := cell_later hst4 E_0
          replace E_1 := cell_later hst4 E_1
          replace E_2 := cell_later hst4 E_2
          replace E_3 := cell_later hst4 E_3
          replace E_f0 := frozen_later hst4 E_l E_f0
          replace E_f1 := frozen_later hst4 E_l E_f1
          replace E_f2 := frozen_later hst4 E_l E_f2
          replace E_f3 := frozen_later hst4 E_l E_f3
          replace E_l := Nat.lt_of_lt_of_le E_l hst4.size
          replace hc := hc.later hst4
          clear hst4
          have z4 := E_l
          go_wp2_with fail
          with_reducible refine (rdtwin_any g o r hs a c _ hc (by omega)).mono ?_
          rintro e w5 ⟨a1, c1, rfl, o1, hc5⟩
          have hb5 : Below w.heap.size w w5 := bchain (by repeat' (first | with_reducible exact hb4 | with_reducible refine Below.drew ?_ | with_reducible refine below_drewN ?_ _ | with_reducible refine Below.alloc ?_ (by have := hb4.size; first | (simp; done) | (simp; omega) | omega) _ | with_reducible refine Below.setCell ?_ (by first | (simp; done) | (simp; omega) | omega) _)) hc5
          have hst5 : Below w4.heap.size w4 w5 := bchain (by repeat' (first | with_reducible exact Below.refl _ _ | with_reducible refine Below.drew ?_ | with_reducible refine below_drewN ?_ _ | with_reducible refine Below.alloc ?_ (by first | (simp; done) | (simp; omega) | omega) _ | with_reducible refine Below.setCell ?_ (by first | (simp; done) | (simp; omega) | omega) _)) hc5
          replace D_0 := cell_later hst5 D_0
          replace D_1 := cell_later hst5 D_1
          replace D_2 := cell_later hst5 D_2
          replace D_3 := cell_later hst5 D_3
          replace D_l := Nat.lt_of_lt_of_le D_l hst5.size
          replace E_0 := cell_later hst5 E_0
          replace E_1 := cell_later hst5 E_1
          replace E_2 := cell_later hst5 E_2
          replace E_3 := cell_later hst5 E_3
          replace E_f0 := frozen_later hst5 E_l E_f0
          replace E_f1 := frozen_later hst5 E_l E_f1
          replace E_f2 := frozen_later hst5 E_l E_f2
          replace E_f3 := frozen_later hst5 E_l E_f3
          replace E_l := Nat.lt_of_lt_of_le E_l hst5.size
          replace hc := hc.later hst5
          clear hst5
          obtain ⟨hcell5, hfroz5⟩ := bcell hc5
          have hz5 := hc5.size
          clear hcell5 hfroz5 hc5
          have z5 := E_l
          have b5 := hb5
          clear D_0 D_1 D_2 D_3 D_l hc
          have hv1 := heap_new2 w5 (.cells #[.int .i64 g, .int .i64 o, .int .i64 r, .slice a1 hs.length c1] 26) (.cells #[.int .i64 t, .int .u64 x] 38)
          have q1 := o1.addr
          go_wp2_with (at_builtin; refine stop ?_)
          refine Stop.go ?_
          refine wpList_append_x _ rfl _ _ 24 rfl w4.heap.size 38 i0 (.agg #[.int .i64 0, .int .u64 0]) 2 16 Try.underlying24 ii iz0 iz1 iz2 rfl (by decide) (.slice a1 hs.length c1) hs.length (cel hs) rfl ((o1.alloc _).alloc _) (some ⟨w5.heap.size + 1, 0, none⟩) 1 1 [.int .i64 t, .int .u64 x] rfl rfl (cellsAt_blk hv1) (slip_one _ _) (by unfold maxLen; omega) (by omega) (by first | (simp; done) | (simp; omega) | omega) ?_
          intro a2 c2 w6 o2 hg hk
          replace hg : World.grownBy _ w6 (Value.slice a1 hs.length c1).ownBlock := hg
          obtain ⟨hcell, hfroz⟩ := gcell hg o1
          have hz := hg.size
          simp only [World.size_alloc] at hz
          have X_0 : w6.cell? ⟨w5.heap.size, 0, none⟩ = some (.int .i64 g) := (hcell w5.heap.size 0 (by first | (simp; done) | (simp; omega) | omega) (.inr (Nat.le_refl _))).trans (by first | (simp; done) | go_simp)
          have X_1 : w6.cell? ⟨w5.heap.size, 1, none⟩ = some (.int .i64 o) := (hcell w5.heap.size 1 (by first | (simp; done) | (simp; omega) | omega) (.inr (Nat.le_refl _))).trans (by first | (simp; done) | go_simp)
          have X_2 : w6.cell? ⟨w5.heap.size, 2, none⟩ = some (.int .i64 r) := (hcell w5.heap.size 2 (by first | (simp; done) | (simp; omega) | omega) (.inr (Nat.le_refl _))).trans (by first | (simp; done) | go_simp)
          have X_3 : w6.cell? ⟨w5.heap.size, 3, none⟩ = some (.slice a1 hs.length c1) := (hcell w5.heap.size 3 (by first | (simp; done) | (simp; omega) | omega) (.inr (Nat.le_refl _))).trans (by first | (simp; done) | go_simp)
          have X_f3 : w6.frozen? ⟨w5.heap.size, 3, none⟩ = false := (hfroz w5.heap.size 3 (by first | (simp; done) | (simp; omega) | omega) (.inr (Nat.le_refl _))).trans (by first | (simp; done) | go_simp)
          have hst : Below w5.heap.size w5 ((w5.alloc (.cells #[.int .i64 g, .int .i64 o, .int .i64 r, .slice a1 hs.length c1] 26)).alloc (.cells #[.int .i64 t, .int .u64 x] 38)) := ((Below.refl _ _).alloc (Nat.le_refl _) _).alloc (by first | (simp; done) | (simp; omega) | omega) _
          have E_0' := (hcell (w.heap.size + 1) 0 (by first | (simp; done) | (simp; omega) | omega) (.inl z4)).trans (cell_later hst E_0)
          have E_1' := (hcell (w.heap.size + 1) 1 (by first | (simp; done) | (simp; omega) | omega) (.inl z4)).trans (cell_later hst E_1)
          have E_2' := (hcell (w.heap.size + 1) 2 (by first | (simp; done) | (simp; omega) | omega) (.inl z4)).trans (cell_later hst E_2)
          have E_3' := (hcell (w.heap.size + 1) 3 (by first | (simp; done) | (simp; omega) | omega) (.inl z4)).trans (cell_later hst E_3)
          have E_f0' := (hfroz (w.heap.size + 1) 0 (by first | (simp; done) | (simp; omega) | omega) (.inl z4)).trans (frozen_later hst z5 E_f0)
          have E_f1' := (hfroz (w.heap.size + 1) 1 (by first | (simp; done) | (simp; omega) | omega) (.inl z4)).trans (frozen_later hst z5 E_f1)
          have E_f2' := (hfroz (w.heap.size + 1) 2 (by first | (simp; done) | (simp; omega) | omega) (.inl z4)).trans (frozen_later hst z5 E_f2)
          have E_f3' := (hfroz (w.heap.size + 1) 3 (by first | (simp; done) | (simp; omega) | omega) (.inl z4)).trans (frozen_later hst z5 E_f3)
          have hb6 : Below w.heap.size w w6 := below_grownX ((b5.alloc (by first | (simp; done) | (simp; omega) | omega) _).alloc (by first | (simp; done) | (simp; omega) | omega) _) hg (by first | (simp; done) | (simp; omega) | omega) (fun k hk => by have := (o1.lt k hk).1; omega)
          have z6 : w.heap.size + 1 < w6.heap.size := by omega
          have z7 : w5.heap.size < w6.heap.size := by omega
          have hne : w5.heap.size ≠ w.heap.size + 1 := by omega
          obtain ⟨b, rfl, hb1, hb2, _, _⟩ := o2.atS (by omega)
          have p1 : b ≠ w.heap.size + 1 ∧ b ≠ w5.heap.size := by
            rcases hk b rfl with h | h
            · have := o1.lt _ h; omega
            · simp only [World.size_alloc] at h; omega
          obtain ⟨p1, p2⟩ := p1
          have o3 : OwnX w6 w4.heap.size 38 2 (.slice (some ⟨b, 0, none⟩) (hs.length + 1) c2) (hs.length + 1) (cel (bub hs t x hs.length)) := by
            rw [bub_end, cel_append]; exact o2
          have hil : hs.length + 1 = (insD hs t x).length := (insD_len _ _ _).symm
          have H_hil := hid hil
          clear hil
          clear E_0 E_1 E_2 E_3 E_f0 E_f1 E_f2 E_f3 hcell hfroz hst hg hk o1 o2 q1 hv1
          go_wp2_with fail
          go_loopw [9] (fun i wr => ∃ k : Nat, lb hs t ≤ k ∧ k ≤ hs.length ∧ i = .int .i64 k ∧ Below w.heap.size w wr ∧ (wr.cell? ⟨w5.heap.size, 0, none⟩ = some (.int .i64 g) ∧ wr.cell? ⟨w5.heap.size, 1, none⟩ = some (.int .i64 o) ∧ wr.cell? ⟨w5.heap.size, 2, none⟩ = some (.int .i64 r) ∧ wr.cell? ⟨w5.heap.size, 3, none⟩ = some (.slice (some ⟨b, 0, none⟩) (hs.length + 1) c2)) ∧ (wr.cell? ⟨w.heap.size + 1, 0, none⟩ = some (.int .i64 0) ∧ wr.cell? ⟨w.heap.size + 1, 1, none⟩ = some (.int .i64 0) ∧ wr.cell? ⟨w.heap.size + 1, 2, none⟩ = some (.int .i64 0) ∧ wr.cell? ⟨w.heap.size + 1, 3, none⟩ = some (.slice none 0 0)) ∧ (wr.frozen? ⟨w.heap.size + 1, 0, none⟩ = false ∧ wr.frozen? ⟨w.heap.size + 1, 1, none⟩ = false ∧ wr.frozen? ⟨w.heap.size + 1, 2, none⟩ = false ∧ wr.frozen? ⟨w.heap.size + 1, 3, none⟩ = false) ∧ OwnX wr w4.heap.size 38 2 (.slice (some ⟨b, 0, none⟩) (hs.length + 1) c2) (hs.length + 1) (cel (bub hs t x k))) (fun i _ => (intOf i).toNat)
          case atStart => exact ⟨hs.length, lb_le _ _, Nat.le_refl _, by go_num, (by repeat' (first | with_reducible exact hb6 | with_reducible refine Below.drew ?_ | with_reducible refine below_drewN ?_ _ | with_reducible refine Below.alloc ?_ (by have := hb6.size; first | (simp; done) | (simp; omega) | omega) _ | with_reducible refine Below.setCell ?_ (by first | (simp; done) | (simp; omega) | omega) _)), ⟨by go_simp, by go_simp, by go_simp, by go_simp⟩, ⟨by go_simp, by go_simp, by go_simp, by go_simp⟩, ⟨by go_simp, by go_simp, by go_simp, by go_simp⟩, o3.setFar (by simp [Value.ownBlock]; omega) _⟩
          case round =>
            clear X_0 X_1 X_2 X_3 X_f3 E_0' E_1' E_2' E_3' E_f0' E_f1' E_f2' E_f3' o3
            obtain ⟨k, hk1, hk2, rfl, hbw, ⟨X_0, X_1, X_2, X_3⟩, ⟨E_0, E_1, E_2, E_3⟩, ⟨E_f0, E_f1, E_f2, E_f3⟩, o4⟩ := hrel
            have zz := o4.addr _ rfl
            have y1 : w5.heap.size < wr.heap.size := World.block_lt_of_cell? _ _ X_0
            have y2 : w.heap.size + 1 < wr.heap.size := World.block_lt_of_cell? _ _ E_0
            by_cases hgo : 0 < k ∧ t < tg hs (k - 1)
            · obtain ⟨hk0, hlt⟩ := hgo
              obtain ⟨m, rfl⟩ : ∃ m, k = m + 1 := ⟨k - 1, by omega⟩
              have hm : m < hs.length := by omega
              simp only [Nat.add_sub_cancel] at hlt
              have hlm : lb hs t ≤ m := by have := lb_iff HV.out.inc t m hm; omega
              have hbl := bub_len hs t x hk2
              obtain ⟨_, e0, _, _, hcel, hfro⟩ := o4.atS (by omega)
              cases e0
              have c01 := cel_at (bub hs t x (m + 1)) (m + 1) (by omega)
              have d01 := cel_at (bub hs t x (m + 1)) m (by omega)
              rw [(bub_at hk2).1, (bub_at hk2).2] at c01
              rw [(bub_below hm).1, (bub_below hm).2] at d01
              have c0 := hcel _ _ c01.1
              have c1 := hcel _ _ c01.2
              have d0 := hcel _ _ d01.1
              have d1 := hcel _ _ d01.2
              have f0 := hfro ((m + 1) * 2)
              have f1 := hfro ((m + 1) * 2 + 1)
              have f2 := hfro (m * 2)
              have f3 := hfro (m * 2 + 1)
              have l0 : (cel (bub hs t x (m + 1))).length = (hs.length + 1) * 2 := by rw [cel_len, hbl]
              have hcb := bub_cel (t := t) (x := x) hm
              have e1 : ((m + 1 : Nat) : Int) - 1 = m := by omega
              have e2 : ((m : Int) + 1) < ((hs.length : Int) + 1) := by omega
              have e3 : (m : Int) < ((hs.length : Int) + 1) := by omega
              have e4 : (0 : Int) < ((m + 1 : Nat) : Int) := by omega
              have e5 : (m : Int) + 1 - 1 = m := by omega
              have H_hbl := hid hbl
              have H_l0 := hid l0
              have H_hcb := hid hcb
              clear hbl l0 hcb
              clear hcel hfro c01 d01
              go_wp2_with fail
              go_quiet (fail)
              go_wp2_with fail
              refine wp_gen fun w7 hc7 => ?_
              have hb7 : Below w.heap.size w w7 := bchain (below_drewN hbw _) hc7
              have zz7 : b < w7.heap.size := Nat.lt_of_lt_of_le zz.2 hc7.size
              have z71 : w.heap.size + 1 < w7.heap.size := Nat.lt_of_lt_of_le (by omega : w.heap.size + 1 < wr.heap.size) hc7.size
              have z72 : w5.heap.size < w7.heap.size := Nat.lt_of_lt_of_le (by omega : w5.heap.size < wr.heap.size) hc7.size
              replace c0 := cell_later (w := wr.drewN nq) hc7 c0
              replace c1 := cell_later (w := wr.drewN nq) hc7 c1
              replace d0 := cell_later (w := wr.drewN nq) hc7 d0
              replace d1 := cell_later (w := wr.drewN nq) hc7 d1
              replace f0 := frozen_later (w := wr.drewN nq) hc7 zz.2 f0
              replace f1 := frozen_later (w := wr.drewN nq) hc7 zz.2 f1
              replace f2 := frozen_later (w := wr.drewN nq) hc7 zz.2 f2
              replace f3 := frozen_later (w := wr.drewN nq) hc7 zz.2 f3
              replace X_0 := cell_later (w := wr.drewN nq) hc7 X_0
              replace X_1 := cell_later (w := wr.drewN nq) hc7 X_1
              replace X_2 := cell_later (w := wr.drewN nq) hc7 X_2
              replace X_3 := cell_later (w := wr.drewN nq) hc7 X_3
              replace E_0 := cell_later (w := wr.drewN nq) hc7 E_0
              replace E_1 := cell_later (w := wr.drewN nq) hc7 E_1
              replace E_2 := cell_later (w := wr.drewN nq) hc7 E_2
              replace E_3 := cell_later (w := wr.drewN nq) hc7 E_3
              replace E_f0 := frozen_later (w := wr.drewN nq) hc7 (by show w.heap.size + 1 < wr.heap.size; omega) E_f0
              replace E_f1 := frozen_later (w := wr.drewN nq) hc7 (by show w.heap.size + 1 < wr.heap.size; omega) E_f1
              replace E_f2 := frozen_later (w := wr.drewN nq) hc7 (by show w.heap.size + 1 < wr.heap.size; omega) E_f2
              replace E_f3 := frozen_later (w := wr.drewN nq) hc7 (by show w.heap.size + 1 < wr.heap.size; omega) E_f3
              replace o4 := OwnX.later (w := wr.drewN nq) o4 hc7
              clear hc7
              go_region
              go_wp2_with fail
              go_roundw
              case rel => exact ⟨m, hlm, by omega, by go_num, (by repeat' (first | with_reducible exact hb7 | with_reducible refine Below.drew ?_ | with_reducible refine below_drewN ?_ _ | with_reducible refine Below.alloc ?_ (by have := hb7.size; first | (simp; done) | (simp; omega) | omega) _ | with_reducible refine Below.setCell ?_ (by first | (simp; done) | (simp; omega) | omega) _)), ⟨by go_simp, by go_simp, by go_simp, by go_simp⟩, ⟨by go_simp, by go_simp, by go_simp, by go_simp⟩, ⟨by go_simp, by go_simp, by go_simp, by go_simp⟩, by
                rw [← H_hcb.out]
                have hl := H_l0.out
                exact (((o4.setAtS (by omega) _).setAtS (by simp; omega) _).setAtS (by simp; omega) _).setAtS (by simp; omega) _⟩
              case measure => simp [intOf]
            · skip
              have hk : k = lb hs t := by
                rcases Nat.eq_zero_or_pos k with h0 | h0
                · omega
                · have h1 := lb_iff HV.out.inc t (k - 1) (by omega)
                  have h2 : ¬ (t < tg hs (k - 1)) := fun h => hgo ⟨h0, h⟩
                  have h3 : tg hs (k - 1) ≠ t := fun e => by
                    have h4 : hasT hs t = true := by
                      unfold hasT
                      exact List.any_eq_true.2 ⟨hs[k - 1], List.getElem_mem (by omega), by rw [hs_at (by omega)]; simp [e]⟩
                    rw [Hh.out] at h4; cases h4
                  omega
              have kk := o4.cellsAt
              rw [hk, bub_ins] at kk
              have k4 : CellsAt wr (some ⟨b, 0, none⟩) (cel (bub hs t x k)) := o4.cellsAt
              rcases Nat.eq_zero_or_pos k with h0 | h0
              · subst h0
                clear hk o4 k4 hgo
                go_wp2_with fail
                go_quiet (fail)
                go_wp2_with fail
                exact bodyPost_ret (v := .tuple #[.agg #[.int .i64 g, .int .i64 o, .int .i64 r, .slice (some ⟨b, 0, none⟩) (hs.length + 1) c2], .int .i64 0]) (by simp [results, Try.results19, go_sem, *]) rfl ⟨RetD.of (RetD.mk' H_hil.out rfl (by repeat' (first | with_reducible exact kk | with_reducible refine CellsAt.setFarG ?_ ?_ _ | with_reducible refine CellsAt.drewN ?_ _ | exact fun ad e => by cases e; exact p1)) (fun ad e => by cases e; simp; omega)) H_he.out, (by repeat' (first | with_reducible exact hbw | with_reducible refine Below.drew ?_ | with_reducible refine below_drewN ?_ _ | with_reducible refine Below.alloc ?_ (by have := hbw.size; first | (simp; done) | (simp; omega) | omega) _ | with_reducible refine Below.setCell ?_ (by first | (simp; done) | (simp; omega) | omega) _))⟩
              · obtain ⟨m, rfl⟩ : ∃ m, k = m + 1 := ⟨k - 1, by omega⟩
                have hm : m < hs.length := by omega
                have hlt : ¬ (t < tg hs m) := fun h => hgo ⟨by omega, by simpa using h⟩
                have hbl := bub_len hs t x hk2
                obtain ⟨_, e0, _, _, hcel, hfro⟩ := o4.atS (by omega)
                cases e0
                have c01 := cel_at (bub hs t x (m + 1)) (m + 1) (by omega)
                have d01 := cel_at (bub hs t x (m + 1)) m (by omega)
                rw [(bub_at hk2).1, (bub_at hk2).2] at c01
                rw [(bub_below hm).1, (bub_below hm).2] at d01
                have c0 := hcel _ _ c01.1
                have d0 := hcel _ _ d01.1
                have e1 : ((m + 1 : Nat) : Int) - 1 = m := by omega
                have e2 : ((m : Int) + 1) < ((hs.length : Int) + 1) := by omega
                have e3 : (m : Int) < ((hs.length : Int) + 1) := by omega
                have e4 : (0 : Int) < ((m + 1 : Nat) : Int) := by omega
                have e5 : (m : Int) + 1 - 1 = m := by omega
                clear hcel hfro c01 d01 hk o4 k4 hgo hbl
                go_wp2_with fail
                go_quiet (fail)
                go_wp2_with fail
                exact bodyPost_ret (v := .tuple #[.agg #[.int .i64 g, .int .i64 o, .int .i64 r, .slice (some ⟨b, 0, none⟩) (hs.length + 1) c2], .int .i64 0]) (by simp [results, Try.results19, go_sem, *]) rfl ⟨RetD.of (RetD.mk' H_hil.out rfl (by repeat' (first | with_reducible exact kk | with_reducible refine CellsAt.setFarG ?_ ?_ _ | with_reducible refine CellsAt.drewN ?_ _ | exact fun ad e => by cases e; exact p1)) (fun ad e => by cases e; simp; omega)) H_he.out, (by repeat' (first | with_reducible exact hbw | with_reducible refine Below.drew ?_ | with_reducible refine below_drewN ?_ _ | with_reducible refine Below.alloc ?_ (by have := hbw.size; first | (simp; done) | (simp; omega) | omega) _ | with_reducible refine Below.setCell ?_ (by first | (simp; done) | (simp; omega) | omega) _))⟩
    · skip
      have he : (Dk.zero, (14 : Int)) = dPut ⟨g, o, r, hs⟩ t x := by unfold dPut Dk.err; rw [if_pos H_h8.out, if_neg (by simp only; omega), if_pos hh]
      have H_he := hid he
      clear he
      rw [hh] at hat
      have hat' : 0 ≤ atI t hs := by simpa using hat
      clear hat hh
      go_enter Try.func19, Try.ntmps19
      have hb0 := Below.refl w.heap.size w
      go_wp2_with fail
      with_reducible refine (rdcheck_any g o r hs a c _ ((hc.alloc _).alloc _) Hml.out).mono ?_
      rintro e w1 ⟨rfl, hc1⟩
      have hb1 : Below w.heap.size w w1 := bchain (by repeat' (first | with_reducible exact hb0 | with_reducible refine Below.drew ?_ | with_reducible refine below_drewN ?_ _ | with_reducible refine Below.alloc ?_ (by have := hb0.size; first | (simp; done) | (simp; omega) | omega) _ | with_reducible refine Below.setCell ?_ (by first | (simp; done) | (simp; omega) | omega) _)) hc1
      have hst1 : Below w.heap.size w w1 := bchain (by repeat' (first | with_reducible exact Below.refl _ _ | with_reducible refine Below.drew ?_ | with_reducible refine below_drewN ?_ _ | with_reducible refine Below.alloc ?_ (by first | (simp; done) | (simp; omega) | omega) _ | with_reducible refine Below.setCell ?_ (by first | (simp; done) | (simp; omega) | omega) _)) hc1
      have D_0 : w1.cell? ⟨w.heap.size, 0, none⟩ = some (.int .i64 g) := (hc1.cell (p := ⟨w.heap.size, 0, none⟩) (by first | (simp; done) | (simp; omega))).trans (by first | (simp; done) | go_simp)
      have D_1 : w1.cell? ⟨w.heap.size, 1, none⟩ = some (.int .i64 o) := (hc1.cell (p := ⟨w.heap.size, 1, none⟩) (by first | (simp; done) | (simp; omega))).trans (by first | (simp; done) | go_simp)
      have D_2 : w1.cell? ⟨w.heap.size, 2, none⟩ = some (.int .i64 r) := (hc1.cell (p := ⟨w.heap.size, 2, none⟩) (by first | (simp; done) | (simp; omega))).trans (by first | (simp; done) | go_simp)
      have D_3 : w1.cell? ⟨w.heap.size, 3, none⟩ = some (.slice a hs.length c) := (hc1.cell (p := ⟨w.heap.size, 3, none⟩) (by first | (simp; done) | (simp; omega))).trans (by first | (simp; done) | go_simp)
      have D_l : w.heap.size < w1.heap.size := Nat.lt_of_lt_of_le (by first | (simp; done) | (simp; omega)) hc1.size
      have E_0 : w1.cell? ⟨w.heap.size + 1, 0, none⟩ = some (.int .i64 0) := (hc1.cell (p := ⟨w.heap.size + 1, 0, none⟩) (by first | (simp; done) | (simp; omega))).trans (by first | (simp; done) | go_simp)
      have E_1 : w1.cell? ⟨w.heap.size + 1, 1, none⟩ = some (.int .i64 0) := (hc1.cell (p := ⟨w.heap.size + 1, 1, none⟩) (by first | (simp; done) | (simp; omega))).trans (by first | (simp; done) | go_simp)
      have E_2 : w1.cell? ⟨w.heap.size + 1, 2, none⟩ = some (.int .i64 0) := (hc1.cell (p := ⟨w.heap.size + 1, 2, none⟩) (by first | (simp; done) | (simp; omega))).trans (by first | (simp; done) | go_simp)
      have E_3 : w1.cell? ⟨w.heap.size + 1, 3, none⟩ = some (.slice none 0 0) := (hc1.cell (p := ⟨w.heap.size + 1, 3, none⟩) (by first | (simp; done) | (simp; omega))).trans (by first | (simp; done) | go_simp)
      have E_f0 : w1.frozen? ⟨w.heap.size + 1, 0, none⟩ = false := (hc1.frozen (p := ⟨w.heap.size + 1, 0, none⟩) (by first | (simp; done) | (simp; omega))).trans (by first | (simp; done) | go_simp)
      have E_f1 : w1.frozen? ⟨w.heap.size + 1, 1, none⟩ = false := (hc1.frozen (p := ⟨w.heap.size + 1, 1, none⟩) (by first | (simp; done) | (simp; omega))).trans (by first | (simp; done) | go_simp)
      have E_f2 : w1.frozen? ⟨w.heap.size + 1, 2, none⟩ = false := (hc1.frozen (p := ⟨w.heap.size + 1, 2, none⟩) (by first | (simp; done) | (simp; omega))).trans (by first | (simp; done) | go_simp)
      have E_f3 : w1.frozen? ⟨w.heap.size + 1, 3, none⟩ = false := (hc1.frozen (p := ⟨w.heap.size + 1, 3, none⟩) (by first | (simp; done) | (simp; omega))).trans (by first | (simp; done) | go_simp)
      have E_l : w.heap.size + 1 < w1.heap.size := Nat.lt_of_lt_of_le (by first | (simp; done) | (simp; omega)) hc1.size
      replace hc := hc.later hst1
      clear hst1
      clear hc1 hb0
      rw [H_h8.out]
      have z1 := E_l
      go_wp2_with fail
      with_reducible refine (at_any g o r t hs a c _ hc Hml.out).mono ?_
      rintro e w2 ⟨rfl, hc2⟩
      have hb2 : Below w.heap.size w w2 := bchain (by repeat' (first | with_reducible exact hb1 | with_reducible refine Below.drew ?_ | with_reducible refine below_drewN ?_ _ | with_reducible refine Below.alloc ?_ (by have := hb1.size; first | (simp; done) | (simp; omega) | omega) _ | with_reducible refine Below.setCell ?_ (by first | (simp; done) | (simp; omega) | omega) _)) hc2
      have hst2 : Below w1.heap.size w1 w2 := bchain (by repeat' (first | with_reducible exact Below.refl _ _ | with_reducible refine Below.drew ?_ | with_reducible refine below_drewN ?_ _ | with_reducible refine Below.alloc ?_ (by first | (simp; done) | (simp; omega) | omega) _ | with_reducible refine Below.setCell ?_ (by first | (simp; done) | (simp; omega) | omega) _)) hc2
      replace D_0 := cell_later hst2 D_0
      replace D_1 := cell_later hst2 D_1
      replace D_2 := cell_later hst2 D_2
      replace D_3 := cell_later hst2 D_3
      replace D_l := Nat.lt_of_lt_of_le D_l hst2.size
      replace E_0 := cell_later hst2 E_0
      replace E_1 := cell_later hst2 E_1
      replace E_2 := cell_later hst2 E_2
      replace E_3 := cell_later hst2 E_3
      replace E_f0 := frozen_later hst2 E_l E_f0
      replace E_f1 := frozen_later hst2 E_l E_f1
      replace E_f2 := frozen_later hst2 E_l E_f2
      replace E_f3 := frozen_later hst2 E_l E_f3
      replace E_l := Nat.lt_of_lt_of_le E_l hst2.size
      replace hc := hc.later hst2
      clear hst2
      clear hc2 hb1
      go_wp2_with fail
      exact bodyPost_ret (v := .tuple #[.agg #[.int .i64 0, .int .i64 0, .int .i64 0, .slice none 0 0], .int .i64 14]) (by simp [results, Try.results19, go_sem, *]) rfl ⟨RetD.of ⟨_, _, rfl, .inl rfl, fresh_none _⟩ H_he.out, (by repeat' (first | with_reducible exact hb2 | with_reducible refine Below.drew ?_ | with_reducible refine below_drewN ?_ _ | with_reducible refine Below.alloc ?_ (by have := hb2.size; first | (simp; done) | (simp; omega) | omega) _ | with_reducible refine Below.setCell ?_ (by first | (simp; done) | (simp; omega) | omega) _))⟩
  · have he : (Dk.zero, (8 : Int)) = dPut ⟨g, o, r, hs⟩ t x := by unfold dPut Dk.err; rw [if_neg (by simp only; omega)]
    have H_he := hid he
    have H_h8 := hid h8
    clear he h8
    go_enter Try.func19, Try.ntmps19
    have hb0 := Below.refl w.heap.size w
    go_wp2_with fail
    with_reducible refine (rdcheck_any g o r hs a c _ ((hc.alloc _).alloc _) Hml.out).mono ?_
    rintro e w1 ⟨rfl, hc1⟩
    have hb1 : Below w.heap.size w w1 := bchain (by repeat' (first | with_reducible exact hb0 | with_reducible refine Below.drew ?_ | with_reducible refine below_drewN ?_ _ | with_reducible refine Below.alloc ?_ (by have := hb0.size; first | (simp; done) | (simp; omega) | omega) _ | with_reducible refine Below.setCell ?_ (by first | (simp; done) | (simp; omega) | omega) _)) hc1
    have hst1 : Below w.heap.size w w1 := bchain (by repeat' (first | with_reducible exact Below.refl _ _ | with_reducible refine Below.drew ?_ | with_reducible refine below_drewN ?_ _ | with_reducible refine Below.alloc ?_ (by first | (simp; done) | (simp; omega) | omega) _ | with_reducible refine Below.setCell ?_ (by first | (simp; done) | (simp; omega) | omega) _)) hc1
    have D_0 : w1.cell? ⟨w.heap.size, 0, none⟩ = some (.int .i64 g) := (hc1.cell (p := ⟨w.heap.size, 0, none⟩) (by first | (simp; done) | (simp; omega))).trans (by first | (simp; done) | go_simp)
    have D_1 : w1.cell? ⟨w.heap.size, 1, none⟩ = some (.int .i64 o) := (hc1.cell (p := ⟨w.heap.size, 1, none⟩) (by first | (simp; done) | (simp; omega))).trans (by first | (simp; done) | go_simp)
    have D_2 : w1.cell? ⟨w.heap.size, 2, none⟩ = some (.int .i64 r) := (hc1.cell (p := ⟨w.heap.size, 2, none⟩) (by first | (simp; done) | (simp; omega))).trans (by first | (simp; done) | go_simp)
    have D_3 : w1.cell? ⟨w.heap.size, 3, none⟩ = some (.slice a hs.length c) := (hc1.cell (p := ⟨w.heap.size, 3, none⟩) (by first | (simp; done) | (simp; omega))).trans (by first | (simp; done) | go_simp)
    have D_l : w.heap.size < w1.heap.size := Nat.lt_of_lt_of_le (by first | (simp; done) | (simp; omega)) hc1.size
    have E_0 : w1.cell? ⟨w.heap.size + 1, 0, none⟩ = some (.int .i64 0) := (hc1.cell (p := ⟨w.heap.size + 1, 0, none⟩) (by first | (simp; done) | (simp; omega))).trans (by first | (simp; done) | go_simp)
    have E_1 : w1.cell? ⟨w.heap.size + 1, 1, none⟩ = some (.int .i64 0) := (hc1.cell (p := ⟨w.heap.size + 1, 1, none⟩) (by first | (simp; done) | (simp; omega))).trans (by first | (simp; done) | go_simp)
    have E_2 : w1.cell? ⟨w.heap.size + 1, 2, none⟩ = some (.int .i64 0) := (hc1.cell (p := ⟨w.heap.size + 1, 2, none⟩) (by first | (simp; done) | (simp; omega))).trans (by first | (simp; done) | go_simp)
    have E_3 : w1.cell? ⟨w.heap.size + 1, 3, none⟩ = some (.slice none 0 0) := (hc1.cell (p := ⟨w.heap.size + 1, 3, none⟩) (by first | (simp; done) | (simp; omega))).trans (by first | (simp; done) | go_simp)
    have E_f0 : w1.frozen? ⟨w.heap.size + 1, 0, none⟩ = false := (hc1.frozen (p := ⟨w.heap.size + 1, 0, none⟩) (by first | (simp; done) | (simp; omega))).trans (by first | (simp; done) | go_simp)
    have E_f1 : w1.frozen? ⟨w.heap.size + 1, 1, none⟩ = false := (hc1.frozen (p := ⟨w.heap.size + 1, 1, none⟩) (by first | (simp; done) | (simp; omega))).trans (by first | (simp; done) | go_simp)
    have E_f2 : w1.frozen? ⟨w.heap.size + 1, 2, none⟩ = false := (hc1.frozen (p := ⟨w.heap.size + 1, 2, none⟩) (by first | (simp; done) | (simp; omega))).trans (by first | (simp; done) | go_simp)
    have E_f3 : w1.frozen? ⟨w.heap.size + 1, 3, none⟩ = false := (hc1.frozen (p := ⟨w.heap.size + 1, 3, none⟩) (by first | (simp; done) | (simp; omega))).trans (by first | (simp; done) | go_simp)
    have E_l : w.heap.size + 1 < w1.heap.size := Nat.lt_of_lt_of_le (by first | (simp; done) | (simp; omega)) hc1.size
    replace hc := hc.later hst1
    clear hst1
    clear hc1 hb0
    rw [H_h8.out]
    have z1 := E_l
    go_wp2_with fail
    with_reducible refine (rdcheck_any g o r hs a c _ hc Hml.out).mono ?_
    rintro e w2 ⟨rfl, hc2⟩
    have hb2 : Below w.heap.size w w2 := bchain (by repeat' (first | with_reducible exact hb1 | with_reducible refine Below.drew ?_ | with_reducible refine below_drewN ?_ _ | with_reducible refine Below.alloc ?_ (by have := hb1.size; first | (simp; done) | (simp; omega) | omega) _ | with_reducible refine Below.setCell ?_ (by first | (simp; done) | (simp; omega) | omega) _)) hc2
    have hst2 : Below w1.heap.size w1 w2 := bchain (by repeat' (first | with_reducible exact Below.refl _ _ | with_reducible refine Below.drew ?_ | with_reducible refine below_drewN ?_ _ | with_reducible refine Below.alloc ?_ (by first | (simp; done) | (simp; omega) | omega) _ | with_reducible refine Below.setCell ?_ (by first | (simp; done) | (simp; omega) | omega) _)) hc2
    replace D_0 := cell_later hst2 D_0
    replace D_1 := cell_later hst2 D_1
    replace D_2 := cell_later hst2 D_2
    replace D_3 := cell_later hst2 D_3
    replace D_l := Nat.lt_of_lt_of_le D_l hst2.size
    replace E_0 := cell_later hst2 E_0
    replace E_1 := cell_later hst2 E_1
    replace E_2 := cell_later hst2 E_2
    replace E_3 := cell_later hst2 E_3
    replace E_f0 := frozen_later hst2 E_l E_f0
    replace E_f1 := frozen_later hst2 E_l E_f1
    replace E_f2 := frozen_later hst2 E_l E_f2
    replace E_f3 := frozen_later hst2 E_l E_f3
    replace E_l := Nat.lt_of_lt_of_le E_l hst2.size
    replace hc := hc.later hst2
    clear hst2
    clear hc2 hb1
    rw [H_h8.out]
    go_wp2_with fail
    exact bodyPost_ret (v := .tuple #[.agg #[.int .i64 0, .int .i64 0, .int .i64 0, .slice none 0 0], .int .i64 8]) (by simp [results, Try.results19, go_sem, *]) rfl ⟨RetD.of ⟨_, _, rfl, .inl rfl, fresh_none _⟩ H_he.out, (by repeat' (first | with_reducible exact hb2 | with_reducible refine Below.drew ?_ | with_reducible refine below_drewN ?_ _ | with_reducible refine Below.alloc ?_ (by have := hb2.size; first | (simp; done) | (simp; omega) | omega) _ | with_reducible refine Below.setCell ?_ (by first | (simp; done) | (simp; omega) | omega) _))⟩

end Go.Proofs.Ytpfldkcbkolgnaa
