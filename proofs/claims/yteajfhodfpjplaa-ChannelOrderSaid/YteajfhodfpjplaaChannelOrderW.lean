/- The laws on channels: ChannelOrder. -/
import Derived.Test.YteajfhodfpjplaaChannelLaws
import Derived.Test.YteajfhodfpjplaaMem2
import Derived.Test.YteajfhodfpjplaaOpenRows
namespace Go.Proofs.Yteajfhodfpjplaa
set_option linter.unusedSimpArgs false
set_option linter.unusedVariables false
set_option linter.unnecessarySimpa false
open Go.RowKit Go.Joins Go.ChangeShapes Go.WideShapes Go.ChangeAt

theorem open_bools {H : Type} {enc : TypeId × Value → H} {w : World} {r : Reach} {b0 base : Nat} {held : Bool} {v : Value} {d : DataW H} {p : List MemPlace}
    (hv : Value.okWide Try.prog w r b0 50 v) (h : DataW.Trod enc Try.prog w base (fun _ => true) held 50 v d p) :
    ∃ (a : Option Addr) (c : Nat) (xs : List Bool), v = .slice a xs.length c ∧ BoolsIn w a xs := by
  obtain ⟨a0, l0, c0, rfl⟩ := okWide_slice Try.underlying50 hv
  obtain ⟨m, h⟩ := h
  obtain ⟨a, c, xs, h1, h2, h3⟩ := open_rowB Try.underlying50 Try.underlying4 (by kernel_rfl) h
  exact ⟨a, c, xs, h1, h2, h3⟩

/-- Numbers that follow one another. -/
def run (G l : Nat) : List Int := (List.range l).map fun j => ((G + j : Nat) : Int)
theorem run_len (G l : Nat) : (run G l).length = l := by simp [run]
theorem run_snoc (G l : Nat) : run G l ++ [((G : Int) + l)] = run G (l + 1) := by simp [run, List.range_succ]
theorem run_cons (G l : Nat) : run G (l + 1) = (G : Int) :: run (G + 1) l := by
  simp only [run, List.range_succ_eq_map, List.map_cons, List.map_map, Nat.add_zero, List.cons.injEq, true_and]
  refine List.map_congr_left fun j _ => ?_
  simp only [Function.comp]; omega

theorem rcheck_r (C : Int) (xs : List Int) (cl : Bool) (a : Option Addr) (n cp : Nat) (w : World) (hn : n = xs.length) (er : Int) (hr : chErr ⟨C, xs, cl⟩ = er) :
    Calls Try.prog 21 #[.agg #[.int .i64 C, .slice a n cp, .bool cl]] w fun e w' =>
      e = .returned (.int .i64 er) ∧ Below w.heap.size w w' := by subst hn; subst hr; exact rcheck_any C xs cl a cp w



set_option maxRecDepth 100000 in
set_option maxHeartbeats 40000000 in
theorem order_walk (n : Int) (sa : Option Addr) (sc : Nat) (xs : List Bool) (w : World) (hwn : (Lit.int .i64 n).wf = true) (hin : BoolsIn w sa xs) :
    Calls Try.prog 5 #[.int .i64 n, .slice sa xs.length sc] w fun e w' =>
      e = .returned (.bool true) ∧ Below w.heap.size w w' := by
  have hc0 := hin.cells
  have hl5 := hin.len
  clear hin
  by_cases hn : 1 ≤ n ∧ n ≤ 60
  · obtain ⟨m, rfl⟩ : ∃ m : Nat, n = m := ⟨n.toNat, by omega⟩
    clear hwn
    obtain ⟨hn1, hn2⟩ := hn
    have e0 : chNew m = (⟨m, [], false⟩, 0) := by unfold chNew; rw [if_neg (by omega)]
    have h8 : ∀ G l, l ≤ m → chErr ⟨m, run G l, false⟩ = 0 := by intro G l hl; simp [chErr, run_len]; omega
    have e1 : ∀ G l, l ≤ m → chRoom ⟨m, run G l, false⟩ = ((m : Int) - l, 0) := by intro G l hl; simp [chRoom, h8 G l hl, run_len]
    have e2 : ∀ G l, l < m → chSend ⟨m, run G l, false⟩ ((G : Int) + l) = (⟨m, run G (l + 1), false⟩, 0) := by
      intro G l hl
      have : ¬ ((l : Int) = m) := by omega
      simp [chSend, h8 G l (by omega), run_len, this, run_snoc]
    have e3 : ∀ G x, chSend ⟨m, run G m, false⟩ x = (⟨0, [], false⟩, 38) := by intro G x; simp [chSend, h8 G m (Nat.le_refl _), run_len]; rfl
    have e4 : ∀ G l, l + 1 ≤ m → chRecv ⟨m, run G (l + 1), false⟩ = (⟨m, run (G + 1) l, false⟩, (G : Int), true, 0) := by
      intro G l hl
      have := h8 G (l + 1) hl
      rw [run_cons] at this ⊢
      simp [chRecv, this]
    have e5 : ∀ G, chRecv ⟨m, run G 0, false⟩ = (⟨0, [], false⟩, 0, false, 38) := by
      intro G
      have := h8 G 0 (Nat.zero_le _)
      simp only [run, List.range_zero, List.map_nil] at this ⊢
      simp [chRecv, this]; rfl
    have hn1' : ¬ ((m : Int) < 1) := by omega
    have hn2' : ¬ ((m : Int) > 60) := by omega
    have hn2'' : ¬ ((60 : Int) < m) := by omega
    by_cases hx : (xs.length : Int) > 100
    · have H_hl5 := hid hl5
      have H_e0 := hid e0
      have H_e1 := hid e1
      have H_e2 := hid e2
      have H_e3 := hid e3
      have H_e4 := hid e4
      have H_e5 := hid e5
      have H_h8 := hid h8
      clear hl5 e0 e1 e2 e3 e4 e5 h8
      go_enter Try.func5, Try.ntmps5
      have hb0 := Below.refl w.heap.size w
      go_wp2_with fail
      refine (alive_any _).mono ?_
      rintro e w1 ⟨rfl, hc1⟩
      have hb1 : Below w.heap.size w w1 := bchain (by repeat' (first | exact hb0 | refine Below.drew ?_ | refine Below.alloc ?_ (by have := hb0.size; first | (simp; done) | (simp; omega) | omega) _ | refine Below.setCell ?_ (by first | (simp; done) | (simp; omega) | omega) _)) hc1
      clear hc1 hb0
      go_wp2_with fail
      refine (new_r m _ _ _ _ _ H_e0.out).mono ?_
      rintro e w2 ⟨⟨b1, d1, rfl, m1⟩, hc2⟩
      have hb2 : Below w.heap.size w w2 := bchain (by repeat' (first | exact hb1 | refine Below.drew ?_ | refine Below.alloc ?_ (by have := hb1.size; first | (simp; done) | (simp; omega) | omega) _ | refine Below.setCell ?_ (by first | (simp; done) | (simp; omega) | omega) _)) hc2
      clear hc2 hb1
      go_wp2_with fail
      go_ret
      exact ⟨by show Ending.returned (.bool (!decide ((m : Int) < 1) && !decide ((60 : Int) < m))) = _; simp [hn1', hn2''], (by repeat' (first | exact hb2 | refine Below.drew ?_ | refine Below.alloc ?_ (by have := hb2.size; first | (simp; done) | (simp; omega) | omega) _ | refine Below.setCell ?_ (by first | (simp; done) | (simp; omega) | omega) _))⟩
    · have hx' : xs.length ≤ 100 := by omega
      have H_hl5 := hid hl5
      have H_e0 := hid e0
      have H_e1 := hid e1
      have H_e2 := hid e2
      have H_e3 := hid e3
      have H_e4 := hid e4
      have H_e5 := hid e5
      have H_h8 := hid h8
      clear hl5 e0 e1 e2 e3 e4 e5 h8
      go_enter Try.func5, Try.ntmps5
      have hb0 := Below.refl w.heap.size w
      go_wp2_with fail
      refine (alive_any _).mono ?_
      rintro e w1 ⟨rfl, hc1⟩
      have hb1 : Below w.heap.size w w1 := bchain (by repeat' (first | exact hb0 | refine Below.drew ?_ | refine Below.alloc ?_ (by have := hb0.size; first | (simp; done) | (simp; omega) | omega) _ | refine Below.setCell ?_ (by first | (simp; done) | (simp; omega) | omega) _)) hc1
      clear hc1 hb0
      go_wp2_with fail
      refine (new_r m _ _ _ _ _ H_e0.out).mono ?_
      rintro e w2 ⟨⟨b1, d1, rfl, m1⟩, hc2⟩
      have hb2 : Below w.heap.size w w2 := bchain (by repeat' (first | exact hb1 | refine Below.drew ?_ | refine Below.alloc ?_ (by have := hb1.size; first | (simp; done) | (simp; omega) | omega) _ | refine Below.setCell ?_ (by first | (simp; done) | (simp; omega) | omega) _)) hc2
      clear hc2 hb1
      have hbe : w.heap.size ≤ w2.heap.size := hb2.size
      go_wp2_with fail
      go_loopw [8, 9, 10] (fun s g i wr => ∃ (k G l : Nat) (a' : Option Addr) (c' : Nat), k ≤ xs.length ∧ l ≤ m ∧ G + l ≤ k ∧ s = .int .u64 ((G : Int) + l) ∧ g = .int .u64 G ∧ i = .int .i64 k ∧ Below w.heap.size w wr ∧ (wr.cell? ⟨w2.heap.size, 0, none⟩ = some (.int .i64 m) ∧ wr.cell? ⟨w2.heap.size, 1, none⟩ = some (.slice a' l c') ∧ wr.cell? ⟨w2.heap.size, 2, none⟩ = some (.bool false)) ∧ (wr.frozen? ⟨w2.heap.size, 0, none⟩ = false ∧ wr.frozen? ⟨w2.heap.size, 1, none⟩ = false ∧ wr.frozen? ⟨w2.heap.size, 2, none⟩ = false ∧ w2.heap.size < wr.heap.size) ∧ CellsAt wr a' ((run G l).map (Value.int .u64))) (fun _ _ i _ => xs.length - (intOf i).toNat)
      case atStart => exact ⟨0, 0, 0, b1, d1, Nat.zero_le _, Nat.zero_le _, Nat.le_refl _, rfl, rfl, rfl, (by repeat' (first | exact hb2 | refine Below.drew ?_ | refine Below.alloc ?_ (by have := hb2.size; first | (simp; done) | (simp; omega) | omega) _ | refine Below.setCell ?_ (by first | (simp; done) | (simp; omega) | omega) _)), ⟨by go_simp, by go_simp, by go_simp⟩, ⟨by go_simp, by go_simp, by go_simp, by go_simp⟩, (by repeat' (first | with_reducible exact m1 | with_reducible refine CellsAt.setFar ?_ ?_ _ | with_reducible refine CellsAt.alloc ?_ _ | with_reducible refine CellsAt.drew ?_ | assumption | (simp; omega) | omega))⟩
      case round =>
        clear m1
        obtain ⟨k, G, l, a', c', hk, hl, hGl, rfl, rfl, rfl, hbw, ⟨N_0, N_1, N_2⟩, ⟨N_f0, N_f1, N_f2, N_l⟩, kk⟩ := hrel
        have hcw := hc0.later hbw
        by_cases hlt : k < xs.length
        · have hlt' : (k : Int) < (xs.length : Int) := by omega
          have hsk : xs[k]? = some xs[k] := List.getElem?_eq_getElem hlt
          generalize xs[k] = sb at hsk
          cases sb with
          | true =>
            by_cases hlm : l = m
            · have hlm := hlm.symm
              subst hlm
              have H_hsk := hid hsk
              clear hsk
              go_wp2_with fail
              refine (room_r m (run G m) false a' _ c' _ (run_len _ _).symm _ _ (H_e1.out G m hl)).mono ?_
              rintro e w11 ⟨rfl, hc11⟩
              have hb11 : Below w.heap.size w w11 := bchain (by repeat' (first | exact hbw | refine Below.drew ?_ | refine Below.alloc ?_ (by have := hbw.size; first | (simp; done) | (simp; omega) | omega) _ | refine Below.setCell ?_ (by first | (simp; done) | (simp; omega) | omega) _)) hc11
              have hst11 : Below wr.heap.size wr w11 := bchain (by repeat' (first | exact Below.refl _ _ | refine Below.drew ?_ | refine Below.alloc ?_ (by simp) _ | refine Below.alloc ?_ (by simp; omega) _ | refine Below.setCell ?_ (by first | (simp; done) | (simp; omega) | omega) _)) hc11
              replace N_0 := cell_later hst11 N_0
              replace N_1 := cell_later hst11 N_1
              replace N_2 := cell_later hst11 N_2
              replace N_f0 := frozen_later hst11 N_l N_f0
              replace N_f1 := frozen_later hst11 N_l N_f1
              replace N_f2 := frozen_later hst11 N_l N_f2
              replace N_l := Nat.lt_of_lt_of_le N_l hst11.size
              replace kk := kk.later hst11
              replace hcw := hcw.later hst11
              clear hst11
              clear hc11 hbw
              obtain ⟨ba, oa, ha, hA⟩ := hcw.bool (by omega)
              obtain ⟨f1, f2, f3⟩ := cell_atB hA k _ H_hsk.out
              clear hA
              subst ha
              go_wp2_with fail
              refine (send_r m (run G m) false a' _ c' _ _ (run_len _ _).symm (by repeat' (first | with_reducible exact kk | with_reducible refine CellsAt.setFar ?_ ?_ _ | with_reducible refine CellsAt.alloc ?_ _ | with_reducible refine CellsAt.drew ?_ | assumption | (simp; omega) | omega)) _ _ _ _ (H_e3.out _ _)).mono ?_
              rintro e w12 ⟨⟨a2, c2, rfl, k2⟩, hc12⟩
              have hb12 : Below w.heap.size w w12 := bchain (by repeat' (first | exact hb11 | refine Below.drew ?_ | refine Below.alloc ?_ (by have := hb11.size; first | (simp; done) | (simp; omega) | omega) _ | refine Below.setCell ?_ (by first | (simp; done) | (simp; omega) | omega) _)) hc12
              have hst12 : Below w11.heap.size w11 w12 := bchain (by repeat' (first | exact Below.refl _ _ | refine Below.drew ?_ | refine Below.alloc ?_ (by simp) _ | refine Below.alloc ?_ (by simp; omega) _ | refine Below.setCell ?_ (by first | (simp; done) | (simp; omega) | omega) _)) hc12
              replace N_0 := cell_later hst12 N_0
              replace N_1 := cell_later hst12 N_1
              replace N_2 := cell_later hst12 N_2
              replace N_f0 := frozen_later hst12 N_l N_f0
              replace N_f1 := frozen_later hst12 N_l N_f1
              replace N_f2 := frozen_later hst12 N_l N_f2
              replace N_l := Nat.lt_of_lt_of_le N_l hst12.size
              replace kk := kk.later hst12
              replace hcw := hcw.later hst12
              clear hst12
              clear hc12 hb11
              go_wp2_with fail
              go_roundw
              case rel => exact ⟨k + 1, G, m, a', c', by omega, by omega, by omega, rfl, rfl, by go_num, (by repeat' (first | exact hb12 | refine Below.drew ?_ | refine Below.alloc ?_ (by have := hb12.size; first | (simp; done) | (simp; omega) | omega) _ | refine Below.setCell ?_ (by first | (simp; done) | (simp; omega) | omega) _)), ⟨by go_simp, by go_simp, by go_simp⟩, ⟨by go_simp, by go_simp, by go_simp, by go_simp⟩, (by repeat' (first | with_reducible exact kk | with_reducible refine CellsAt.setFar ?_ ?_ _ | with_reducible refine CellsAt.alloc ?_ _ | with_reducible refine CellsAt.drew ?_ | assumption | (simp; omega) | omega))⟩
              case measure => simp [intOf]; omega
            · have hlm' : l < m := by omega
              have hlm2 : ¬ ((m : Int) - l = 0) := by omega
              have H_hsk := hid hsk
              clear hsk
              go_wp2_with fail
              refine (room_r m (run G l) false a' _ c' _ (run_len _ _).symm _ _ (H_e1.out G l hl)).mono ?_
              rintro e w11 ⟨rfl, hc11⟩
              have hb11 : Below w.heap.size w w11 := bchain (by repeat' (first | exact hbw | refine Below.drew ?_ | refine Below.alloc ?_ (by have := hbw.size; first | (simp; done) | (simp; omega) | omega) _ | refine Below.setCell ?_ (by first | (simp; done) | (simp; omega) | omega) _)) hc11
              have hst11 : Below wr.heap.size wr w11 := bchain (by repeat' (first | exact Below.refl _ _ | refine Below.drew ?_ | refine Below.alloc ?_ (by simp) _ | refine Below.alloc ?_ (by simp; omega) _ | refine Below.setCell ?_ (by first | (simp; done) | (simp; omega) | omega) _)) hc11
              replace N_0 := cell_later hst11 N_0
              replace N_1 := cell_later hst11 N_1
              replace N_2 := cell_later hst11 N_2
              replace N_f0 := frozen_later hst11 N_l N_f0
              replace N_f1 := frozen_later hst11 N_l N_f1
              replace N_f2 := frozen_later hst11 N_l N_f2
              replace N_l := Nat.lt_of_lt_of_le N_l hst11.size
              replace kk := kk.later hst11
              replace hcw := hcw.later hst11
              clear hst11
              clear hc11 hbw
              obtain ⟨ba, oa, ha, hA⟩ := hcw.bool (by omega)
              obtain ⟨f1, f2, f3⟩ := cell_atB hA k _ H_hsk.out
              clear hA
              subst ha
              have nl0 := N_l
              go_wp2_with fail
              refine (send_f m (run G l) false a' _ c' _ _ (run_len _ _).symm (by repeat' (first | with_reducible exact kk | with_reducible refine CellsAt.setFar ?_ ?_ _ | with_reducible refine CellsAt.alloc ?_ _ | with_reducible refine CellsAt.drew ?_ | assumption | (simp; omega) | omega)) _ _ _ _ (H_e2.out G l hlm')).mono ?_
              rintro e w12 ⟨⟨a2, c2, he, k2, fr2⟩, hc12⟩
              have hb12 : Below w.heap.size w w12 := bchain (by repeat' (first | exact hb11 | refine Below.drew ?_ | refine Below.alloc ?_ (by have := hb11.size; first | (simp; done) | (simp; omega) | omega) _ | refine Below.setCell ?_ (by first | (simp; done) | (simp; omega) | omega) _)) hc12
              have hst12 : Below w11.heap.size w11 w12 := bchain (by repeat' (first | exact Below.refl _ _ | refine Below.drew ?_ | refine Below.alloc ?_ (by simp) _ | refine Below.alloc ?_ (by simp; omega) _ | refine Below.setCell ?_ (by first | (simp; done) | (simp; omega) | omega) _)) hc12
              replace N_0 := cell_later hst12 N_0
              replace N_1 := cell_later hst12 N_1
              replace N_2 := cell_later hst12 N_2
              replace N_f0 := frozen_later hst12 N_l N_f0
              replace N_f1 := frozen_later hst12 N_l N_f1
              replace N_f2 := frozen_later hst12 N_l N_f2
              replace N_l := Nat.lt_of_lt_of_le N_l hst12.size
              replace kk := kk.later hst12
              replace hcw := hcw.later hst12
              clear hst12
              clear hc12 hb11
              rw [run_len] at he
              subst he
              go_wp2_with fail
              refine (rcheck_r m (run G (l + 1)) false a2 _ c2 _ (run_len _ _).symm _ (H_h8.out G (l + 1) hlm')).mono ?_
              rintro e w13 ⟨rfl, hc13⟩
              have hb13 : Below w.heap.size w w13 := bchain (by repeat' (first | exact hb12 | refine Below.drew ?_ | refine Below.alloc ?_ (by have := hb12.size; first | (simp; done) | (simp; omega) | omega) _ | refine Below.setCell ?_ (by first | (simp; done) | (simp; omega) | omega) _)) hc13
              have hst13 : Below w12.heap.size w12 w13 := bchain (by repeat' (first | exact Below.refl _ _ | refine Below.drew ?_ | refine Below.alloc ?_ (by simp) _ | refine Below.alloc ?_ (by simp; omega) _ | refine Below.setCell ?_ (by first | (simp; done) | (simp; omega) | omega) _)) hc13
              replace N_0 := cell_later hst13 N_0
              replace N_1 := cell_later hst13 N_1
              replace N_2 := cell_later hst13 N_2
              replace N_f0 := frozen_later hst13 N_l N_f0
              replace N_f1 := frozen_later hst13 N_l N_f1
              replace N_f2 := frozen_later hst13 N_l N_f2
              replace N_l := Nat.lt_of_lt_of_le N_l hst13.size
              have D_0 : w13.cell? ⟨w12.heap.size, 0, none⟩ = some (.int .i64 m) := (hc13.cell (p := ⟨w12.heap.size, 0, none⟩) (by first | (simp; done) | (simp; omega))).trans (by simp)
              have D_1 : w13.cell? ⟨w12.heap.size, 1, none⟩ = some (.slice a2 (l + 1) c2) := (hc13.cell (p := ⟨w12.heap.size, 1, none⟩) (by first | (simp; done) | (simp; omega))).trans (by simp)
              have D_2 : w13.cell? ⟨w12.heap.size, 2, none⟩ = some (.bool false) := (hc13.cell (p := ⟨w12.heap.size, 2, none⟩) (by first | (simp; done) | (simp; omega))).trans (by simp)
              have D_l : w12.heap.size < w13.heap.size := Nat.lt_of_lt_of_le (by first | (simp; done) | (simp; omega)) hc13.size
              replace kk := kk.later hst13
              replace hcw := hcw.later hst13
              replace k2 := k2.later hst13
              clear hst13
              clear hc13 hb12
              have hA2 : ∀ ad, a2 = some ad → w2.heap.size < ad.block := fun ad had => by have := fr2 ad had; omega
              clear fr2
              go_wp2_with fail
              go_roundw
              case rel => exact ⟨k + 1, G, l + 1, a2, c2, by omega, by omega, by omega, by go_num, by go_num, by go_num, (by repeat' (first | exact hb13 | refine Below.drew ?_ | refine Below.alloc ?_ (by have := hb13.size; first | (simp; done) | (simp; omega) | omega) _ | refine Below.setCell ?_ (by first | (simp; done) | (simp; omega) | omega) _)), ⟨by go_simp, by go_simp, by go_simp⟩, ⟨by go_simp, by go_simp, by go_simp, by go_simp⟩, (by repeat' (first | with_reducible exact k2 | with_reducible refine CellsAt.setFarG ?_ ?_ _ | with_reducible refine CellsAt.alloc ?_ _ | with_reducible refine CellsAt.drew ?_ | (intro ad had; have hx := hA2 ad had; simp; omega)))⟩
              case measure => simp [intOf]; omega
          | false =>
            cases l with
            | zero =>
              have H_hsk := hid hsk
              clear hsk
              go_wp2_with fail
              refine (room_r m (run G 0) false a' _ c' _ (run_len _ _).symm _ _ (H_e1.out G 0 hl)).mono ?_
              rintro e w11 ⟨rfl, hc11⟩
              have hb11 : Below w.heap.size w w11 := bchain (by repeat' (first | exact hbw | refine Below.drew ?_ | refine Below.alloc ?_ (by have := hbw.size; first | (simp; done) | (simp; omega) | omega) _ | refine Below.setCell ?_ (by first | (simp; done) | (simp; omega) | omega) _)) hc11
              have hst11 : Below wr.heap.size wr w11 := bchain (by repeat' (first | exact Below.refl _ _ | refine Below.drew ?_ | refine Below.alloc ?_ (by simp) _ | refine Below.alloc ?_ (by simp; omega) _ | refine Below.setCell ?_ (by first | (simp; done) | (simp; omega) | omega) _)) hc11
              replace N_0 := cell_later hst11 N_0
              replace N_1 := cell_later hst11 N_1
              replace N_2 := cell_later hst11 N_2
              replace N_f0 := frozen_later hst11 N_l N_f0
              replace N_f1 := frozen_later hst11 N_l N_f1
              replace N_f2 := frozen_later hst11 N_l N_f2
              replace N_l := Nat.lt_of_lt_of_le N_l hst11.size
              replace kk := kk.later hst11
              replace hcw := hcw.later hst11
              clear hst11
              clear hc11 hbw
              obtain ⟨ba, oa, ha, hA⟩ := hcw.bool (by omega)
              obtain ⟨f1, f2, f3⟩ := cell_atB hA k _ H_hsk.out
              clear hA
              subst ha
              go_wp2_with fail
              refine (recv_r m (run G 0) false a' _ c' _ (run_len _ _).symm (by repeat' (first | with_reducible exact kk | with_reducible refine CellsAt.setFar ?_ ?_ _ | with_reducible refine CellsAt.alloc ?_ _ | with_reducible refine CellsAt.drew ?_ | assumption | (simp; omega) | omega)) _ _ _ _ _ _ (H_e5.out _)).mono ?_
              rintro e w12 ⟨⟨a2, c2, rfl, k2⟩, hc12⟩
              have hb12 : Below w.heap.size w w12 := bchain (by repeat' (first | exact hb11 | refine Below.drew ?_ | refine Below.alloc ?_ (by have := hb11.size; first | (simp; done) | (simp; omega) | omega) _ | refine Below.setCell ?_ (by first | (simp; done) | (simp; omega) | omega) _)) hc12
              have hst12 : Below w11.heap.size w11 w12 := bchain (by repeat' (first | exact Below.refl _ _ | refine Below.drew ?_ | refine Below.alloc ?_ (by simp) _ | refine Below.alloc ?_ (by simp; omega) _ | refine Below.setCell ?_ (by first | (simp; done) | (simp; omega) | omega) _)) hc12
              replace N_0 := cell_later hst12 N_0
              replace N_1 := cell_later hst12 N_1
              replace N_2 := cell_later hst12 N_2
              replace N_f0 := frozen_later hst12 N_l N_f0
              replace N_f1 := frozen_later hst12 N_l N_f1
              replace N_f2 := frozen_later hst12 N_l N_f2
              replace N_l := Nat.lt_of_lt_of_le N_l hst12.size
              replace kk := kk.later hst12
              replace hcw := hcw.later hst12
              clear hst12
              clear hc12 hb11
              go_wp2_with fail
              go_roundw
              case rel => exact ⟨k + 1, G, 0, a', c', by omega, by omega, by omega, rfl, rfl, by go_num, (by repeat' (first | exact hb12 | refine Below.drew ?_ | refine Below.alloc ?_ (by have := hb12.size; first | (simp; done) | (simp; omega) | omega) _ | refine Below.setCell ?_ (by first | (simp; done) | (simp; omega) | omega) _)), ⟨by go_simp, by go_simp, by go_simp⟩, ⟨by go_simp, by go_simp, by go_simp, by go_simp⟩, (by repeat' (first | with_reducible exact kk | with_reducible refine CellsAt.setFar ?_ ?_ _ | with_reducible refine CellsAt.alloc ?_ _ | with_reducible refine CellsAt.drew ?_ | assumption | (simp; omega) | omega))⟩
              case measure => simp [intOf]; omega
            | succ l =>
              have H_hsk := hid hsk
              clear hsk
              go_wp2_with fail
              refine (room_r m (run G (l + 1)) false a' _ c' _ (run_len _ _).symm _ _ (H_e1.out G (l + 1) hl)).mono ?_
              rintro e w11 ⟨rfl, hc11⟩
              have hb11 : Below w.heap.size w w11 := bchain (by repeat' (first | exact hbw | refine Below.drew ?_ | refine Below.alloc ?_ (by have := hbw.size; first | (simp; done) | (simp; omega) | omega) _ | refine Below.setCell ?_ (by first | (simp; done) | (simp; omega) | omega) _)) hc11
              have hst11 : Below wr.heap.size wr w11 := bchain (by repeat' (first | exact Below.refl _ _ | refine Below.drew ?_ | refine Below.alloc ?_ (by simp) _ | refine Below.alloc ?_ (by simp; omega) _ | refine Below.setCell ?_ (by first | (simp; done) | (simp; omega) | omega) _)) hc11
              replace N_0 := cell_later hst11 N_0
              replace N_1 := cell_later hst11 N_1
              replace N_2 := cell_later hst11 N_2
              replace N_f0 := frozen_later hst11 N_l N_f0
              replace N_f1 := frozen_later hst11 N_l N_f1
              replace N_f2 := frozen_later hst11 N_l N_f2
              replace N_l := Nat.lt_of_lt_of_le N_l hst11.size
              replace kk := kk.later hst11
              replace hcw := hcw.later hst11
              clear hst11
              clear hc11 hbw
              obtain ⟨ba, oa, ha, hA⟩ := hcw.bool (by omega)
              obtain ⟨f1, f2, f3⟩ := cell_atB hA k _ H_hsk.out
              clear hA
              subst ha
              have nl0 := N_l
              have hne : ¬ ((G : Int) + ((l : Int) + 1) = G) := by omega
              go_wp2_with fail
              refine (recv_f m (run G (l + 1)) false a' _ c' _ (run_len _ _).symm (by repeat' (first | with_reducible exact kk | with_reducible refine CellsAt.setFar ?_ ?_ _ | with_reducible refine CellsAt.alloc ?_ _ | with_reducible refine CellsAt.drew ?_ | assumption | (simp; omega) | omega)) _ _ _ _ _ _ (H_e4.out G l hl)).mono ?_
              rintro e w12 ⟨⟨a2, c2, he, k2, fr2⟩, hc12⟩
              have hb12 : Below w.heap.size w w12 := bchain (by repeat' (first | exact hb11 | refine Below.drew ?_ | refine Below.alloc ?_ (by have := hb11.size; first | (simp; done) | (simp; omega) | omega) _ | refine Below.setCell ?_ (by first | (simp; done) | (simp; omega) | omega) _)) hc12
              have hst12 : Below w11.heap.size w11 w12 := bchain (by repeat' (first | exact Below.refl _ _ | refine Below.drew ?_ | refine Below.alloc ?_ (by simp) _ | refine Below.alloc ?_ (by simp; omega) _ | refine Below.setCell ?_ (by first | (simp; done) | (simp; omega) | omega) _)) hc12
              replace N_0 := cell_later hst12 N_0
              replace N_1 := cell_later hst12 N_1
              replace N_2 := cell_later hst12 N_2
              replace N_f0 := frozen_later hst12 N_l N_f0
              replace N_f1 := frozen_later hst12 N_l N_f1
              replace N_f2 := frozen_later hst12 N_l N_f2
              replace N_l := Nat.lt_of_lt_of_le N_l hst12.size
              replace kk := kk.later hst12
              replace hcw := hcw.later hst12
              clear hst12
              clear hc12 hb11
              rw [run_len] at he
              subst he
              go_wp2_with fail
              refine (rcheck_r m (run (G + 1) l) false a2 _ c2 _ (run_len _ _).symm _ (H_h8.out (G + 1) l (by omega))).mono ?_
              rintro e w13 ⟨rfl, hc13⟩
              have hb13 : Below w.heap.size w w13 := bchain (by repeat' (first | exact hb12 | refine Below.drew ?_ | refine Below.alloc ?_ (by have := hb12.size; first | (simp; done) | (simp; omega) | omega) _ | refine Below.setCell ?_ (by first | (simp; done) | (simp; omega) | omega) _)) hc13
              have hst13 : Below w12.heap.size w12 w13 := bchain (by repeat' (first | exact Below.refl _ _ | refine Below.drew ?_ | refine Below.alloc ?_ (by simp) _ | refine Below.alloc ?_ (by simp; omega) _ | refine Below.setCell ?_ (by first | (simp; done) | (simp; omega) | omega) _)) hc13
              replace N_0 := cell_later hst13 N_0
              replace N_1 := cell_later hst13 N_1
              replace N_2 := cell_later hst13 N_2
              replace N_f0 := frozen_later hst13 N_l N_f0
              replace N_f1 := frozen_later hst13 N_l N_f1
              replace N_f2 := frozen_later hst13 N_l N_f2
              replace N_l := Nat.lt_of_lt_of_le N_l hst13.size
              have D_0 : w13.cell? ⟨w12.heap.size, 0, none⟩ = some (.int .i64 m) := (hc13.cell (p := ⟨w12.heap.size, 0, none⟩) (by first | (simp; done) | (simp; omega))).trans (by simp)
              have D_1 : w13.cell? ⟨w12.heap.size, 1, none⟩ = some (.slice a2 l c2) := (hc13.cell (p := ⟨w12.heap.size, 1, none⟩) (by first | (simp; done) | (simp; omega))).trans (by simp)
              have D_2 : w13.cell? ⟨w12.heap.size, 2, none⟩ = some (.bool false) := (hc13.cell (p := ⟨w12.heap.size, 2, none⟩) (by first | (simp; done) | (simp; omega))).trans (by simp)
              have D_l : w12.heap.size < w13.heap.size := Nat.lt_of_lt_of_le (by first | (simp; done) | (simp; omega)) hc13.size
              replace kk := kk.later hst13
              replace hcw := hcw.later hst13
              replace k2 := k2.later hst13
              clear hst13
              clear hc13 hb12
              have hA2 : ∀ ad, a2 = some ad → w2.heap.size < ad.block := fun ad had => by have := fr2 ad had; omega
              clear fr2
              go_wp2_with fail
              go_roundw
              case rel => exact ⟨k + 1, G + 1, l, a2, c2, by omega, by omega, by omega, by go_num, by go_num, by go_num, (by repeat' (first | exact hb13 | refine Below.drew ?_ | refine Below.alloc ?_ (by have := hb13.size; first | (simp; done) | (simp; omega) | omega) _ | refine Below.setCell ?_ (by first | (simp; done) | (simp; omega) | omega) _)), ⟨by go_simp, by go_simp, by go_simp⟩, ⟨by go_simp, by go_simp, by go_simp, by go_simp⟩, (by repeat' (first | with_reducible exact k2 | with_reducible refine CellsAt.setFarG ?_ ?_ _ | with_reducible refine CellsAt.alloc ?_ _ | with_reducible refine CellsAt.drew ?_ | (intro ad had; have hx := hA2 ad had; simp; omega)))⟩
              case measure => simp [intOf]; omega
        · have hlt' : ¬ (k : Int) < (xs.length : Int) := by omega
          go_wp2_with fail
          go_ret
          exact ⟨rfl, by repeat' (first | exact hbw | refine Below.drew ?_ | refine Below.alloc ?_ (by have := hbw.size; first | (simp; done) | (simp; omega) | omega) _ | refine Below.setCell ?_ (by first | (simp; done) | (simp; omega) | omega) _)⟩
  · have e0 : chNew n = (⟨0, [], false⟩, 2) := by unfold chNew; rw [if_pos (by omega)]; rfl
    by_cases hn1 : n < 1
    · have H_e0 := hid e0
      have H_hl5 := hid hl5
      have H_hn := hid hn
      clear e0 hl5 hn
      go_enter Try.func5, Try.ntmps5
      have hb0 := Below.refl w.heap.size w
      go_wp2_with fail
      refine (alive_any _).mono ?_
      rintro e w1 ⟨rfl, hc1⟩
      have hb1 : Below w.heap.size w w1 := bchain (by repeat' (first | exact hb0 | refine Below.drew ?_ | refine Below.alloc ?_ (by have := hb0.size; first | (simp; done) | (simp; omega) | omega) _ | refine Below.setCell ?_ (by first | (simp; done) | (simp; omega) | omega) _)) hc1
      clear hc1 hb0
      go_wp2_with fail
      refine (new_r n _ _ _ _ _ H_e0.out).mono ?_
      rintro e w2 ⟨⟨b1, d1, rfl, m1⟩, hc2⟩
      have hb2 : Below w.heap.size w w2 := bchain (by repeat' (first | exact hb1 | refine Below.drew ?_ | refine Below.alloc ?_ (by have := hb1.size; first | (simp; done) | (simp; omega) | omega) _ | refine Below.setCell ?_ (by first | (simp; done) | (simp; omega) | omega) _)) hc2
      clear hc2 hb1
      go_wp2_with fail
      go_ret
      refine ⟨?_, (by repeat' (first | exact hb2 | refine Below.drew ?_ | refine Below.alloc ?_ (by have := hb2.size; first | (simp; done) | (simp; omega) | omega) _ | refine Below.setCell ?_ (by first | (simp; done) | (simp; omega) | omega) _))⟩
      first | rfl | (simp [*]; done)
    · have hn2 : 60 < n := by omega
      have H_e0 := hid e0
      have H_hl5 := hid hl5
      have H_hn := hid hn
      clear e0 hl5 hn
      go_enter Try.func5, Try.ntmps5
      have hb0 := Below.refl w.heap.size w
      go_wp2_with fail
      refine (alive_any _).mono ?_
      rintro e w1 ⟨rfl, hc1⟩
      have hb1 : Below w.heap.size w w1 := bchain (by repeat' (first | exact hb0 | refine Below.drew ?_ | refine Below.alloc ?_ (by have := hb0.size; first | (simp; done) | (simp; omega) | omega) _ | refine Below.setCell ?_ (by first | (simp; done) | (simp; omega) | omega) _)) hc1
      clear hc1 hb0
      go_wp2_with fail
      refine (new_r n _ _ _ _ _ H_e0.out).mono ?_
      rintro e w2 ⟨⟨b1, d1, rfl, m1⟩, hc2⟩
      have hb2 : Below w.heap.size w w2 := bchain (by repeat' (first | exact hb1 | refine Below.drew ?_ | refine Below.alloc ?_ (by have := hb1.size; first | (simp; done) | (simp; omega) | omega) _ | refine Below.setCell ?_ (by first | (simp; done) | (simp; omega) | omega) _)) hc2
      clear hc2 hb1
      go_wp2_with fail
      go_ret
      refine ⟨?_, (by repeat' (first | exact hb2 | refine Below.drew ?_ | refine Below.alloc ?_ (by have := hb2.size; first | (simp; done) | (simp; omega) | omega) _ | refine Below.setCell ?_ (by first | (simp; done) | (simp; omega) | omega) _))⟩
      first | rfl | (simp [*]; done)

end Go.Proofs.Yteajfhodfpjplaa
