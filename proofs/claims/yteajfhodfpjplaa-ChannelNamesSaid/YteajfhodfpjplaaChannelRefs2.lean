/- The reference's Receive, and its comparisons. -/
import Derived.Test.YteajfhodfpjplaaChannelRefs
namespace Go.Proofs.Yteajfhodfpjplaa
set_option linter.unusedSimpArgs false
set_option linter.unusedVariables false
set_option linter.unnecessarySimpa false
open Go.RowKit

set_option maxHeartbeats 600000 in
theorem rrecv_any (C : Int) (xs : List Int) (cl : Bool) (a : Option Addr) (cp : Nat) (w : World) (hc : CellsAt w a (xs.map (Value.int .u64))) :
    Calls Try.prog 14 #[.agg #[.int .i64 C, .slice a xs.length cp, .bool cl]] w fun e w' =>
      ChRet4 w.heap.size w' e (chRecv ⟨C, xs, cl⟩) ∧ Below w.heap.size w w' := by
  rcases chErr_cases ⟨C, xs, cl⟩ with h8 | h8
  · obtain ⟨b1, b2, b3⟩ := chErr_ok h8
    simp only at b1 b2 b3
    cases xs with
    | nil =>
      cases cl with
      | true =>
        have he : ((⟨C, [], true⟩ : ChS), (0 : Int), false, (0 : Int)) = chRecv ⟨C, [], true⟩ := by simp [chRecv, h8]
        have H_he := hid he
        have H_h8 := hid h8
        clear he h8
        go_enter Try.func14, Try.ntmps14
        have hb0 := Below.refl w.heap.size w
        go_wp2_with fail
        refine (rcheck_any C [] true a cp _).mono ?_
        rintro e w1 ⟨rfl, hc1⟩
        have hb1 : Below w.heap.size w w1 := bchain (by repeat' (first | exact hb0 | refine Below.drew ?_ | refine Below.alloc ?_ (by have := hb0.size; first | (simp; done) | (simp; omega) | omega) _ | refine Below.setCell ?_ (by first | (simp; done) | (simp; omega) | omega) _)) hc1
        obtain ⟨hcell1, hfroz1⟩ := bcell hc1
        have hz1 := hc1.size
        try simp only [World.size_drew, World.size_alloc, World.size_setCell] at hz1
        have hq_0 : w.heap.size < w.heap.size + 1 + 1 := by omega
        have hq_1 : w.heap.size + 1 < w.heap.size + 1 + 1 := by omega
        have hl1_0 : w.heap.size < w1.heap.size := by omega
        have hl1_1 : w.heap.size + 1 < w1.heap.size := by omega
        rw [H_h8.out]
        go_wp2_with fail
        refine (rtwin_any C [] true a cp _ (hc.later hb1) (by simp)).mono ?_
        rintro e w2 ⟨a', c', rfl, hown, hc2⟩
        have hb2 : Below w.heap.size w w2 := bchain (by repeat' (first | exact hb1 | refine Below.drew ?_ | refine Below.alloc ?_ (by have := hb1.size; first | (simp; done) | (simp; omega) | omega) _ | refine Below.setCell ?_ (by first | (simp; done) | (simp; omega) | omega) _)) hc2
        obtain ⟨hcell2, hfroz2⟩ := bcell hc2
        have hz2 := hc2.size
        have hl2_0 : w.heap.size < w2.heap.size := by omega
        have hl2_1 : w.heap.size + 1 < w2.heap.size := by omega
        go_wp2_with fail
        exact bodyPost_ret (v := .tuple #[.agg #[.int .i64 C, .slice a' 0 c', .bool true], .int .u64 0, .bool false, .int .i64 0]) (by simp [results, Try.results14, go_sem, *]) rfl ⟨ChRet4.of ⟨a', c', rfl, .inl rfl, fun ad had => by have h1 := (hown.addr ad had).1; have h2 := hb1.size; omega⟩ H_he.out, (by repeat' (first | exact hb2 | refine Below.drew ?_ | refine Below.alloc ?_ (by have := hb2.size; first | (simp; done) | (simp; omega) | omega) _ | refine Below.setCell ?_ (by first | (simp; done) | (simp; omega) | omega) _))⟩
      | false =>
        have he : (ChS.zero, (0 : Int), false, (38 : Int)) = chRecv ⟨C, [], false⟩ := by simp [chRecv, h8]
        have H_he := hid he
        have H_h8 := hid h8
        clear he h8
        go_enter Try.func14, Try.ntmps14
        have hb0 := Below.refl w.heap.size w
        go_wp2_with fail
        refine (rcheck_any C [] false a cp _).mono ?_
        rintro e w1 ⟨rfl, hc1⟩
        have hb1 : Below w.heap.size w w1 := bchain (by repeat' (first | exact hb0 | refine Below.drew ?_ | refine Below.alloc ?_ (by have := hb0.size; first | (simp; done) | (simp; omega) | omega) _ | refine Below.setCell ?_ (by first | (simp; done) | (simp; omega) | omega) _)) hc1
        obtain ⟨hcell1, hfroz1⟩ := bcell hc1
        have hz1 := hc1.size
        try simp only [World.size_drew, World.size_alloc, World.size_setCell] at hz1
        have hq_0 : w.heap.size < w.heap.size + 1 + 1 := by omega
        have hq_1 : w.heap.size + 1 < w.heap.size + 1 + 1 := by omega
        have hl1_0 : w.heap.size < w1.heap.size := by omega
        have hl1_1 : w.heap.size + 1 < w1.heap.size := by omega
        rw [H_h8.out]
        go_wp2_with fail
        refine (rtwin_any C [] false a cp _ (hc.later hb1) (by simp)).mono ?_
        rintro e w2 ⟨a', c', rfl, hown, hc2⟩
        have hb2 : Below w.heap.size w w2 := bchain (by repeat' (first | exact hb1 | refine Below.drew ?_ | refine Below.alloc ?_ (by have := hb1.size; first | (simp; done) | (simp; omega) | omega) _ | refine Below.setCell ?_ (by first | (simp; done) | (simp; omega) | omega) _)) hc2
        obtain ⟨hcell2, hfroz2⟩ := bcell hc2
        have hz2 := hc2.size
        have hl2_0 : w.heap.size < w2.heap.size := by omega
        have hl2_1 : w.heap.size + 1 < w2.heap.size := by omega
        go_wp2_with fail
        exact bodyPost_ret (v := .tuple #[.agg #[.int .i64 0, .slice none 0 0, .bool false], .int .u64 0, .bool false, .int .i64 38]) (by simp [results, Try.results14, go_sem, *]) rfl ⟨(ChRet4.zero _ _ 38).of H_he.out, (by repeat' (first | exact hb2 | refine Below.drew ?_ | refine Below.alloc ?_ (by have := hb2.size; first | (simp; done) | (simp; omega) | omega) _ | refine Below.setCell ?_ (by first | (simp; done) | (simp; omega) | omega) _))⟩
    | cons x r =>
      have he : ((⟨C, r, cl⟩ : ChS), x, true, (0 : Int)) = chRecv ⟨C, x :: r, cl⟩ := by simp [chRecv, h8]
      have H_he := hid he
      have H_h8 := hid h8
      clear he h8
      have hfull := hc.int (by simp)
      obtain ⟨ba, oa, rfl, hrowa⟩ := hfull
      have hxa : w.cell? ⟨ba, oa, none⟩ = some (.int .u64 x) := by simpa using hrowa 0 (by simp)
      have hla := World.block_lt_of_cell? _ _ hxa
      simp only at hla
      clear hrowa
      go_enter Try.func14, Try.ntmps14
      have hb0 := Below.refl w.heap.size w
      go_wp2_with fail
      refine (rcheck_any C (x :: r) cl (some ⟨ba, oa, none⟩) cp _).mono ?_
      rintro e w1 ⟨rfl, hc1⟩
      have hb1 : Below w.heap.size w w1 := bchain (by repeat' (first | exact hb0 | refine Below.drew ?_ | refine Below.alloc ?_ (by have := hb0.size; first | (simp; done) | (simp; omega) | omega) _ | refine Below.setCell ?_ (by first | (simp; done) | (simp; omega) | omega) _)) hc1
      obtain ⟨hcell1, hfroz1⟩ := bcell hc1
      have hz1 := hc1.size
      try simp only [World.size_drew, World.size_alloc, World.size_setCell] at hz1
      have hq_0 : w.heap.size < w.heap.size + 1 + 1 := by omega
      have hq_1 : w.heap.size + 1 < w.heap.size + 1 + 1 := by omega
      have hl1_0 : w.heap.size < w1.heap.size := by omega
      have hl1_1 : w.heap.size + 1 < w1.heap.size := by omega
      rw [H_h8.out]
      go_wp2_with fail
      refine (rtwin_any C (x :: r) cl (some ⟨ba, oa, none⟩) cp _ (hc.later hb1) (by omega)).mono ?_
      rintro e w2 ⟨a', c', rfl, hown, hc2⟩
      have hb2 : Below w.heap.size w w2 := bchain (by repeat' (first | exact hb1 | refine Below.drew ?_ | refine Below.alloc ?_ (by have := hb1.size; first | (simp; done) | (simp; omega) | omega) _ | refine Below.setCell ?_ (by first | (simp; done) | (simp; omega) | omega) _)) hc2
      obtain ⟨hcell2, hfroz2⟩ := bcell hc2
      have hz2 := hc2.size
      have hl2_0 : w.heap.size < w2.heap.size := by omega
      have hl2_1 : w.heap.size + 1 < w2.heap.size := by omega
      obtain ⟨b, o, rfl, hrow⟩ := hown.cellsAt.int (by simp)
      have hxa2 : w2.cell? ⟨ba, oa, none⟩ = some (.int .u64 x) := cell_later hb2 hxa
      have hla2 : ba < w2.heap.size := by omega
      have hlane : ba ≠ w2.heap.size := by omega
      have hlane2 : ba ≠ w.heap.size + 1 := by omega
      have hx : w2.cell? ⟨b, o, none⟩ = some (.int .u64 x) := by simpa using hrow 0 (by simp)
      have hbl := World.block_lt_of_cell? _ _ hx
      simp only at hbl
      have hbne : b ≠ w2.heap.size := by omega
      have hcc : (1 : Int) ≤ (c' : Int) := by
        obtain ⟨_, _, hv, h, _⟩ := hown.cells
        cases hv
        simp at h
        omega
      have hp1 : w2.cell? ⟨w.heap.size, 1, none⟩ = some (.slice (some ⟨ba, oa, none⟩) (r.length + 1) cp) := by
        rw [hcell2 _ _ hl1_0, hcell1 _ _ (by simp; omega)]; simp
      have hne2 : b ≠ w.heap.size + 1 := by have := hown.lt b rfl; omega
      by_cases hc1' : c' = 1
      · obtain rfl : r = [] := by
          obtain ⟨_, _, hv, h, _⟩ := hown.cells
          cases hv
          simp at h
          exact List.eq_nil_of_length_eq_zero (by omega)
        go_wp2_with fail
        go_region
        go_wp2_with fail
        exact bodyPost_ret (v := .tuple #[.agg #[.int .i64 C, .slice (some ⟨b, o, none⟩) 0 (c' - 1), .bool cl], .int .u64 x, .bool true, .int .i64 0]) (by simp [results, Try.results14, go_sem, *]) rfl ⟨ChRet4.of ⟨_, _, rfl, .inl rfl, fun ad had => by cases had; have h1 := (hown.lt b rfl).1; have h2 := hb1.size; show w.heap.size ≤ b; omega⟩ H_he.out, (by repeat' (first | exact hb2 | refine Below.drew ?_ | refine Below.alloc ?_ (by have := hb2.size; first | (simp; done) | (simp; omega) | omega) _ | refine Below.setCell ?_ (by first | (simp; done) | (simp; omega) | omega) _))⟩
      · go_wp2_with fail
        go_region
        go_wp2_with fail
        refine bodyPost_ret (v := .tuple #[.agg #[.int .i64 C, .slice (some ⟨b, o + 1, none⟩) r.length (c' - 1), .bool cl], .int .u64 x, .bool true, .int .i64 0]) (by simp [results, Try.results14, go_sem, *]) rfl ⟨ChRet4.of ⟨_, _, rfl, ?_, fun ad had => by cases had; have h1 := (hown.lt b rfl).1; have h2 := hb1.size; show w.heap.size ≤ b; omega⟩ H_he.out, (by repeat' (first | exact hb2 | refine Below.drew ?_ | refine Below.alloc ?_ (by have := hb2.size; first | (simp; done) | (simp; omega) | omega) _ | refine Below.setCell ?_ (by first | (simp; done) | (simp; omega) | omega) _))⟩
        have hct := hown.cellsAt.tail
        exact (by repeat' (first | with_reducible exact hct | with_reducible refine CellsAt.setFar ?_ ?_ _ | with_reducible refine CellsAt.alloc ?_ _ | with_reducible refine CellsAt.drew ?_ | assumption | (simp; omega) | omega))
  · have he : (ChS.zero, (0 : Int), false, (8 : Int)) = chRecv ⟨C, xs, cl⟩ := by simp [chRecv, h8]
    have H_he := hid he
    have H_h8 := hid h8
    clear he h8
    go_enter Try.func14, Try.ntmps14
    have hb0 := Below.refl w.heap.size w
    go_wp2_with fail
    refine (rcheck_any C xs cl a cp _).mono ?_
    rintro e w1 ⟨rfl, hc1⟩
    have hb1 : Below w.heap.size w w1 := bchain (by repeat' (first | exact hb0 | refine Below.drew ?_ | refine Below.alloc ?_ (by have := hb0.size; first | (simp; done) | (simp; omega) | omega) _ | refine Below.setCell ?_ (by first | (simp; done) | (simp; omega) | omega) _)) hc1
    obtain ⟨hcell1, hfroz1⟩ := bcell hc1
    have hz1 := hc1.size
    try simp only [World.size_drew, World.size_alloc, World.size_setCell] at hz1
    have hq_0 : w.heap.size < w.heap.size + 1 + 1 := by omega
    have hq_1 : w.heap.size + 1 < w.heap.size + 1 + 1 := by omega
    have hl1_0 : w.heap.size < w1.heap.size := by omega
    have hl1_1 : w.heap.size + 1 < w1.heap.size := by omega
    rw [H_h8.out]
    go_wp2_with fail
    refine (rcheck_any C xs cl a cp _).mono ?_
    rintro e w2 ⟨rfl, hc2⟩
    have hb2 : Below w.heap.size w w2 := bchain (by repeat' (first | exact hb1 | refine Below.drew ?_ | refine Below.alloc ?_ (by have := hb1.size; first | (simp; done) | (simp; omega) | omega) _ | refine Below.setCell ?_ (by first | (simp; done) | (simp; omega) | omega) _)) hc2
    obtain ⟨hcell2, hfroz2⟩ := bcell hc2
    have hz2 := hc2.size
    have hl2_0 : w.heap.size < w2.heap.size := by omega
    have hl2_1 : w.heap.size + 1 < w2.heap.size := by omega
    rw [H_h8.out]
    go_wp2_with fail
    exact bodyPost_ret (v := .tuple #[.agg #[.int .i64 0, .slice none 0 0, .bool false], .int .u64 0, .bool false, .int .i64 8]) (by simp [results, Try.results14, go_sem, *]) rfl ⟨(ChRet4.zero _ _ 8).of H_he.out, (by repeat' (first | exact hb2 | refine Below.drew ?_ | refine Below.alloc ?_ (by have := hb2.size; first | (simp; done) | (simp; omega) | omega) _ | refine Below.setCell ?_ (by first | (simp; done) | (simp; omega) | omega) _))⟩

theorem take_eq_succ {xs ys : List Int} {k : Nat} (hk : k < xs.length) (hl : xs.length = ys.length) (h : xs.take k = ys.take k) (he : xs[k]?.getD 0 = ys[k]?.getD 0) : xs.take (k + 1) = ys.take (k + 1) := by
  have hk2 : k < ys.length := by omega
  rw [List.take_succ_eq_append_getElem hk, List.take_succ_eq_append_getElem hk2, h]
  simp only [List.getElem?_eq_getElem hk, List.getElem?_eq_getElem hk2, Option.getD_some] at he
  rw [he]
theorem take_ne {xs ys : List Int} {k : Nat} (hk : k < xs.length) (hl : xs.length = ys.length) (he : ¬ xs[k]?.getD 0 = ys[k]?.getD 0) : xs ≠ ys := by
  intro h; subst h; exact he rfl

set_option maxHeartbeats 600000 in
theorem sameItems_any (xs ys : List Int) (a b : Option Addr) (c d : Nat) (w : World) (hx : CellsAt w a (xs.map (Value.int .u64))) (hy : CellsAt w b (ys.map (Value.int .u64))) (hxl : xs.length ≤ maxLen) :
    Calls Try.prog 24 #[.slice a xs.length c, .slice b ys.length d] w fun e w' =>
      e = .returned (.bool (decide (xs = ys))) ∧ Below w.heap.size w w' := by
  by_cases hlen : xs.length = ys.length
  · unfold maxLen at hxl
    have Hlen := hid hlen
    have hlen2 : ((xs.length : Int) != (ys.length : Int)) = false := by rw [bne_eq_false_iff_eq]; omega
    have hle1 : xs.length ≤ ys.length := by omega
    have hle2 : ys.length ≤ xs.length := by omega
    clear hlen
    go_enter Try.func24, Try.ntmps24
    have hb0 := Below.refl w.heap.size w
    go_wp2_with fail
    go_loopw [5] (fun i wr => ∃ k : Nat, k ≤ xs.length ∧ i = .int .i64 k ∧ Below w.heap.size w wr ∧ xs.take k = ys.take k) (fun i _ => xs.length - (intOf i).toNat)
    case atStart => exact ⟨0, Nat.zero_le _, rfl, hb0, rfl⟩
    case round =>
      obtain ⟨k, hk, rfl, hbw, htk⟩ := hrel
      have Htk := hid htk
      clear htk
      by_cases hlt : k < xs.length
      · obtain ⟨b1, o1, rfl, hr1⟩ := hx.int (by omega)
        obtain ⟨b2, o2, rfl, hr2⟩ := hy.int (by omega)
        have hc1 := (hbw.cell (p := ⟨b1, o1 + k, none⟩) (World.block_lt_of_cell? _ _ (hr1 k hlt))).trans (hr1 k hlt)
        have hc2 := (hbw.cell (p := ⟨b2, o2 + k, none⟩) (World.block_lt_of_cell? _ _ (hr2 k (by omega)))).trans (hr2 k (by omega))
        clear hr1 hr2
        have hlt2 : k < ys.length := by omega
        have hi1 : (k : Int) < (xs.length : Int) := by omega
        have hi2 : (k : Int) < (ys.length : Int) := by omega
        go_wp2_with fail
        go_quiet (fail)
        by_cases he : xs[k] = ys[k]
        · have he1 : (xs[k] != ys[k]) = false := by rw [bne_eq_false_iff_eq]; exact he
          have He := hid he
          clear he
          go_wp2_with fail
          go_roundw
          case rel => exact ⟨k + 1, by omega, by go_num, below_drewN hbw _, take_eq_succ hlt Hlen.out Htk.out (by simp [hlt, hlt2]; exact He.out)⟩
          case measure => simp [intOf]; omega
        · have he1 : (xs[k] != ys[k]) = true := by rw [bne_iff_ne]; exact he
          have hne : decide (xs = ys) = false := by
            rw [decide_eq_false_iff_not]
            exact take_ne hlt Hlen.out (by simp [hlt, hlt2]; exact he)
          have H_hne := hid hne
          clear hne
          clear he
          go_wp2_with fail
          go_ret
          exact ⟨ret_bool H_hne.out.symm, below_drewN hbw _⟩
      · obtain rfl : k = xs.length := by omega
        have heq : decide (xs = ys) = true := by
          have := Htk.out
          rw [List.take_length, Hlen.out, List.take_length] at this
          simpa using this
        have H_heq := hid heq
        clear heq
        go_wp2_with fail
        go_ret
        exact ⟨ret_bool H_heq.out.symm, hbw⟩
  · have hlen2 : ((xs.length : Int) != (ys.length : Int)) = true := by rw [bne_iff_ne]; omega
    have hne : decide (xs = ys) = false := by
      rw [decide_eq_false_iff_not]; intro h; subst h; exact hlen rfl
    have H_hne := hid hne
    have H_hlen := hid hlen
    clear hne hlen
    go_enter Try.func24, Try.ntmps24
    have hb0 := Below.refl w.heap.size w
    go_wp2_with fail
    go_ret
    exact ⟨ret_bool H_hne.out.symm, hb0⟩

def sameB (a b : ChS) : Bool := a.cap == b.cap && (a.closed == b.closed && decide (a.items = b.items))
theorem sameB_self (a : ChS) : sameB a a = true := by simp [sameB]

set_option maxHeartbeats 600000 in
theorem same_any (C D : Int) (xs ys : List Int) (cl dl : Bool) (a b : Option Addr) (c d : Nat) (w : World) (hx : CellsAt w a (xs.map (Value.int .u64))) (hy : CellsAt w b (ys.map (Value.int .u64))) (hxl : xs.length ≤ maxLen) :
    Calls Try.prog 15 #[.agg #[.int .i64 C, .slice a xs.length c, .bool cl], .agg #[.int .i64 D, .slice b ys.length d, .bool dl]] w fun e w' =>
      e = .returned (.bool (sameB ⟨C, xs, cl⟩ ⟨D, ys, dl⟩)) ∧ Below w.heap.size w w' := by
  by_cases h1 : C = D
  · by_cases h2 : cl = dl
    · subst h1 h2
      have he : sameB ⟨C, xs, cl⟩ ⟨C, ys, cl⟩ = decide (xs = ys) := by simp [sameB]
      rw [he]
      clear he
      go_enter Try.func15, Try.ntmps15
      have hb0 := Below.refl w.heap.size w
      go_wp2_with fail
      refine (sameItems_any xs ys a b c d _ ((hx.alloc _).alloc _) ((hy.alloc _).alloc _) hxl).mono ?_
      rintro e w1 ⟨rfl, hc1⟩
      have hb1 : Below w.heap.size w w1 := bchain (by repeat' (first | exact hb0 | refine Below.drew ?_ | refine Below.alloc ?_ (by have := hb0.size; first | (simp; done) | (simp; omega) | omega) _ | refine Below.setCell ?_ (by first | (simp; done) | (simp; omega) | omega) _)) hc1
      clear hc1 hb0
      go_wp2_with fail
      go_ret
      exact ⟨rfl, by repeat' (first | exact hb1 | refine Below.drew ?_ | refine Below.alloc ?_ (by have := hb1.size; first | (simp; done) | (simp; omega) | omega) _ | refine Below.setCell ?_ (by first | (simp; done) | (simp; omega) | omega) _)⟩
    · have he : sameB ⟨C, xs, cl⟩ ⟨D, ys, dl⟩ = false := by simp [sameB, h2]
      subst h1
      have h3 : (cl == dl) = false := by simpa using h2
      have H_he := hid he
      clear he
      clear h2
      go_enter Try.func15, Try.ntmps15
      have hb0 := Below.refl w.heap.size w
      go_wp2_with fail
      go_ret
      exact ⟨ret_bool H_he.out.symm, (by repeat' (first | exact hb0 | refine Below.drew ?_ | refine Below.alloc ?_ (by have := hb0.size; first | (simp; done) | (simp; omega) | omega) _ | refine Below.setCell ?_ (by first | (simp; done) | (simp; omega) | omega) _))⟩
  · have he : sameB ⟨C, xs, cl⟩ ⟨D, ys, dl⟩ = false := by simp [sameB, h1]
    have h3 : (C == D) = false := by simpa using h1
    have H_he := hid he
    clear he
    clear h1
    go_enter Try.func15, Try.ntmps15
    have hb0 := Below.refl w.heap.size w
    go_wp2_with fail
    go_ret
    exact ⟨ret_bool H_he.out.symm, (by repeat' (first | exact hb0 | refine Below.drew ?_ | refine Below.alloc ?_ (by have := hb0.size; first | (simp; done) | (simp; omega) | omega) _ | refine Below.setCell ?_ (by first | (simp; done) | (simp; omega) | omega) _))⟩

end Go.Proofs.Yteajfhodfpjplaa
