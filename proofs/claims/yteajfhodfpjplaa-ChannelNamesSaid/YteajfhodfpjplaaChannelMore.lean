/- What Send, Receive, Close, Room and New return. -/
import Derived.Test.YteajfhodfpjplaaChannelWalks
namespace Go.Proofs.Yteajfhodfpjplaa
set_option linter.unusedSimpArgs false
set_option linter.unusedVariables false
set_option linter.unnecessarySimpa false
open Go.RowKit

theorem new_any (n : Int) (w : World) :
    Calls Try.prog 9 #[.int .i64 n] w fun e w' =>
      ChRet w.heap.size w' e (chNew n) ∧ Below w.heap.size w w' := by
  by_cases h1 : n < 1
  · have he : (ChS.zero, (2 : Int)) = chNew n := by simp [chNew, h1]
    have H_he := hid he
    clear he
    go_enter Try.func9, Try.ntmps9
    have hb0 := Below.refl w.heap.size w
    go_wp2_with fail
    exact bodyPost_ret (v := .tuple #[.agg #[.int .i64 0, .slice none 0 0, .bool false], .int .i64 2]) (by simp [results, Try.results9, go_sem, *]) rfl ⟨(ChRet.zero _ _ 2).of H_he.out, (by repeat' (first | exact hb0 | refine Below.drew ?_ | refine Below.alloc ?_ (by have := hb0.size; first | (simp; done) | (simp; omega) | omega) _ | refine Below.setCell ?_ (by first | (simp; done) | (simp; omega) | omega) _))⟩
  · by_cases h2 : 60 < n
    · have he : (ChS.zero, (2 : Int)) = chNew n := by simp [chNew, h2]
      have H_he := hid he
      clear he
      go_enter Try.func9, Try.ntmps9
      have hb0 := Below.refl w.heap.size w
      go_wp2_with fail
      exact bodyPost_ret (v := .tuple #[.agg #[.int .i64 0, .slice none 0 0, .bool false], .int .i64 2]) (by simp [results, Try.results9, go_sem, *]) rfl ⟨(ChRet.zero _ _ 2).of H_he.out, (by repeat' (first | exact hb0 | refine Below.drew ?_ | refine Below.alloc ?_ (by have := hb0.size; first | (simp; done) | (simp; omega) | omega) _ | refine Below.setCell ?_ (by first | (simp; done) | (simp; omega) | omega) _))⟩
    · have he : (⟨n, [], false⟩, (0 : Int)) = chNew n := by simp [chNew, h1, h2]
      have H_he := hid he
      clear he
      go_enter Try.func9, Try.ntmps9
      have hb0 := Below.refl w.heap.size w
      go_wp2_with fail
      exact bodyPost_ret (v := .tuple #[.agg #[.int .i64 n, .slice none 0 0, .bool false], .int .i64 0]) (by simp [results, Try.results9, go_sem, *]) rfl ⟨ChRet.of ⟨none, 0, rfl, .inl rfl, fun _ h => by cases h⟩ H_he.out, (by repeat' (first | exact hb0 | refine Below.drew ?_ | refine Below.alloc ?_ (by have := hb0.size; first | (simp; done) | (simp; omega) | omega) _ | refine Below.setCell ?_ (by first | (simp; done) | (simp; omega) | omega) _))⟩

set_option maxHeartbeats 400000 in
theorem send_any (C : Int) (xs : List Int) (cl : Bool) (a : Option Addr) (cp : Nat) (v : Int) (w : World) (hc : CellsAt w a (xs.map (Value.int .u64))) :
    Calls Try.prog 11 #[.agg #[.int .i64 C, .slice a xs.length cp, .bool cl], .int .u64 v] w fun e w' =>
      ChRet w.heap.size w' e (chSend ⟨C, xs, cl⟩ v) ∧ Below w.heap.size w w' := by
  obtain ⟨i0, hi, iz0, iz1, iz2⟩ := info_parts info_u64
  rcases chErr_cases ⟨C, xs, cl⟩ with h8 | h8
  · obtain ⟨b1, b2, b3⟩ := chErr_ok h8
    simp only at b1 b2 b3
    cases cl with
    | true =>
      have he : (ChS.zero, (36 : Int)) = chSend ⟨C, xs, true⟩ v := by simp [chSend, h8]
      have H_he := hid he
      have H_h8 := hid h8
      clear he h8
      go_enter Try.func11, Try.ntmps11
      have hb0 := Below.refl w.heap.size w
      go_wp2_with fail
      refine (check_any C xs true a cp _).mono ?_
      rintro e w1 ⟨rfl, hc1⟩
      have hb1 : Below w.heap.size w w1 := bchain (by repeat' (first | exact hb0 | refine Below.drew ?_ | refine Below.alloc ?_ (by have := hb0.size; first | (simp; done) | (simp; omega) | omega) _ | refine Below.setCell ?_ (by first | (simp; done) | (simp; omega) | omega) _)) hc1
      obtain ⟨hcell1, hfroz1⟩ := bcell hc1
      have hz1 := hc1.size
      try simp only [World.size_drew, World.size_alloc, World.size_setCell] at hz1
      have hq_0 : w.heap.size < w.heap.size + 1 + 1 := by omega
      have hq_1 : w.heap.size + 1 < w.heap.size + 1 + 1 := by omega
      have hl1_0 : w.heap.size < w1.heap.size := by omega
      have hl1_1 : w.heap.size + 1 < w1.heap.size := by omega
      rw [H_h8.out]
      go_wp2_with fail
      exact bodyPost_ret (v := .tuple #[.agg #[.int .i64 0, .slice none 0 0, .bool false], .int .i64 36]) (by simp [results, Try.results11, go_sem, *]) rfl ⟨(ChRet.zero _ _ 36).of H_he.out, (by repeat' (first | exact hb1 | refine Below.drew ?_ | refine Below.alloc ?_ (by have := hb1.size; first | (simp; done) | (simp; omega) | omega) _ | refine Below.setCell ?_ (by first | (simp; done) | (simp; omega) | omega) _))⟩
    | false =>
      by_cases hfull : (xs.length : Int) = C
      · have he : (ChS.zero, (38 : Int)) = chSend ⟨C, xs, false⟩ v := by simp [chSend, h8, hfull]
        have H_he := hid he
        have H_h8 := hid h8
        clear he h8
        go_enter Try.func11, Try.ntmps11
        have hb0 := Below.refl w.heap.size w
        go_wp2_with fail
        refine (check_any C xs false a cp _).mono ?_
        rintro e w1 ⟨rfl, hc1⟩
        have hb1 : Below w.heap.size w w1 := bchain (by repeat' (first | exact hb0 | refine Below.drew ?_ | refine Below.alloc ?_ (by have := hb0.size; first | (simp; done) | (simp; omega) | omega) _ | refine Below.setCell ?_ (by first | (simp; done) | (simp; omega) | omega) _)) hc1
        obtain ⟨hcell1, hfroz1⟩ := bcell hc1
        have hz1 := hc1.size
        try simp only [World.size_drew, World.size_alloc, World.size_setCell] at hz1
        have hq_0 : w.heap.size < w.heap.size + 1 + 1 := by omega
        have hq_1 : w.heap.size + 1 < w.heap.size + 1 + 1 := by omega
        have hl1_0 : w.heap.size < w1.heap.size := by omega
        have hl1_1 : w.heap.size + 1 < w1.heap.size := by omega
        rw [H_h8.out]
        go_wp2_with fail
        exact bodyPost_ret (v := .tuple #[.agg #[.int .i64 0, .slice none 0 0, .bool false], .int .i64 38]) (by simp [results, Try.results11, go_sem, *]) rfl ⟨(ChRet.zero _ _ 38).of H_he.out, (by repeat' (first | exact hb1 | refine Below.drew ?_ | refine Below.alloc ?_ (by have := hb1.size; first | (simp; done) | (simp; omega) | omega) _ | refine Below.setCell ?_ (by first | (simp; done) | (simp; omega) | omega) _))⟩
      · have he : (⟨C, xs ++ [v], false⟩, (0 : Int)) = chSend ⟨C, xs, false⟩ v := by simp [chSend, h8, hfull]
        have H_he := hid he
        have H_h8 := hid h8
        clear he h8
        go_enter Try.func11, Try.ntmps11
        have hb0 := Below.refl w.heap.size w
        go_wp2_with fail
        refine (check_any C xs false a cp _).mono ?_
        rintro e w1 ⟨rfl, hc1⟩
        have hb1 : Below w.heap.size w w1 := bchain (by repeat' (first | exact hb0 | refine Below.drew ?_ | refine Below.alloc ?_ (by have := hb0.size; first | (simp; done) | (simp; omega) | omega) _ | refine Below.setCell ?_ (by first | (simp; done) | (simp; omega) | omega) _)) hc1
        obtain ⟨hcell1, hfroz1⟩ := bcell hc1
        have hz1 := hc1.size
        try simp only [World.size_drew, World.size_alloc, World.size_setCell] at hz1
        have hq_0 : w.heap.size < w.heap.size + 1 + 1 := by omega
        have hq_1 : w.heap.size + 1 < w.heap.size + 1 + 1 := by omega
        have hl1_0 : w.heap.size < w1.heap.size := by omega
        have hl1_1 : w.heap.size + 1 < w1.heap.size := by omega
        rw [H_h8.out]
        go_wp2_with fail
        refine (twin_any C xs false a cp _ (hc.later hb1) (by omega)).mono ?_
        rintro e w2 ⟨a', c', rfl, hown, hc2⟩
        have hb2 : Below w.heap.size w w2 := bchain (by repeat' (first | exact hb1 | refine Below.drew ?_ | refine Below.alloc ?_ (by have := hb1.size; first | (simp; done) | (simp; omega) | omega) _ | refine Below.setCell ?_ (by first | (simp; done) | (simp; omega) | omega) _)) hc2
        obtain ⟨hcell2, hfroz2⟩ := bcell hc2
        have hz2 := hc2.size
        have hl2_0 : w.heap.size < w2.heap.size := by omega
        have hl2_1 : w.heap.size + 1 < w2.heap.size := by omega
        go_wp2_with (at_builtin; refine stop ?_)
        refine Stop.go ?_
        refine wpList_append_x _ rfl _ _ 22 rfl w1.heap.size 25 i0 (.int .u64 0) 1 8 Try.underlying22 hi iz0 iz1 iz2 rfl (by decide) _ _ _ rfl ((hown.alloc _).alloc _) (some ⟨w2.heap.size + 1, 0, none⟩) 1 1 [.int .u64 v] rfl rfl (by simpa using cellsAt_one (w2.alloc _) (.int .u64 v) 25) (oneCell_int _ _) (by unfold maxLen; omega) (by omega) (by simp; omega) ?_
        intro a3 c3 w3 hown3 hg hat
        obtain ⟨hgc, hgf⟩ := gcell hg hown
        have hgz := hg.size
        simp only [World.size_alloc] at hgz hat
        have hb3 : Below w.heap.size w w3 := below_grownX (by repeat' (first | exact hb2 | refine Below.drew ?_ | refine Below.alloc ?_ (by have := hb2.size; first | (simp; done) | (simp; omega) | omega) _ | refine Below.setCell ?_ (by first | (simp; done) | (simp; omega) | omega) _)) hg (by simp; omega) (fun k hk => by have := (hown.lt k hk).1; omega)
        have hr0 : w2.heap.size < w2.heap.size + 1 + 1 := by omega
        have hr1 : w2.heap.size < w3.heap.size := by omega
        have hr2 : w.heap.size + 1 < w2.heap.size + 1 + 1 := by omega
        have hne1 := own_ne hown hat (b := w2.heap.size) ⟨.inr (Nat.le_refl _), by omega⟩
        have hne2 := own_ne hown hat (b := w.heap.size + 1) ⟨.inl hl1_1, by omega⟩
        go_wp2_with fail
        refine bodyPost_ret (v := .tuple #[.agg #[.int .i64 C, .slice a3 (xs.length + 1) c3, .bool false], .int .i64 0]) (by simp [results, Try.results11, go_sem, *]) rfl ⟨ChRet.of ⟨a3, c3, by simp, ?_, fun ad had => by have h1 := (hown3.addr ad had).1; have h2 := hb1.size; omega⟩ H_he.out, (by repeat' (first | exact hb3 | refine Below.drew ?_ | refine Below.alloc ?_ (by have := hb3.size; first | (simp; done) | (simp; omega) | omega) _ | refine Below.setCell ?_ (by first | (simp; done) | (simp; omega) | omega) _))⟩
        have hfin := ((((hown3.setFar (a := ⟨w2.heap.size, 1, none⟩) hne1 (.slice a3 (xs.length + 1) c3)).setFar (a := ⟨w.heap.size + 1, 0, none⟩) hne2 (.int .i64 C)).setFar (a := ⟨w.heap.size + 1, 1, none⟩) hne2 (.slice a3 (xs.length + 1) c3)).setFar (a := ⟨w.heap.size + 1, 2, none⟩) hne2 (.bool false)).cellsAt
        simpa using hfin
  · have he : (ChS.zero, (8 : Int)) = chSend ⟨C, xs, cl⟩ v := by simp [chSend, h8]
    have H_he := hid he
    have H_h8 := hid h8
    clear he h8
    go_enter Try.func11, Try.ntmps11
    have hb0 := Below.refl w.heap.size w
    go_wp2_with fail
    refine (check_any C xs cl a cp _).mono ?_
    rintro e w1 ⟨rfl, hc1⟩
    have hb1 : Below w.heap.size w w1 := bchain (by repeat' (first | exact hb0 | refine Below.drew ?_ | refine Below.alloc ?_ (by have := hb0.size; first | (simp; done) | (simp; omega) | omega) _ | refine Below.setCell ?_ (by first | (simp; done) | (simp; omega) | omega) _)) hc1
    obtain ⟨hcell1, hfroz1⟩ := bcell hc1
    have hz1 := hc1.size
    try simp only [World.size_drew, World.size_alloc, World.size_setCell] at hz1
    have hq_0 : w.heap.size < w.heap.size + 1 + 1 := by omega
    have hq_1 : w.heap.size + 1 < w.heap.size + 1 + 1 := by omega
    have hl1_0 : w.heap.size < w1.heap.size := by omega
    have hl1_1 : w.heap.size + 1 < w1.heap.size := by omega
    rw [H_h8.out]
    go_wp2_with fail
    exact bodyPost_ret (v := .tuple #[.agg #[.int .i64 0, .slice none 0 0, .bool false], .int .i64 8]) (by simp [results, Try.results11, go_sem, *]) rfl ⟨(ChRet.zero _ _ 8).of H_he.out, (by repeat' (first | exact hb1 | refine Below.drew ?_ | refine Below.alloc ?_ (by have := hb1.size; first | (simp; done) | (simp; omega) | omega) _ | refine Below.setCell ?_ (by first | (simp; done) | (simp; omega) | omega) _))⟩

end Go.Proofs.Yteajfhodfpjplaa
