/- What the reference's functions on channels return. -/
import Derived.Test.YteajfhodfpjplaaChannelRecv
namespace Go.Proofs.Yteajfhodfpjplaa
set_option linter.unusedSimpArgs false
set_option linter.unusedVariables false
set_option linter.unnecessarySimpa false
open Go.RowKit

set_option maxHeartbeats 400000 in
theorem rtwin_any (C : Int) (xs : List Int) (cl : Bool) (a : Option Addr) (cp : Nat) (w : World) (hc : CellsAt w a (xs.map (Value.int .u64))) (hb : xs.length ≤ 17592186044415) :
    Calls Try.prog 8 #[.agg #[.int .i64 C, .slice a xs.length cp, .bool cl]] w fun e w' =>
      ∃ a' c', e = .returned (.agg #[.int .i64 C, .slice a' xs.length c', .bool cl]) ∧ OwnX w' w.heap.size 25 1 (.slice a' xs.length c') xs.length (xs.map (Value.int .u64)) ∧ Below w.heap.size w w' := by
  obtain ⟨i0, ii, iz0, iz1, iz2⟩ := info_parts info_u64
  have hl0 : w.heap.size < w.heap.size + 1 + 1 := by omega
  have hl1 : w.heap.size + 1 < w.heap.size + 1 + 1 := by omega
  have hl2 : w.heap.size < w.heap.size + 1 + 1 + 1 := by omega
  have hl3 : w.heap.size + 1 < w.heap.size + 1 + 1 + 1 := by omega
  go_enter Try.func8, Try.ntmps8
  have hb0 := Below.refl w.heap.size w
  go_wp2_with fail
  go_region_held3 (fun w' => w'.cell? ⟨w.heap.size, 0, none⟩ = some (.int .i64 C) ∧ w'.cell? ⟨w.heap.size, 1, none⟩ = some (.slice a xs.length cp) ∧ w'.cell? ⟨w.heap.size, 2, none⟩ = some (.bool cl)) (go_keep) ((refine step_append_x _ (by rfl) _ _ _ (by rfl) w.heap.size 25 i0 (.int .u64 0) 1 8 Try.underlying22 ii iz0 iz1 iz2 rfl (by omega) _ 0 [] (by rfl) (own_fresh _ _ _ _ (w.heap.size + 1 + 1) (by simp) (by omega)) a xs.length cp (xs.map (Value.int .u64)) (by rfl) (by simp) ((((hc.alloc _).alloc _).alloc _).drew) (ints_oneCell _ _) (by unfold maxLen; omega) (by omega) (by simp; omega) ?_; intro a' c' w1 hown hg hat; obtain ⟨hcell, hfroz, hz⟩ := gcell0 hg; simp only [World.size_drew, World.size_alloc] at hz hat))
  rw [Nat.zero_add, List.nil_append] at hown
  rw [Nat.zero_add] at hat
  have hb1 : Below w.heap.size w w1 := below_grownX (by repeat' (first | exact hb0 | refine Below.drew ?_ | refine Below.alloc ?_ (by have := hb0.size; first | (simp; done) | (simp; omega) | omega) _ | refine Below.setCell ?_ (by first | (simp; done) | (simp; omega) | omega) _)) hg (by simp; omega) (fun k hk => by simp [Value.ownBlock] at hk; omega)
  have hne : (Value.slice a' xs.length c').ownBlock ≠ some (w.heap.size + 1) := fun h => by
    rcases hat _ h with h | h
    · simp [Value.ownBlock] at h
    · omega
  go_wp2_with fail
  exact bodyPost_ret (v := .agg #[.int .i64 C, .slice a' xs.length c', .bool cl]) (by simp [results, Try.results8, go_sem, *]) rfl ⟨_, _, rfl, (by repeat' (first | with_reducible exact hown | with_reducible refine OwnX.setFar ?_ ?_ _ | with_reducible refine OwnX.alloc ?_ _ | with_reducible refine OwnX.drew ?_ | assumption | (simp [Value.ownBlock]; omega) | omega)), (by repeat' (first | exact hb1 | refine Below.drew ?_ | refine Below.alloc ?_ (by have := hb1.size; first | (simp; done) | (simp; omega) | omega) _ | refine Below.setCell ?_ (by first | (simp; done) | (simp; omega) | omega) _))⟩

set_option maxHeartbeats 400000 in
theorem rcheck_any (C : Int) (xs : List Int) (cl : Bool) (a : Option Addr) (cp : Nat) (w : World) :
    Calls Try.prog 21 #[.agg #[.int .i64 C, .slice a xs.length cp, .bool cl]] w fun e w' =>
      e = .returned (.int .i64 (chErr ⟨C, xs, cl⟩)) ∧ Below w.heap.size w w' := by
  by_cases h1 : C < 1
  · have he : chErr ⟨C, xs, cl⟩ = 8 := by simp [chErr, h1]
    have H_he := hid he
    clear he
    go_enter Try.func21, Try.ntmps21
    have hb0 := Below.refl w.heap.size w
    go_wp2_with fail
    go_ret
    exact ⟨ret_int H_he.out.symm, hb0.alloc (Nat.le_refl _) _⟩
  · by_cases h2 : 60 < C
    · have he : chErr ⟨C, xs, cl⟩ = 8 := by simp [chErr, h1, h2]
      have H_he := hid he
      clear he
      go_enter Try.func21, Try.ntmps21
      have hb0 := Below.refl w.heap.size w
      go_wp2_with fail
      go_ret
      exact ⟨ret_int H_he.out.symm, hb0.alloc (Nat.le_refl _) _⟩
    · by_cases h3 : C < xs.length
      · have he : chErr ⟨C, xs, cl⟩ = 8 := by simp [chErr, h1, h2, h3]
        have H_he := hid he
        clear he
        go_enter Try.func21, Try.ntmps21
        have hb0 := Below.refl w.heap.size w
        go_wp2_with fail
        go_ret
        exact ⟨ret_int H_he.out.symm, hb0.alloc (Nat.le_refl _) _⟩
      · have he : chErr ⟨C, xs, cl⟩ = 0 := by simp [chErr, h1, h2, h3]
        have H_he := hid he
        clear he
        go_enter Try.func21, Try.ntmps21
        have hb0 := Below.refl w.heap.size w
        go_wp2_with fail
        go_ret
        exact ⟨ret_int H_he.out.symm, hb0.alloc (Nat.le_refl _) _⟩

theorem rnew_any (n : Int) (w : World) :
    Calls Try.prog 10 #[.int .i64 n] w fun e w' =>
      ChRet w.heap.size w' e (chNew n) ∧ Below w.heap.size w w' := by
  by_cases h1 : n < 1
  · have he : (ChS.zero, (2 : Int)) = chNew n := by simp [chNew, h1]
    have H_he := hid he
    clear he
    go_enter Try.func10, Try.ntmps10
    have hb0 := Below.refl w.heap.size w
    go_wp2_with fail
    exact bodyPost_ret (v := .tuple #[.agg #[.int .i64 0, .slice none 0 0, .bool false], .int .i64 2]) (by simp [results, Try.results10, go_sem, *]) rfl ⟨(ChRet.zero _ _ 2).of H_he.out, (by repeat' (first | exact hb0 | refine Below.drew ?_ | refine Below.alloc ?_ (by have := hb0.size; first | (simp; done) | (simp; omega) | omega) _ | refine Below.setCell ?_ (by first | (simp; done) | (simp; omega) | omega) _))⟩
  · by_cases h2 : 60 < n
    · have he : (ChS.zero, (2 : Int)) = chNew n := by simp [chNew, h2]
      have H_he := hid he
      clear he
      go_enter Try.func10, Try.ntmps10
      have hb0 := Below.refl w.heap.size w
      go_wp2_with fail
      exact bodyPost_ret (v := .tuple #[.agg #[.int .i64 0, .slice none 0 0, .bool false], .int .i64 2]) (by simp [results, Try.results10, go_sem, *]) rfl ⟨(ChRet.zero _ _ 2).of H_he.out, (by repeat' (first | exact hb0 | refine Below.drew ?_ | refine Below.alloc ?_ (by have := hb0.size; first | (simp; done) | (simp; omega) | omega) _ | refine Below.setCell ?_ (by first | (simp; done) | (simp; omega) | omega) _))⟩
    · have he : (⟨n, [], false⟩, (0 : Int)) = chNew n := by simp [chNew, h1, h2]
      have H_he := hid he
      clear he
      go_enter Try.func10, Try.ntmps10
      have hb0 := Below.refl w.heap.size w
      go_wp2_with fail
      exact bodyPost_ret (v := .tuple #[.agg #[.int .i64 n, .slice none 0 0, .bool false], .int .i64 0]) (by simp [results, Try.results10, go_sem, *]) rfl ⟨ChRet.of ⟨none, 0, rfl, .inl rfl, fun _ h => by cases h⟩ H_he.out, (by repeat' (first | exact hb0 | refine Below.drew ?_ | refine Below.alloc ?_ (by have := hb0.size; first | (simp; done) | (simp; omega) | omega) _ | refine Below.setCell ?_ (by first | (simp; done) | (simp; omega) | omega) _))⟩

set_option maxHeartbeats 400000 in
theorem rsend_any (C : Int) (xs : List Int) (cl : Bool) (a : Option Addr) (cp : Nat) (v : Int) (w : World) (hc : CellsAt w a (xs.map (Value.int .u64))) :
    Calls Try.prog 12 #[.agg #[.int .i64 C, .slice a xs.length cp, .bool cl], .int .u64 v] w fun e w' =>
      ChRet w.heap.size w' e (chSend ⟨C, xs, cl⟩ v) ∧ Below w.heap.size w w' := by
  obtain ⟨i0, hi, iz0, iz1, iz2⟩ := info_parts info_u64
  rcases chErr_cases ⟨C, xs, cl⟩ with h8 | h8
  · obtain ⟨b1, b2, b3⟩ := chErr_ok h8
    simp only at b1 b2 b3
    cases cl with
    | true =>
      have he : (ChS.zero, (36 : Int)) = chSend ⟨C, xs, true⟩ v := by simp [chSend, h8]
      have H_he := hid he
      have H_h8 := hid h8
      clear he h8
      go_enter Try.func12, Try.ntmps12
      have hb0 := Below.refl w.heap.size w
      go_wp2_with fail
      refine (rcheck_any C xs true a cp _).mono ?_
      rintro e w1 ⟨rfl, hc1⟩
      have hb1 : Below w.heap.size w w1 := bchain (by repeat' (first | exact hb0 | refine Below.drew ?_ | refine Below.alloc ?_ (by have := hb0.size; first | (simp; done) | (simp; omega) | omega) _ | refine Below.setCell ?_ (by first | (simp; done) | (simp; omega) | omega) _)) hc1
      obtain ⟨hcell1, hfroz1⟩ := bcell hc1
      have hz1 := hc1.size
      try simp only [World.size_drew, World.size_alloc, World.size_setCell] at hz1
      have hq_0 : w.heap.size < w.heap.size + 1 + 1 := by omega
      have hq_1 : w.heap.size + 1 < w.heap.size + 1 + 1 := by omega
      have hl1_0 : w.heap.size < w1.heap.size := by omega
      have hl1_1 : w.heap.size + 1 < w1.heap.size := by omega
      rw [H_h8.out]
      go_wp2_with fail
      exact bodyPost_ret (v := .tuple #[.agg #[.int .i64 0, .slice none 0 0, .bool false], .int .i64 36]) (by simp [results, Try.results12, go_sem, *]) rfl ⟨(ChRet.zero _ _ 36).of H_he.out, (by repeat' (first | exact hb1 | refine Below.drew ?_ | refine Below.alloc ?_ (by have := hb1.size; first | (simp; done) | (simp; omega) | omega) _ | refine Below.setCell ?_ (by first | (simp; done) | (simp; omega) | omega) _))⟩
    | false =>
      by_cases hfull : (xs.length : Int) = C
      · have he : (ChS.zero, (38 : Int)) = chSend ⟨C, xs, false⟩ v := by simp [chSend, h8, hfull]
        have H_he := hid he
        have H_h8 := hid h8
        clear he h8
        go_enter Try.func12, Try.ntmps12
        have hb0 := Below.refl w.heap.size w
        go_wp2_with fail
        refine (rcheck_any C xs false a cp _).mono ?_
        rintro e w1 ⟨rfl, hc1⟩
        have hb1 : Below w.heap.size w w1 := bchain (by repeat' (first | exact hb0 | refine Below.drew ?_ | refine Below.alloc ?_ (by have := hb0.size; first | (simp; done) | (simp; omega) | omega) _ | refine Below.setCell ?_ (by first | (simp; done) | (simp; omega) | omega) _)) hc1
        obtain ⟨hcell1, hfroz1⟩ := bcell hc1
        have hz1 := hc1.size
        try simp only [World.size_drew, World.size_alloc, World.size_setCell] at hz1
        have hq_0 : w.heap.size < w.heap.size + 1 + 1 := by omega
        have hq_1 : w.heap.size + 1 < w.heap.size + 1 + 1 := by omega
        have hl1_0 : w.heap.size < w1.heap.size := by omega
        have hl1_1 : w.heap.size + 1 < w1.heap.size := by omega
        rw [H_h8.out]
        go_wp2_with fail
        exact bodyPost_ret (v := .tuple #[.agg #[.int .i64 0, .slice none 0 0, .bool false], .int .i64 38]) (by simp [results, Try.results12, go_sem, *]) rfl ⟨(ChRet.zero _ _ 38).of H_he.out, (by repeat' (first | exact hb1 | refine Below.drew ?_ | refine Below.alloc ?_ (by have := hb1.size; first | (simp; done) | (simp; omega) | omega) _ | refine Below.setCell ?_ (by first | (simp; done) | (simp; omega) | omega) _))⟩
      · have he : (⟨C, xs ++ [v], false⟩, (0 : Int)) = chSend ⟨C, xs, false⟩ v := by simp [chSend, h8, hfull]
        have H_he := hid he
        have H_h8 := hid h8
        clear he h8
        go_enter Try.func12, Try.ntmps12
        have hb0 := Below.refl w.heap.size w
        go_wp2_with fail
        refine (rcheck_any C xs false a cp _).mono ?_
        rintro e w1 ⟨rfl, hc1⟩
        have hb1 : Below w.heap.size w w1 := bchain (by repeat' (first | exact hb0 | refine Below.drew ?_ | refine Below.alloc ?_ (by have := hb0.size; first | (simp; done) | (simp; omega) | omega) _ | refine Below.setCell ?_ (by first | (simp; done) | (simp; omega) | omega) _)) hc1
        obtain ⟨hcell1, hfroz1⟩ := bcell hc1
        have hz1 := hc1.size
        try simp only [World.size_drew, World.size_alloc, World.size_setCell] at hz1
        have hq_0 : w.heap.size < w.heap.size + 1 + 1 := by omega
        have hq_1 : w.heap.size + 1 < w.heap.size + 1 + 1 := by omega
        have hl1_0 : w.heap.size < w1.heap.size := by omega
        have hl1_1 : w.heap.size + 1 < w1.heap.size := by omega
        rw [H_h8.out]
        go_wp2_with fail
        refine (rtwin_any C xs false a cp _ (hc.later hb1) (by omega)).mono ?_
        rintro e w2 ⟨a', c', rfl, hown, hc2⟩
        have hb2 : Below w.heap.size w w2 := bchain (by repeat' (first | exact hb1 | refine Below.drew ?_ | refine Below.alloc ?_ (by have := hb1.size; first | (simp; done) | (simp; omega) | omega) _ | refine Below.setCell ?_ (by first | (simp; done) | (simp; omega) | omega) _)) hc2
        obtain ⟨hcell2, hfroz2⟩ := bcell hc2
        have hz2 := hc2.size
        have hl2_0 : w.heap.size < w2.heap.size := by omega
        have hl2_1 : w.heap.size + 1 < w2.heap.size := by omega
        go_wp2_with (at_builtin; refine stop ?_)
        refine Stop.go ?_
        refine wpList_append_x _ rfl _ _ 22 rfl w1.heap.size 25 i0 (.int .u64 0) 1 8 Try.underlying22 hi iz0 iz1 iz2 rfl (by decide) _ _ _ rfl ((hown.alloc _).alloc _) (some ⟨w2.heap.size + 1, 0, none⟩) 1 1 [.int .u64 v] rfl rfl (by simpa using cellsAt_one (w2.alloc _) (.int .u64 v) 25) (oneCell_int _ _) (by unfold maxLen; omega) (by omega) (by simp; omega) ?_
        intro a3 c3 w3 hown3 hg hat
        obtain ⟨hgc, hgf⟩ := gcell hg hown
        have hgz := hg.size
        simp only [World.size_alloc] at hgz hat
        have hb3 : Below w.heap.size w w3 := below_grownX (by repeat' (first | exact hb2 | refine Below.drew ?_ | refine Below.alloc ?_ (by have := hb2.size; first | (simp; done) | (simp; omega) | omega) _ | refine Below.setCell ?_ (by first | (simp; done) | (simp; omega) | omega) _)) hg (by simp; omega) (fun k hk => by have := (hown.lt k hk).1; omega)
        have hr0 : w2.heap.size < w2.heap.size + 1 + 1 := by omega
        have hr1 : w2.heap.size < w3.heap.size := by omega
        have hr2 : w.heap.size + 1 < w2.heap.size + 1 + 1 := by omega
        have hne1 := own_ne hown hat (b := w2.heap.size) ⟨.inr (Nat.le_refl _), by omega⟩
        have hne2 := own_ne hown hat (b := w.heap.size + 1) ⟨.inl hl1_1, by omega⟩
        go_wp2_with fail
        refine bodyPost_ret (v := .tuple #[.agg #[.int .i64 C, .slice a3 (xs.length + 1) c3, .bool false], .int .i64 0]) (by simp [results, Try.results12, go_sem, *]) rfl ⟨ChRet.of ⟨a3, c3, by simp, ?_, fun ad had => by have h1 := (hown3.addr ad had).1; have h2 := hb1.size; omega⟩ H_he.out, (by repeat' (first | exact hb3 | refine Below.drew ?_ | refine Below.alloc ?_ (by have := hb3.size; first | (simp; done) | (simp; omega) | omega) _ | refine Below.setCell ?_ (by first | (simp; done) | (simp; omega) | omega) _))⟩
        have hfin := ((((hown3.setFar (a := ⟨w2.heap.size, 1, none⟩) hne1 (.slice a3 (xs.length + 1) c3)).setFar (a := ⟨w.heap.size + 1, 0, none⟩) hne2 (.int .i64 C)).setFar (a := ⟨w.heap.size + 1, 1, none⟩) hne2 (.slice a3 (xs.length + 1) c3)).setFar (a := ⟨w.heap.size + 1, 2, none⟩) hne2 (.bool false)).cellsAt
        simpa using hfin
  · have he : (ChS.zero, (8 : Int)) = chSend ⟨C, xs, cl⟩ v := by simp [chSend, h8]
    have H_he := hid he
    have H_h8 := hid h8
    clear he h8
    go_enter Try.func12, Try.ntmps12
    have hb0 := Below.refl w.heap.size w
    go_wp2_with fail
    refine (rcheck_any C xs cl a cp _).mono ?_
    rintro e w1 ⟨rfl, hc1⟩
    have hb1 : Below w.heap.size w w1 := bchain (by repeat' (first | exact hb0 | refine Below.drew ?_ | refine Below.alloc ?_ (by have := hb0.size; first | (simp; done) | (simp; omega) | omega) _ | refine Below.setCell ?_ (by first | (simp; done) | (simp; omega) | omega) _)) hc1
    obtain ⟨hcell1, hfroz1⟩ := bcell hc1
    have hz1 := hc1.size
    try simp only [World.size_drew, World.size_alloc, World.size_setCell] at hz1
    have hq_0 : w.heap.size < w.heap.size + 1 + 1 := by omega
    have hq_1 : w.heap.size + 1 < w.heap.size + 1 + 1 := by omega
    have hl1_0 : w.heap.size < w1.heap.size := by omega
    have hl1_1 : w.heap.size + 1 < w1.heap.size := by omega
    rw [H_h8.out]
    go_wp2_with fail
    refine (rcheck_any C xs cl a cp _).mono ?_
    rintro e w2 ⟨rfl, hc2⟩
    have hb2 : Below w.heap.size w w2 := bchain (by repeat' (first | exact hb1 | refine Below.drew ?_ | refine Below.alloc ?_ (by have := hb1.size; first | (simp; done) | (simp; omega) | omega) _ | refine Below.setCell ?_ (by first | (simp; done) | (simp; omega) | omega) _)) hc2
    obtain ⟨hcell2, hfroz2⟩ := bcell hc2
    have hz2 := hc2.size
    have hl2_0 : w.heap.size < w2.heap.size := by omega
    have hl2_1 : w.heap.size + 1 < w2.heap.size := by omega
    rw [H_h8.out]
    go_wp2_with fail
    exact bodyPost_ret (v := .tuple #[.agg #[.int .i64 0, .slice none 0 0, .bool false], .int .i64 8]) (by simp [results, Try.results12, go_sem, *]) rfl ⟨(ChRet.zero _ _ 8).of H_he.out, (by repeat' (first | exact hb2 | refine Below.drew ?_ | refine Below.alloc ?_ (by have := hb2.size; first | (simp; done) | (simp; omega) | omega) _ | refine Below.setCell ?_ (by first | (simp; done) | (simp; omega) | omega) _))⟩

set_option maxHeartbeats 400000 in
theorem rclose_any (C : Int) (xs : List Int) (cl : Bool) (a : Option Addr) (cp : Nat) (w : World) (hc : CellsAt w a (xs.map (Value.int .u64))) :
    Calls Try.prog 17 #[.agg #[.int .i64 C, .slice a xs.length cp, .bool cl]] w fun e w' =>
      ChRet w.heap.size w' e (chClose ⟨C, xs, cl⟩) ∧ Below w.heap.size w w' := by
  rcases chErr_cases ⟨C, xs, cl⟩ with h8 | h8
  · obtain ⟨b1, b2, b3⟩ := chErr_ok h8
    simp only at b1 b2 b3
    cases cl with
    | true =>
      have he : (ChS.zero, (34 : Int)) = chClose ⟨C, xs, true⟩ := by simp [chClose, h8]
      have H_he := hid he
      have H_h8 := hid h8
      clear he h8
      go_enter Try.func17, Try.ntmps17
      have hb0 := Below.refl w.heap.size w
      go_wp2_with fail
      refine (rcheck_any C xs true a cp _).mono ?_
      rintro e w1 ⟨rfl, hc1⟩
      have hb1 : Below w.heap.size w w1 := bchain (by repeat' (first | exact hb0 | refine Below.drew ?_ | refine Below.alloc ?_ (by have := hb0.size; first | (simp; done) | (simp; omega) | omega) _ | refine Below.setCell ?_ (by first | (simp; done) | (simp; omega) | omega) _)) hc1
      obtain ⟨hcell1, hfroz1⟩ := bcell hc1
      have hz1 := hc1.size
      try simp only [World.size_drew, World.size_alloc, World.size_setCell] at hz1
      have hq_0 : w.heap.size < w.heap.size + 1 + 1 := by omega
      have hq_1 : w.heap.size + 1 < w.heap.size + 1 + 1 := by omega
      have hl1_0 : w.heap.size < w1.heap.size := by omega
      have hl1_1 : w.heap.size + 1 < w1.heap.size := by omega
      rw [H_h8.out]
      go_wp2_with fail
      exact bodyPost_ret (v := .tuple #[.agg #[.int .i64 0, .slice none 0 0, .bool false], .int .i64 34]) (by simp [results, Try.results17, go_sem, *]) rfl ⟨(ChRet.zero _ _ 34).of H_he.out, (by repeat' (first | exact hb1 | refine Below.drew ?_ | refine Below.alloc ?_ (by have := hb1.size; first | (simp; done) | (simp; omega) | omega) _ | refine Below.setCell ?_ (by first | (simp; done) | (simp; omega) | omega) _))⟩
    | false =>
      have he : (⟨C, xs, true⟩, (0 : Int)) = chClose ⟨C, xs, false⟩ := by simp [chClose, h8]
      have H_he := hid he
      have H_h8 := hid h8
      clear he h8
      go_enter Try.func17, Try.ntmps17
      have hb0 := Below.refl w.heap.size w
      go_wp2_with fail
      refine (rcheck_any C xs false a cp _).mono ?_
      rintro e w1 ⟨rfl, hc1⟩
      have hb1 : Below w.heap.size w w1 := bchain (by repeat' (first | exact hb0 | refine Below.drew ?_ | refine Below.alloc ?_ (by have := hb0.size; first | (simp; done) | (simp; omega) | omega) _ | refine Below.setCell ?_ (by first | (simp; done) | (simp; omega) | omega) _)) hc1
      obtain ⟨hcell1, hfroz1⟩ := bcell hc1
      have hz1 := hc1.size
      try simp only [World.size_drew, World.size_alloc, World.size_setCell] at hz1
      have hq_0 : w.heap.size < w.heap.size + 1 + 1 := by omega
      have hq_1 : w.heap.size + 1 < w.heap.size + 1 + 1 := by omega
      have hl1_0 : w.heap.size < w1.heap.size := by omega
      have hl1_1 : w.heap.size + 1 < w1.heap.size := by omega
      rw [H_h8.out]
      go_wp2_with fail
      refine (rtwin_any C xs false a cp _ (hc.later hb1) (by omega)).mono ?_
      rintro e w2 ⟨a', c', rfl, hown, hc2⟩
      have hb2 : Below w.heap.size w w2 := bchain (by repeat' (first | exact hb1 | refine Below.drew ?_ | refine Below.alloc ?_ (by have := hb1.size; first | (simp; done) | (simp; omega) | omega) _ | refine Below.setCell ?_ (by first | (simp; done) | (simp; omega) | omega) _)) hc2
      obtain ⟨hcell2, hfroz2⟩ := bcell hc2
      have hz2 := hc2.size
      have hl2_0 : w.heap.size < w2.heap.size := by omega
      have hl2_1 : w.heap.size + 1 < w2.heap.size := by omega
      have hA := hown.addr
      have hct := hown.cellsAt
      go_wp2_with fail
      exact bodyPost_ret (v := .tuple #[.agg #[.int .i64 C, .slice a' xs.length c', .bool true], .int .i64 0]) (by simp [results, Try.results17, go_sem, *]) rfl ⟨ChRet.of ⟨_, _, rfl, (by repeat' (first | with_reducible exact hct | with_reducible refine CellsAt.setFarG ?_ ?_ _ | with_reducible refine CellsAt.alloc ?_ _ | with_reducible refine CellsAt.drew ?_ | (intro ad had; have hx := hA ad had; simp; omega))), fun ad had => by have h1 := (hA ad had).1; have h2 := hb1.size; omega⟩ H_he.out, (by repeat' (first | exact hb2 | refine Below.drew ?_ | refine Below.alloc ?_ (by have := hb2.size; first | (simp; done) | (simp; omega) | omega) _ | refine Below.setCell ?_ (by first | (simp; done) | (simp; omega) | omega) _))⟩
  · have he : (ChS.zero, (8 : Int)) = chClose ⟨C, xs, cl⟩ := by simp [chClose, h8]
    have H_he := hid he
    have H_h8 := hid h8
    clear he h8
    go_enter Try.func17, Try.ntmps17
    have hb0 := Below.refl w.heap.size w
    go_wp2_with fail
    refine (rcheck_any C xs cl a cp _).mono ?_
    rintro e w1 ⟨rfl, hc1⟩
    have hb1 : Below w.heap.size w w1 := bchain (by repeat' (first | exact hb0 | refine Below.drew ?_ | refine Below.alloc ?_ (by have := hb0.size; first | (simp; done) | (simp; omega) | omega) _ | refine Below.setCell ?_ (by first | (simp; done) | (simp; omega) | omega) _)) hc1
    obtain ⟨hcell1, hfroz1⟩ := bcell hc1
    have hz1 := hc1.size
    try simp only [World.size_drew, World.size_alloc, World.size_setCell] at hz1
    have hq_0 : w.heap.size < w.heap.size + 1 + 1 := by omega
    have hq_1 : w.heap.size + 1 < w.heap.size + 1 + 1 := by omega
    have hl1_0 : w.heap.size < w1.heap.size := by omega
    have hl1_1 : w.heap.size + 1 < w1.heap.size := by omega
    rw [H_h8.out]
    go_wp2_with fail
    refine (rcheck_any C xs cl a cp _).mono ?_
    rintro e w2 ⟨rfl, hc2⟩
    have hb2 : Below w.heap.size w w2 := bchain (by repeat' (first | exact hb1 | refine Below.drew ?_ | refine Below.alloc ?_ (by have := hb1.size; first | (simp; done) | (simp; omega) | omega) _ | refine Below.setCell ?_ (by first | (simp; done) | (simp; omega) | omega) _)) hc2
    obtain ⟨hcell2, hfroz2⟩ := bcell hc2
    have hz2 := hc2.size
    have hl2_0 : w.heap.size < w2.heap.size := by omega
    have hl2_1 : w.heap.size + 1 < w2.heap.size := by omega
    rw [H_h8.out]
    go_wp2_with fail
    exact bodyPost_ret (v := .tuple #[.agg #[.int .i64 0, .slice none 0 0, .bool false], .int .i64 8]) (by simp [results, Try.results17, go_sem, *]) rfl ⟨(ChRet.zero _ _ 8).of H_he.out, (by repeat' (first | exact hb2 | refine Below.drew ?_ | refine Below.alloc ?_ (by have := hb2.size; first | (simp; done) | (simp; omega) | omega) _ | refine Below.setCell ?_ (by first | (simp; done) | (simp; omega) | omega) _))⟩

set_option maxHeartbeats 400000 in
theorem rroom_any (C : Int) (xs : List Int) (cl : Bool) (a : Option Addr) (cp : Nat) (w : World) :
    Calls Try.prog 19 #[.agg #[.int .i64 C, .slice a xs.length cp, .bool cl]] w fun e w' =>
      e = .returned (.tuple #[.int .i64 (chRoom ⟨C, xs, cl⟩).1, .int .i64 (chRoom ⟨C, xs, cl⟩).2]) ∧ Below w.heap.size w w' := by
  rcases chErr_cases ⟨C, xs, cl⟩ with h8 | h8
  · obtain ⟨b1, b2, b3⟩ := chErr_ok h8
    simp only at b1 b2 b3
    cases cl with
    | true =>
      have he : ((0 : Int), (0 : Int)) = chRoom ⟨C, xs, true⟩ := by simp [chRoom, h8]
      rw [← he]
      have H_h8 := hid h8
      clear h8
      clear he
      go_enter Try.func19, Try.ntmps19
      have hb0 := Below.refl w.heap.size w
      go_wp2_with fail
      refine (rcheck_any C xs true a cp _).mono ?_
      rintro e w1 ⟨rfl, hc1⟩
      have hb1 : Below w.heap.size w w1 := bchain (by repeat' (first | exact hb0 | refine Below.drew ?_ | refine Below.alloc ?_ (by have := hb0.size; first | (simp; done) | (simp; omega) | omega) _ | refine Below.setCell ?_ (by first | (simp; done) | (simp; omega) | omega) _)) hc1
      obtain ⟨hcell1, hfroz1⟩ := bcell hc1
      have hz1 := hc1.size
      try simp only [World.size_drew, World.size_alloc, World.size_setCell] at hz1
      have hq_0 : w.heap.size < w.heap.size + 1 := by omega
      have hl1_0 : w.heap.size < w1.heap.size := by omega
      rw [H_h8.out]
      go_wp2_with fail
      go_ret2
      exact ⟨rfl, by repeat' (first | exact hb1 | refine Below.drew ?_ | refine Below.alloc ?_ (by have := hb1.size; first | (simp; done) | (simp; omega) | omega) _ | refine Below.setCell ?_ (by first | (simp; done) | (simp; omega) | omega) _)⟩
    | false =>
      have he : (C - xs.length, (0 : Int)) = chRoom ⟨C, xs, false⟩ := by simp [chRoom, h8]
      rw [← he]
      have H_h8 := hid h8
      clear h8
      clear he
      go_enter Try.func19, Try.ntmps19
      have hb0 := Below.refl w.heap.size w
      go_wp2_with fail
      refine (rcheck_any C xs false a cp _).mono ?_
      rintro e w1 ⟨rfl, hc1⟩
      have hb1 : Below w.heap.size w w1 := bchain (by repeat' (first | exact hb0 | refine Below.drew ?_ | refine Below.alloc ?_ (by have := hb0.size; first | (simp; done) | (simp; omega) | omega) _ | refine Below.setCell ?_ (by first | (simp; done) | (simp; omega) | omega) _)) hc1
      obtain ⟨hcell1, hfroz1⟩ := bcell hc1
      have hz1 := hc1.size
      try simp only [World.size_drew, World.size_alloc, World.size_setCell] at hz1
      have hq_0 : w.heap.size < w.heap.size + 1 := by omega
      have hl1_0 : w.heap.size < w1.heap.size := by omega
      rw [H_h8.out]
      go_wp2_with fail
      go_ret2
      exact ⟨rfl, by repeat' (first | exact hb1 | refine Below.drew ?_ | refine Below.alloc ?_ (by have := hb1.size; first | (simp; done) | (simp; omega) | omega) _ | refine Below.setCell ?_ (by first | (simp; done) | (simp; omega) | omega) _)⟩
  · have he : ((0 : Int), (8 : Int)) = chRoom ⟨C, xs, cl⟩ := by simp [chRoom, h8]
    rw [← he]
    have H_h8 := hid h8
    clear h8
    clear he
    go_enter Try.func19, Try.ntmps19
    have hb0 := Below.refl w.heap.size w
    go_wp2_with fail
    refine (rcheck_any C xs cl a cp _).mono ?_
    rintro e w1 ⟨rfl, hc1⟩
    have hb1 : Below w.heap.size w w1 := bchain (by repeat' (first | exact hb0 | refine Below.drew ?_ | refine Below.alloc ?_ (by have := hb0.size; first | (simp; done) | (simp; omega) | omega) _ | refine Below.setCell ?_ (by first | (simp; done) | (simp; omega) | omega) _)) hc1
    obtain ⟨hcell1, hfroz1⟩ := bcell hc1
    have hz1 := hc1.size
    try simp only [World.size_drew, World.size_alloc, World.size_setCell] at hz1
    have hq_0 : w.heap.size < w.heap.size + 1 := by omega
    have hl1_0 : w.heap.size < w1.heap.size := by omega
    rw [H_h8.out]
    go_wp2_with fail
    refine (rcheck_any C xs cl a cp _).mono ?_
    rintro e w2 ⟨rfl, hc2⟩
    have hb2 : Below w.heap.size w w2 := bchain (by repeat' (first | exact hb1 | refine Below.drew ?_ | refine Below.alloc ?_ (by have := hb1.size; first | (simp; done) | (simp; omega) | omega) _ | refine Below.setCell ?_ (by first | (simp; done) | (simp; omega) | omega) _)) hc2
    obtain ⟨hcell2, hfroz2⟩ := bcell hc2
    have hz2 := hc2.size
    have hl2_0 : w.heap.size < w2.heap.size := by omega
    rw [H_h8.out]
    go_wp2_with fail
    go_ret2
    exact ⟨rfl, by repeat' (first | exact hb2 | refine Below.drew ?_ | refine Below.alloc ?_ (by have := hb2.size; first | (simp; done) | (simp; omega) | omega) _ | refine Below.setCell ?_ (by first | (simp; done) | (simp; omega) | omega) _)⟩


end Go.Proofs.Yteajfhodfpjplaa
