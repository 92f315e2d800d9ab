/- What Receive, Close and Room return. -/
import Derived.Test.YteajfhodfpjplaaChannelMore
namespace Go.Proofs.Yteajfhodfpjplaa
set_option linter.unusedSimpArgs false
set_option linter.unusedVariables false
set_option linter.unnecessarySimpa false
open Go.RowKit

/-- A call has returned a channel, a number, a bool and an error. -/
def ChRet4 (B : Nat) (w : World) (e : Ending) (r : ChS × Int × Bool × Int) : Prop :=
  ∃ a c, e = .returned (.tuple #[.agg #[.int .i64 r.1.cap, .slice a r.1.items.length c, .bool r.1.closed], .int .u64 r.2.1, .bool r.2.2.1, .int .i64 r.2.2.2]) ∧ CellsAt w a (r.1.items.map (Value.int .u64)) ∧ ∀ ad, a = some ad → B ≤ ad.block
theorem ChRet4.of {B : Nat} {w : World} {e : Ending} {r r' : ChS × Int × Bool × Int} (h : ChRet4 B w e r) (hr : r = r') : ChRet4 B w e r' := hr ▸ h
theorem ChRet4.zero (B : Nat) (w : World) (n : Int) : ChRet4 B w (.returned (.tuple #[.agg #[.int .i64 0, .slice none 0 0, .bool false], .int .u64 0, .bool false, .int .i64 n])) (.zero, 0, false, n) := ⟨none, 0, rfl, .inl rfl, fun _ h => by cases h⟩

set_option maxHeartbeats 400000 in
theorem recv_any (C : Int) (xs : List Int) (cl : Bool) (a : Option Addr) (cp : Nat) (w : World) (hc : CellsAt w a (xs.map (Value.int .u64))) :
    Calls Try.prog 13 #[.agg #[.int .i64 C, .slice a xs.length cp, .bool cl]] w fun e w' =>
      ChRet4 w.heap.size w' e (chRecv ⟨C, xs, cl⟩) ∧ Below w.heap.size w w' := by
  rcases chErr_cases ⟨C, xs, cl⟩ with h8 | h8
  · obtain ⟨b1, b2, b3⟩ := chErr_ok h8
    simp only at b1 b2 b3
    cases xs with
    | nil =>
      cases cl with
      | true =>
        have he : ((⟨C, [], true⟩ : ChS), (0 : Int), false, (0 : Int)) = chRecv ⟨C, [], true⟩ := by simp [chRecv, h8]
        have H_he := hid he
        have H_h8 := hid h8
        clear he h8
        go_enter Try.func13, Try.ntmps13
        have hb0 := Below.refl w.heap.size w
        go_wp2_with fail
        refine (check_any C [] true a cp _).mono ?_
        rintro e w1 ⟨rfl, hc1⟩
        have hb1 : Below w.heap.size w w1 := bchain (by repeat' (first | exact hb0 | refine Below.drew ?_ | refine Below.alloc ?_ (by have := hb0.size; first | (simp; done) | (simp; omega) | omega) _ | refine Below.setCell ?_ (by first | (simp; done) | (simp; omega) | omega) _)) hc1
        obtain ⟨hcell1, hfroz1⟩ := bcell hc1
        have hz1 := hc1.size
        try simp only [World.size_drew, World.size_alloc, World.size_setCell] at hz1
        have hq_0 : w.heap.size < w.heap.size + 1 + 1 := by omega
        have hq_1 : w.heap.size + 1 < w.heap.size + 1 + 1 := by omega
        have hl1_0 : w.heap.size < w1.heap.size := by omega
        have hl1_1 : w.heap.size + 1 < w1.heap.size := by omega
        rw [H_h8.out]
        go_wp2_with fail
        refine (twin_any C [] true a cp _ (hc.later hb1) (by simp)).mono ?_
        rintro e w2 ⟨a', c', rfl, hown, hc2⟩
        have hb2 : Below w.heap.size w w2 := bchain (by repeat' (first | exact hb1 | refine Below.drew ?_ | refine Below.alloc ?_ (by have := hb1.size; first | (simp; done) | (simp; omega) | omega) _ | refine Below.setCell ?_ (by first | (simp; done) | (simp; omega) | omega) _)) hc2
        obtain ⟨hcell2, hfroz2⟩ := bcell hc2
        have hz2 := hc2.size
        have hl2_0 : w.heap.size < w2.heap.size := by omega
        have hl2_1 : w.heap.size + 1 < w2.heap.size := by omega
        go_wp2_with fail
        exact bodyPost_ret (v := .tuple #[.agg #[.int .i64 C, .slice a' 0 c', .bool true], .int .u64 0, .bool false, .int .i64 0]) (by simp [results, Try.results13, go_sem, *]) rfl ⟨ChRet4.of ⟨a', c', rfl, .inl rfl, fun ad had => by have h1 := (hown.addr ad had).1; have h2 := hb1.size; omega⟩ H_he.out, (by repeat' (first | exact hb2 | refine Below.drew ?_ | refine Below.alloc ?_ (by have := hb2.size; first | (simp; done) | (simp; omega) | omega) _ | refine Below.setCell ?_ (by first | (simp; done) | (simp; omega) | omega) _))⟩
      | false =>
        have he : (ChS.zero, (0 : Int), false, (38 : Int)) = chRecv ⟨C, [], false⟩ := by simp [chRecv, h8]
        have H_he := hid he
        have H_h8 := hid h8
        clear he h8
        go_enter Try.func13, Try.ntmps13
        have hb0 := Below.refl w.heap.size w
        go_wp2_with fail
        refine (check_any C [] false a cp _).mono ?_
        rintro e w1 ⟨rfl, hc1⟩
        have hb1 : Below w.heap.size w w1 := bchain (by repeat' (first | exact hb0 | refine Below.drew ?_ | refine Below.alloc ?_ (by have := hb0.size; first | (simp; done) | (simp; omega) | omega) _ | refine Below.setCell ?_ (by first | (simp; done) | (simp; omega) | omega) _)) hc1
        obtain ⟨hcell1, hfroz1⟩ := bcell hc1
        have hz1 := hc1.size
        try simp only [World.size_drew, World.size_alloc, World.size_setCell] at hz1
        have hq_0 : w.heap.size < w.heap.size + 1 + 1 := by omega
        have hq_1 : w.heap.size + 1 < w.heap.size + 1 + 1 := by omega
        have hl1_0 : w.heap.size < w1.heap.size := by omega
        have hl1_1 : w.heap.size + 1 < w1.heap.size := by omega
        rw [H_h8.out]
        go_wp2_with fail
        exact bodyPost_ret (v := .tuple #[.agg #[.int .i64 0, .slice none 0 0, .bool false], .int .u64 0, .bool false, .int .i64 38]) (by simp [results, Try.results13, go_sem, *]) rfl ⟨(ChRet4.zero _ _ 38).of H_he.out, (by repeat' (first | exact hb1 | refine Below.drew ?_ | refine Below.alloc ?_ (by have := hb1.size; first | (simp; done) | (simp; omega) | omega) _ | refine Below.setCell ?_ (by first | (simp; done) | (simp; omega) | omega) _))⟩
    | cons x r =>
      have he : ((⟨C, r, cl⟩ : ChS), x, true, (0 : Int)) = chRecv ⟨C, x :: r, cl⟩ := by simp [chRecv, h8]
      have H_he := hid he
      have H_h8 := hid h8
      clear he h8
      go_enter Try.func13, Try.ntmps13
      have hb0 := Below.refl w.heap.size w
      go_wp2_with fail
      refine (check_any C (x :: r) cl a cp _).mono ?_
      rintro e w1 ⟨rfl, hc1⟩
      have hb1 : Below w.heap.size w w1 := bchain (by repeat' (first | exact hb0 | refine Below.drew ?_ | refine Below.alloc ?_ (by have := hb0.size; first | (simp; done) | (simp; omega) | omega) _ | refine Below.setCell ?_ (by first | (simp; done) | (simp; omega) | omega) _)) hc1
      obtain ⟨hcell1, hfroz1⟩ := bcell hc1
      have hz1 := hc1.size
      try simp only [World.size_drew, World.size_alloc, World.size_setCell] at hz1
      have hq_0 : w.heap.size < w.heap.size + 1 + 1 := by omega
      have hq_1 : w.heap.size + 1 < w.heap.size + 1 + 1 := by omega
      have hl1_0 : w.heap.size < w1.heap.size := by omega
      have hl1_1 : w.heap.size + 1 < w1.heap.size := by omega
      rw [H_h8.out]
      go_wp2_with fail
      refine (twin_any C (x :: r) cl a cp _ (hc.later hb1) (by omega)).mono ?_
      rintro e w2 ⟨a', c', rfl, hown, hc2⟩
      have hb2 : Below w.heap.size w w2 := bchain (by repeat' (first | exact hb1 | refine Below.drew ?_ | refine Below.alloc ?_ (by have := hb1.size; first | (simp; done) | (simp; omega) | omega) _ | refine Below.setCell ?_ (by first | (simp; done) | (simp; omega) | omega) _)) hc2
      obtain ⟨hcell2, hfroz2⟩ := bcell hc2
      have hz2 := hc2.size
      have hl2_0 : w.heap.size < w2.heap.size := by omega
      have hl2_1 : w.heap.size + 1 < w2.heap.size := by omega
      obtain ⟨b, o, rfl, hrow⟩ := hown.cellsAt.int (by simp)
      have hx : w2.cell? ⟨b, o, none⟩ = some (.int .u64 x) := by simpa using hrow 0 (by simp)
      have hbl := World.block_lt_of_cell? _ _ hx
      simp only at hbl
      have hbne : b ≠ w2.heap.size := by omega
      have hcc : (1 : Int) ≤ (c' : Int) := by
        obtain ⟨_, _, hv, h, _⟩ := hown.cells
        cases hv
        simp at h
        omega
      have hne2 : b ≠ w.heap.size + 1 := by have := hown.lt b rfl; omega
      by_cases hc1' : c' = 1
      · obtain rfl : r = [] := by
          obtain ⟨_, _, hv, h, _⟩ := hown.cells
          cases hv
          simp at h
          exact List.eq_nil_of_length_eq_zero (by omega)
        go_wp2_with fail
        exact bodyPost_ret (v := .tuple #[.agg #[.int .i64 C, .slice (some ⟨b, o, none⟩) 0 (c' - 1), .bool cl], .int .u64 x, .bool true, .int .i64 0]) (by simp [results, Try.results13, go_sem, *]) rfl ⟨ChRet4.of ⟨_, _, rfl, .inl rfl, fun ad had => by cases had; have h1 := (hown.lt b rfl).1; have h2 := hb1.size; show w.heap.size ≤ b; omega⟩ H_he.out, (by repeat' (first | exact hb2 | refine Below.drew ?_ | refine Below.alloc ?_ (by have := hb2.size; first | (simp; done) | (simp; omega) | omega) _ | refine Below.setCell ?_ (by first | (simp; done) | (simp; omega) | omega) _))⟩
      · go_wp2_with fail
        refine bodyPost_ret (v := .tuple #[.agg #[.int .i64 C, .slice (some ⟨b, o + 1, none⟩) r.length (c' - 1), .bool cl], .int .u64 x, .bool true, .int .i64 0]) (by simp [results, Try.results13, go_sem, *]) rfl ⟨ChRet4.of ⟨_, _, rfl, ?_, fun ad had => by cases had; have h1 := (hown.lt b rfl).1; have h2 := hb1.size; show w.heap.size ≤ b; omega⟩ H_he.out, (by repeat' (first | exact hb2 | refine Below.drew ?_ | refine Below.alloc ?_ (by have := hb2.size; first | (simp; done) | (simp; omega) | omega) _ | refine Below.setCell ?_ (by first | (simp; done) | (simp; omega) | omega) _))⟩
        have hct := hown.cellsAt.tail
        exact (by repeat' (first | with_reducible exact hct | with_reducible refine CellsAt.setFar ?_ ?_ _ | with_reducible refine CellsAt.alloc ?_ _ | with_reducible refine CellsAt.drew ?_ | assumption | (simp; omega) | omega))
  · have he : (ChS.zero, (0 : Int), false, (8 : Int)) = chRecv ⟨C, xs, cl⟩ := by simp [chRecv, h8]
    have H_he := hid he
    have H_h8 := hid h8
    clear he h8
    go_enter Try.func13, Try.ntmps13
    have hb0 := Below.refl w.heap.size w
    go_wp2_with fail
    refine (check_any C xs cl a cp _).mono ?_
    rintro e w1 ⟨rfl, hc1⟩
    have hb1 : Below w.heap.size w w1 := bchain (by repeat' (first | exact hb0 | refine Below.drew ?_ | refine Below.alloc ?_ (by have := hb0.size; first | (simp; done) | (simp; omega) | omega) _ | refine Below.setCell ?_ (by first | (simp; done) | (simp; omega) | omega) _)) hc1
    obtain ⟨hcell1, hfroz1⟩ := bcell hc1
    have hz1 := hc1.size
    try simp only [World.size_drew, World.size_alloc, World.size_setCell] at hz1
    have hq_0 : w.heap.size < w.heap.size + 1 + 1 := by omega
    have hq_1 : w.heap.size + 1 < w.heap.size + 1 + 1 := by omega
    have hl1_0 : w.heap.size < w1.heap.size := by omega
    have hl1_1 : w.heap.size + 1 < w1.heap.size := by omega
    rw [H_h8.out]
    go_wp2_with fail
    exact bodyPost_ret (v := .tuple #[.agg #[.int .i64 0, .slice none 0 0, .bool false], .int .u64 0, .bool false, .int .i64 8]) (by simp [results, Try.results13, go_sem, *]) rfl ⟨(ChRet4.zero _ _ 8).of H_he.out, (by repeat' (first | exact hb1 | refine Below.drew ?_ | refine Below.alloc ?_ (by have := hb1.size; first | (simp; done) | (simp; omega) | omega) _ | refine Below.setCell ?_ (by first | (simp; done) | (simp; omega) | omega) _))⟩

set_option maxHeartbeats 400000 in
theorem close_any (C : Int) (xs : List Int) (cl : Bool) (a : Option Addr) (cp : Nat) (w : World) (hc : CellsAt w a (xs.map (Value.int .u64))) :
    Calls Try.prog 16 #[.agg #[.int .i64 C, .slice a xs.length cp, .bool cl]] w fun e w' =>
      ChRet w.heap.size w' e (chClose ⟨C, xs, cl⟩) ∧ Below w.heap.size w w' := by
  rcases chErr_cases ⟨C, xs, cl⟩ with h8 | h8
  · obtain ⟨b1, b2, b3⟩ := chErr_ok h8
    simp only at b1 b2 b3
    cases cl with
    | true =>
      have he : (ChS.zero, (34 : Int)) = chClose ⟨C, xs, true⟩ := by simp [chClose, h8]
      have H_he := hid he
      have H_h8 := hid h8
      clear he h8
      go_enter Try.func16, Try.ntmps16
      have hb0 := Below.refl w.heap.size w
      go_wp2_with fail
      refine (check_any C xs true a cp _).mono ?_
      rintro e w1 ⟨rfl, hc1⟩
      have hb1 : Below w.heap.size w w1 := bchain (by repeat' (first | exact hb0 | refine Below.drew ?_ | refine Below.alloc ?_ (by have := hb0.size; first | (simp; done) | (simp; omega) | omega) _ | refine Below.setCell ?_ (by first | (simp; done) | (simp; omega) | omega) _)) hc1
      obtain ⟨hcell1, hfroz1⟩ := bcell hc1
      have hz1 := hc1.size
      try simp only [World.size_drew, World.size_alloc, World.size_setCell] at hz1
      have hq_0 : w.heap.size < w.heap.size + 1 + 1 := by omega
      have hq_1 : w.heap.size + 1 < w.heap.size + 1 + 1 := by omega
      have hl1_0 : w.heap.size < w1.heap.size := by omega
      have hl1_1 : w.heap.size + 1 < w1.heap.size := by omega
      rw [H_h8.out]
      go_wp2_with fail
      exact bodyPost_ret (v := .tuple #[.agg #[.int .i64 0, .slice none 0 0, .bool false], .int .i64 34]) (by simp [results, Try.results16, go_sem, *]) rfl ⟨(ChRet.zero _ _ 34).of H_he.out, (by repeat' (first | exact hb1 | refine Below.drew ?_ | refine Below.alloc ?_ (by have := hb1.size; first | (simp; done) | (simp; omega) | omega) _ | refine Below.setCell ?_ (by first | (simp; done) | (simp; omega) | omega) _))⟩
    | false =>
      have he : (⟨C, xs, true⟩, (0 : Int)) = chClose ⟨C, xs, false⟩ := by simp [chClose, h8]
      have H_he := hid he
      have H_h8 := hid h8
      clear he h8
      go_enter Try.func16, Try.ntmps16
      have hb0 := Below.refl w.heap.size w
      go_wp2_with fail
      refine (check_any C xs false a cp _).mono ?_
      rintro e w1 ⟨rfl, hc1⟩
      have hb1 : Below w.heap.size w w1 := bchain (by repeat' (first | exact hb0 | refine Below.drew ?_ | refine Below.alloc ?_ (by have := hb0.size; first | (simp; done) | (simp; omega) | omega) _ | refine Below.setCell ?_ (by first | (simp; done) | (simp; omega) | omega) _)) hc1
      obtain ⟨hcell1, hfroz1⟩ := bcell hc1
      have hz1 := hc1.size
      try simp only [World.size_drew, World.size_alloc, World.size_setCell] at hz1
      have hq_0 : w.heap.size < w.heap.size + 1 + 1 := by omega
      have hq_1 : w.heap.size + 1 < w.heap.size + 1 + 1 := by omega
      have hl1_0 : w.heap.size < w1.heap.size := by omega
      have hl1_1 : w.heap.size + 1 < w1.heap.size := by omega
      rw [H_h8.out]
      go_wp2_with fail
      refine (twin_any C xs false a cp _ (hc.later hb1) (by omega)).mono ?_
      rintro e w2 ⟨a', c', rfl, hown, hc2⟩
      have hb2 : Below w.heap.size w w2 := bchain (by repeat' (first | exact hb1 | refine Below.drew ?_ | refine Below.alloc ?_ (by have := hb1.size; first | (simp; done) | (simp; omega) | omega) _ | refine Below.setCell ?_ (by first | (simp; done) | (simp; omega) | omega) _)) hc2
      obtain ⟨hcell2, hfroz2⟩ := bcell hc2
      have hz2 := hc2.size
      have hl2_0 : w.heap.size < w2.heap.size := by omega
      have hl2_1 : w.heap.size + 1 < w2.heap.size := by omega
      have hA := hown.addr
      have hct := hown.cellsAt
      go_wp2_with fail
      exact bodyPost_ret (v := .tuple #[.agg #[.int .i64 C, .slice a' xs.length c', .bool true], .int .i64 0]) (by simp [results, Try.results16, go_sem, *]) rfl ⟨ChRet.of ⟨_, _, rfl, (by repeat' (first | with_reducible exact hct | with_reducible refine CellsAt.setFarG ?_ ?_ _ | with_reducible refine CellsAt.alloc ?_ _ | with_reducible refine CellsAt.drew ?_ | (intro ad had; have hx := hA ad had; simp; omega))), fun ad had => by have h1 := (hA ad had).1; have h2 := hb1.size; omega⟩ H_he.out, (by repeat' (first | exact hb2 | refine Below.drew ?_ | refine Below.alloc ?_ (by have := hb2.size; first | (simp; done) | (simp; omega) | omega) _ | refine Below.setCell ?_ (by first | (simp; done) | (simp; omega) | omega) _))⟩
  · have he : (ChS.zero, (8 : Int)) = chClose ⟨C, xs, cl⟩ := by simp [chClose, h8]
    have H_he := hid he
    have H_h8 := hid h8
    clear he h8
    go_enter Try.func16, Try.ntmps16
    have hb0 := Below.refl w.heap.size w
    go_wp2_with fail
    refine (check_any C xs cl a cp _).mono ?_
    rintro e w1 ⟨rfl, hc1⟩
    have hb1 : Below w.heap.size w w1 := bchain (by repeat' (first | exact hb0 | refine Below.drew ?_ | refine Below.alloc ?_ (by have := hb0.size; first | (simp; done) | (simp; omega) | omega) _ | refine Below.setCell ?_ (by first | (simp; done) | (simp; omega) | omega) _)) hc1
    obtain ⟨hcell1, hfroz1⟩ := bcell hc1
    have hz1 := hc1.size
    try simp only [World.size_drew, World.size_alloc, World.size_setCell] at hz1
    have hq_0 : w.heap.size < w.heap.size + 1 + 1 := by omega
    have hq_1 : w.heap.size + 1 < w.heap.size + 1 + 1 := by omega
    have hl1_0 : w.heap.size < w1.heap.size := by omega
    have hl1_1 : w.heap.size + 1 < w1.heap.size := by omega
    rw [H_h8.out]
    go_wp2_with fail
    exact bodyPost_ret (v := .tuple #[.agg #[.int .i64 0, .slice none 0 0, .bool false], .int .i64 8]) (by simp [results, Try.results16, go_sem, *]) rfl ⟨(ChRet.zero _ _ 8).of H_he.out, (by repeat' (first | exact hb1 | refine Below.drew ?_ | refine Below.alloc ?_ (by have := hb1.size; first | (simp; done) | (simp; omega) | omega) _ | refine Below.setCell ?_ (by first | (simp; done) | (simp; omega) | omega) _))⟩

set_option maxHeartbeats 400000 in
theorem room_any (C : Int) (xs : List Int) (cl : Bool) (a : Option Addr) (cp : Nat) (w : World) :
    Calls Try.prog 18 #[.agg #[.int .i64 C, .slice a xs.length cp, .bool cl]] w fun e w' =>
      e = .returned (.tuple #[.int .i64 (chRoom ⟨C, xs, cl⟩).1, .int .i64 (chRoom ⟨C, xs, cl⟩).2]) ∧ Below w.heap.size w w' := by
  rcases chErr_cases ⟨C, xs, cl⟩ with h8 | h8
  · obtain ⟨b1, b2, b3⟩ := chErr_ok h8
    simp only at b1 b2 b3
    cases cl with
    | true =>
      have he : ((0 : Int), (0 : Int)) = chRoom ⟨C, xs, true⟩ := by simp [chRoom, h8]
      rw [← he]
      have H_h8 := hid h8
      clear h8
      clear he
      go_enter Try.func18, Try.ntmps18
      have hb0 := Below.refl w.heap.size w
      go_wp2_with fail
      refine (check_any C xs true a cp _).mono ?_
      rintro e w1 ⟨rfl, hc1⟩
      have hb1 : Below w.heap.size w w1 := bchain (by repeat' (first | exact hb0 | refine Below.drew ?_ | refine Below.alloc ?_ (by have := hb0.size; first | (simp; done) | (simp; omega) | omega) _ | refine Below.setCell ?_ (by first | (simp; done) | (simp; omega) | omega) _)) hc1
      obtain ⟨hcell1, hfroz1⟩ := bcell hc1
      have hz1 := hc1.size
      try simp only [World.size_drew, World.size_alloc, World.size_setCell] at hz1
      have hq_0 : w.heap.size < w.heap.size + 1 := by omega
      have hl1_0 : w.heap.size < w1.heap.size := by omega
      rw [H_h8.out]
      go_wp2_with fail
      go_ret2
      exact ⟨rfl, by repeat' (first | exact hb1 | refine Below.drew ?_ | refine Below.alloc ?_ (by have := hb1.size; first | (simp; done) | (simp; omega) | omega) _ | refine Below.setCell ?_ (by first | (simp; done) | (simp; omega) | omega) _)⟩
    | false =>
      have he : (C - xs.length, (0 : Int)) = chRoom ⟨C, xs, false⟩ := by simp [chRoom, h8]
      rw [← he]
      have H_h8 := hid h8
      clear h8
      clear he
      go_enter Try.func18, Try.ntmps18
      have hb0 := Below.refl w.heap.size w
      go_wp2_with fail
      refine (check_any C xs false a cp _).mono ?_
      rintro e w1 ⟨rfl, hc1⟩
      have hb1 : Below w.heap.size w w1 := bchain (by repeat' (first | exact hb0 | refine Below.drew ?_ | refine Below.alloc ?_ (by have := hb0.size; first | (simp; done) | (simp; omega) | omega) _ | refine Below.setCell ?_ (by first | (simp; done) | (simp; omega) | omega) _)) hc1
      obtain ⟨hcell1, hfroz1⟩ := bcell hc1
      have hz1 := hc1.size
      try simp only [World.size_drew, World.size_alloc, World.size_setCell] at hz1
      have hq_0 : w.heap.size < w.heap.size + 1 := by omega
      have hl1_0 : w.heap.size < w1.heap.size := by omega
      rw [H_h8.out]
      go_wp2_with fail
      go_ret2
      exact ⟨rfl, by repeat' (first | exact hb1 | refine Below.drew ?_ | refine Below.alloc ?_ (by have := hb1.size; first | (simp; done) | (simp; omega) | omega) _ | refine Below.setCell ?_ (by first | (simp; done) | (simp; omega) | omega) _)⟩
  · have he : ((0 : Int), (8 : Int)) = chRoom ⟨C, xs, cl⟩ := by simp [chRoom, h8]
    rw [← he]
    have H_h8 := hid h8
    clear h8
    clear he
    go_enter Try.func18, Try.ntmps18
    have hb0 := Below.refl w.heap.size w
    go_wp2_with fail
    refine (check_any C xs cl a cp _).mono ?_
    rintro e w1 ⟨rfl, hc1⟩
    have hb1 : Below w.heap.size w w1 := bchain (by repeat' (first | exact hb0 | refine Below.drew ?_ | refine Below.alloc ?_ (by have := hb0.size; first | (simp; done) | (simp; omega) | omega) _ | refine Below.setCell ?_ (by first | (simp; done) | (simp; omega) | omega) _)) hc1
    obtain ⟨hcell1, hfroz1⟩ := bcell hc1
    have hz1 := hc1.size
    try simp only [World.size_drew, World.size_alloc, World.size_setCell] at hz1
    have hq_0 : w.heap.size < w.heap.size + 1 := by omega
    have hl1_0 : w.heap.size < w1.heap.size := by omega
    rw [H_h8.out]
    go_wp2_with fail
    go_ret2
    exact ⟨rfl, by repeat' (first | exact hb1 | refine Below.drew ?_ | refine Below.alloc ?_ (by have := hb1.size; first | (simp; done) | (simp; omega) | omega) _ | refine Below.setCell ?_ (by first | (simp; done) | (simp; omega) | omega) _)⟩

end Go.Proofs.Yteajfhodfpjplaa
