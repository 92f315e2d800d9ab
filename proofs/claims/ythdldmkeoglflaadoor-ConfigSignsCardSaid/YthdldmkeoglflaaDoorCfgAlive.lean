/- The chapter's examples: alive. -/
import Derived.Test.YthdldmkeoglflaaDoorCfgText
namespace Go.Proofs.YthdldmkeoglflaaDoor
set_option linter.unusedSimpArgs false
set_option linter.unusedVariables false
set_option linter.unnecessarySimpa false
open Go.RowKit

set_option maxHeartbeats 1000000 in
theorem given_any (a : Option Addr) (n c : Nat) (w : World) :
    Calls Tryd.prog 18 #[.slice a n c] w fun e w' =>
      e = .returned (.agg #[.int .i64 2, .int .i64 2, .int .i64 2, .int .i64 2, .int .i64 2, .int .i64 2, .int .i64 2, .int .i64 2, .int .i64 2, .int .u32 5, .slice a n c]) ∧ Below w.heap.size w w' := by
  go_enter Tryd.func18, Tryd.ntmps18
  have hb0 := Below.refl w.heap.size w
  go_wp2_with fail
  refine bodyPost_ret (v := .agg #[.int .i64 2, .int .i64 2, .int .i64 2, .int .i64 2, .int .i64 2, .int .i64 2, .int .i64 2, .int .i64 2, .int .i64 2, .int .u32 5, .slice a n c]) (by simp [results, Tryd.results18, go_sem, *]) rfl ⟨rfl, (by repeat' (first | with_reducible exact hb0 | with_reducible refine Below.drew ?_ | with_reducible refine below_drewN ?_ _ | with_reducible refine Below.alloc ?_ (by have := hb0.size; first | (simp; done) | (simp; omega) | omega) _ | with_reducible refine Below.setCell ?_ (by first | (simp; done) | (simp; omega) | omega) _))⟩
def L2 : Lim := ⟨2, 2, 2, 2, 2, 2, 2, 2, 2⟩
theorem is_16 : isB 16 = true := isC 16 (by omega) (by omega) true (by decide +kernel)
theorem is_1024 : isB 1024 = true := isC 1024 (by omega) (by omega) true (by decide +kernel)
theorem pub_5 : pubK 5 = 1024 := by decide +kernel
theorem any_ok {n : ByteArray} {q : Int} (h1 : okN n = true) (h2 : isB q = true) : ([(n, q)].any fun p => !vP p) = false := by simp [vP, h1, h2]
theorem any_bad {n : ByteArray} {q : Int} (h2 : isB q = false) : ([(n, q)].any fun p => !vP p) = true := by simp [vP, h2]
theorem chk_1 : chkS ⟨2, 2, 2, 2, 2, 2, 2, 2, 2⟩ 5 [(⟨#[98]⟩, 16)] = 0 := chk_ok (by decide) (by decide) (by decide) (any_ok (by decide +kernel) is_16) (by decide) (by rw [pub_5]; decide)
theorem chk_2 : chkS ⟨2, 2, 2, 2, 2, 2, 2, 2, 2⟩ 5 [(⟨#[98]⟩, 1024)] = 14 := chk_dist (by decide) (by decide) (by decide) (any_ok (by decide +kernel) is_1024) (by decide) (by rw [pub_5]; decide)
theorem chk_3 : chkS ⟨2, 2, 2, 2, 2, 2, 2, 2, 2⟩ 5 [(⟨#[97]⟩, 1000000006)] = 8 := chk_bad (by decide) (by decide) (by decide) (any_bad is_m)
theorem cellsAt_two {w : World} {B : Nat} {u v : Value} (h0 : w.cell? ⟨B, 0, none⟩ = some u) (h1 : w.cell? ⟨B, 1, none⟩ = some v) : CellsAt w (some ⟨B, 0, none⟩) [u, v] :=
  .inr ⟨B, 0, rfl, fun j x hj => match j, hj with
    | 0, rfl => h0
    | 1, rfl => h1
    | j + 2, hj => by simp at hj⟩
theorem SIn.one (w : World) (b c : Nat) (n : ByteArray) (q : Int) (h0 : 0 ≤ q) (h4 : q < 4294967296) (hc : CellsAt w (some ⟨b, 0, none⟩) [.string n, .int .u32 q]) : SIn w 5 [(n, q)] (some ⟨b, 0, none⟩) :=
  ⟨by decide, by decide, hc, fun i hi => by
    obtain rfl : i = 0 := by simp at hi; omega
    exact ⟨h0, h4⟩, by simp⟩
set_option maxRecDepth 100000 in
set_option maxHeartbeats 8000000 in
theorem alive_any (w : World) (htab : ∀ W, Below w.heap.size w W → Lib.TabIs Tryd.prog W "internal/strconv.uint64pow10" .u64 Lib.pow10Tab) :
    Calls Tryd.prog 8 #[] w fun e w' =>
      e = .returned (.bool true) ∧ Below w.heap.size w w' := by
  obtain ⟨T, hT⟩ : ∃ T : ByteArray, (⟨(textL ⟨2, 2, 2, 2, 2, 2, 2, 2, 2⟩ 5 [(⟨#[98]⟩, 16)]).toArray⟩ : ByteArray) = T := ⟨_, rfl⟩
  have htx : ∀ W b c, Below w.heap.size w W → CellsAt W (some ⟨b, 0, none⟩) [.string ⟨#[98]⟩, .int .u32 16] → Calls Tryd.prog 10 #[.agg #[.int .i64 2, .int .i64 2, .int .i64 2, .int .i64 2, .int .i64 2, .int .i64 2, .int .i64 2, .int .i64 2, .int .i64 2, .int .u32 5, .slice (some ⟨b, 0, none⟩) 1 c]] W fun e w' => e = .returned (.tuple #[.string T, .int .i64 0]) ∧ Below W.heap.size W w' := fun W b c hb hc => by
    have := Text_any 2 2 2 2 2 2 2 2 2 5 [(⟨#[98]⟩, 16)] (some ⟨b, 0, none⟩) c W (SIn.one W b c _ _ (by omega) (by omega) hc) 0 chk_1 (fun W' hb' => htab W' (bchain hb hb'))
    unfold RetSI textR at this
    rw [if_pos rfl, hT] at this
    exact this
  have hpb : ∀ W b c, CellsAt W (some ⟨b, 0, none⟩) [.string ⟨#[98]⟩, .int .u32 16] → Calls Tryd.prog 23 #[.agg #[.int .i64 2, .int .i64 2, .int .i64 2, .int .i64 2, .int .i64 2, .int .i64 2, .int .i64 2, .int .i64 2, .int .i64 2, .int .u32 5, .slice (some ⟨b, 0, none⟩) 1 c]] W fun e w' => e = .returned (.tuple #[.int .u32 1024, .int .i64 0]) ∧ Below W.heap.size W w' := fun W b c hc => by
    have := Public_any 2 2 2 2 2 2 2 2 2 5 [(⟨#[98]⟩, 16)] (some ⟨b, 0, none⟩) c W (SIn.one W b c _ _ (by omega) (by omega) hc) 0 chk_1
    unfold pubR at this
    rw [if_pos rfl, pub_5] at this
    exact this
  have hc2 : ∀ W b c, CellsAt W (some ⟨b, 0, none⟩) [.string ⟨#[98]⟩, .int .u32 1024] → Calls Tryd.prog 11 #[.agg #[.int .i64 2, .int .i64 2, .int .i64 2, .int .i64 2, .int .i64 2, .int .i64 2, .int .i64 2, .int .i64 2, .int .i64 2, .int .u32 5, .slice (some ⟨b, 0, none⟩) 1 c]] W fun e w' => e = .returned (.int .i64 14) ∧ Below W.heap.size W w' := fun W b c hc => by
    have h := SIn.one W b c _ _ (by omega : (0 : Int) ≤ 1024) (by omega) hc
    have := Check_any 2 2 2 2 2 2 2 2 2 5 [(⟨#[98]⟩, 1024)] (some ⟨b, 0, none⟩) c W h.cells h.s0 h.s4 h.keys h.ml
    rw [chk_2] at this
    exact this
  have hc3 : ∀ W b c, CellsAt W (some ⟨b, 0, none⟩) [.string ⟨#[97]⟩, .int .u32 1000000006] → Calls Tryd.prog 11 #[.agg #[.int .i64 2, .int .i64 2, .int .i64 2, .int .i64 2, .int .i64 2, .int .i64 2, .int .i64 2, .int .i64 2, .int .i64 2, .int .u32 5, .slice (some ⟨b, 0, none⟩) 1 c]] W fun e w' => e = .returned (.int .i64 8) ∧ Below W.heap.size W w' := fun W b c hc => by
    have h := SIn.one W b c _ _ (by omega : (0 : Int) ≤ 1000000006) (by omega) hc
    have := Check_any 2 2 2 2 2 2 2 2 2 5 [(⟨#[97]⟩, 1000000006)] (some ⟨b, 0, none⟩) c W h.cells h.s0 h.s4 h.keys h.ml
    rw [chk_3] at this
    exact this
  have hTl : (T.toList == [119, 111, 114, 107, 101, 114, 115, 32, 50, 10, 115, 104, 97, 114, 100, 115, 32, 50, 10, 115, 116, 111, 114, 101, 32, 50, 10, 112, 101, 110, 100, 105, 110, 103, 32, 50, 10, 105, 110, 98, 111, 120, 32, 50, 10, 113, 117, 101, 117, 101, 32, 50, 10, 115, 117, 98, 115, 32, 50, 10, 115, 101, 115, 115, 105, 111, 110, 115, 32, 50, 10, 99, 97, 108, 108, 115, 32, 50, 10, 115, 101, 99, 114, 101, 116, 32, 53, 10, 112, 101, 101, 114, 32, 98, 32, 49, 54, 10]) = true := by
    rw [← hT, toList_d]
    decide +kernel
  have H_htx := Box.mk htx
  have H_hpb := Box.mk hpb
  have H_hc2 := Box.mk hc2
  have H_hc3 := Box.mk hc3
  have H_hT := Box.mk hT
  clear htx hpb hc2 hc3 hT
  go_enter Tryd.func8, Tryd.ntmps8
  have hb0 := Below.refl w.heap.size w
  go_wp2_with fail
  with_reducible refine (given_any (some ⟨w.heap.size, 0, none⟩) 1 1 _).mono ?_
  rintro e w1 ⟨rfl, hc1⟩
  have hb1 : Below w.heap.size w w1 := bchain (by repeat' (first | with_reducible exact hb0 | with_reducible refine Below.drew ?_ | with_reducible refine below_drewN ?_ _ | with_reducible refine Below.alloc ?_ (by have := hb0.size; first | (simp; done) | (simp; omega) | omega) _ | with_reducible refine Below.setCell ?_ (by first | (simp; done) | (simp; omega) | omega) _)) hc1
  have P_0 : w1.cell? ⟨w.heap.size, 0, none⟩ = some (.string ⟨#[98]⟩) := (hc1.cell (p := ⟨w.heap.size, 0, none⟩) (by first | (simp; done) | (simp; omega))).trans (by first | (simp; done) | go_simp)
  have P_1 : w1.cell? ⟨w.heap.size, 1, none⟩ = some (.int .u32 16) := (hc1.cell (p := ⟨w.heap.size, 1, none⟩) (by first | (simp; done) | (simp; omega))).trans (by first | (simp; done) | go_simp)
  have P_l : w.heap.size < w1.heap.size := Nat.lt_of_lt_of_le (by first | (simp; done) | (simp; omega)) hc1.size
  clear hc1 hb0
  have k1 := cellsAt_two P_0 P_1
  go_wp2_with fail
  with_reducible refine (H_htx.out _ _ _ (bchain hb1 ((Below.refl _ w1).alloc (Nat.le_refl _) _)) (k1.alloc _)).mono ?_
  rintro e w2 ⟨rfl, hc2⟩
  have hb2 : Below w.heap.size w w2 := bchain (by repeat' (first | with_reducible exact hb1 | with_reducible refine Below.drew ?_ | with_reducible refine below_drewN ?_ _ | with_reducible refine Below.alloc ?_ (by have := hb1.size; first | (simp; done) | (simp; omega) | omega) _ | with_reducible refine Below.setCell ?_ (by first | (simp; done) | (simp; omega) | omega) _)) hc2
  have hst2 : Below w1.heap.size w1 w2 := bchain (by repeat' (first | with_reducible exact Below.refl _ _ | with_reducible refine Below.drew ?_ | with_reducible refine below_drewN ?_ _ | with_reducible refine Below.alloc ?_ (by first | (simp; done) | (simp; omega) | omega) _ | with_reducible refine Below.setCell ?_ (by first | (simp; done) | (simp; omega) | omega) _)) hc2
  replace P_0 := cell_later hst2 P_0
  replace P_1 := cell_later hst2 P_1
  replace P_l := Nat.lt_of_lt_of_le P_l hst2.size
  have X_0 : w2.cell? ⟨w1.heap.size, 0, none⟩ = some (.int .i64 2) := (hc2.cell (p := ⟨w1.heap.size, 0, none⟩) (by first | (simp; done) | (simp; omega))).trans (by first | (simp; done) | go_simp)
  have X_1 : w2.cell? ⟨w1.heap.size, 1, none⟩ = some (.int .i64 2) := (hc2.cell (p := ⟨w1.heap.size, 1, none⟩) (by first | (simp; done) | (simp; omega))).trans (by first | (simp; done) | go_simp)
  have X_2 : w2.cell? ⟨w1.heap.size, 2, none⟩ = some (.int .i64 2) := (hc2.cell (p := ⟨w1.heap.size, 2, none⟩) (by first | (simp; done) | (simp; omega))).trans (by first | (simp; done) | go_simp)
  have X_3 : w2.cell? ⟨w1.heap.size, 3, none⟩ = some (.int .i64 2) := (hc2.cell (p := ⟨w1.heap.size, 3, none⟩) (by first | (simp; done) | (simp; omega))).trans (by first | (simp; done) | go_simp)
  have X_4 : w2.cell? ⟨w1.heap.size, 4, none⟩ = some (.int .i64 2) := (hc2.cell (p := ⟨w1.heap.size, 4, none⟩) (by first | (simp; done) | (simp; omega))).trans (by first | (simp; done) | go_simp)
  have X_5 : w2.cell? ⟨w1.heap.size, 5, none⟩ = some (.int .i64 2) := (hc2.cell (p := ⟨w1.heap.size, 5, none⟩) (by first | (simp; done) | (simp; omega))).trans (by first | (simp; done) | go_simp)
  have X_6 : w2.cell? ⟨w1.heap.size, 6, none⟩ = some (.int .i64 2) := (hc2.cell (p := ⟨w1.heap.size, 6, none⟩) (by first | (simp; done) | (simp; omega))).trans (by first | (simp; done) | go_simp)
  have X_7 : w2.cell? ⟨w1.heap.size, 7, none⟩ = some (.int .i64 2) := (hc2.cell (p := ⟨w1.heap.size, 7, none⟩) (by first | (simp; done) | (simp; omega))).trans (by first | (simp; done) | go_simp)
  have X_8 : w2.cell? ⟨w1.heap.size, 8, none⟩ = some (.int .i64 2) := (hc2.cell (p := ⟨w1.heap.size, 8, none⟩) (by first | (simp; done) | (simp; omega))).trans (by first | (simp; done) | go_simp)
  have X_9 : w2.cell? ⟨w1.heap.size, 9, none⟩ = some (.int .u32 5) := (hc2.cell (p := ⟨w1.heap.size, 9, none⟩) (by first | (simp; done) | (simp; omega))).trans (by first | (simp; done) | go_simp)
  have X_10 : w2.cell? ⟨w1.heap.size, 10, none⟩ = some (.slice (some ⟨w.heap.size, 0, none⟩) 1 1) := (hc2.cell (p := ⟨w1.heap.size, 10, none⟩) (by first | (simp; done) | (simp; omega))).trans (by first | (simp; done) | go_simp)
  have X_l : w1.heap.size < w2.heap.size := Nat.lt_of_lt_of_le (by first | (simp; done) | (simp; omega)) hc2.size
  replace k1 := k1.later hst2
  clear hst2
  clear hc2 hb1
  go_wp2_with fail
  with_reducible refine (H_hpb.out _ _ _ k1).mono ?_
  rintro e w3 ⟨rfl, hc3⟩
  have hb3 : Below w.heap.size w w3 := bchain (by repeat' (first | with_reducible exact hb2 | with_reducible refine Below.drew ?_ | with_reducible refine below_drewN ?_ _ | with_reducible refine Below.alloc ?_ (by have := hb2.size; first | (simp; done) | (simp; omega) | omega) _ | with_reducible refine Below.setCell ?_ (by first | (simp; done) | (simp; omega) | omega) _)) hc3
  have hst3 : Below w2.heap.size w2 w3 := bchain (by repeat' (first | with_reducible exact Below.refl _ _ | with_reducible refine Below.drew ?_ | with_reducible refine below_drewN ?_ _ | with_reducible refine Below.alloc ?_ (by first | (simp; done) | (simp; omega) | omega) _ | with_reducible refine Below.setCell ?_ (by first | (simp; done) | (simp; omega) | omega) _)) hc3
  replace P_0 := cell_later hst3 P_0
  replace P_1 := cell_later hst3 P_1
  replace P_l := Nat.lt_of_lt_of_le P_l hst3.size
  replace X_0 := cell_later hst3 X_0
  replace X_1 := cell_later hst3 X_1
  replace X_2 := cell_later hst3 X_2
  replace X_3 := cell_later hst3 X_3
  replace X_4 := cell_later hst3 X_4
  replace X_5 := cell_later hst3 X_5
  replace X_6 := cell_later hst3 X_6
  replace X_7 := cell_later hst3 X_7
  replace X_8 := cell_later hst3 X_8
  replace X_9 := cell_later hst3 X_9
  replace X_10 := cell_later hst3 X_10
  replace X_l := Nat.lt_of_lt_of_le X_l hst3.size
  replace k1 := k1.later hst3
  clear hst3
  clear hc3 hb2
  go_wp2_with fail
  with_reducible refine (given_any (some ⟨w3.heap.size, 0, none⟩) 1 1 _).mono ?_
  rintro e w4 ⟨rfl, hc4⟩
  have hb4 : Below w.heap.size w w4 := bchain (by repeat' (first | with_reducible exact hb3 | with_reducible refine Below.drew ?_ | with_reducible refine below_drewN ?_ _ | with_reducible refine Below.alloc ?_ (by have := hb3.size; first | (simp; done) | (simp; omega) | omega) _ | with_reducible refine Below.setCell ?_ (by first | (simp; done) | (simp; omega) | omega) _)) hc4
  have hst4 : Below w3.heap.size w3 w4 := bchain (by repeat' (first | with_reducible exact Below.refl _ _ | with_reducible refine Below.drew ?_ | with_reducible refine below_drewN ?_ _ | with_reducible refine Below.alloc ?_ (by first | (simp; done) | (simp; omega) | omega) _ | with_reducible refine Below.setCell ?_ (by first | (simp; done) | (simp; omega) | omega) _)) hc4
  replace P_0 := cell_later hst4 P_0
  replace P_1 := cell_later hst4 P_1
  replace P_l := Nat.lt_of_lt_of_le P_l hst4.size
  replace X_0 := cell_later hst4 X_0
  replace X_1 := cell_later hst4 X_1
  replace X_2 := cell_later hst4 X_2
  replace X_3 := cell_later hst4 X_3
  replace X_4 := cell_later hst4 X_4
  replace X_5 := cell_later hst4 X_5
  replace X_6 := cell_later hst4 X_6
  replace X_7 := cell_later hst4 X_7
  replace X_8 := cell_later hst4 X_8
  replace X_9 := cell_later hst4 X_9
  replace X_10 := cell_later hst4 X_10
  replace X_l := Nat.lt_of_lt_of_le X_l hst4.size
  have P2_0 : w4.cell? ⟨w3.heap.size, 0, none⟩ = some (.string ⟨#[98]⟩) := (hc4.cell (p := ⟨w3.heap.size, 0, none⟩) (by first | (simp; done) | (simp; omega))).trans (by first | (simp; done) | go_simp)
  have P2_1 : w4.cell? ⟨w3.heap.size, 1, none⟩ = some (.int .u32 1024) := (hc4.cell (p := ⟨w3.heap.size, 1, none⟩) (by first | (simp; done) | (simp; omega))).trans (by first | (simp; done) | go_simp)
  have P2_l : w3.heap.size < w4.heap.size := Nat.lt_of_lt_of_le (by first | (simp; done) | (simp; omega)) hc4.size
  replace k1 := k1.later hst4
  clear hst4
  clear hc4 hb3
  have k2 := cellsAt_two P2_0 P2_1
  go_wp2_with fail
  with_reducible refine (H_hc2.out _ _ _ k2).mono ?_
  rintro e w5 ⟨rfl, hc5⟩
  have hb5 : Below w.heap.size w w5 := bchain (by repeat' (first | with_reducible exact hb4 | with_reducible refine Below.drew ?_ | with_reducible refine below_drewN ?_ _ | with_reducible refine Below.alloc ?_ (by have := hb4.size; first | (simp; done) | (simp; omega) | omega) _ | with_reducible refine Below.setCell ?_ (by first | (simp; done) | (simp; omega) | omega) _)) hc5
  have hst5 : Below w4.heap.size w4 w5 := bchain (by repeat' (first | with_reducible exact Below.refl _ _ | with_reducible refine Below.drew ?_ | with_reducible refine below_drewN ?_ _ | with_reducible refine Below.alloc ?_ (by first | (simp; done) | (simp; omega) | omega) _ | with_reducible refine Below.setCell ?_ (by first | (simp; done) | (simp; omega) | omega) _)) hc5
  replace P_0 := cell_later hst5 P_0
  replace P_1 := cell_later hst5 P_1
  replace P_l := Nat.lt_of_lt_of_le P_l hst5.size
  replace X_0 := cell_later hst5 X_0
  replace X_1 := cell_later hst5 X_1
  replace X_2 := cell_later hst5 X_2
  replace X_3 := cell_later hst5 X_3
  replace X_4 := cell_later hst5 X_4
  replace X_5 := cell_later hst5 X_5
  replace X_6 := cell_later hst5 X_6
  replace X_7 := cell_later hst5 X_7
  replace X_8 := cell_later hst5 X_8
  replace X_9 := cell_later hst5 X_9
  replace X_10 := cell_later hst5 X_10
  replace X_l := Nat.lt_of_lt_of_le X_l hst5.size
  replace P2_0 := cell_later hst5 P2_0
  replace P2_1 := cell_later hst5 P2_1
  replace P2_l := Nat.lt_of_lt_of_le P2_l hst5.size
  replace k1 := k1.later hst5
  clear hst5
  clear hc5 hb4
  go_wp2_with fail
  with_reducible refine (given_any (some ⟨w5.heap.size, 0, none⟩) 1 1 _).mono ?_
  rintro e w6 ⟨rfl, hc6⟩
  have hb6 : Below w.heap.size w w6 := bchain (by repeat' (first | with_reducible exact hb5 | with_reducible refine Below.drew ?_ | with_reducible refine below_drewN ?_ _ | with_reducible refine Below.alloc ?_ (by have := hb5.size; first | (simp; done) | (simp; omega) | omega) _ | with_reducible refine Below.setCell ?_ (by first | (simp; done) | (simp; omega) | omega) _)) hc6
  have hst6 : Below w5.heap.size w5 w6 := bchain (by repeat' (first | with_reducible exact Below.refl _ _ | with_reducible refine Below.drew ?_ | with_reducible refine below_drewN ?_ _ | with_reducible refine Below.alloc ?_ (by first | (simp; done) | (simp; omega) | omega) _ | with_reducible refine Below.setCell ?_ (by first | (simp; done) | (simp; omega) | omega) _)) hc6
  replace P_0 := cell_later hst6 P_0
  replace P_1 := cell_later hst6 P_1
  replace P_l := Nat.lt_of_lt_of_le P_l hst6.size
  replace X_0 := cell_later hst6 X_0
  replace X_1 := cell_later hst6 X_1
  replace X_2 := cell_later hst6 X_2
  replace X_3 := cell_later hst6 X_3
  replace X_4 := cell_later hst6 X_4
  replace X_5 := cell_later hst6 X_5
  replace X_6 := cell_later hst6 X_6
  replace X_7 := cell_later hst6 X_7
  replace X_8 := cell_later hst6 X_8
  replace X_9 := cell_later hst6 X_9
  replace X_10 := cell_later hst6 X_10
  replace X_l := Nat.lt_of_lt_of_le X_l hst6.size
  replace P2_0 := cell_later hst6 P2_0
  replace P2_1 := cell_later hst6 P2_1
  replace P2_l := Nat.lt_of_lt_of_le P2_l hst6.size
  have P3_0 : w6.cell? ⟨w5.heap.size, 0, none⟩ = some (.string ⟨#[97]⟩) := (hc6.cell (p := ⟨w5.heap.size, 0, none⟩) (by first | (simp; done) | (simp; omega))).trans (by first | (simp; done) | go_simp)
  have P3_1 : w6.cell? ⟨w5.heap.size, 1, none⟩ = some (.int .u32 1000000006) := (hc6.cell (p := ⟨w5.heap.size, 1, none⟩) (by first | (simp; done) | (simp; omega))).trans (by first | (simp; done) | go_simp)
  have P3_l : w5.heap.size < w6.heap.size := Nat.lt_of_lt_of_le (by first | (simp; done) | (simp; omega)) hc6.size
  replace k1 := k1.later hst6
  clear hst6
  clear hc6 hb5
  have k3 := cellsAt_two P3_0 P3_1
  go_wp2_with fail
  with_reducible refine (H_hc3.out _ _ _ k3).mono ?_
  rintro e w7 ⟨rfl, hc7⟩
  have hb7 : Below w.heap.size w w7 := bchain (by repeat' (first | with_reducible exact hb6 | with_reducible refine Below.drew ?_ | with_reducible refine below_drewN ?_ _ | with_reducible refine Below.alloc ?_ (by have := hb6.size; first | (simp; done) | (simp; omega) | omega) _ | with_reducible refine Below.setCell ?_ (by first | (simp; done) | (simp; omega) | omega) _)) hc7
  have hst7 : Below w6.heap.size w6 w7 := bchain (by repeat' (first | with_reducible exact Below.refl _ _ | with_reducible refine Below.drew ?_ | with_reducible refine below_drewN ?_ _ | with_reducible refine Below.alloc ?_ (by first | (simp; done) | (simp; omega) | omega) _ | with_reducible refine Below.setCell ?_ (by first | (simp; done) | (simp; omega) | omega) _)) hc7
  replace P_0 := cell_later hst7 P_0
  replace P_1 := cell_later hst7 P_1
  replace P_l := Nat.lt_of_lt_of_le P_l hst7.size
  replace X_0 := cell_later hst7 X_0
  replace X_1 := cell_later hst7 X_1
  replace X_2 := cell_later hst7 X_2
  replace X_3 := cell_later hst7 X_3
  replace X_4 := cell_later hst7 X_4
  replace X_5 := cell_later hst7 X_5
  replace X_6 := cell_later hst7 X_6
  replace X_7 := cell_later hst7 X_7
  replace X_8 := cell_later hst7 X_8
  replace X_9 := cell_later hst7 X_9
  replace X_10 := cell_later hst7 X_10
  replace X_l := Nat.lt_of_lt_of_le X_l hst7.size
  replace P2_0 := cell_later hst7 P2_0
  replace P2_1 := cell_later hst7 P2_1
  replace P2_l := Nat.lt_of_lt_of_le P2_l hst7.size
  replace P3_0 := cell_later hst7 P3_0
  replace P3_1 := cell_later hst7 P3_1
  replace P3_l := Nat.lt_of_lt_of_le P3_l hst7.size
  replace k1 := k1.later hst7
  clear hst7
  clear hc7 hb6
  go_wp2_with fail
  go_ret
  exact ⟨rfl, (by repeat' (first | with_reducible exact hb7 | with_reducible refine Below.drew ?_ | with_reducible refine below_drewN ?_ _ | with_reducible refine Below.alloc ?_ (by have := hb7.size; first | (simp; done) | (simp; omega) | omega) _ | with_reducible refine Below.setCell ?_ (by first | (simp; done) | (simp; omega) | omega) _))⟩
end Go.Proofs.YthdldmkeoglflaaDoor
