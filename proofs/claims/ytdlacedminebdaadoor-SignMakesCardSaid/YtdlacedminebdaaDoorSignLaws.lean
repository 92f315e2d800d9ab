/- The laws SignVerifies and SignMakes return true. -/
import Derived.Test.YtdlacedminebdaaDoorSignRefs
namespace Go.Proofs.YtdlacedminebdaaDoor
set_option linter.unusedSimpArgs false
set_option linter.unusedVariables false
set_option linter.unnecessarySimpa false
open Go.RowKit

set_option maxRecDepth 100000 in
set_option maxHeartbeats 1000000 in
theorem verifies_skip (y E S : Int) (a : Option Addr) (n c : Nat) (w : World) (h : (1000 < n ∧ n ≤ 9991) ∨ 11000 < n) :
    Calls Tryd.prog 3 #[.int .u32 y, .slice a n c, .agg #[.int .u32 E, .int .u32 S]] w fun e w' =>
      e = .returned (.bool true) ∧ Below w.heap.size w w' := by
  rcases h with ⟨h1, h2⟩ | h3
  · have h1I : (1000 : Int) < (n : Int) := by omega
    have h2I : (n : Int) ≤ 9991 := by omega
    go_enter Tryd.func3, Tryd.ntmps3
    have hb0 := Below.refl w.heap.size w
    go_wp2_with fail
    go_ret
    exact ⟨rfl, by repeat' (first | with_reducible exact hb0 | with_reducible refine Below.drew ?_ | with_reducible refine below_drewN ?_ _ | with_reducible refine Below.alloc ?_ (by have := hb0.size; first | (simp; done) | (simp; omega) | omega) _ | with_reducible refine Below.setCell ?_ (by first | (simp; done) | (simp; omega) | omega) _)⟩
  · have h1I : (1000 : Int) < (n : Int) := by omega
    have h2I : (9991 : Int) < (n : Int) := by omega
    have h3I : (11000 : Int) < (n : Int) := by omega
    go_enter Tryd.func3, Tryd.ntmps3
    have hb0 := Below.refl w.heap.size w
    go_wp2_with fail
    go_ret
    exact ⟨rfl, by repeat' (first | with_reducible exact hb0 | with_reducible refine Below.drew ?_ | with_reducible refine below_drewN ?_ _ | with_reducible refine Below.alloc ?_ (by have := hb0.size; first | (simp; done) | (simp; omega) | omega) _ | with_reducible refine Below.setCell ?_ (by first | (simp; done) | (simp; omega) | omega) _)⟩

set_option maxRecDepth 100000 in
set_option maxHeartbeats 1000000 in
theorem verifies_go (y E S : Int) (bs : List Int) (a : Option Addr) (n c : Nat) (w : World) (y0 : 0 ≤ y) (y4 : y < 4294967296) (hE0 : 0 ≤ E) (hE4 : E < 4294967296) (hS0 : 0 ≤ S) (hS4 : S < 4294967296) (hm : MsgIn w a n bs) (hT : TabK w) (h : n ≤ 1000 ∨ (9991 < n ∧ n ≤ 11000)) :
    Calls Tryd.prog 3 #[.int .u32 y, .slice a n c, .agg #[.int .u32 E, .int .u32 S]] w fun e w' =>
      e = .returned (.bool true) ∧ Below w.heap.size w w' := by
  obtain ⟨z, hz⟩ : ∃ z, verZ y E S bs = z := ⟨_, rfl⟩
  have q1 := fun W (hm : MsgIn W a n bs) hT => hz ▸ verify_all y E S bs a n c W y0 y4 hE0 hS0 hm hT
  have q2 := fun W (hm : MsgIn W a n bs) => hz ▸ rverify_all y E S bs a n c W y0 y4 hE0 hE4 hS0 hS4 hm
  have H_hz := Box.mk hz
  have H_q1 := Box.mk q1
  have H_q2 := Box.mk q2
  have H_hm := Box.mk hm
  have H_hT := Box.mk hT
  clear hz q1 q2 hm hT
  rcases h with h1 | ⟨h2, h3⟩
  · have h1I : (n : Int) ≤ 1000 := by omega
    have h3I : (n : Int) ≤ 11000 := by omega
    go_enter Tryd.func3, Tryd.ntmps3
    have hb0 := Below.refl w.heap.size w
    go_wp2_with fail
    refine wp_gen fun w1 hc1 => ?_
    have hb1 : Below w.heap.size w w1 := bchain (by repeat' (first | with_reducible exact hb0 | with_reducible refine Below.drew ?_ | with_reducible refine below_drewN ?_ _ | with_reducible refine Below.alloc ?_ (by have := hb0.size; first | (simp; done) | (simp; omega) | omega) _ | with_reducible refine Below.setCell ?_ (by first | (simp; done) | (simp; omega) | omega) _)) hc1
    have O_0 : w1.cell? ⟨w.heap.size, 0, none⟩ = some (.int .u32 E) := (hc1.cell (p := ⟨w.heap.size, 0, none⟩) (by first | (simp; done) | (simp; omega))).trans (by first | (simp; done) | go_simp)
    have O_1 : w1.cell? ⟨w.heap.size, 1, none⟩ = some (.int .u32 S) := (hc1.cell (p := ⟨w.heap.size, 1, none⟩) (by first | (simp; done) | (simp; omega))).trans (by first | (simp; done) | go_simp)
    have O_l : w.heap.size < w1.heap.size := Nat.lt_of_lt_of_le (by first | (simp; done) | (simp; omega)) hc1.size
    have KO_0 := cell_on O_0
    have KO_1 := cell_on O_1
    have H_hmA := Box.mk (H_hm.out.later hb1)
    have H_hTA := Box.mk (H_hT.out.later hb1)
    refine wp_region_on (by kernel_rfl) (by kernel_rfl) ?_
    repeat (go_big_quiet_step ((first | (go_at_call 10; with_reducible exact calls_on (H_q1.out _ (H_hmA.out.on _) (H_hTA.out.on _))) | (go_at_call 11; with_reducible exact calls_on (H_q2.out _ (H_hmA.out.on _))))))
    refine wpQuiet_nil ?_
    intro w2 hc2
    clear KO_0 KO_1
    have hb2 : Below w.heap.size w w2 := bchain (by repeat' (first | with_reducible exact hb1 | with_reducible refine Below.drew ?_ | with_reducible refine below_drewN ?_ _ | with_reducible refine Below.alloc ?_ (by have := hb1.size; first | (simp; done) | (simp; omega) | omega) _ | with_reducible refine Below.setCell ?_ (by first | (simp; done) | (simp; omega) | omega) _)) hc2
    have hst2 : Below w1.heap.size w1 w2 := bchain (by repeat' (first | with_reducible exact Below.refl _ _ | with_reducible refine Below.drew ?_ | with_reducible refine below_drewN ?_ _ | with_reducible refine Below.alloc ?_ (by first | (simp; done) | (simp; omega) | omega) _ | with_reducible refine Below.setCell ?_ (by first | (simp; done) | (simp; omega) | omega) _)) hc2
    replace O_0 := cell_later hst2 O_0
    replace O_1 := cell_later hst2 O_1
    replace O_l := Nat.lt_of_lt_of_le O_l hst2.size
    clear hst2
    go_wp2_with fail
    go_ret
    exact ⟨rfl, by repeat' (first | with_reducible exact hb2 | with_reducible refine Below.drew ?_ | with_reducible refine below_drewN ?_ _ | with_reducible refine Below.alloc ?_ (by have := hb2.size; first | (simp; done) | (simp; omega) | omega) _ | with_reducible refine Below.setCell ?_ (by first | (simp; done) | (simp; omega) | omega) _)⟩
  · have h1I : (1000 : Int) < (n : Int) := by omega
    have h2I : (9991 : Int) < (n : Int) := by omega
    have h3I : (n : Int) ≤ 11000 := by omega
    go_enter Tryd.func3, Tryd.ntmps3
    have hb0 := Below.refl w.heap.size w
    go_wp2_with fail
    refine wp_gen fun w1 hc1 => ?_
    have hb1 : Below w.heap.size w w1 := bchain (by repeat' (first | with_reducible exact hb0 | with_reducible refine Below.drew ?_ | with_reducible refine below_drewN ?_ _ | with_reducible refine Below.alloc ?_ (by have := hb0.size; first | (simp; done) | (simp; omega) | omega) _ | with_reducible refine Below.setCell ?_ (by first | (simp; done) | (simp; omega) | omega) _)) hc1
    have O_0 : w1.cell? ⟨w.heap.size, 0, none⟩ = some (.int .u32 E) := (hc1.cell (p := ⟨w.heap.size, 0, none⟩) (by first | (simp; done) | (simp; omega))).trans (by first | (simp; done) | go_simp)
    have O_1 : w1.cell? ⟨w.heap.size, 1, none⟩ = some (.int .u32 S) := (hc1.cell (p := ⟨w.heap.size, 1, none⟩) (by first | (simp; done) | (simp; omega))).trans (by first | (simp; done) | go_simp)
    have O_l : w.heap.size < w1.heap.size := Nat.lt_of_lt_of_le (by first | (simp; done) | (simp; omega)) hc1.size
    have KO_0 := cell_on O_0
    have KO_1 := cell_on O_1
    have H_hmA := Box.mk (H_hm.out.later hb1)
    have H_hTA := Box.mk (H_hT.out.later hb1)
    refine wp_region_on (by kernel_rfl) (by kernel_rfl) ?_
    repeat (go_big_quiet_step ((first | (go_at_call 10; with_reducible exact calls_on (H_q1.out _ (H_hmA.out.on _) (H_hTA.out.on _))) | (go_at_call 11; with_reducible exact calls_on (H_q2.out _ (H_hmA.out.on _))))))
    refine wpQuiet_nil ?_
    intro w2 hc2
    clear KO_0 KO_1
    have hb2 : Below w.heap.size w w2 := bchain (by repeat' (first | with_reducible exact hb1 | with_reducible refine Below.drew ?_ | with_reducible refine below_drewN ?_ _ | with_reducible refine Below.alloc ?_ (by have := hb1.size; first | (simp; done) | (simp; omega) | omega) _ | with_reducible refine Below.setCell ?_ (by first | (simp; done) | (simp; omega) | omega) _)) hc2
    have hst2 : Below w1.heap.size w1 w2 := bchain (by repeat' (first | with_reducible exact Below.refl _ _ | with_reducible refine Below.drew ?_ | with_reducible refine below_drewN ?_ _ | with_reducible refine Below.alloc ?_ (by first | (simp; done) | (simp; omega) | omega) _ | with_reducible refine Below.setCell ?_ (by first | (simp; done) | (simp; omega) | omega) _)) hc2
    replace O_0 := cell_later hst2 O_0
    replace O_1 := cell_later hst2 O_1
    replace O_l := Nat.lt_of_lt_of_le O_l hst2.size
    clear hst2
    go_wp2_with fail
    go_ret
    exact ⟨rfl, by repeat' (first | with_reducible exact hb2 | with_reducible refine Below.drew ?_ | with_reducible refine below_drewN ?_ _ | with_reducible refine Below.alloc ?_ (by have := hb2.size; first | (simp; done) | (simp; omega) | omega) _ | with_reducible refine Below.setCell ?_ (by first | (simp; done) | (simp; omega) | omega) _)⟩

/-- SignVerifies returns true. -/
theorem verifies_full (y : Int) (bs : List Int) (a : Option Addr) (c : Nat) (E S : Int) (w : World) (hy : (Lit.int .u32 y).wf = true) (hb : BytesIn w a bs) (hs : SigIn E S)
    (hK : CellsAt w (some ⟨0, 0, none⟩) (kcs.map (Value.int .u32)) ∧ 0 < w.heap.size) :
    Calls Tryd.prog 3 #[.int .u32 y, .slice a bs.length c, .agg #[.int .u32 E, .int .u32 S]] w fun e w' =>
      e = .returned (.bool true) ∧ Below w.heap.size w w' := by
  have h1 := bd_u32 hy
  have h2 := bd_u32 hs.e
  have h3 := bd_u32 hs.s
  by_cases h : (1000 < bs.length ∧ bs.length ≤ 9991) ∨ 11000 < bs.length
  · exact verifies_skip y E S a _ c w h
  · exact verifies_go y E S bs a _ c w h1.1 h1.2 h2.1 h2.2 h3.1 h3.2 hb.msg ⟨hK.1, hK.2⟩ (by omega)

set_option maxRecDepth 100000 in
set_option maxHeartbeats 1000000 in
theorem makes_skip (s r y : Int) (a : Option Addr) (n c : Nat) (w : World) (h : (1000 < n ∧ n ≤ 9991) ∨ 11000 < n) :
    Calls Tryd.prog 4 #[.int .u32 s, .int .u32 r, .int .u32 y, .slice a n c] w fun e w' =>
      e = .returned (.bool true) ∧ Below w.heap.size w w' := by
  rcases h with ⟨h1, h2⟩ | h3
  · have h1I : (1000 : Int) < (n : Int) := by omega
    have h2I : (n : Int) ≤ 9991 := by omega
    go_enter Tryd.func4, Tryd.ntmps4
    have hb0 := Below.refl w.heap.size w
    go_wp2_with fail
    go_ret
    exact ⟨rfl, by repeat' (first | with_reducible exact hb0 | with_reducible refine Below.drew ?_ | with_reducible refine below_drewN ?_ _ | with_reducible refine Below.alloc ?_ (by have := hb0.size; first | (simp; done) | (simp; omega) | omega) _ | with_reducible refine Below.setCell ?_ (by first | (simp; done) | (simp; omega) | omega) _)⟩
  · have h1I : (1000 : Int) < (n : Int) := by omega
    have h2I : (9991 : Int) < (n : Int) := by omega
    have h3I : (11000 : Int) < (n : Int) := by omega
    go_enter Tryd.func4, Tryd.ntmps4
    have hb0 := Below.refl w.heap.size w
    go_wp2_with fail
    go_ret
    exact ⟨rfl, by repeat' (first | with_reducible exact hb0 | with_reducible refine Below.drew ?_ | with_reducible refine below_drewN ?_ _ | with_reducible refine Below.alloc ?_ (by have := hb0.size; first | (simp; done) | (simp; omega) | omega) _ | with_reducible refine Below.setCell ?_ (by first | (simp; done) | (simp; omega) | omega) _)⟩

set_option maxRecDepth 100000 in
set_option maxHeartbeats 1000000 in
theorem makes_go (s r y : Int) (bs : List Int) (a : Option Addr) (n c : Nat) (w : World) (s0 : 0 ≤ s) (s4 : s < 4294967296) (r0 : 0 ≤ r) (r4 : r < 4294967296) (y0 : 0 ≤ y) (y4 : y < 4294967296) (hm : MsgIn w a n bs) (hT : TabK w) (h : n ≤ 1000 ∨ (9991 < n ∧ n ≤ 11000)) :
    Calls Tryd.prog 4 #[.int .u32 s, .int .u32 r, .int .u32 y, .slice a n c] w fun e w' =>
      e = .returned (.bool true) ∧ Below w.heap.size w w' := by
  obtain ⟨i0, hi, hz0, hz1, hz2⟩ := info_parts info_u8
  obtain ⟨p1, p2, hp⟩ : ∃ p1 p2, pubZ s = (p1, p2) := ⟨_, _, rfl⟩
  obtain ⟨k1, k2, hk⟩ : ∃ k1 k2, nonZ s bs = (k1, k2) := ⟨_, _, rfl⟩
  obtain ⟨d1, d2, hd⟩ : ∃ d1 d2, chaZ r y bs = (d1, d2) := ⟨_, _, rfl⟩
  obtain ⟨E, S, g, hg⟩ : ∃ E S g, sgnZ s bs = (E, S, g) := ⟨_, _, _, rfl⟩
  obtain ⟨z, hz⟩ : ∃ z, chkZ s = z := ⟨_, rfl⟩
  have hn : n ≤ 140737488355328 := by omega
  have q1 : ∀ W, Calls Tryd.prog 12 #[.int .u32 s] W fun e w' => e = .returned (.tuple #[.int .u32 p1, .int .i64 p2]) ∧ Below W.heap.size W w' := fun W => by have := public_any s W s0 s4; rw [hp] at this; exact this
  have q2 : ∀ W, Calls Tryd.prog 13 #[.int .u32 s] W fun e w' => e = .returned (.tuple #[.int .u32 p1, .int .i64 p2]) ∧ Below W.heap.size W w' := fun W => by have := rpublic_any s W s0 s4; rw [hp] at this; exact this
  have q3 : ∀ W, MsgIn W a n bs → TabK W → Calls Tryd.prog 14 #[.int .u32 s, .slice a n c] W fun e w' => e = .returned (.tuple #[.int .u32 k1, .int .i64 k2]) ∧ Below W.heap.size W w' := fun W h1 h2 => by have := nonce_all s bs a n c W s0 s4 h1 hn h2; rw [hk] at this; exact this
  have q4 : ∀ W, MsgIn W a n bs → Calls Tryd.prog 15 #[.int .u32 s, .slice a n c] W fun e w' => e = .returned (.tuple #[.int .u32 k1, .int .i64 k2]) ∧ Below W.heap.size W w' := fun W h1 => by have := rnonce_all s bs a n c W s0 s4 h1; rw [hk] at this; exact this
  have q5 : ∀ W, MsgIn W a n bs → TabK W → Calls Tryd.prog 16 #[.int .u32 r, .int .u32 y, .slice a n c] W fun e w' => e = .returned (.tuple #[.int .u32 d1, .int .i64 d2]) ∧ Below W.heap.size W w' := fun W h1 h2 => by have := challenge_all r y bs a n c W r0 r4 y0 y4 h1 hn h2; rw [hd] at this; exact this
  have q6 : ∀ W, MsgIn W a n bs → Calls Tryd.prog 17 #[.int .u32 r, .int .u32 y, .slice a n c] W fun e w' => e = .returned (.tuple #[.int .u32 d1, .int .i64 d2]) ∧ Below W.heap.size W w' := fun W h1 => by have := rchallenge_all r y bs a n c W r0 r4 y0 y4 h1; rw [hd] at this; exact this
  have q7 : ∀ W, MsgIn W a n bs → TabK W → Calls Tryd.prog 18 #[.int .u32 s, .slice a n c] W fun e w' => e = .returned (.tuple #[.agg #[.int .u32 E, .int .u32 S], .int .i64 g]) ∧ Below W.heap.size W w' := fun W h1 h2 => by have := sign_all s bs a n c W s0 s4 h1 hn h2; rw [hg] at this; exact this
  have q8 : ∀ W, MsgIn W a n bs → Calls Tryd.prog 19 #[.int .u32 s, .slice a n c] W fun e w' => e = .returned (.tuple #[.agg #[.int .u32 E, .int .u32 S], .int .i64 g]) ∧ Below W.heap.size W w' := fun W h1 => by have := rsign_all s bs a n c W s0 s4 h1; rw [hg] at this; exact this
  have q9 : ∀ W, Calls Tryd.prog 20 #[.int .u32 s] W fun e w' => e = .returned (.int .i64 z) ∧ W = w' := fun W => hz ▸ check_any s W s0 s4
  have q10 : ∀ W, Calls Tryd.prog 21 #[.int .u32 s] W fun e w' => e = .returned (.int .i64 z) ∧ W = w' := fun W => hz ▸ rcheck_any s W s0 s4
  have wf : ∀ W, Below w.heap.size w W → MsgIn W a n bs ∧ TabK W := fun W h => ⟨hm.later h, hT.later h⟩
  have hl1 : (bs.map (Value.int .u8)).length = n * 1 := by rw [List.length_map, ← hm.len, Nat.mul_one]
  have H_hp := Box.mk hp
  have H_hk := Box.mk hk
  have H_hd := Box.mk hd
  have H_hg := Box.mk hg
  have H_hz := Box.mk hz
  have H_q1 := Box.mk q1
  have H_q2 := Box.mk q2
  have H_q3 := Box.mk q3
  have H_q4 := Box.mk q4
  have H_q5 := Box.mk q5
  have H_q6 := Box.mk q6
  have H_q7 := Box.mk q7
  have H_q8 := Box.mk q8
  have H_q9 := Box.mk q9
  have H_q10 := Box.mk q10
  have H_wf := Box.mk wf
  have H_hl1 := Box.mk hl1
  have H_hm := Box.mk hm
  have H_hT := Box.mk hT
  clear hp hk hd hg hz q1 q2 q3 q4 q5 q6 q7 q8 q9 q10 wf hl1 hm hT
  rcases h with h1 | ⟨h2, h3⟩
  · have h1I : (n : Int) ≤ 1000 := by omega
    have h3I : (n : Int) ≤ 11000 := by omega
    go_enter Tryd.func4, Tryd.ntmps4
    have hb0 := Below.refl w.heap.size w
    go_upto_region 3 with fail
    go_wp2_with (at_builtin; refine stop ?_)
    refine Stop.go ?_
    refine wpList_append_cup _ rfl _ _ 23 rfl w.heap.size 5 i0 (.int .u8 0) 1 1 Tryd.underlying23 hi hz0 hz1 hz2 rfl (by decide) (.slice (some ⟨w.heap.size, 0, none⟩) 0 0) 0 [] rfl (CupX.zero _ _ _ _ _) a n c (bs.map (Value.int .u8)) rfl H_hl1.out (H_hm.out.cells.alloc _) (ints_oneCell _ _) n (Nat.zero_add _) (by unfold maxLen; omega) (by omega) (by simp) ?_
    intro a5 c5 w1 o5 hbb
    have hb1 : Below w.heap.size w w1 := Below.trans ((Below.refl _ _).alloc (Nat.le_refl _) _) hbb
    have k5 : CellsAt w1 a5 (bs.map (Value.int .u8)) := o5.cells.2
    clear o5 hbb hb0
    go_wp2_with fail
    with_reducible refine (H_q1.out _).mono ?_
    rintro e w2 ⟨rfl, hc2⟩
    have hb2 : Below w.heap.size w w2 := bchain (by repeat' (first | with_reducible exact hb1 | with_reducible refine Below.drew ?_ | with_reducible refine below_drewN ?_ _ | with_reducible refine Below.alloc ?_ (by have := hb1.size; first | (simp; done) | (simp; omega) | omega) _ | with_reducible refine Below.setCell ?_ (by first | (simp; done) | (simp; omega) | omega) _)) hc2
    have hst2 : Below w1.heap.size w1 w2 := bchain (by repeat' (first | with_reducible exact Below.refl _ _ | with_reducible refine Below.drew ?_ | with_reducible refine below_drewN ?_ _ | with_reducible refine Below.alloc ?_ (by first | (simp; done) | (simp; omega) | omega) _ | with_reducible refine Below.setCell ?_ (by first | (simp; done) | (simp; omega) | omega) _)) hc2
    replace k5 := k5.later hst2
    clear hst2
    clear hc2 hb1
    go_wp2_with fail
    with_reducible refine (H_q2.out _).mono ?_
    rintro e w3 ⟨rfl, hc3⟩
    have hb3 : Below w.heap.size w w3 := bchain (by repeat' (first | with_reducible exact hb2 | with_reducible refine Below.drew ?_ | with_reducible refine below_drewN ?_ _ | with_reducible refine Below.alloc ?_ (by have := hb2.size; first | (simp; done) | (simp; omega) | omega) _ | with_reducible refine Below.setCell ?_ (by first | (simp; done) | (simp; omega) | omega) _)) hc3
    have hst3 : Below w2.heap.size w2 w3 := bchain (by repeat' (first | with_reducible exact Below.refl _ _ | with_reducible refine Below.drew ?_ | with_reducible refine below_drewN ?_ _ | with_reducible refine Below.alloc ?_ (by first | (simp; done) | (simp; omega) | omega) _ | with_reducible refine Below.setCell ?_ (by first | (simp; done) | (simp; omega) | omega) _)) hc3
    replace k5 := k5.later hst3
    clear hst3
    clear hc3 hb2
    go_wp2_with fail
    with_reducible refine (H_q3.out _ (H_wf.out _ hb3).1 (H_wf.out _ hb3).2).mono ?_
    rintro e w4 ⟨rfl, hc4⟩
    have hb4 : Below w.heap.size w w4 := bchain (by repeat' (first | with_reducible exact hb3 | with_reducible refine Below.drew ?_ | with_reducible refine below_drewN ?_ _ | with_reducible refine Below.alloc ?_ (by have := hb3.size; first | (simp; done) | (simp; omega) | omega) _ | with_reducible refine Below.setCell ?_ (by first | (simp; done) | (simp; omega) | omega) _)) hc4
    have hst4 : Below w3.heap.size w3 w4 := bchain (by repeat' (first | with_reducible exact Below.refl _ _ | with_reducible refine Below.drew ?_ | with_reducible refine below_drewN ?_ _ | with_reducible refine Below.alloc ?_ (by first | (simp; done) | (simp; omega) | omega) _ | with_reducible refine Below.setCell ?_ (by first | (simp; done) | (simp; omega) | omega) _)) hc4
    replace k5 := k5.later hst4
    clear hst4
    clear hc4 hb3
    go_wp2_with fail
    with_reducible refine (H_q4.out _ (H_wf.out _ hb4).1).mono ?_
    rintro e w5 ⟨rfl, hc5⟩
    have hb5 : Below w.heap.size w w5 := bchain (by repeat' (first | with_reducible exact hb4 | with_reducible refine Below.drew ?_ | with_reducible refine below_drewN ?_ _ | with_reducible refine Below.alloc ?_ (by have := hb4.size; first | (simp; done) | (simp; omega) | omega) _ | with_reducible refine Below.setCell ?_ (by first | (simp; done) | (simp; omega) | omega) _)) hc5
    have hst5 : Below w4.heap.size w4 w5 := bchain (by repeat' (first | with_reducible exact Below.refl _ _ | with_reducible refine Below.drew ?_ | with_reducible refine below_drewN ?_ _ | with_reducible refine Below.alloc ?_ (by first | (simp; done) | (simp; omega) | omega) _ | with_reducible refine Below.setCell ?_ (by first | (simp; done) | (simp; omega) | omega) _)) hc5
    replace k5 := k5.later hst5
    clear hst5
    clear hc5 hb4
    go_wp2_with fail
    with_reducible refine (H_q5.out _ (H_wf.out _ hb5).1 (H_wf.out _ hb5).2).mono ?_
    rintro e w6 ⟨rfl, hc6⟩
    have hb6 : Below w.heap.size w w6 := bchain (by repeat' (first | with_reducible exact hb5 | with_reducible refine Below.drew ?_ | with_reducible refine below_drewN ?_ _ | with_reducible refine Below.alloc ?_ (by have := hb5.size; first | (simp; done) | (simp; omega) | omega) _ | with_reducible refine Below.setCell ?_ (by first | (simp; done) | (simp; omega) | omega) _)) hc6
    have hst6 : Below w5.heap.size w5 w6 := bchain (by repeat' (first | with_reducible exact Below.refl _ _ | with_reducible refine Below.drew ?_ | with_reducible refine below_drewN ?_ _ | with_reducible refine Below.alloc ?_ (by first | (simp; done) | (simp; omega) | omega) _ | with_reducible refine Below.setCell ?_ (by first | (simp; done) | (simp; omega) | omega) _)) hc6
    replace k5 := k5.later hst6
    clear hst6
    clear hc6 hb5
    go_wp2_with fail
    with_reducible refine (H_q6.out _ (H_wf.out _ hb6).1).mono ?_
    rintro e w7 ⟨rfl, hc7⟩
    have hb7 : Below w.heap.size w w7 := bchain (by repeat' (first | with_reducible exact hb6 | with_reducible refine Below.drew ?_ | with_reducible refine below_drewN ?_ _ | with_reducible refine Below.alloc ?_ (by have := hb6.size; first | (simp; done) | (simp; omega) | omega) _ | with_reducible refine Below.setCell ?_ (by first | (simp; done) | (simp; omega) | omega) _)) hc7
    have hst7 : Below w6.heap.size w6 w7 := bchain (by repeat' (first | with_reducible exact Below.refl _ _ | with_reducible refine Below.drew ?_ | with_reducible refine below_drewN ?_ _ | with_reducible refine Below.alloc ?_ (by first | (simp; done) | (simp; omega) | omega) _ | with_reducible refine Below.setCell ?_ (by first | (simp; done) | (simp; omega) | omega) _)) hc7
    replace k5 := k5.later hst7
    clear hst7
    clear hc7 hb6
    go_wp2_with fail
    with_reducible refine (H_q7.out _ (H_wf.out _ hb7).1 (H_wf.out _ hb7).2).mono ?_
    rintro e w8 ⟨rfl, hc8⟩
    have hb8 : Below w.heap.size w w8 := bchain (by repeat' (first | with_reducible exact hb7 | with_reducible refine Below.drew ?_ | with_reducible refine below_drewN ?_ _ | with_reducible refine Below.alloc ?_ (by have := hb7.size; first | (simp; done) | (simp; omega) | omega) _ | with_reducible refine Below.setCell ?_ (by first | (simp; done) | (simp; omega) | omega) _)) hc8
    have hst8 : Below w7.heap.size w7 w8 := bchain (by repeat' (first | with_reducible exact Below.refl _ _ | with_reducible refine Below.drew ?_ | with_reducible refine below_drewN ?_ _ | with_reducible refine Below.alloc ?_ (by first | (simp; done) | (simp; omega) | omega) _ | with_reducible refine Below.setCell ?_ (by first | (simp; done) | (simp; omega) | omega) _)) hc8
    replace k5 := k5.later hst8
    clear hst8
    clear hc8 hb7
    go_wp2_with fail
    with_reducible refine (H_q8.out _ ((H_wf.out _ hb8).1.later (below_alloc _ _))).mono ?_
    rintro e w9 ⟨rfl, hc9⟩
    have hb9 : Below w.heap.size w w9 := bchain (by repeat' (first | with_reducible exact hb8 | with_reducible refine Below.drew ?_ | with_reducible refine below_drewN ?_ _ | with_reducible refine Below.alloc ?_ (by have := hb8.size; first | (simp; done) | (simp; omega) | omega) _ | with_reducible refine Below.setCell ?_ (by first | (simp; done) | (simp; omega) | omega) _)) hc9
    have hst9 : Below w8.heap.size w8 w9 := bchain (by repeat' (first | with_reducible exact Below.refl _ _ | with_reducible refine Below.drew ?_ | with_reducible refine below_drewN ?_ _ | with_reducible refine Below.alloc ?_ (by first | (simp; done) | (simp; omega) | omega) _ | with_reducible refine Below.setCell ?_ (by first | (simp; done) | (simp; omega) | omega) _)) hc9
    have P_0 : w9.cell? ⟨w8.heap.size, 0, none⟩ = some (.int .u32 E) := (hc9.cell (p := ⟨w8.heap.size, 0, none⟩) (by first | (simp; done) | (simp; omega))).trans (by first | (simp; done) | go_simp)
    have P_1 : w9.cell? ⟨w8.heap.size, 1, none⟩ = some (.int .u32 S) := (hc9.cell (p := ⟨w8.heap.size, 1, none⟩) (by first | (simp; done) | (simp; omega))).trans (by first | (simp; done) | go_simp)
    have P_l : w8.heap.size < w9.heap.size := Nat.lt_of_lt_of_le (by first | (simp; done) | (simp; omega)) hc9.size
    replace k5 := k5.later hst9
    clear hst9
    clear hc9 hb8
    go_wp2_with fail
    refine (H_q9.out _).mono ?_
    rintro e w' ⟨rfl, rfl⟩
    go_wp2_with fail
    refine (H_q10.out _).mono ?_
    rintro e w' ⟨rfl, rfl⟩
    go_wp2_with fail
    with_reducible refine (sameBytes_self bs a a5 n n c c5 _ H_hm.out.len H_hm.out.len (by omega) ((H_wf.out _ hb9).1.later (below_alloc _ _)).cells (by repeat' (first | with_reducible exact k5 | with_reducible refine CellsAt.setFar ?_ ?_ _ | with_reducible refine CellsAt.alloc ?_ _ | with_reducible refine CellsAt.drew ?_ | with_reducible refine CellsAt.drewN ?_ _ | assumption | (simp; omega) | omega))).mono ?_
    rintro e w10 ⟨rfl, hc10⟩
    have hb10 : Below w.heap.size w w10 := bchain (by repeat' (first | with_reducible exact hb9 | with_reducible refine Below.drew ?_ | with_reducible refine below_drewN ?_ _ | with_reducible refine Below.alloc ?_ (by have := hb9.size; first | (simp; done) | (simp; omega) | omega) _ | with_reducible refine Below.setCell ?_ (by first | (simp; done) | (simp; omega) | omega) _)) hc10
    have hst10 : Below w9.heap.size w9 w10 := bchain (by repeat' (first | with_reducible exact Below.refl _ _ | with_reducible refine Below.drew ?_ | with_reducible refine below_drewN ?_ _ | with_reducible refine Below.alloc ?_ (by first | (simp; done) | (simp; omega) | omega) _ | with_reducible refine Below.setCell ?_ (by first | (simp; done) | (simp; omega) | omega) _)) hc10
    replace P_0 := cell_later hst10 P_0
    replace P_1 := cell_later hst10 P_1
    replace P_l := Nat.lt_of_lt_of_le P_l hst10.size
    have Q_0 : w10.cell? ⟨w9.heap.size, 0, none⟩ = some (.int .u32 E) := (hc10.cell (p := ⟨w9.heap.size, 0, none⟩) (by first | (simp; done) | (simp; omega))).trans (by first | (simp; done) | go_simp)
    have Q_1 : w10.cell? ⟨w9.heap.size, 1, none⟩ = some (.int .u32 S) := (hc10.cell (p := ⟨w9.heap.size, 1, none⟩) (by first | (simp; done) | (simp; omega))).trans (by first | (simp; done) | go_simp)
    have Q_l : w9.heap.size < w10.heap.size := Nat.lt_of_lt_of_le (by first | (simp; done) | (simp; omega)) hc10.size
    replace k5 := k5.later hst10
    clear hst10
    clear hc10 hb9
    go_wp2_with fail
    go_ret
    exact ⟨rfl, by repeat' (first | with_reducible exact hb10 | with_reducible refine Below.drew ?_ | with_reducible refine below_drewN ?_ _ | with_reducible refine Below.alloc ?_ (by have := hb10.size; first | (simp; done) | (simp; omega) | omega) _ | with_reducible refine Below.setCell ?_ (by first | (simp; done) | (simp; omega) | omega) _)⟩
  · have h1I : (1000 : Int) < (n : Int) := by omega
    have h2I : (9991 : Int) < (n : Int) := by omega
    have h3I : (n : Int) ≤ 11000 := by omega
    go_enter Tryd.func4, Tryd.ntmps4
    have hb0 := Below.refl w.heap.size w
    go_upto_region 3 with fail
    go_wp2_with (at_builtin; refine stop ?_)
    refine Stop.go ?_
    refine wpList_append_cup _ rfl _ _ 23 rfl w.heap.size 5 i0 (.int .u8 0) 1 1 Tryd.underlying23 hi hz0 hz1 hz2 rfl (by decide) (.slice (some ⟨w.heap.size, 0, none⟩) 0 0) 0 [] rfl (CupX.zero _ _ _ _ _) a n c (bs.map (Value.int .u8)) rfl H_hl1.out (H_hm.out.cells.alloc _) (ints_oneCell _ _) n (Nat.zero_add _) (by unfold maxLen; omega) (by omega) (by simp) ?_
    intro a5 c5 w1 o5 hbb
    have hb1 : Below w.heap.size w w1 := Below.trans ((Below.refl _ _).alloc (Nat.le_refl _) _) hbb
    have k5 : CellsAt w1 a5 (bs.map (Value.int .u8)) := o5.cells.2
    clear o5 hbb hb0
    go_wp2_with fail
    with_reducible refine (H_q1.out _).mono ?_
    rintro e w2 ⟨rfl, hc2⟩
    have hb2 : Below w.heap.size w w2 := bchain (by repeat' (first | with_reducible exact hb1 | with_reducible refine Below.drew ?_ | with_reducible refine below_drewN ?_ _ | with_reducible refine Below.alloc ?_ (by have := hb1.size; first | (simp; done) | (simp; omega) | omega) _ | with_reducible refine Below.setCell ?_ (by first | (simp; done) | (simp; omega) | omega) _)) hc2
    have hst2 : Below w1.heap.size w1 w2 := bchain (by repeat' (first | with_reducible exact Below.refl _ _ | with_reducible refine Below.drew ?_ | with_reducible refine below_drewN ?_ _ | with_reducible refine Below.alloc ?_ (by first | (simp; done) | (simp; omega) | omega) _ | with_reducible refine Below.setCell ?_ (by first | (simp; done) | (simp; omega) | omega) _)) hc2
    replace k5 := k5.later hst2
    clear hst2
    clear hc2 hb1
    go_wp2_with fail
    with_reducible refine (H_q2.out _).mono ?_
    rintro e w3 ⟨rfl, hc3⟩
    have hb3 : Below w.heap.size w w3 := bchain (by repeat' (first | with_reducible exact hb2 | with_reducible refine Below.drew ?_ | with_reducible refine below_drewN ?_ _ | with_reducible refine Below.alloc ?_ (by have := hb2.size; first | (simp; done) | (simp; omega) | omega) _ | with_reducible refine Below.setCell ?_ (by first | (simp; done) | (simp; omega) | omega) _)) hc3
    have hst3 : Below w2.heap.size w2 w3 := bchain (by repeat' (first | with_reducible exact Below.refl _ _ | with_reducible refine Below.drew ?_ | with_reducible refine below_drewN ?_ _ | with_reducible refine Below.alloc ?_ (by first | (simp; done) | (simp; omega) | omega) _ | with_reducible refine Below.setCell ?_ (by first | (simp; done) | (simp; omega) | omega) _)) hc3
    replace k5 := k5.later hst3
    clear hst3
    clear hc3 hb2
    go_wp2_with fail
    with_reducible refine (H_q3.out _ (H_wf.out _ hb3).1 (H_wf.out _ hb3).2).mono ?_
    rintro e w4 ⟨rfl, hc4⟩
    have hb4 : Below w.heap.size w w4 := bchain (by repeat' (first | with_reducible exact hb3 | with_reducible refine Below.drew ?_ | with_reducible refine below_drewN ?_ _ | with_reducible refine Below.alloc ?_ (by have := hb3.size; first | (simp; done) | (simp; omega) | omega) _ | with_reducible refine Below.setCell ?_ (by first | (simp; done) | (simp; omega) | omega) _)) hc4
    have hst4 : Below w3.heap.size w3 w4 := bchain (by repeat' (first | with_reducible exact Below.refl _ _ | with_reducible refine Below.drew ?_ | with_reducible refine below_drewN ?_ _ | with_reducible refine Below.alloc ?_ (by first | (simp; done) | (simp; omega) | omega) _ | with_reducible refine Below.setCell ?_ (by first | (simp; done) | (simp; omega) | omega) _)) hc4
    replace k5 := k5.later hst4
    clear hst4
    clear hc4 hb3
    go_wp2_with fail
    with_reducible refine (H_q4.out _ (H_wf.out _ hb4).1).mono ?_
    rintro e w5 ⟨rfl, hc5⟩
    have hb5 : Below w.heap.size w w5 := bchain (by repeat' (first | with_reducible exact hb4 | with_reducible refine Below.drew ?_ | with_reducible refine below_drewN ?_ _ | with_reducible refine Below.alloc ?_ (by have := hb4.size; first | (simp; done) | (simp; omega) | omega) _ | with_reducible refine Below.setCell ?_ (by first | (simp; done) | (simp; omega) | omega) _)) hc5
    have hst5 : Below w4.heap.size w4 w5 := bchain (by repeat' (first | with_reducible exact Below.refl _ _ | with_reducible refine Below.drew ?_ | with_reducible refine below_drewN ?_ _ | with_reducible refine Below.alloc ?_ (by first | (simp; done) | (simp; omega) | omega) _ | with_reducible refine Below.setCell ?_ (by first | (simp; done) | (simp; omega) | omega) _)) hc5
    replace k5 := k5.later hst5
    clear hst5
    clear hc5 hb4
    go_wp2_with fail
    with_reducible refine (H_q5.out _ (H_wf.out _ hb5).1 (H_wf.out _ hb5).2).mono ?_
    rintro e w6 ⟨rfl, hc6⟩
    have hb6 : Below w.heap.size w w6 := bchain (by repeat' (first | with_reducible exact hb5 | with_reducible refine Below.drew ?_ | with_reducible refine below_drewN ?_ _ | with_reducible refine Below.alloc ?_ (by have := hb5.size; first | (simp; done) | (simp; omega) | omega) _ | with_reducible refine Below.setCell ?_ (by first | (simp; done) | (simp; omega) | omega) _)) hc6
    have hst6 : Below w5.heap.size w5 w6 := bchain (by repeat' (first | with_reducible exact Below.refl _ _ | with_reducible refine Below.drew ?_ | with_reducible refine below_drewN ?_ _ | with_reducible refine Below.alloc ?_ (by first | (simp; done) | (simp; omega) | omega) _ | with_reducible refine Below.setCell ?_ (by first | (simp; done) | (simp; omega) | omega) _)) hc6
    replace k5 := k5.later hst6
    clear hst6
    clear hc6 hb5
    go_wp2_with fail
    with_reducible refine (H_q6.out _ (H_wf.out _ hb6).1).mono ?_
    rintro e w7 ⟨rfl, hc7⟩
    have hb7 : Below w.heap.size w w7 := bchain (by repeat' (first | with_reducible exact hb6 | with_reducible refine Below.drew ?_ | with_reducible refine below_drewN ?_ _ | with_reducible refine Below.alloc ?_ (by have := hb6.size; first | (simp; done) | (simp; omega) | omega) _ | with_reducible refine Below.setCell ?_ (by first | (simp; done) | (simp; omega) | omega) _)) hc7
    have hst7 : Below w6.heap.size w6 w7 := bchain (by repeat' (first | with_reducible exact Below.refl _ _ | with_reducible refine Below.drew ?_ | with_reducible refine below_drewN ?_ _ | with_reducible refine Below.alloc ?_ (by first | (simp; done) | (simp; omega) | omega) _ | with_reducible refine Below.setCell ?_ (by first | (simp; done) | (simp; omega) | omega) _)) hc7
    replace k5 := k5.later hst7
    clear hst7
    clear hc7 hb6
    go_wp2_with fail
    with_reducible refine (H_q7.out _ (H_wf.out _ hb7).1 (H_wf.out _ hb7).2).mono ?_
    rintro e w8 ⟨rfl, hc8⟩
    have hb8 : Below w.heap.size w w8 := bchain (by repeat' (first | with_reducible exact hb7 | with_reducible refine Below.drew ?_ | with_reducible refine below_drewN ?_ _ | with_reducible refine Below.alloc ?_ (by have := hb7.size; first | (simp; done) | (simp; omega) | omega) _ | with_reducible refine Below.setCell ?_ (by first | (simp; done) | (simp; omega) | omega) _)) hc8
    have hst8 : Below w7.heap.size w7 w8 := bchain (by repeat' (first | with_reducible exact Below.refl _ _ | with_reducible refine Below.drew ?_ | with_reducible refine below_drewN ?_ _ | with_reducible refine Below.alloc ?_ (by first | (simp; done) | (simp; omega) | omega) _ | with_reducible refine Below.setCell ?_ (by first | (simp; done) | (simp; omega) | omega) _)) hc8
    replace k5 := k5.later hst8
    clear hst8
    clear hc8 hb7
    go_wp2_with fail
    with_reducible refine (H_q8.out _ ((H_wf.out _ hb8).1.later (below_alloc _ _))).mono ?_
    rintro e w9 ⟨rfl, hc9⟩
    have hb9 : Below w.heap.size w w9 := bchain (by repeat' (first | with_reducible exact hb8 | with_reducible refine Below.drew ?_ | with_reducible refine below_drewN ?_ _ | with_reducible refine Below.alloc ?_ (by have := hb8.size; first | (simp; done) | (simp; omega) | omega) _ | with_reducible refine Below.setCell ?_ (by first | (simp; done) | (simp; omega) | omega) _)) hc9
    have hst9 : Below w8.heap.size w8 w9 := bchain (by repeat' (first | with_reducible exact Below.refl _ _ | with_reducible refine Below.drew ?_ | with_reducible refine below_drewN ?_ _ | with_reducible refine Below.alloc ?_ (by first | (simp; done) | (simp; omega) | omega) _ | with_reducible refine Below.setCell ?_ (by first | (simp; done) | (simp; omega) | omega) _)) hc9
    have P_0 : w9.cell? ⟨w8.heap.size, 0, none⟩ = some (.int .u32 E) := (hc9.cell (p := ⟨w8.heap.size, 0, none⟩) (by first | (simp; done) | (simp; omega))).trans (by first | (simp; done) | go_simp)
    have P_1 : w9.cell? ⟨w8.heap.size, 1, none⟩ = some (.int .u32 S) := (hc9.cell (p := ⟨w8.heap.size, 1, none⟩) (by first | (simp; done) | (simp; omega))).trans (by first | (simp; done) | go_simp)
    have P_l : w8.heap.size < w9.heap.size := Nat.lt_of_lt_of_le (by first | (simp; done) | (simp; omega)) hc9.size
    replace k5 := k5.later hst9
    clear hst9
    clear hc9 hb8
    go_wp2_with fail
    refine (H_q9.out _).mono ?_
    rintro e w' ⟨rfl, rfl⟩
    go_wp2_with fail
    refine (H_q10.out _).mono ?_
    rintro e w' ⟨rfl, rfl⟩
    go_wp2_with fail
    with_reducible refine (sameBytes_self bs a a5 n n c c5 _ H_hm.out.len H_hm.out.len (by omega) ((H_wf.out _ hb9).1.later (below_alloc _ _)).cells (by repeat' (first | with_reducible exact k5 | with_reducible refine CellsAt.setFar ?_ ?_ _ | with_reducible refine CellsAt.alloc ?_ _ | with_reducible refine CellsAt.drew ?_ | with_reducible refine CellsAt.drewN ?_ _ | assumption | (simp; omega) | omega))).mono ?_
    rintro e w10 ⟨rfl, hc10⟩
    have hb10 : Below w.heap.size w w10 := bchain (by repeat' (first | with_reducible exact hb9 | with_reducible refine Below.drew ?_ | with_reducible refine below_drewN ?_ _ | with_reducible refine Below.alloc ?_ (by have := hb9.size; first | (simp; done) | (simp; omega) | omega) _ | with_reducible refine Below.setCell ?_ (by first | (simp; done) | (simp; omega) | omega) _)) hc10
    have hst10 : Below w9.heap.size w9 w10 := bchain (by repeat' (first | with_reducible exact Below.refl _ _ | with_reducible refine Below.drew ?_ | with_reducible refine below_drewN ?_ _ | with_reducible refine Below.alloc ?_ (by first | (simp; done) | (simp; omega) | omega) _ | with_reducible refine Below.setCell ?_ (by first | (simp; done) | (simp; omega) | omega) _)) hc10
    replace P_0 := cell_later hst10 P_0
    replace P_1 := cell_later hst10 P_1
    replace P_l := Nat.lt_of_lt_of_le P_l hst10.size
    have Q_0 : w10.cell? ⟨w9.heap.size, 0, none⟩ = some (.int .u32 E) := (hc10.cell (p := ⟨w9.heap.size, 0, none⟩) (by first | (simp; done) | (simp; omega))).trans (by first | (simp; done) | go_simp)
    have Q_1 : w10.cell? ⟨w9.heap.size, 1, none⟩ = some (.int .u32 S) := (hc10.cell (p := ⟨w9.heap.size, 1, none⟩) (by first | (simp; done) | (simp; omega))).trans (by first | (simp; done) | go_simp)
    have Q_l : w9.heap.size < w10.heap.size := Nat.lt_of_lt_of_le (by first | (simp; done) | (simp; omega)) hc10.size
    replace k5 := k5.later hst10
    clear hst10
    clear hc10 hb9
    go_wp2_with fail
    go_ret
    exact ⟨rfl, by repeat' (first | with_reducible exact hb10 | with_reducible refine Below.drew ?_ | with_reducible refine below_drewN ?_ _ | with_reducible refine Below.alloc ?_ (by have := hb10.size; first | (simp; done) | (simp; omega) | omega) _ | with_reducible refine Below.setCell ?_ (by first | (simp; done) | (simp; omega) | omega) _)⟩

/-- SignMakes returns true. -/
theorem makes_full (s r y : Int) (bs : List Int) (a : Option Addr) (c : Nat) (w : World) (hs : (Lit.int .u32 s).wf = true) (hr : (Lit.int .u32 r).wf = true) (hy : (Lit.int .u32 y).wf = true) (hb : BytesIn w a bs)
    (hK : CellsAt w (some ⟨0, 0, none⟩) (kcs.map (Value.int .u32)) ∧ 0 < w.heap.size) :
    Calls Tryd.prog 4 #[.int .u32 s, .int .u32 r, .int .u32 y, .slice a bs.length c] w fun e w' =>
      e = .returned (.bool true) ∧ Below w.heap.size w w' := by
  have h1 := bd_u32 hs
  have h2 := bd_u32 hr
  have h3 := bd_u32 hy
  by_cases h : (1000 < bs.length ∧ bs.length ≤ 9991) ∨ 11000 < bs.length
  · exact makes_skip s r y a _ c w h
  · exact makes_go s r y bs a _ c w h1.1 h1.2 h2.1 h2.2 h3.1 h3.2 hb.msg ⟨hK.1, hK.2⟩ (by omega)

end Go.Proofs.YtdlacedminebdaaDoor
