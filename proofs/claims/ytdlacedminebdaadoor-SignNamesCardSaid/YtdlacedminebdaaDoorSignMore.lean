/- The laws SignRight, SignMade and SignTells return true. -/
import Derived.Test.YtdlacedminebdaaDoorSignAlive
namespace Go.Proofs.YtdlacedminebdaaDoor
set_option linter.unusedSimpArgs false
set_option linter.unusedVariables false
set_option linter.unnecessarySimpa false
open Go.RowKit

theorem right_bad (s : Int) (a : Option Addr) (n c : Nat) (w : World) (h0 : 0 ≤ s) (h4 : s < 4294967296) (hT : TabK w) (h : badS s) :
    Calls Tryd.prog 6 #[.int .u32 s, .slice a n c] w fun e w' =>
      e = .returned (.bool true) ∧ Below w.heap.size w w' := by
  have H_h := Box.mk h
  have H_hT := Box.mk hT
  clear h hT
  go_enter Tryd.func6, Tryd.ntmps6
  have hb0 := Below.refl w.heap.size w
  go_wp2_with fail
  refine (rcheck_no s _ h0 h4 H_h.out).mono ?_
  rintro e w' ⟨rfl, rfl⟩
  go_wp2_with fail
  with_reducible refine (alive_any _ H_hT.out).mono ?_
  rintro e w1 ⟨rfl, hc1⟩
  have hb1 : Below w.heap.size w w1 := bchain (by repeat' (first | with_reducible exact hb0 | with_reducible refine Below.drew ?_ | with_reducible refine below_drewN ?_ _ | with_reducible refine Below.alloc ?_ (by have := hb0.size; first | (simp; done) | (simp; omega) | omega) _ | with_reducible refine Below.setCell ?_ (by first | (simp; done) | (simp; omega) | omega) _)) hc1
  clear hc1 hb0
  go_wp2_with fail
  go_ret
  exact ⟨rfl, by repeat' (first | with_reducible exact hb1 | with_reducible refine Below.drew ?_ | with_reducible refine below_drewN ?_ _ | with_reducible refine Below.alloc ?_ (by have := hb1.size; first | (simp; done) | (simp; omega) | omega) _ | with_reducible refine Below.setCell ?_ (by first | (simp; done) | (simp; omega) | omega) _)⟩
theorem right_long (s : Int) (a : Option Addr) (n c : Nat) (w : World) (h1 : 1 ≤ s) (h2 : s < 500000003) (hT : TabK w) (hn : 1000 < n) :
    Calls Tryd.prog 6 #[.int .u32 s, .slice a n c] w fun e w' =>
      e = .returned (.bool true) ∧ Below w.heap.size w w' := by
  have hnI : (1000 : Int) < (n : Int) := by omega
  have H_hT := Box.mk hT
  clear hT
  go_enter Tryd.func6, Tryd.ntmps6
  have hb0 := Below.refl w.heap.size w
  go_wp2_with fail
  refine (rcheck_ok s _ h1 h2).mono ?_
  rintro e w' ⟨rfl, rfl⟩
  go_wp2_with fail
  with_reducible refine (alive_any _ H_hT.out).mono ?_
  rintro e w1 ⟨rfl, hc1⟩
  have hb1 : Below w.heap.size w w1 := bchain (by repeat' (first | with_reducible exact hb0 | with_reducible refine Below.drew ?_ | with_reducible refine below_drewN ?_ _ | with_reducible refine Below.alloc ?_ (by have := hb0.size; first | (simp; done) | (simp; omega) | omega) _ | with_reducible refine Below.setCell ?_ (by first | (simp; done) | (simp; omega) | omega) _)) hc1
  clear hc1 hb0
  go_wp2_with fail
  go_ret
  exact ⟨rfl, by repeat' (first | with_reducible exact hb1 | with_reducible refine Below.drew ?_ | with_reducible refine below_drewN ?_ _ | with_reducible refine Below.alloc ?_ (by have := hb1.size; first | (simp; done) | (simp; omega) | omega) _ | with_reducible refine Below.setCell ?_ (by first | (simp; done) | (simp; omega) | omega) _)⟩

set_option maxRecDepth 100000 in
set_option maxHeartbeats 1000000 in
theorem right_go (s : Int) (bs : List Int) (a : Option Addr) (n c : Nat) (w : World) (h1 : 1 ≤ s) (h2 : s < 500000003) (hm : MsgIn w a n bs) (hT : TabK w) (hn : n ≤ 1000) :
    Calls Tryd.prog 6 #[.int .u32 s, .slice a n c] w fun e w' =>
      e = .returned (.bool true) ∧ Below w.heap.size w w' := by
  have hnI : (n : Int) ≤ 1000 := by omega
  obtain ⟨i0, hi, hz0, hz1, hz2⟩ := info_parts info_u8
  obtain ⟨y, hy⟩ : ∃ y, pubK s = y := ⟨_, rfl⟩
  obtain ⟨E, hE⟩ : ∃ E, sgE s bs = E := ⟨_, rfl⟩
  obtain ⟨S, hS⟩ : ∃ S, sgS s bs = S := ⟨_, rfl⟩
  have hE1 := sgE_rng s bs
  have hS1 := sgS_rng s bs
  have hy1 := pubK_rng s
  have hyB := pubK_in s
  have hv := verZ_sign h1 h2 bs (by have := hm.len; omega)
  rw [hE] at hE1 hv; rw [hS] at hS1 hv; rw [hy] at hy1 hyB hv
  obtain ⟨hE0, hE1⟩ := hE1
  obtain ⟨hS0, hS1⟩ := hS1
  obtain ⟨hy0, hy1⟩ := hy1
  have q1 : ∀ W, Calls Tryd.prog 12 #[.int .u32 s] W fun e w' => e = .returned (.tuple #[.int .u32 y, .int .i64 0]) ∧ Below W.heap.size W w' := fun W => hy ▸ public_ok s W h1 h2
  have q2 : ∀ W a c, MsgIn W a n bs → TabK W → Calls Tryd.prog 18 #[.int .u32 s, .slice a n c] W fun e w' => e = .returned (.tuple #[.agg #[.int .u32 E, .int .u32 S], .int .i64 0]) ∧ Below W.heap.size W w' := fun W a c h3 h4 => by have := sign_ok s bs a n c W h1 h2 h3 (by omega) h4; rw [hE, hS] at this; exact this
  have q3 : ∀ W, MsgIn W a n bs → TabK W → Calls Tryd.prog 10 #[.int .u32 y, .slice a n c, .agg #[.int .u32 E, .int .u32 S]] W fun e w' => e = .returned (.int .i64 0) ∧ Below W.heap.size W w' := fun W h3 h4 => by have := verify_all y E S bs a n c W hy0 (by omega) hE0 hS0 h3 h4; rw [hv] at this; exact this
  have q4 : ∀ W, Calls Tryd.prog 24 #[.int .u32 y] W fun e w' => e = .returned (.bool true) ∧ Below W.heap.size W w' := fun W => by have := is_any y W hy0 (by omega); rw [hyB] at this; exact this
  have wf : ∀ W, Below w.heap.size w W → MsgIn W a n bs ∧ TabK W := fun W h => ⟨hm.later h, hT.later h⟩
  have hl1 : (bs.map (Value.int .u8)).length = n * 1 := by rw [List.length_map, ← hm.len, Nat.mul_one]
  have H_hy := Box.mk hy
  have H_hE := Box.mk hE
  have H_hS := Box.mk hS
  have H_hyB := Box.mk hyB
  have H_hv := Box.mk hv
  have H_q1 := Box.mk q1
  have H_q2 := Box.mk q2
  have H_q3 := Box.mk q3
  have H_q4 := Box.mk q4
  have H_wf := Box.mk wf
  have H_hl1 := Box.mk hl1
  have H_hm := Box.mk hm
  have H_hT := Box.mk hT
  clear hy hE hS hyB hv q1 q2 q3 q4 wf hl1 hm hT
  go_enter Tryd.func6, Tryd.ntmps6
  have hb0 := Below.refl w.heap.size w
  go_wp2_with fail
  refine (rcheck_ok s _ h1 h2).mono ?_
  rintro e w' ⟨rfl, rfl⟩
  go_wp2_with fail
  with_reducible refine (H_q1.out _).mono ?_
  rintro e w1 ⟨rfl, hc1⟩
  have hb1 : Below w.heap.size w w1 := bchain (by repeat' (first | with_reducible exact hb0 | with_reducible refine Below.drew ?_ | with_reducible refine below_drewN ?_ _ | with_reducible refine Below.alloc ?_ (by have := hb0.size; first | (simp; done) | (simp; omega) | omega) _ | with_reducible refine Below.setCell ?_ (by first | (simp; done) | (simp; omega) | omega) _)) hc1
  clear hc1 hb0
  go_wp2_with fail
  with_reducible refine (H_q2.out _ a c (H_wf.out _ hb1).1 (H_wf.out _ hb1).2).mono ?_
  rintro e w2 ⟨rfl, hc2⟩
  have hb2 : Below w.heap.size w w2 := bchain (by repeat' (first | with_reducible exact hb1 | with_reducible refine Below.drew ?_ | with_reducible refine below_drewN ?_ _ | with_reducible refine Below.alloc ?_ (by have := hb1.size; first | (simp; done) | (simp; omega) | omega) _ | with_reducible refine Below.setCell ?_ (by first | (simp; done) | (simp; omega) | omega) _)) hc2
  clear hc2 hb1
  go_upto_region 5 with fail
  refine wp_gen fun w3 hc3 => ?_
  have hb3 : Below w.heap.size w w3 := bchain (by repeat' (first | with_reducible exact hb2 | with_reducible refine Below.drew ?_ | with_reducible refine below_drewN ?_ _ | with_reducible refine Below.alloc ?_ (by have := hb2.size; first | (simp; done) | (simp; omega) | omega) _ | with_reducible refine Below.setCell ?_ (by first | (simp; done) | (simp; omega) | omega) _)) hc3
  have hP3 : Blk w3 w2.heap.size 25 [.int .u32 E, .int .u32 S] := Blk.later (Blk.newA w2 _ _ _ [.int .u32 E, .int .u32 S] rfl rfl) hc3
  clear hc3
  go_wp2_with (at_builtin; refine stop ?_)
  refine Stop.go ?_
  refine wpList_append_cup _ rfl _ _ 23 rfl w3.heap.size 5 i0 (.int .u8 0) 1 1 Tryd.underlying23 hi hz0 hz1 hz2 rfl (by decide) (.slice (some ⟨w3.heap.size, 0, none⟩) 0 0) 0 [] rfl (CupX.zero _ _ _ _ _) a n c (bs.map (Value.int .u8)) rfl H_hl1.out ((H_wf.out _ hb3).1.cells.alloc _) (ints_oneCell _ _) n (Nat.zero_add _) (by unfold maxLen; omega) (by omega) (by simp) ?_
  intro a4 c4 w4 o4 hbb
  have hc4 : Below w3.heap.size w3 w4 := Below.trans ((Below.refl _ _).alloc (Nat.le_refl _) _) hbb
  have hb4 : Below w.heap.size w w4 := bchain hb3 hc4
  have hP4 := hP3.later hc4
  have k4 : CellsAt w4 a4 (bs.map (Value.int .u8)) := o4.cells.2
  have P_0 := hP4.cell (j := 0) (v := .int .u32 E) rfl
  have P_1 := hP4.cell (j := 1) (v := .int .u32 S) rfl
  have P_l := hP4.lt
  clear o4 hbb hc4 hP3 hP4
  go_wp2_with fail
  with_reducible refine (H_q2.out _ a4 c4 ⟨H_hm.out.len, k4, H_hm.out.bytes⟩ (H_wf.out _ hb4).2).mono ?_
  rintro e w5 ⟨rfl, hc5⟩
  have hb5 : Below w.heap.size w w5 := bchain (by repeat' (first | with_reducible exact hb4 | with_reducible refine Below.drew ?_ | with_reducible refine below_drewN ?_ _ | with_reducible refine Below.alloc ?_ (by have := hb4.size; first | (simp; done) | (simp; omega) | omega) _ | with_reducible refine Below.setCell ?_ (by first | (simp; done) | (simp; omega) | omega) _)) hc5
  have hst5 : Below w4.heap.size w4 w5 := bchain (by repeat' (first | with_reducible exact Below.refl _ _ | with_reducible refine Below.drew ?_ | with_reducible refine below_drewN ?_ _ | with_reducible refine Below.alloc ?_ (by first | (simp; done) | (simp; omega) | omega) _ | with_reducible refine Below.setCell ?_ (by first | (simp; done) | (simp; omega) | omega) _)) hc5
  replace P_0 := cell_later hst5 P_0
  replace P_1 := cell_later hst5 P_1
  replace P_l := Nat.lt_of_lt_of_le P_l hst5.size
  clear hst5
  clear hc5 hb4
  go_wp2_with fail
  with_reducible refine (H_q3.out _ ((H_wf.out _ hb5).1.later (below_alloc _ _)) ((H_wf.out _ hb5).2.later (below_alloc _ _))).mono ?_
  rintro e w6 ⟨rfl, hc6⟩
  have hb6 : Below w.heap.size w w6 := bchain (by repeat' (first | with_reducible exact hb5 | with_reducible refine Below.drew ?_ | with_reducible refine below_drewN ?_ _ | with_reducible refine Below.alloc ?_ (by have := hb5.size; first | (simp; done) | (simp; omega) | omega) _ | with_reducible refine Below.setCell ?_ (by first | (simp; done) | (simp; omega) | omega) _)) hc6
  have hst6 : Below w5.heap.size w5 w6 := bchain (by repeat' (first | with_reducible exact Below.refl _ _ | with_reducible refine Below.drew ?_ | with_reducible refine below_drewN ?_ _ | with_reducible refine Below.alloc ?_ (by first | (simp; done) | (simp; omega) | omega) _ | with_reducible refine Below.setCell ?_ (by first | (simp; done) | (simp; omega) | omega) _)) hc6
  replace P_0 := cell_later hst6 P_0
  replace P_1 := cell_later hst6 P_1
  replace P_l := Nat.lt_of_lt_of_le P_l hst6.size
  have Q_0 : w6.cell? ⟨w5.heap.size, 0, none⟩ = some (.int .u32 E) := (hc6.cell (p := ⟨w5.heap.size, 0, none⟩) (by first | (simp; done) | (simp; omega))).trans (by first | (simp; done) | go_simp)
  have Q_1 : w6.cell? ⟨w5.heap.size, 1, none⟩ = some (.int .u32 S) := (hc6.cell (p := ⟨w5.heap.size, 1, none⟩) (by first | (simp; done) | (simp; omega))).trans (by first | (simp; done) | go_simp)
  have Q_l : w5.heap.size < w6.heap.size := Nat.lt_of_lt_of_le (by first | (simp; done) | (simp; omega)) hc6.size
  clear hst6
  clear hc6 hb5
  go_wp2_with fail
  with_reducible refine (H_q4.out _).mono ?_
  rintro e w7 ⟨rfl, hc7⟩
  have hb7 : Below w.heap.size w w7 := bchain (by repeat' (first | with_reducible exact hb6 | with_reducible refine Below.drew ?_ | with_reducible refine below_drewN ?_ _ | with_reducible refine Below.alloc ?_ (by have := hb6.size; first | (simp; done) | (simp; omega) | omega) _ | with_reducible refine Below.setCell ?_ (by first | (simp; done) | (simp; omega) | omega) _)) hc7
  have hst7 : Below w6.heap.size w6 w7 := bchain (by repeat' (first | with_reducible exact Below.refl _ _ | with_reducible refine Below.drew ?_ | with_reducible refine below_drewN ?_ _ | with_reducible refine Below.alloc ?_ (by first | (simp; done) | (simp; omega) | omega) _ | with_reducible refine Below.setCell ?_ (by first | (simp; done) | (simp; omega) | omega) _)) hc7
  replace P_0 := cell_later hst7 P_0
  replace P_1 := cell_later hst7 P_1
  replace P_l := Nat.lt_of_lt_of_le P_l hst7.size
  replace Q_0 := cell_later hst7 Q_0
  replace Q_1 := cell_later hst7 Q_1
  replace Q_l := Nat.lt_of_lt_of_le Q_l hst7.size
  clear hst7
  clear hc7 hb6
  go_wp2_with fail
  with_reducible refine (alive_any _ (H_wf.out _ hb7).2).mono ?_
  rintro e w8 ⟨rfl, hc8⟩
  have hb8 : Below w.heap.size w w8 := bchain (by repeat' (first | with_reducible exact hb7 | with_reducible refine Below.drew ?_ | with_reducible refine below_drewN ?_ _ | with_reducible refine Below.alloc ?_ (by have := hb7.size; first | (simp; done) | (simp; omega) | omega) _ | with_reducible refine Below.setCell ?_ (by first | (simp; done) | (simp; omega) | omega) _)) hc8
  have hst8 : Below w7.heap.size w7 w8 := bchain (by repeat' (first | with_reducible exact Below.refl _ _ | with_reducible refine Below.drew ?_ | with_reducible refine below_drewN ?_ _ | with_reducible refine Below.alloc ?_ (by first | (simp; done) | (simp; omega) | omega) _ | with_reducible refine Below.setCell ?_ (by first | (simp; done) | (simp; omega) | omega) _)) hc8
  replace P_0 := cell_later hst8 P_0
  replace P_1 := cell_later hst8 P_1
  replace P_l := Nat.lt_of_lt_of_le P_l hst8.size
  replace Q_0 := cell_later hst8 Q_0
  replace Q_1 := cell_later hst8 Q_1
  replace Q_l := Nat.lt_of_lt_of_le Q_l hst8.size
  clear hst8
  clear hc8 hb7
  go_wp2_with fail
  go_ret
  exact ⟨rfl, by repeat' (first | with_reducible exact hb8 | with_reducible refine Below.drew ?_ | with_reducible refine below_drewN ?_ _ | with_reducible refine Below.alloc ?_ (by have := hb8.size; first | (simp; done) | (simp; omega) | omega) _ | with_reducible refine Below.setCell ?_ (by first | (simp; done) | (simp; omega) | omega) _)⟩

/-- SignRight returns true. -/
theorem right_full (s : Int) (bs : List Int) (a : Option Addr) (c : Nat) (w : World) (hs : (Lit.int .u32 s).wf = true) (hb : BytesIn w a bs)
    (hK : CellsAt w (some ⟨0, 0, none⟩) (kcs.map (Value.int .u32)) ∧ 0 < w.heap.size) :
    Calls Tryd.prog 6 #[.int .u32 s, .slice a bs.length c] w fun e w' =>
      e = .returned (.bool true) ∧ Below w.heap.size w w' := by
  have h1 := bd_u32 hs
  by_cases h : badS s
  · exact right_bad s a _ c w h1.1 h1.2 ⟨hK.1, hK.2⟩ h
  · have g1 := good_of h1.1 h
    by_cases hn : 1000 < bs.length
    · exact right_long s a _ c w g1.1 g1.2 ⟨hK.1, hK.2⟩ hn
    · exact right_go s bs a _ c w g1.1 g1.2 hb.msg ⟨hK.1, hK.2⟩ (by omega)

theorem made_bad (s : Int) (a : Option Addr) (n c : Nat) (w : World) (h0 : 0 ≤ s) (h4 : s < 4294967296) (hT : TabK w) (h : badS s) :
    Calls Tryd.prog 7 #[.int .u32 s, .slice a n c] w fun e w' =>
      e = .returned (.bool true) ∧ Below w.heap.size w w' := by
  have H_h := Box.mk h
  have H_hT := Box.mk hT
  clear h hT
  go_enter Tryd.func7, Tryd.ntmps7
  have hb0 := Below.refl w.heap.size w
  go_wp2_with fail
  refine (rcheck_no s _ h0 h4 H_h.out).mono ?_
  rintro e w' ⟨rfl, rfl⟩
  go_wp2_with fail
  with_reducible refine (alive_any _ H_hT.out).mono ?_
  rintro e w1 ⟨rfl, hc1⟩
  have hb1 : Below w.heap.size w w1 := bchain (by repeat' (first | with_reducible exact hb0 | with_reducible refine Below.drew ?_ | with_reducible refine below_drewN ?_ _ | with_reducible refine Below.alloc ?_ (by have := hb0.size; first | (simp; done) | (simp; omega) | omega) _ | with_reducible refine Below.setCell ?_ (by first | (simp; done) | (simp; omega) | omega) _)) hc1
  clear hc1 hb0
  go_wp2_with fail
  go_ret
  exact ⟨rfl, by repeat' (first | with_reducible exact hb1 | with_reducible refine Below.drew ?_ | with_reducible refine below_drewN ?_ _ | with_reducible refine Below.alloc ?_ (by have := hb1.size; first | (simp; done) | (simp; omega) | omega) _ | with_reducible refine Below.setCell ?_ (by first | (simp; done) | (simp; omega) | omega) _)⟩
theorem made_long (s : Int) (a : Option Addr) (n c : Nat) (w : World) (h1 : 1 ≤ s) (h2 : s < 500000003) (hT : TabK w) (hn : 1000 < n) :
    Calls Tryd.prog 7 #[.int .u32 s, .slice a n c] w fun e w' =>
      e = .returned (.bool true) ∧ Below w.heap.size w w' := by
  have hnI : (1000 : Int) < (n : Int) := by omega
  have H_hT := Box.mk hT
  clear hT
  go_enter Tryd.func7, Tryd.ntmps7
  have hb0 := Below.refl w.heap.size w
  go_wp2_with fail
  refine (rcheck_ok s _ h1 h2).mono ?_
  rintro e w' ⟨rfl, rfl⟩
  go_wp2_with fail
  with_reducible refine (alive_any _ H_hT.out).mono ?_
  rintro e w1 ⟨rfl, hc1⟩
  have hb1 : Below w.heap.size w w1 := bchain (by repeat' (first | with_reducible exact hb0 | with_reducible refine Below.drew ?_ | with_reducible refine below_drewN ?_ _ | with_reducible refine Below.alloc ?_ (by have := hb0.size; first | (simp; done) | (simp; omega) | omega) _ | with_reducible refine Below.setCell ?_ (by first | (simp; done) | (simp; omega) | omega) _)) hc1
  clear hc1 hb0
  go_wp2_with fail
  go_ret
  exact ⟨rfl, by repeat' (first | with_reducible exact hb1 | with_reducible refine Below.drew ?_ | with_reducible refine below_drewN ?_ _ | with_reducible refine Below.alloc ?_ (by have := hb1.size; first | (simp; done) | (simp; omega) | omega) _ | with_reducible refine Below.setCell ?_ (by first | (simp; done) | (simp; omega) | omega) _)⟩
theorem prod_sign {s : Int} (h1 : 1 ≤ s) (bs : List Int) : pubK (nonP s bs) * gpw (pubK s) (sgE s bs).toNat 1000000007 % 1000000007 = pubK (sgS s bs) := by
  have hE := sgE_rng s bs
  have hk := nonP_rng s bs
  have hS : sgS s bs = (nonP s bs + sgE s bs * s % 500000003) % 500000003 := rfl
  have hS2 := sgS_rng s bs
  generalize sgE s bs = E at *
  generalize sgS s bs = S at *
  generalize nonP s bs = k at *
  have hm0 : 0 ≤ s * E := Int.mul_nonneg (by omega) hE.1
  have hc : E * s = s * E := Int.mul_comm _ _
  unfold pubK
  rw [pwI_mul 4 s E (by omega) hE.1, pwI_add 4 k _ (by omega) hm0, ← pwI_rem is_4 (k + s * E) (by omega), ← pwI_rem is_4 S hS2.1]
  congr 2
  rw [hc] at hS
  generalize s * E = m at *
  omega
set_option maxRecDepth 100000 in
set_option maxHeartbeats 1000000 in
theorem made_go (s : Int) (bs : List Int) (a : Option Addr) (n c : Nat) (w : World) (h1 : 1 ≤ s) (h2 : s < 500000003) (hm : MsgIn w a n bs) (hT : TabK w) (hn : n ≤ 1000) :
    Calls Tryd.prog 7 #[.int .u32 s, .slice a n c] w fun e w' =>
      e = .returned (.bool true) ∧ Below w.heap.size w w' := by
  have hnI : (n : Int) ≤ 1000 := by omega
  have hpr := prod_sign h1 bs
  have hEC : chaP (pubK (nonP s bs)) (pubK s) bs = sgE s bs := rfl
  have hk1 := nonP_rng s bs
  have hE1 := sgE_rng s bs
  have hS1 := sgS_rng s bs
  have hy1 := pubK_rng s
  have hyB := pubK_in s
  have hr1 := pubK_rng (nonP s bs)
  have hrB := pubK_in (nonP s bs)
  obtain ⟨k, hk⟩ : ∃ k, nonP s bs = k := ⟨_, rfl⟩
  obtain ⟨y, hy⟩ : ∃ y, pubK s = y := ⟨_, rfl⟩
  obtain ⟨E, hE⟩ : ∃ E, sgE s bs = E := ⟨_, rfl⟩
  obtain ⟨S, hS⟩ : ∃ S, sgS s bs = S := ⟨_, rfl⟩
  obtain ⟨r, hr⟩ : ∃ r, pubK k = r := ⟨_, rfl⟩
  obtain ⟨u, hu⟩ : ∃ u, pubK S = u := ⟨_, rfl⟩
  rw [hk, hr] at hr1 hrB
  rw [hk, hr, hy, hE] at hEC
  rw [hk, hr, hy, hE, hS, hu] at hpr
  rw [hk] at hk1; rw [hE] at hE1; rw [hS] at hS1; rw [hy] at hy1 hyB
  obtain ⟨v, hv⟩ : ∃ v, gpw y E.toNat 1000000007 = v := ⟨_, rfl⟩
  have hvB : isB v = true := by rw [← hv]; exact isB_pow hyB _
  rw [hv] at hpr
  obtain ⟨hk0, hk1⟩ := hk1
  obtain ⟨hE0, hE1⟩ := hE1
  obtain ⟨hS0, hS1⟩ := hS1
  obtain ⟨hy0, hy1⟩ := hy1
  obtain ⟨hr0, hr1⟩ := hr1
  have q1 : ∀ W, Calls Tryd.prog 12 #[.int .u32 s] W fun e w' => e = .returned (.tuple #[.int .u32 y, .int .i64 0]) ∧ Below W.heap.size W w' := fun W => hy ▸ public_ok s W h1 h2
  have q2 : ∀ W, MsgIn W a n bs → TabK W → Calls Tryd.prog 14 #[.int .u32 s, .slice a n c] W fun e w' => e = .returned (.tuple #[.int .u32 k, .int .i64 0]) ∧ Below W.heap.size W w' := fun W h3 h4 => by have := nonce_ok s bs a n c W h1 h2 h3 (by omega) h4; rw [hk] at this; exact this
  have q3 : ∀ W, MsgIn W a n bs → TabK W → Calls Tryd.prog 18 #[.int .u32 s, .slice a n c] W fun e w' => e = .returned (.tuple #[.agg #[.int .u32 E, .int .u32 S], .int .i64 0]) ∧ Below W.heap.size W w' := fun W h3 h4 => by have := sign_ok s bs a n c W h1 h2 h3 (by omega) h4; rw [hE, hS] at this; exact this
  have q4 : ∀ W, Calls Tryd.prog 25 #[.int .u64 k] W fun e w' => e = .returned (.int .u32 r) ∧ Below W.heap.size W w' := fun W => by have := base_I k W (by omega) (by omega); rw [show gpw 4 k.toNat 1000000007 = r from hr] at this; exact this
  have q5 : ∀ W, Calls Tryd.prog 26 #[.int .u32 y, .int .u64 E] W fun e w' => e = .returned (.tuple #[.int .u32 v, .int .i64 0]) ∧ Below W.heap.size W w' := fun W => by have := Pow_okI y E W hyB hE0 (by omega); rw [hv] at this; exact this
  have q6 : ∀ W, Calls Tryd.prog 27 #[.int .u32 r, .int .u32 v] W fun e w' => e = .returned (.tuple #[.int .u32 u, .int .i64 0]) ∧ Below W.heap.size W w' := fun W => by have := mul_ok r v W hrB hvB; rw [hpr] at this; exact this
  have q7 : ∀ W, MsgIn W a n bs → TabK W → Calls Tryd.prog 16 #[.int .u32 r, .int .u32 y, .slice a n c] W fun e w' => e = .returned (.tuple #[.int .u32 E, .int .i64 0]) ∧ Below W.heap.size W w' := fun W h3 h4 => by have := challenge_ok r y bs a n c W hr0 (by omega) hy0 (by omega) h3 (by omega) h4; rw [hEC] at this; exact this
  have q8 : ∀ W, Calls Tryd.prog 25 #[.int .u64 s] W fun e w' => e = .returned (.int .u32 y) ∧ Below W.heap.size W w' := fun W => by have := base_I s W (by omega) (by omega); rw [show gpw 4 s.toNat 1000000007 = y from hy] at this; exact this
  have q9 : ∀ W, Calls Tryd.prog 25 #[.int .u64 S] W fun e w' => e = .returned (.int .u32 u) ∧ Below W.heap.size W w' := fun W => by have := base_I S W (by omega) (by omega); rw [show gpw 4 S.toNat 1000000007 = u from hu] at this; exact this
  have wf : ∀ W, Below w.heap.size w W → MsgIn W a n bs ∧ TabK W := fun W h => ⟨hm.later h, hT.later h⟩
  have H_hk := Box.mk hk
  have H_hy := Box.mk hy
  have H_hE := Box.mk hE
  have H_hS := Box.mk hS
  have H_hr := Box.mk hr
  have H_hu := Box.mk hu
  have H_hv := Box.mk hv
  have H_hpr := Box.mk hpr
  have H_hEC := Box.mk hEC
  have H_hyB := Box.mk hyB
  have H_hrB := Box.mk hrB
  have H_hvB := Box.mk hvB
  have H_q1 := Box.mk q1
  have H_q2 := Box.mk q2
  have H_q3 := Box.mk q3
  have H_q4 := Box.mk q4
  have H_q5 := Box.mk q5
  have H_q6 := Box.mk q6
  have H_q7 := Box.mk q7
  have H_q8 := Box.mk q8
  have H_q9 := Box.mk q9
  have H_wf := Box.mk wf
  have H_hm := Box.mk hm
  have H_hT := Box.mk hT
  clear hk hy hE hS hr hu hv hpr hEC hyB hrB hvB q1 q2 q3 q4 q5 q6 q7 q8 q9 wf hm hT
  go_enter Tryd.func7, Tryd.ntmps7
  have hb0 := Below.refl w.heap.size w
  go_wp2_with fail
  refine (rcheck_ok s _ h1 h2).mono ?_
  rintro e w' ⟨rfl, rfl⟩
  go_wp2_with fail
  with_reducible refine (H_q1.out _).mono ?_
  rintro e w1 ⟨rfl, hc1⟩
  have hb1 : Below w.heap.size w w1 := bchain (by repeat' (first | with_reducible exact hb0 | with_reducible refine Below.drew ?_ | with_reducible refine below_drewN ?_ _ | with_reducible refine Below.alloc ?_ (by have := hb0.size; first | (simp; done) | (simp; omega) | omega) _ | with_reducible refine Below.setCell ?_ (by first | (simp; done) | (simp; omega) | omega) _)) hc1
  clear hc1 hb0
  go_wp2_with fail
  with_reducible refine (H_q2.out _ (H_wf.out _ hb1).1 (H_wf.out _ hb1).2).mono ?_
  rintro e w2 ⟨rfl, hc2⟩
  have hb2 : Below w.heap.size w w2 := bchain (by repeat' (first | with_reducible exact hb1 | with_reducible refine Below.drew ?_ | with_reducible refine below_drewN ?_ _ | with_reducible refine Below.alloc ?_ (by have := hb1.size; first | (simp; done) | (simp; omega) | omega) _ | with_reducible refine Below.setCell ?_ (by first | (simp; done) | (simp; omega) | omega) _)) hc2
  clear hc2 hb1
  go_wp2_with fail
  with_reducible refine (H_q3.out _ (H_wf.out _ hb2).1 (H_wf.out _ hb2).2).mono ?_
  rintro e w3 ⟨rfl, hc3⟩
  have hb3 : Below w.heap.size w w3 := bchain (by repeat' (first | with_reducible exact hb2 | with_reducible refine Below.drew ?_ | with_reducible refine below_drewN ?_ _ | with_reducible refine Below.alloc ?_ (by have := hb2.size; first | (simp; done) | (simp; omega) | omega) _ | with_reducible refine Below.setCell ?_ (by first | (simp; done) | (simp; omega) | omega) _)) hc3
  clear hc3 hb2
  go_wp2_with fail
  with_reducible refine (H_q4.out _).mono ?_
  rintro e w4 ⟨rfl, hc4⟩
  have hb4 : Below w.heap.size w w4 := bchain (by repeat' (first | with_reducible exact hb3 | with_reducible refine Below.drew ?_ | with_reducible refine below_drewN ?_ _ | with_reducible refine Below.alloc ?_ (by have := hb3.size; first | (simp; done) | (simp; omega) | omega) _ | with_reducible refine Below.setCell ?_ (by first | (simp; done) | (simp; omega) | omega) _)) hc4
  have P_0 : w4.cell? ⟨w3.heap.size, 0, none⟩ = some (.int .u32 E) := (hc4.cell (p := ⟨w3.heap.size, 0, none⟩) (by first | (simp; done) | (simp; omega))).trans (by first | (simp; done) | go_simp)
  have P_1 : w4.cell? ⟨w3.heap.size, 1, none⟩ = some (.int .u32 S) := (hc4.cell (p := ⟨w3.heap.size, 1, none⟩) (by first | (simp; done) | (simp; omega))).trans (by first | (simp; done) | go_simp)
  have P_l : w3.heap.size < w4.heap.size := Nat.lt_of_lt_of_le (by first | (simp; done) | (simp; omega)) hc4.size
  clear hc4 hb3
  go_wp2_with fail
  with_reducible refine (H_q5.out _).mono ?_
  rintro e w5 ⟨rfl, hc5⟩
  have hb5 : Below w.heap.size w w5 := bchain (by repeat' (first | with_reducible exact hb4 | with_reducible refine Below.drew ?_ | with_reducible refine below_drewN ?_ _ | with_reducible refine Below.alloc ?_ (by have := hb4.size; first | (simp; done) | (simp; omega) | omega) _ | with_reducible refine Below.setCell ?_ (by first | (simp; done) | (simp; omega) | omega) _)) hc5
  have hst5 : Below w4.heap.size w4 w5 := bchain (by repeat' (first | with_reducible exact Below.refl _ _ | with_reducible refine Below.drew ?_ | with_reducible refine below_drewN ?_ _ | with_reducible refine Below.alloc ?_ (by first | (simp; done) | (simp; omega) | omega) _ | with_reducible refine Below.setCell ?_ (by first | (simp; done) | (simp; omega) | omega) _)) hc5
  replace P_0 := cell_later hst5 P_0
  replace P_1 := cell_later hst5 P_1
  replace P_l := Nat.lt_of_lt_of_le P_l hst5.size
  clear hst5
  clear hc5 hb4
  go_wp2_with fail
  with_reducible refine (H_q6.out _).mono ?_
  rintro e w6 ⟨rfl, hc6⟩
  have hb6 : Below w.heap.size w w6 := bchain (by repeat' (first | with_reducible exact hb5 | with_reducible refine Below.drew ?_ | with_reducible refine below_drewN ?_ _ | with_reducible refine Below.alloc ?_ (by have := hb5.size; first | (simp; done) | (simp; omega) | omega) _ | with_reducible refine Below.setCell ?_ (by first | (simp; done) | (simp; omega) | omega) _)) hc6
  have hst6 : Below w5.heap.size w5 w6 := bchain (by repeat' (first | with_reducible exact Below.refl _ _ | with_reducible refine Below.drew ?_ | with_reducible refine below_drewN ?_ _ | with_reducible refine Below.alloc ?_ (by first | (simp; done) | (simp; omega) | omega) _ | with_reducible refine Below.setCell ?_ (by first | (simp; done) | (simp; omega) | omega) _)) hc6
  replace P_0 := cell_later hst6 P_0
  replace P_1 := cell_later hst6 P_1
  replace P_l := Nat.lt_of_lt_of_le P_l hst6.size
  clear hst6
  clear hc6 hb5
  go_wp2_with fail
  with_reducible refine (H_q7.out _ (H_wf.out _ hb6).1 (H_wf.out _ hb6).2).mono ?_
  rintro e w7 ⟨rfl, hc7⟩
  have hb7 : Below w.heap.size w w7 := bchain (by repeat' (first | with_reducible exact hb6 | with_reducible refine Below.drew ?_ | with_reducible refine below_drewN ?_ _ | with_reducible refine Below.alloc ?_ (by have := hb6.size; first | (simp; done) | (simp; omega) | omega) _ | with_reducible refine Below.setCell ?_ (by first | (simp; done) | (simp; omega) | omega) _)) hc7
  have hst7 : Below w6.heap.size w6 w7 := bchain (by repeat' (first | with_reducible exact Below.refl _ _ | with_reducible refine Below.drew ?_ | with_reducible refine below_drewN ?_ _ | with_reducible refine Below.alloc ?_ (by first | (simp; done) | (simp; omega) | omega) _ | with_reducible refine Below.setCell ?_ (by first | (simp; done) | (simp; omega) | omega) _)) hc7
  replace P_0 := cell_later hst7 P_0
  replace P_1 := cell_later hst7 P_1
  replace P_l := Nat.lt_of_lt_of_le P_l hst7.size
  clear hst7
  clear hc7 hb6
  go_wp2_with fail
  with_reducible refine (H_q8.out _).mono ?_
  rintro e w8 ⟨rfl, hc8⟩
  have hb8 : Below w.heap.size w w8 := bchain (by repeat' (first | with_reducible exact hb7 | with_reducible refine Below.drew ?_ | with_reducible refine below_drewN ?_ _ | with_reducible refine Below.alloc ?_ (by have := hb7.size; first | (simp; done) | (simp; omega) | omega) _ | with_reducible refine Below.setCell ?_ (by first | (simp; done) | (simp; omega) | omega) _)) hc8
  have hst8 : Below w7.heap.size w7 w8 := bchain (by repeat' (first | with_reducible exact Below.refl _ _ | with_reducible refine Below.drew ?_ | with_reducible refine below_drewN ?_ _ | with_reducible refine Below.alloc ?_ (by first | (simp; done) | (simp; omega) | omega) _ | with_reducible refine Below.setCell ?_ (by first | (simp; done) | (simp; omega) | omega) _)) hc8
  replace P_0 := cell_later hst8 P_0
  replace P_1 := cell_later hst8 P_1
  replace P_l := Nat.lt_of_lt_of_le P_l hst8.size
  clear hst8
  clear hc8 hb7
  go_wp2_with fail
  with_reducible refine (H_q9.out _).mono ?_
  rintro e w9 ⟨rfl, hc9⟩
  have hb9 : Below w.heap.size w w9 := bchain (by repeat' (first | with_reducible exact hb8 | with_reducible refine Below.drew ?_ | with_reducible refine below_drewN ?_ _ | with_reducible refine Below.alloc ?_ (by have := hb8.size; first | (simp; done) | (simp; omega) | omega) _ | with_reducible refine Below.setCell ?_ (by first | (simp; done) | (simp; omega) | omega) _)) hc9
  have hst9 : Below w8.heap.size w8 w9 := bchain (by repeat' (first | with_reducible exact Below.refl _ _ | with_reducible refine Below.drew ?_ | with_reducible refine below_drewN ?_ _ | with_reducible refine Below.alloc ?_ (by first | (simp; done) | (simp; omega) | omega) _ | with_reducible refine Below.setCell ?_ (by first | (simp; done) | (simp; omega) | omega) _)) hc9
  replace P_0 := cell_later hst9 P_0
  replace P_1 := cell_later hst9 P_1
  replace P_l := Nat.lt_of_lt_of_le P_l hst9.size
  clear hst9
  clear hc9 hb8
  go_wp2_with fail
  with_reducible refine (alive_any _ (H_wf.out _ hb9).2).mono ?_
  rintro e w10 ⟨rfl, hc10⟩
  have hb10 : Below w.heap.size w w10 := bchain (by repeat' (first | with_reducible exact hb9 | with_reducible refine Below.drew ?_ | with_reducible refine below_drewN ?_ _ | with_reducible refine Below.alloc ?_ (by have := hb9.size; first | (simp; done) | (simp; omega) | omega) _ | with_reducible refine Below.setCell ?_ (by first | (simp; done) | (simp; omega) | omega) _)) hc10
  have hst10 : Below w9.heap.size w9 w10 := bchain (by repeat' (first | with_reducible exact Below.refl _ _ | with_reducible refine Below.drew ?_ | with_reducible refine below_drewN ?_ _ | with_reducible refine Below.alloc ?_ (by first | (simp; done) | (simp; omega) | omega) _ | with_reducible refine Below.setCell ?_ (by first | (simp; done) | (simp; omega) | omega) _)) hc10
  replace P_0 := cell_later hst10 P_0
  replace P_1 := cell_later hst10 P_1
  replace P_l := Nat.lt_of_lt_of_le P_l hst10.size
  clear hst10
  clear hc10 hb9
  go_wp2_with fail
  go_ret
  exact ⟨rfl, by repeat' (first | with_reducible exact hb10 | with_reducible refine Below.drew ?_ | with_reducible refine below_drewN ?_ _ | with_reducible refine Below.alloc ?_ (by have := hb10.size; first | (simp; done) | (simp; omega) | omega) _ | with_reducible refine Below.setCell ?_ (by first | (simp; done) | (simp; omega) | omega) _)⟩

/-- SignMade returns true. -/
theorem made_full (s : Int) (bs : List Int) (a : Option Addr) (c : Nat) (w : World) (hs : (Lit.int .u32 s).wf = true) (hb : BytesIn w a bs)
    (hK : CellsAt w (some ⟨0, 0, none⟩) (kcs.map (Value.int .u32)) ∧ 0 < w.heap.size) :
    Calls Tryd.prog 7 #[.int .u32 s, .slice a bs.length c] w fun e w' =>
      e = .returned (.bool true) ∧ Below w.heap.size w w' := by
  have h1 := bd_u32 hs
  by_cases h : badS s
  · exact made_bad s a _ c w h1.1 h1.2 ⟨hK.1, hK.2⟩ h
  · have g1 := good_of h1.1 h
    by_cases hn : 1000 < bs.length
    · exact made_long s a _ c w g1.1 g1.2 ⟨hK.1, hK.2⟩ hn
    · exact made_go s bs a _ c w g1.1 g1.2 hb.msg ⟨hK.1, hK.2⟩ (by omega)

theorem tells_bad (y E S : Int) (a : Option Addr) (n c : Nat) (w : World) (y0 : 0 ≤ y) (y4 : y < 4294967296) (hT : TabK w) (h : isB y = false) :
    Calls Tryd.prog 9 #[.int .u32 y, .slice a n c, .agg #[.int .u32 E, .int .u32 S]] w fun e w' =>
      e = .returned (.bool true) ∧ Below w.heap.size w w' := by
  have H_h := Box.mk h
  have H_hT := Box.mk hT
  clear h hT
  go_enter Tryd.func9, Tryd.ntmps9
  have hb0 := Below.refl w.heap.size w
  go_wp2_with fail
  refine (ris_any y _ y0 y4).mono ?_
  rintro e w' ⟨rfl, rfl⟩
  rw [H_h.out]
  go_wp2_with fail
  with_reducible refine (alive_any _ (H_hT.out.later (below_alloc _ _))).mono ?_
  rintro e w1 ⟨rfl, hc1⟩
  have hb1 : Below w.heap.size w w1 := bchain (by repeat' (first | with_reducible exact hb0 | with_reducible refine Below.drew ?_ | with_reducible refine below_drewN ?_ _ | with_reducible refine Below.alloc ?_ (by have := hb0.size; first | (simp; done) | (simp; omega) | omega) _ | with_reducible refine Below.setCell ?_ (by first | (simp; done) | (simp; omega) | omega) _)) hc1
  clear hc1 hb0
  go_wp2_with fail
  go_ret
  exact ⟨rfl, by repeat' (first | with_reducible exact hb1 | with_reducible refine Below.drew ?_ | with_reducible refine below_drewN ?_ _ | with_reducible refine Below.alloc ?_ (by have := hb1.size; first | (simp; done) | (simp; omega) | omega) _ | with_reducible refine Below.setCell ?_ (by first | (simp; done) | (simp; omega) | omega) _)⟩
theorem tells_long (y E S : Int) (a : Option Addr) (n c : Nat) (w : World) (y0 : 0 ≤ y) (y4 : y < 4294967296) (hT : TabK w) (h : isB y = true) (hn : 1000 < n) :
    Calls Tryd.prog 9 #[.int .u32 y, .slice a n c, .agg #[.int .u32 E, .int .u32 S]] w fun e w' =>
      e = .returned (.bool true) ∧ Below w.heap.size w w' := by
  have hnI : (1000 : Int) < (n : Int) := by omega
  have H_h := Box.mk h
  have H_hT := Box.mk hT
  clear h hT
  go_enter Tryd.func9, Tryd.ntmps9
  have hb0 := Below.refl w.heap.size w
  go_wp2_with fail
  refine (ris_any y _ y0 y4).mono ?_
  rintro e w' ⟨rfl, rfl⟩
  rw [H_h.out]
  go_wp2_with fail
  with_reducible refine (alive_any _ (H_hT.out.later (below_alloc _ _))).mono ?_
  rintro e w1 ⟨rfl, hc1⟩
  have hb1 : Below w.heap.size w w1 := bchain (by repeat' (first | with_reducible exact hb0 | with_reducible refine Below.drew ?_ | with_reducible refine below_drewN ?_ _ | with_reducible refine Below.alloc ?_ (by have := hb0.size; first | (simp; done) | (simp; omega) | omega) _ | with_reducible refine Below.setCell ?_ (by first | (simp; done) | (simp; omega) | omega) _)) hc1
  clear hc1 hb0
  go_wp2_with fail
  go_ret
  exact ⟨rfl, by repeat' (first | with_reducible exact hb1 | with_reducible refine Below.drew ?_ | with_reducible refine below_drewN ?_ _ | with_reducible refine Below.alloc ?_ (by have := hb1.size; first | (simp; done) | (simp; omega) | omega) _ | with_reducible refine Below.setCell ?_ (by first | (simp; done) | (simp; omega) | omega) _)⟩
set_option maxRecDepth 100000 in
set_option maxHeartbeats 1000000 in
theorem tells_big (y E S : Int) (bs : List Int) (a : Option Addr) (n c : Nat) (w : World) (y0 : 0 ≤ y) (y4 : y < 4294967296) (hE0 : 0 ≤ E) (hE4 : E < 4294967296) (hS0 : 0 ≤ S) (hS4 : S < 4294967296) (hm : MsgIn w a n bs) (hT : TabK w) (h : isB y = true) (hn : n ≤ 1000) (hb : 500000003 ≤ E ∨ 500000003 ≤ S) :
    Calls Tryd.prog 9 #[.int .u32 y, .slice a n c, .agg #[.int .u32 E, .int .u32 S]] w fun e w' =>
      e = .returned (.bool true) ∧ Below w.heap.size w w' := by
  have hnI : (n : Int) ≤ 1000 := by omega
  have q1 : ∀ W, MsgIn W a n bs → TabK W → Calls Tryd.prog 10 #[.int .u32 y, .slice a n c, .agg #[.int .u32 E, .int .u32 S]] W fun e w' => e = .returned (.int .i64 22) ∧ Below W.heap.size W w' := fun W h3 h4 => by have := verify_all y E S bs a n c W y0 y4 hE0 hS0 h3 h4; rw [verZ_big _ _ _ _ h (by have := hm.len; omega) hb] at this; exact this
  have wf : ∀ W, Below w.heap.size w W → MsgIn W a n bs ∧ TabK W := fun W h => ⟨hm.later h, hT.later h⟩
  by_cases hE : E < 500000003
  · have hS : decide (S < 500000003) = false := by rw [decide_eq_false_iff_not]; omega
    clear hb
    have H_h := Box.mk h
    have H_q1 := Box.mk q1
    have H_wf := Box.mk wf
    have H_hm := Box.mk hm
    have H_hT := Box.mk hT
    clear h q1 wf hm hT
    go_enter Tryd.func9, Tryd.ntmps9
    have hb0 := Below.refl w.heap.size w
    go_wp2_with fail
    refine (ris_any y _ y0 y4).mono ?_
    rintro e w' ⟨rfl, rfl⟩
    rw [H_h.out]
    go_wp2_with fail
    with_reducible refine (H_q1.out _ (H_wf.out _ (below_alloc _ _)).1 (H_wf.out _ (below_alloc _ _)).2).mono ?_
    rintro e w1 ⟨rfl, hc1⟩
    have hb1 : Below w.heap.size w w1 := bchain (by repeat' (first | with_reducible exact hb0 | with_reducible refine Below.drew ?_ | with_reducible refine below_drewN ?_ _ | with_reducible refine Below.alloc ?_ (by have := hb0.size; first | (simp; done) | (simp; omega) | omega) _ | with_reducible refine Below.setCell ?_ (by first | (simp; done) | (simp; omega) | omega) _)) hc1
    have O_0 : w1.cell? ⟨w.heap.size, 0, none⟩ = some (.int .u32 E) := (hc1.cell (p := ⟨w.heap.size, 0, none⟩) (by first | (simp; done) | (simp; omega))).trans (by first | (simp; done) | go_simp)
    have O_1 : w1.cell? ⟨w.heap.size, 1, none⟩ = some (.int .u32 S) := (hc1.cell (p := ⟨w.heap.size, 1, none⟩) (by first | (simp; done) | (simp; omega))).trans (by first | (simp; done) | go_simp)
    have O_l : w.heap.size < w1.heap.size := Nat.lt_of_lt_of_le (by first | (simp; done) | (simp; omega)) hc1.size
    clear hc1 hb0
    go_wp2_with fail
    refine (rexponent_any E _ hE0 hE4).mono ?_
    rintro e w' ⟨rfl, rfl⟩
    go_wp2_with fail
    refine (rexponent_any S _ hS0 hS4).mono ?_
    rintro e w' ⟨rfl, rfl⟩
    rw [hS]
    go_wp2_with fail
    with_reducible refine (alive_any _ (H_wf.out _ hb1).2).mono ?_
    rintro e w2 ⟨rfl, hc2⟩
    have hb2 : Below w.heap.size w w2 := bchain (by repeat' (first | with_reducible exact hb1 | with_reducible refine Below.drew ?_ | with_reducible refine below_drewN ?_ _ | with_reducible refine Below.alloc ?_ (by have := hb1.size; first | (simp; done) | (simp; omega) | omega) _ | with_reducible refine Below.setCell ?_ (by first | (simp; done) | (simp; omega) | omega) _)) hc2
    have hst2 : Below w1.heap.size w1 w2 := bchain (by repeat' (first | with_reducible exact Below.refl _ _ | with_reducible refine Below.drew ?_ | with_reducible refine below_drewN ?_ _ | with_reducible refine Below.alloc ?_ (by first | (simp; done) | (simp; omega) | omega) _ | with_reducible refine Below.setCell ?_ (by first | (simp; done) | (simp; omega) | omega) _)) hc2
    replace O_0 := cell_later hst2 O_0
    replace O_1 := cell_later hst2 O_1
    replace O_l := Nat.lt_of_lt_of_le O_l hst2.size
    clear hst2
    clear hc2 hb1
    go_wp2_with fail
    go_ret
    exact ⟨rfl, by repeat' (first | with_reducible exact hb2 | with_reducible refine Below.drew ?_ | with_reducible refine below_drewN ?_ _ | with_reducible refine Below.alloc ?_ (by have := hb2.size; first | (simp; done) | (simp; omega) | omega) _ | with_reducible refine Below.setCell ?_ (by first | (simp; done) | (simp; omega) | omega) _)⟩
  · have hE' : decide (E < 500000003) = false := by rw [decide_eq_false_iff_not]; omega
    clear hb hE
    have H_h := Box.mk h
    have H_q1 := Box.mk q1
    have H_wf := Box.mk wf
    have H_hm := Box.mk hm
    have H_hT := Box.mk hT
    clear h q1 wf hm hT
    go_enter Tryd.func9, Tryd.ntmps9
    have hb0 := Below.refl w.heap.size w
    go_wp2_with fail
    refine (ris_any y _ y0 y4).mono ?_
    rintro e w' ⟨rfl, rfl⟩
    rw [H_h.out]
    go_wp2_with fail
    with_reducible refine (H_q1.out _ (H_wf.out _ (below_alloc _ _)).1 (H_wf.out _ (below_alloc _ _)).2).mono ?_
    rintro e w1 ⟨rfl, hc1⟩
    have hb1 : Below w.heap.size w w1 := bchain (by repeat' (first | with_reducible exact hb0 | with_reducible refine Below.drew ?_ | with_reducible refine below_drewN ?_ _ | with_reducible refine Below.alloc ?_ (by have := hb0.size; first | (simp; done) | (simp; omega) | omega) _ | with_reducible refine Below.setCell ?_ (by first | (simp; done) | (simp; omega) | omega) _)) hc1
    have O_0 : w1.cell? ⟨w.heap.size, 0, none⟩ = some (.int .u32 E) := (hc1.cell (p := ⟨w.heap.size, 0, none⟩) (by first | (simp; done) | (simp; omega))).trans (by first | (simp; done) | go_simp)
    have O_1 : w1.cell? ⟨w.heap.size, 1, none⟩ = some (.int .u32 S) := (hc1.cell (p := ⟨w.heap.size, 1, none⟩) (by first | (simp; done) | (simp; omega))).trans (by first | (simp; done) | go_simp)
    have O_l : w.heap.size < w1.heap.size := Nat.lt_of_lt_of_le (by first | (simp; done) | (simp; omega)) hc1.size
    clear hc1 hb0
    go_wp2_with fail
    refine (rexponent_any E _ hE0 hE4).mono ?_
    rintro e w' ⟨rfl, rfl⟩
    rw [hE']
    go_wp2_with fail
    with_reducible refine (alive_any _ (H_wf.out _ hb1).2).mono ?_
    rintro e w2 ⟨rfl, hc2⟩
    have hb2 : Below w.heap.size w w2 := bchain (by repeat' (first | with_reducible exact hb1 | with_reducible refine Below.drew ?_ | with_reducible refine below_drewN ?_ _ | with_reducible refine Below.alloc ?_ (by have := hb1.size; first | (simp; done) | (simp; omega) | omega) _ | with_reducible refine Below.setCell ?_ (by first | (simp; done) | (simp; omega) | omega) _)) hc2
    have hst2 : Below w1.heap.size w1 w2 := bchain (by repeat' (first | with_reducible exact Below.refl _ _ | with_reducible refine Below.drew ?_ | with_reducible refine below_drewN ?_ _ | with_reducible refine Below.alloc ?_ (by first | (simp; done) | (simp; omega) | omega) _ | with_reducible refine Below.setCell ?_ (by first | (simp; done) | (simp; omega) | omega) _)) hc2
    replace O_0 := cell_later hst2 O_0
    replace O_1 := cell_later hst2 O_1
    replace O_l := Nat.lt_of_lt_of_le O_l hst2.size
    clear hst2
    clear hc2 hb1
    go_wp2_with fail
    go_ret
    exact ⟨rfl, by repeat' (first | with_reducible exact hb2 | with_reducible refine Below.drew ?_ | with_reducible refine below_drewN ?_ _ | with_reducible refine Below.alloc ?_ (by have := hb2.size; first | (simp; done) | (simp; omega) | omega) _ | with_reducible refine Below.setCell ?_ (by first | (simp; done) | (simp; omega) | omega) _)⟩

set_option maxRecDepth 100000 in
set_option maxHeartbeats 1000000 in
theorem tells_go (y E S : Int) (bs : List Int) (a : Option Addr) (n c : Nat) (w : World) (hE0 : 0 ≤ E) (hE4 : E < 500000003) (hS0 : 0 ≤ S) (hS4 : S < 500000003) (hm : MsgIn w a n bs) (hT : TabK w) (h : isB y = true) (hn : n ≤ 1000) :
    Calls Tryd.prog 9 #[.int .u32 y, .slice a n c, .agg #[.int .u32 E, .int .u32 S]] w fun e w' =>
      e = .returned (.bool true) ∧ Below w.heap.size w w' := by
  have hnI : (n : Int) ≤ 1000 := by omega
  have hy := isB_bd h
  obtain ⟨hy0, hy1⟩ := hy
  obtain ⟨v, hv⟩ : ∃ v, gpw y E.toNat 1000000007 = v := ⟨_, rfl⟩
  have hvB : isB v = true := by rw [← hv]; exact isB_pow h _
  obtain ⟨z, hz⟩ : ∃ z, gpw v 500000002 1000000007 = z := ⟨_, rfl⟩
  have hzB : isB z = true := by rw [← hz]; exact isB_pow hvB _
  have hz' : gpw y (500000003 - E).toNat 1000000007 = z := by rw [back_pow h E hE0 hE4, hv, hz]
  obtain ⟨u, hu⟩ : ∃ u, pubK S = u := ⟨_, rfl⟩
  have huB : isB u = true := by rw [← hu]; exact pubK_in S
  obtain ⟨r, hr⟩ : ∃ r, u * z % 1000000007 = r := ⟨_, rfl⟩
  have e1 : backR y E S = r := by rw [← hr, ← hu, ← hz']; rfl
  have hr0 : 0 ≤ r := by omega
  have hr1 : r < 1000000007 := by omega
  obtain ⟨C, hC⟩ : ∃ C, chaP r y bs = C := ⟨_, rfl⟩
  have hver := fun W h3 h4 => verify_go y E S bs a n c W h h3 (by omega) h4 hE0 hE4 hS0 hS4
  rw [e1, hC] at hver
  have q2 : ∀ W, Calls Tryd.prog 26 #[.int .u32 y, .int .u64 E] W fun e w' => e = .returned (.tuple #[.int .u32 v, .int .i64 0]) ∧ Below W.heap.size W w' := fun W => by have := Pow_okI y E W h hE0 (by omega); rw [hv] at this; exact this
  have q3 : ∀ W, Calls Tryd.prog 30 #[.int .u32 v] W fun e w' => e = .returned (.tuple #[.int .u32 z, .int .i64 0]) ∧ Below W.heap.size W w' := fun W => by have := inv_ok v W hvB; rw [hz] at this; exact this
  have q4 : ∀ W, Calls Tryd.prog 25 #[.int .u64 S] W fun e w' => e = .returned (.int .u32 u) ∧ Below W.heap.size W w' := fun W => by have := base_I S W (by omega) (by omega); rw [show gpw 4 S.toNat 1000000007 = u from hu] at this; exact this
  have q5 : ∀ W, Calls Tryd.prog 27 #[.int .u32 u, .int .u32 z] W fun e w' => e = .returned (.tuple #[.int .u32 r, .int .i64 0]) ∧ Below W.heap.size W w' := fun W => by have := mul_ok u z W huB hzB; rw [hr] at this; exact this
  have wf : ∀ W, Below w.heap.size w W → MsgIn W a n bs ∧ TabK W := fun W h => ⟨hm.later h, hT.later h⟩
  have hcha := fun W h3 h4 => challenge_ok r y bs a n c W hr0 (by omega) (by omega) (by omega) h3 (by omega) h4
  rw [hC] at hcha
  clear e1
  by_cases hCE : C = E
  · have q1 : ∀ W, MsgIn W a n bs → TabK W → Calls Tryd.prog 10 #[.int .u32 y, .slice a n c, .agg #[.int .u32 E, .int .u32 S]] W fun e w' => e = .returned (.int .i64 0) ∧ Below W.heap.size W w' := fun W h3 h4 => by have := hver W h3 h4; rw [if_pos hCE] at this; exact this
    have q6 : ∀ W, MsgIn W a n bs → TabK W → Calls Tryd.prog 16 #[.int .u32 r, .int .u32 y, .slice a n c] W fun e w' => e = .returned (.tuple #[.int .u32 E, .int .i64 0]) ∧ Below W.heap.size W w' := fun W h3 h4 => by have := hcha W h3 h4; rw [hCE] at this; exact this
    clear hver hcha hz'
    have H_h := Box.mk h
    have H_hv := Box.mk hv
    have H_hvB := Box.mk hvB
    have H_hz := Box.mk hz
    have H_hzB := Box.mk hzB
    have H_hu := Box.mk hu
    have H_huB := Box.mk huB
    have H_hr := Box.mk hr
    have H_hC := Box.mk hC
    have H_q1 := Box.mk q1
    have H_q2 := Box.mk q2
    have H_q3 := Box.mk q3
    have H_q4 := Box.mk q4
    have H_q5 := Box.mk q5
    have H_q6 := Box.mk q6
    have H_wf := Box.mk wf
    have H_hm := Box.mk hm
    have H_hT := Box.mk hT
    have H_hCE := Box.mk hCE
    clear h hv hvB hz hzB hu huB hr hC q1 q2 q3 q4 q5 q6 wf hm hT hCE
    go_enter Tryd.func9, Tryd.ntmps9
    have hb0 := Below.refl w.heap.size w
    go_wp2_with fail
    refine (ris_any y _ (by omega) (by omega)).mono ?_
    rintro e w' ⟨rfl, rfl⟩
    rw [H_h.out]
    go_wp2_with fail
    with_reducible refine (H_q1.out _ (H_wf.out _ (below_alloc _ _)).1 (H_wf.out _ (below_alloc _ _)).2).mono ?_
    rintro e w1 ⟨rfl, hc1⟩
    have hb1 : Below w.heap.size w w1 := bchain (by repeat' (first | with_reducible exact hb0 | with_reducible refine Below.drew ?_ | with_reducible refine below_drewN ?_ _ | with_reducible refine Below.alloc ?_ (by have := hb0.size; first | (simp; done) | (simp; omega) | omega) _ | with_reducible refine Below.setCell ?_ (by first | (simp; done) | (simp; omega) | omega) _)) hc1
    have O_0 : w1.cell? ⟨w.heap.size, 0, none⟩ = some (.int .u32 E) := (hc1.cell (p := ⟨w.heap.size, 0, none⟩) (by first | (simp; done) | (simp; omega))).trans (by first | (simp; done) | go_simp)
    have O_1 : w1.cell? ⟨w.heap.size, 1, none⟩ = some (.int .u32 S) := (hc1.cell (p := ⟨w.heap.size, 1, none⟩) (by first | (simp; done) | (simp; omega))).trans (by first | (simp; done) | go_simp)
    have O_l : w.heap.size < w1.heap.size := Nat.lt_of_lt_of_le (by first | (simp; done) | (simp; omega)) hc1.size
    clear hc1 hb0
    go_wp2_with fail
    refine (rexponent_any E _ hE0 (by omega)).mono ?_
    rintro e w' ⟨rfl, rfl⟩
    go_wp2_with fail
    refine (rexponent_any S _ hS0 (by omega)).mono ?_
    rintro e w' ⟨rfl, rfl⟩
    go_wp2_with fail
    with_reducible refine (H_q2.out _).mono ?_
    rintro e w2 ⟨rfl, hc2⟩
    have hb2 : Below w.heap.size w w2 := bchain (by repeat' (first | with_reducible exact hb1 | with_reducible refine Below.drew ?_ | with_reducible refine below_drewN ?_ _ | with_reducible refine Below.alloc ?_ (by have := hb1.size; first | (simp; done) | (simp; omega) | omega) _ | with_reducible refine Below.setCell ?_ (by first | (simp; done) | (simp; omega) | omega) _)) hc2
    have hst2 : Below w1.heap.size w1 w2 := bchain (by repeat' (first | with_reducible exact Below.refl _ _ | with_reducible refine Below.drew ?_ | with_reducible refine below_drewN ?_ _ | with_reducible refine Below.alloc ?_ (by first | (simp; done) | (simp; omega) | omega) _ | with_reducible refine Below.setCell ?_ (by first | (simp; done) | (simp; omega) | omega) _)) hc2
    replace O_0 := cell_later hst2 O_0
    replace O_1 := cell_later hst2 O_1
    replace O_l := Nat.lt_of_lt_of_le O_l hst2.size
    clear hst2
    clear hc2 hb1
    go_wp2_with fail
    with_reducible refine (H_q3.out _).mono ?_
    rintro e w3 ⟨rfl, hc3⟩
    have hb3 : Below w.heap.size w w3 := bchain (by repeat' (first | with_reducible exact hb2 | with_reducible refine Below.drew ?_ | with_reducible refine below_drewN ?_ _ | with_reducible refine Below.alloc ?_ (by have := hb2.size; first | (simp; done) | (simp; omega) | omega) _ | with_reducible refine Below.setCell ?_ (by first | (simp; done) | (simp; omega) | omega) _)) hc3
    have hst3 : Below w2.heap.size w2 w3 := bchain (by repeat' (first | with_reducible exact Below.refl _ _ | with_reducible refine Below.drew ?_ | with_reducible refine below_drewN ?_ _ | with_reducible refine Below.alloc ?_ (by first | (simp; done) | (simp; omega) | omega) _ | with_reducible refine Below.setCell ?_ (by first | (simp; done) | (simp; omega) | omega) _)) hc3
    replace O_0 := cell_later hst3 O_0
    replace O_1 := cell_later hst3 O_1
    replace O_l := Nat.lt_of_lt_of_le O_l hst3.size
    clear hst3
    clear hc3 hb2
    go_wp2_with fail
    with_reducible refine (H_q4.out _).mono ?_
    rintro e w4 ⟨rfl, hc4⟩
    have hb4 : Below w.heap.size w w4 := bchain (by repeat' (first | with_reducible exact hb3 | with_reducible refine Below.drew ?_ | with_reducible refine below_drewN ?_ _ | with_reducible refine Below.alloc ?_ (by have := hb3.size; first | (simp; done) | (simp; omega) | omega) _ | with_reducible refine Below.setCell ?_ (by first | (simp; done) | (simp; omega) | omega) _)) hc4
    have hst4 : Below w3.heap.size w3 w4 := bchain (by repeat' (first | with_reducible exact Below.refl _ _ | with_reducible refine Below.drew ?_ | with_reducible refine below_drewN ?_ _ | with_reducible refine Below.alloc ?_ (by first | (simp; done) | (simp; omega) | omega) _ | with_reducible refine Below.setCell ?_ (by first | (simp; done) | (simp; omega) | omega) _)) hc4
    replace O_0 := cell_later hst4 O_0
    replace O_1 := cell_later hst4 O_1
    replace O_l := Nat.lt_of_lt_of_le O_l hst4.size
    clear hst4
    clear hc4 hb3
    go_wp2_with fail
    with_reducible refine (H_q5.out _).mono ?_
    rintro e w5 ⟨rfl, hc5⟩
    have hb5 : Below w.heap.size w w5 := bchain (by repeat' (first | with_reducible exact hb4 | with_reducible refine Below.drew ?_ | with_reducible refine below_drewN ?_ _ | with_reducible refine Below.alloc ?_ (by have := hb4.size; first | (simp; done) | (simp; omega) | omega) _ | with_reducible refine Below.setCell ?_ (by first | (simp; done) | (simp; omega) | omega) _)) hc5
    have hst5 : Below w4.heap.size w4 w5 := bchain (by repeat' (first | with_reducible exact Below.refl _ _ | with_reducible refine Below.drew ?_ | with_reducible refine below_drewN ?_ _ | with_reducible refine Below.alloc ?_ (by first | (simp; done) | (simp; omega) | omega) _ | with_reducible refine Below.setCell ?_ (by first | (simp; done) | (simp; omega) | omega) _)) hc5
    replace O_0 := cell_later hst5 O_0
    replace O_1 := cell_later hst5 O_1
    replace O_l := Nat.lt_of_lt_of_le O_l hst5.size
    clear hst5
    clear hc5 hb4
    go_wp2_with fail
    with_reducible refine (H_q6.out _ (H_wf.out _ hb5).1 (H_wf.out _ hb5).2).mono ?_
    rintro e w6 ⟨rfl, hc6⟩
    have hb6 : Below w.heap.size w w6 := bchain (by repeat' (first | with_reducible exact hb5 | with_reducible refine Below.drew ?_ | with_reducible refine below_drewN ?_ _ | with_reducible refine Below.alloc ?_ (by have := hb5.size; first | (simp; done) | (simp; omega) | omega) _ | with_reducible refine Below.setCell ?_ (by first | (simp; done) | (simp; omega) | omega) _)) hc6
    have hst6 : Below w5.heap.size w5 w6 := bchain (by repeat' (first | with_reducible exact Below.refl _ _ | with_reducible refine Below.drew ?_ | with_reducible refine below_drewN ?_ _ | with_reducible refine Below.alloc ?_ (by first | (simp; done) | (simp; omega) | omega) _ | with_reducible refine Below.setCell ?_ (by first | (simp; done) | (simp; omega) | omega) _)) hc6
    replace O_0 := cell_later hst6 O_0
    replace O_1 := cell_later hst6 O_1
    replace O_l := Nat.lt_of_lt_of_le O_l hst6.size
    clear hst6
    clear hc6 hb5
    go_wp2_with fail
    with_reducible refine (alive_any _ (H_wf.out _ hb6).2).mono ?_
    rintro e w7 ⟨rfl, hc7⟩
    have hb7 : Below w.heap.size w w7 := bchain (by repeat' (first | with_reducible exact hb6 | with_reducible refine Below.drew ?_ | with_reducible refine below_drewN ?_ _ | with_reducible refine Below.alloc ?_ (by have := hb6.size; first | (simp; done) | (simp; omega) | omega) _ | with_reducible refine Below.setCell ?_ (by first | (simp; done) | (simp; omega) | omega) _)) hc7
    have hst7 : Below w6.heap.size w6 w7 := bchain (by repeat' (first | with_reducible exact Below.refl _ _ | with_reducible refine Below.drew ?_ | with_reducible refine below_drewN ?_ _ | with_reducible refine Below.alloc ?_ (by first | (simp; done) | (simp; omega) | omega) _ | with_reducible refine Below.setCell ?_ (by first | (simp; done) | (simp; omega) | omega) _)) hc7
    replace O_0 := cell_later hst7 O_0
    replace O_1 := cell_later hst7 O_1
    replace O_l := Nat.lt_of_lt_of_le O_l hst7.size
    clear hst7
    clear hc7 hb6
    go_wp2_with fail
    go_ret
    exact ⟨rfl, by repeat' (first | with_reducible exact hb7 | with_reducible refine Below.drew ?_ | with_reducible refine below_drewN ?_ _ | with_reducible refine Below.alloc ?_ (by have := hb7.size; first | (simp; done) | (simp; omega) | omega) _ | with_reducible refine Below.setCell ?_ (by first | (simp; done) | (simp; omega) | omega) _)⟩
  · have q1 : ∀ W, MsgIn W a n bs → TabK W → Calls Tryd.prog 10 #[.int .u32 y, .slice a n c, .agg #[.int .u32 E, .int .u32 S]] W fun e w' => e = .returned (.int .i64 22) ∧ Below W.heap.size W w' := fun W h3 h4 => by have := hver W h3 h4; rw [if_neg hCE] at this; exact this
    have q6 := hcha
    have hCE2 : (C == E) = false := beq_eq_false_iff_ne.2 hCE
    clear hver hcha hz'
    have H_h := Box.mk h
    have H_hv := Box.mk hv
    have H_hvB := Box.mk hvB
    have H_hz := Box.mk hz
    have H_hzB := Box.mk hzB
    have H_hu := Box.mk hu
    have H_huB := Box.mk huB
    have H_hr := Box.mk hr
    have H_hC := Box.mk hC
    have H_q1 := Box.mk q1
    have H_q2 := Box.mk q2
    have H_q3 := Box.mk q3
    have H_q4 := Box.mk q4
    have H_q5 := Box.mk q5
    have H_q6 := Box.mk q6
    have H_wf := Box.mk wf
    have H_hm := Box.mk hm
    have H_hT := Box.mk hT
    clear h hv hvB hz hzB hu huB hr hC q1 q2 q3 q4 q5 q6 wf hm hT
    go_enter Tryd.func9, Tryd.ntmps9
    have hb0 := Below.refl w.heap.size w
    go_wp2_with fail
    refine (ris_any y _ (by omega) (by omega)).mono ?_
    rintro e w' ⟨rfl, rfl⟩
    rw [H_h.out]
    go_wp2_with fail
    with_reducible refine (H_q1.out _ (H_wf.out _ (below_alloc _ _)).1 (H_wf.out _ (below_alloc _ _)).2).mono ?_
    rintro e w1 ⟨rfl, hc1⟩
    have hb1 : Below w.heap.size w w1 := bchain (by repeat' (first | with_reducible exact hb0 | with_reducible refine Below.drew ?_ | with_reducible refine below_drewN ?_ _ | with_reducible refine Below.alloc ?_ (by have := hb0.size; first | (simp; done) | (simp; omega) | omega) _ | with_reducible refine Below.setCell ?_ (by first | (simp; done) | (simp; omega) | omega) _)) hc1
    have O_0 : w1.cell? ⟨w.heap.size, 0, none⟩ = some (.int .u32 E) := (hc1.cell (p := ⟨w.heap.size, 0, none⟩) (by first | (simp; done) | (simp; omega))).trans (by first | (simp; done) | go_simp)
    have O_1 : w1.cell? ⟨w.heap.size, 1, none⟩ = some (.int .u32 S) := (hc1.cell (p := ⟨w.heap.size, 1, none⟩) (by first | (simp; done) | (simp; omega))).trans (by first | (simp; done) | go_simp)
    have O_l : w.heap.size < w1.heap.size := Nat.lt_of_lt_of_le (by first | (simp; done) | (simp; omega)) hc1.size
    clear hc1 hb0
    go_wp2_with fail
    refine (rexponent_any E _ hE0 (by omega)).mono ?_
    rintro e w' ⟨rfl, rfl⟩
    go_wp2_with fail
    refine (rexponent_any S _ hS0 (by omega)).mono ?_
    rintro e w' ⟨rfl, rfl⟩
    go_wp2_with fail
    with_reducible refine (H_q2.out _).mono ?_
    rintro e w2 ⟨rfl, hc2⟩
    have hb2 : Below w.heap.size w w2 := bchain (by repeat' (first | with_reducible exact hb1 | with_reducible refine Below.drew ?_ | with_reducible refine below_drewN ?_ _ | with_reducible refine Below.alloc ?_ (by have := hb1.size; first | (simp; done) | (simp; omega) | omega) _ | with_reducible refine Below.setCell ?_ (by first | (simp; done) | (simp; omega) | omega) _)) hc2
    have hst2 : Below w1.heap.size w1 w2 := bchain (by repeat' (first | with_reducible exact Below.refl _ _ | with_reducible refine Below.drew ?_ | with_reducible refine below_drewN ?_ _ | with_reducible refine Below.alloc ?_ (by first | (simp; done) | (simp; omega) | omega) _ | with_reducible refine Below.setCell ?_ (by first | (simp; done) | (simp; omega) | omega) _)) hc2
    replace O_0 := cell_later hst2 O_0
    replace O_1 := cell_later hst2 O_1
    replace O_l := Nat.lt_of_lt_of_le O_l hst2.size
    clear hst2
    clear hc2 hb1
    go_wp2_with fail
    with_reducible refine (H_q3.out _).mono ?_
    rintro e w3 ⟨rfl, hc3⟩
    have hb3 : Below w.heap.size w w3 := bchain (by repeat' (first | with_reducible exact hb2 | with_reducible refine Below.drew ?_ | with_reducible refine below_drewN ?_ _ | with_reducible refine Below.alloc ?_ (by have := hb2.size; first | (simp; done) | (simp; omega) | omega) _ | with_reducible refine Below.setCell ?_ (by first | (simp; done) | (simp; omega) | omega) _)) hc3
    have hst3 : Below w2.heap.size w2 w3 := bchain (by repeat' (first | with_reducible exact Below.refl _ _ | with_reducible refine Below.drew ?_ | with_reducible refine below_drewN ?_ _ | with_reducible refine Below.alloc ?_ (by first | (simp; done) | (simp; omega) | omega) _ | with_reducible refine Below.setCell ?_ (by first | (simp; done) | (simp; omega) | omega) _)) hc3
    replace O_0 := cell_later hst3 O_0
    replace O_1 := cell_later hst3 O_1
    replace O_l := Nat.lt_of_lt_of_le O_l hst3.size
    clear hst3
    clear hc3 hb2
    go_wp2_with fail
    with_reducible refine (H_q4.out _).mono ?_
    rintro e w4 ⟨rfl, hc4⟩
    have hb4 : Below w.heap.size w w4 := bchain (by repeat' (first | with_reducible exact hb3 | with_reducible refine Below.drew ?_ | with_reducible refine below_drewN ?_ _ | with_reducible refine Below.alloc ?_ (by have := hb3.size; first | (simp; done) | (simp; omega) | omega) _ | with_reducible refine Below.setCell ?_ (by first | (simp; done) | (simp; omega) | omega) _)) hc4
    have hst4 : Below w3.heap.size w3 w4 := bchain (by repeat' (first | with_reducible exact Below.refl _ _ | with_reducible refine Below.drew ?_ | with_reducible refine below_drewN ?_ _ | with_reducible refine Below.alloc ?_ (by first | (simp; done) | (simp; omega) | omega) _ | with_reducible refine Below.setCell ?_ (by first | (simp; done) | (simp; omega) | omega) _)) hc4
    replace O_0 := cell_later hst4 O_0
    replace O_1 := cell_later hst4 O_1
    replace O_l := Nat.lt_of_lt_of_le O_l hst4.size
    clear hst4
    clear hc4 hb3
    go_wp2_with fail
    with_reducible refine (H_q5.out _).mono ?_
    rintro e w5 ⟨rfl, hc5⟩
    have hb5 : Below w.heap.size w w5 := bchain (by repeat' (first | with_reducible exact hb4 | with_reducible refine Below.drew ?_ | with_reducible refine below_drewN ?_ _ | with_reducible refine Below.alloc ?_ (by have := hb4.size; first | (simp; done) | (simp; omega) | omega) _ | with_reducible refine Below.setCell ?_ (by first | (simp; done) | (simp; omega) | omega) _)) hc5
    have hst5 : Below w4.heap.size w4 w5 := bchain (by repeat' (first | with_reducible exact Below.refl _ _ | with_reducible refine Below.drew ?_ | with_reducible refine below_drewN ?_ _ | with_reducible refine Below.alloc ?_ (by first | (simp; done) | (simp; omega) | omega) _ | with_reducible refine Below.setCell ?_ (by first | (simp; done) | (simp; omega) | omega) _)) hc5
    replace O_0 := cell_later hst5 O_0
    replace O_1 := cell_later hst5 O_1
    replace O_l := Nat.lt_of_lt_of_le O_l hst5.size
    clear hst5
    clear hc5 hb4
    go_wp2_with fail
    with_reducible refine (H_q6.out _ (H_wf.out _ hb5).1 (H_wf.out _ hb5).2).mono ?_
    rintro e w6 ⟨rfl, hc6⟩
    have hb6 : Below w.heap.size w w6 := bchain (by repeat' (first | with_reducible exact hb5 | with_reducible refine Below.drew ?_ | with_reducible refine below_drewN ?_ _ | with_reducible refine Below.alloc ?_ (by have := hb5.size; first | (simp; done) | (simp; omega) | omega) _ | with_reducible refine Below.setCell ?_ (by first | (simp; done) | (simp; omega) | omega) _)) hc6
    have hst6 : Below w5.heap.size w5 w6 := bchain (by repeat' (first | with_reducible exact Below.refl _ _ | with_reducible refine Below.drew ?_ | with_reducible refine below_drewN ?_ _ | with_reducible refine Below.alloc ?_ (by first | (simp; done) | (simp; omega) | omega) _ | with_reducible refine Below.setCell ?_ (by first | (simp; done) | (simp; omega) | omega) _)) hc6
    replace O_0 := cell_later hst6 O_0
    replace O_1 := cell_later hst6 O_1
    replace O_l := Nat.lt_of_lt_of_le O_l hst6.size
    clear hst6
    clear hc6 hb5
    go_wp2_with fail
    with_reducible refine (alive_any _ (H_wf.out _ hb6).2).mono ?_
    rintro e w7 ⟨rfl, hc7⟩
    have hb7 : Below w.heap.size w w7 := bchain (by repeat' (first | with_reducible exact hb6 | with_reducible refine Below.drew ?_ | with_reducible refine below_drewN ?_ _ | with_reducible refine Below.alloc ?_ (by have := hb6.size; first | (simp; done) | (simp; omega) | omega) _ | with_reducible refine Below.setCell ?_ (by first | (simp; done) | (simp; omega) | omega) _)) hc7
    have hst7 : Below w6.heap.size w6 w7 := bchain (by repeat' (first | with_reducible exact Below.refl _ _ | with_reducible refine Below.drew ?_ | with_reducible refine below_drewN ?_ _ | with_reducible refine Below.alloc ?_ (by first | (simp; done) | (simp; omega) | omega) _ | with_reducible refine Below.setCell ?_ (by first | (simp; done) | (simp; omega) | omega) _)) hc7
    replace O_0 := cell_later hst7 O_0
    replace O_1 := cell_later hst7 O_1
    replace O_l := Nat.lt_of_lt_of_le O_l hst7.size
    clear hst7
    clear hc7 hb6
    go_wp2_with fail
    go_ret
    exact ⟨rfl, by repeat' (first | with_reducible exact hb7 | with_reducible refine Below.drew ?_ | with_reducible refine below_drewN ?_ _ | with_reducible refine Below.alloc ?_ (by have := hb7.size; first | (simp; done) | (simp; omega) | omega) _ | with_reducible refine Below.setCell ?_ (by first | (simp; done) | (simp; omega) | omega) _)⟩

/-- SignTells returns true. -/
theorem tells_full (y : Int) (bs : List Int) (a : Option Addr) (c : Nat) (E S : Int) (w : World) (hy : (Lit.int .u32 y).wf = true) (hb : BytesIn w a bs) (hs : SigIn E S)
    (hK : CellsAt w (some ⟨0, 0, none⟩) (kcs.map (Value.int .u32)) ∧ 0 < w.heap.size) :
    Calls Tryd.prog 9 #[.int .u32 y, .slice a bs.length c, .agg #[.int .u32 E, .int .u32 S]] w fun e w' =>
      e = .returned (.bool true) ∧ Below w.heap.size w w' := by
  have h1 := bd_u32 hy
  have h2 := bd_u32 hs.e
  have h3 := bd_u32 hs.s
  cases h : isB y with
  | false => exact tells_bad y E S a _ c w h1.1 h1.2 ⟨hK.1, hK.2⟩ h
  | true =>
    by_cases hn : 1000 < bs.length
    · exact tells_long y E S a _ c w h1.1 h1.2 ⟨hK.1, hK.2⟩ h hn
    · by_cases hb2 : 500000003 ≤ E ∨ 500000003 ≤ S
      · exact tells_big y E S bs a _ c w h1.1 h1.2 h2.1 h2.2 h3.1 h3.2 hb.msg ⟨hK.1, hK.2⟩ h (by omega) hb2
      · exact tells_go y E S bs a _ c w h2.1 (by omega) h3.1 (by omega) hb.msg ⟨hK.1, hK.2⟩ h (by omega)

end Go.Proofs.YtdlacedminebdaaDoor
