/- slices.Concat of two slices of bytes. -/
import Derived.Test.YtfabcdpmnbeflaaDoorDigBytes
namespace Go.Proofs.YtfabcdpmnbeflaaDoor
set_option maxRecDepth 100000
set_option linter.unusedSimpArgs false
set_option linter.unusedVariables false
set_option linter.unnecessarySimpa false
open Go.RowKit

set_option maxHeartbeats 2000000 in
theorem concat2_any (B : Nat) (a1 a2 : Option Addr) (n1 n2 c1 c2 : Nat) (xs ys : List Int) (w : World) (h1 : n1 = xs.length) (h2 : n2 = ys.length) (k0 : w.cell? ⟨B, 0, none⟩ = some (.slice a1 n1 c1)) (k1 : w.cell? ⟨B, 1, none⟩ = some (.slice a2 n2 c2))
    (hx : CellsAt w a1 (xs.map (Value.int .u8))) (hy : CellsAt w a2 (ys.map (Value.int .u8))) (hb : n1 + n2 ≤ 140737488355327) :
    Calls Tryd.prog 56 #[.slice (some ⟨B, 0, none⟩) 2 2] w fun e w' =>
      ∃ a' c', e = .returned (.slice a' (n1 + n2) c') ∧ OwnX w' w.heap.size 5 1 (.slice a' (n1 + n2) c') (n1 + n2) ((xs ++ ys).map (Value.int .u8)) ∧ Below w.heap.size w w' := by
  obtain ⟨i0, hi, hz0, hz1, hz2⟩ := info_parts info_u8
  have H1 := hid h1
  have H2 := hid h2
  clear h1 h2
  have zB := World.block_lt_of_cell? _ _ k0
  simp only at zB
  go_enter Tryd.func56, Tryd.ntmps56
  have hb0 := Below.refl w.heap.size w
  go_wp2_with fail
  go_loop [3, 11] (fun s q => ∃ k : Nat, k ≤ 2 ∧ q = .int .i64 k ∧ s = .int .i64 ((if k = 0 then 0 else if k = 1 then n1 else n1 + n2 : Nat) : Int)) (fun _ q => 2 - (intOf q).toNat)
  case atStart => exact ⟨0, by omega, rfl, rfl⟩
  case round =>
    obtain ⟨k, hk, rfl, rfl⟩ := hrel
    rcases (by omega : k = 0 ∨ k = 1 ∨ k = 2) with rfl | rfl | rfl
    · simp only [if_true]
      go_wp2_with fail
      go_round
      case rel => exact ⟨1, by omega, by go_num, by simp⟩
      case measure => simp [intOf]
    · simp only [if_true, if_neg (show ¬ (1 = 0) by omega)]
      go_wp2_with fail
      go_round
      case rel => exact ⟨2, by omega, by go_num, by simp⟩
      case measure => simp [intOf]
    · simp only [if_neg (show ¬ (2 = 0) by omega), if_neg (show ¬ (2 = 1) by omega)]
      obtain ⟨N, hN⟩ : ∃ N, N = n1 + n2 := ⟨_, rfl⟩
      rw [← hN]
      have HN := hid hN
      have hNb : N ≤ 140737488355327 := by omega
      clear hN
      go_wp2_with fail
      with_reducible refine (grow8_any N _ hNb).mono ?_
      rintro e w1 ⟨a3, c3, rfl, o3, hc1⟩
      have hb1 : Below w.heap.size w w1 := bchain (by repeat' (first | with_reducible exact hb0 | with_reducible refine Below.drew ?_ | with_reducible refine below_drewN ?_ _ | with_reducible refine Below.alloc ?_ (by have := hb0.size; first | (simp; done) | (simp; omega) | omega) _ | with_reducible refine Below.setCell ?_ (by first | (simp; done) | (simp; omega) | omega) _)) hc1
      clear hc1 hb0
      have k0' := cell_later hb1 k0
      have k1' := cell_later hb1 k1
      have hx1 := hx.later hb1
      have hy1 := hy.later hb1
      have zB1 : B < w1.heap.size := Nat.lt_of_lt_of_le zB hb1.size
      go_wp2_with fail
      refine wp_gen fun w2 hc2 => ?_
      have hb2 : Below w.heap.size w w2 := bchain hb1 hc2
      have o4 := o3.later hc2
      have l0 := cell_later hb2 k0
      have l1 := cell_later hb2 k1
      have hx2 := hx.later hb2
      have hy2 := hy.later hb2
      have z2 := hb2.size
      clear k0' k1' hx1 hy1 hc2 o3 hb1
      go_loopw [6, 27] (fun s q wr => ∃ (k : Nat) (av : Option Addr) (cv m : Nat), k ≤ 2 ∧ q = .int .i64 k ∧ s = .slice av m cv ∧ Hid (m = if k = 0 then 0 else if k = 1 then n1 else N) ∧ Below w.heap.size w wr ∧ OwnX wr w.heap.size 5 1 (.slice av m cv) m ((if k = 0 then [] else if k = 1 then xs else xs ++ ys).map (Value.int .u8))) (fun _ q _ => 2 - (intOf q).toNat)
      case atStart => exact ⟨0, a3, c3, 0, by omega, rfl, rfl, hid rfl, hb2, by simpa using o4⟩
      case round =>
        clear o4 l0 l1 hx2 hy2 z2
        obtain ⟨k, av, cv, m, hk, rfl, rfl, HM, hbw, ow⟩ := hrel
        have l0 := cell_later hbw k0
        have l1 := cell_later hbw k1
        have hx2 := hx.later hbw
        have hy2 := hy.later hbw
        have z2 := hbw.size
        rcases (by omega : k = 0 ∨ k = 1 ∨ k = 2) with rfl | rfl | rfl
        · have hm : m = 0 := by simpa using HM.out
          have HL0 := hid (show (xs.map (Value.int .u8)).length = n1 * 1 by rw [List.length_map, H1.out, Nat.mul_one])
          have hbd : m + n1 ≤ 140737488355327 := by omega
          have Hm := hid hm
          clear hm
          go_wp2_with (at_builtin; refine stop ?_)
          refine Stop.go ?_
          refine wpList_append_x _ rfl _ _ 39 rfl w.heap.size 5 i0 (.int .u8 0) 1 1 Tryd.underlying39 hi hz0 hz1 hz2 rfl (by decide) (.slice av m cv) m _ rfl ow a1 n1 c1 (xs.map (Value.int .u8)) rfl HL0.out hx2 (ints_oneCell _ _) (by unfold maxLen; omega) (by omega) z2 ?_
          intro a5 c5 w5 o5 hg hk5
          have hb5 : Below w.heap.size w w5 := below_grownX hbw hg z2 (fun q h => (ow.lt q h).1)
          go_wp2_with fail
          go_roundw
          case rel => exact ⟨1, a5, c5, m + n1, by omega, by go_num, rfl, hid (by have := Hm.out; simp; omega), hb5, by simpa using o5⟩
          case measure => simp [intOf]
        · have hm : m = n1 := by simpa using HM.out
          have HL1 := hid (show (ys.map (Value.int .u8)).length = n2 * 1 by rw [List.length_map, H2.out, Nat.mul_one])
          have hbd : m + n2 ≤ 140737488355327 := by omega
          have Hm := hid hm
          clear hm
          go_wp2_with (at_builtin; refine stop ?_)
          refine Stop.go ?_
          refine wpList_append_x _ rfl _ _ 39 rfl w.heap.size 5 i0 (.int .u8 0) 1 1 Tryd.underlying39 hi hz0 hz1 hz2 rfl (by decide) (.slice av m cv) m _ rfl ow a2 n2 c2 (ys.map (Value.int .u8)) rfl HL1.out hy2 (ints_oneCell _ _) (by unfold maxLen; omega) (by omega) z2 ?_
          intro a5 c5 w5 o5 hg hk5
          have hb5 : Below w.heap.size w w5 := below_grownX hbw hg z2 (fun q h => (ow.lt q h).1)
          go_wp2_with fail
          go_roundw
          case rel => exact ⟨2, a5, c5, m + n2, by omega, by go_num, rfl, hid (by have := Hm.out; have := HN.out; simp; omega), hb5, by simpa using o5⟩
          case measure => simp [intOf]
        · have hm : m = N := by simpa using HM.out
          have Hm := hid hm
          clear hm
          go_wp2_with fail
          go_ret
          have e1 : m = n1 + n2 := by rw [Hm.out, HN.out]
          have ow' : OwnX wr w.heap.size 5 1 (.slice av m cv) m ((xs ++ ys).map (Value.int .u8)) := by simpa using ow
          rw [e1] at ow'
          exact ⟨av, cv, congrArg (fun z => Ending.returned (.slice av z cv)) e1, ow', hbw⟩

end Go.Proofs.YtfabcdpmnbeflaaDoor
