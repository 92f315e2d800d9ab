/- The laws SignVerifies and SignMakes return true. -/
import Derived.Test.YtdlacedminebdaaDoorSignOpen
namespace Go.Proofs.YtdlacedminebdaaDoor
set_option linter.unusedSimpArgs false
set_option linter.unusedVariables false
set_option linter.unnecessarySimpa false
open Go.RowKit

set_option maxRecDepth 100000 in
set_option maxHeartbeats 1000000 in
theorem verifies_skip (y E S : Int) (a : Option Addr) (n c : Nat) (w : World) (h : (1000 < n ∧ n ≤ 9991) ∨ 11000 < n) :
    Calls Tryd.prog 3 #[.int .u32 y, .slice a n c, .agg #[.int .u32 E, .int .u32 S]] w fun e w' =>
      e = .returned (.bool true) ∧ Below w.heap.size w w' := by
  rcases h with ⟨h1, h2⟩ | h3
  · have h1I : (1000 : Int) < (n : Int) := by omega
    have h2I : (n : Int) ≤ 9991 := by omega
    go_enter Tryd.func3, Tryd.ntmps3
    have hb0 := Below.refl w.heap.size w
    go_wp2_with fail
    go_ret
    exact ⟨rfl, by repeat' (first | with_reducible exact hb0 | with_reducible refine Below.drew ?_ | with_reducible refine below_drewN ?_ _ | with_reducible refine Below.alloc ?_ (by have := hb0.size; first | (simp; done) | (simp; omega) | omega) _ | with_reducible refine Below.setCell ?_ (by first | (simp; done) | (simp; omega) | omega) _)⟩
  · have h1I : (1000 : Int) < (n : Int) := by omega
    have h2I : (9991 : Int) < (n : Int) := by omega
    have h3I : (11000 : Int) < (n : Int) := by omega
    go_enter Tryd.func3, Tryd.ntmps3
    have hb0 := Below.refl w.heap.size w
    go_wp2_with fail
    go_ret
    exact ⟨rfl, by repeat' (first | with_reducible exact hb0 | with_reducible refine Below.drew ?_ | with_reducible refine below_drewN ?_ _ | with_reducible refine Below.alloc ?_ (by have := hb0.size; first | (simp; done) | (simp; omega) | omega) _ | with_reducible refine Below.setCell ?_ (by first | (simp; done) | (simp; omega) | omega) _)⟩

set_option maxRecDepth 100000 in
set_option maxHeartbeats 1000000 in
theorem verifies_go (y E S : Int) (bs : List Int) (a : Option Addr) (n c : Nat) (w : World) (y0 : 0 ≤ y) (y4 : y < 4294967296) (hE0 : 0 ≤ E) (hE4 : E < 4294967296) (hS0 : 0 ≤ S) (hS4 : S < 4294967296) (hm : MsgIn w a n bs) (hT : TabK w) (h : n ≤ 1000 ∨ (9991 < n ∧ n ≤ 11000)) :
    Calls Tryd.prog 3 #[.int .u32 y, .slice a n c, .agg #[.int .u32 E, .int .u32 S]] w fun e w' =>
      e = .returned (.bool true) ∧ Below w.heap.size w w' := by
  obtain ⟨z, hz⟩ : ∃ z, verZ y E S bs = z := ⟨_, rfl⟩
  have q1 := fun W (hm : MsgIn W a n bs) hT => hz ▸ verify_all y E S bs a n c W y0 y4 hE0 hS0 hm hT
  have q2 := fun W (hm : MsgIn W a n bs) => hz ▸ rverify_all y E S bs a n c W y0 y4 hE0 hE4 hS0 hS4 hm
  have H_hz := Box.mk hz
  have H_q1 := Box.mk q1
  have H_q2 := Box.mk q2
  have H_hm := Box.mk hm
  have H_hT := Box.mk hT
  clear hz q1 q2 hm hT
  rcases h with h1 | ⟨h2, h3⟩
  · have h1I : (n : Int) ≤ 1000 := by omega
    have h3I : (n : Int) ≤ 11000 := by omega
    go_enter Tryd.func3, Tryd.ntmps3
    have hb0 := Below.refl w.heap.size w
    go_wp2_with fail
    refine wp_gen fun w1 hc1 => ?_
    have hb1 : Below w.heap.size w w1 := bchain (by repeat' (first | with_reducible exact hb0 | with_reducible refine Below.drew ?_ | with_reducible refine below_drewN ?_ _ | with_reducible refine Below.alloc ?_ (by have := hb0.size; first | (simp; done) | (simp; omega) | omega) _ | with_reducible refine Below.setCell ?_ (by first | (simp; done) | (simp; omega) | omega) _)) hc1
    have O_0 : w1.cell? ⟨w.heap.size, 0, none⟩ = some (.int .u32 E) := (hc1.cell (p := ⟨w.heap.size, 0, none⟩) (by first | (simp; done) | (simp; omega))).trans (by first | (simp; done) | go_simp)
    have O_1 : w1.cell? ⟨w.heap.size, 1, none⟩ = some (.int .u32 S) := (hc1.cell (p := ⟨w.heap.size, 1, none⟩) (by first | (simp; done) | (simp; omega))).trans (by first | (simp; done) | go_simp)
    have O_l : w.heap.size < w1.heap.size := Nat.lt_of_lt_of_le (by first | (simp; done) | (simp; omega)) hc1.size
    have KO_0 := cell_on O_0
    have KO_1 := cell_on O_1
    have H_hmA := Box.mk (H_hm.out.later hb1)
    have H_hTA := Box.mk (H_hT.out.later hb1)
    refine wp_region_on (by kernel_rfl) (by kernel_rfl) ?_
    repeat (go_big_quiet_step ((first | (go_at_call 10; with_reducible exact calls_on (H_q1.out _ (H_hmA.out.on _) (H_hTA.out.on _))) | (go_at_call 11; with_reducible exact calls_on (H_q2.out _ (H_hmA.out.on _))))))
    refine wpQuiet_nil ?_
    intro w2 hc2
    clear KO_0 KO_1
    have hb2 : Below w.heap.size w w2 := bchain (by repeat' (first | with_reducible exact hb1 | with_reducible refine Below.drew ?_ | with_reducible refine below_drewN ?_ _ | with_reducible refine Below.alloc ?_ (by have := hb1.size; first | (simp; done) | (simp; omega) | omega) _ | with_reducible refine Below.setCell ?_ (by first | (simp; done) | (simp; omega) | omega) _)) hc2
    have hst2 : Below w1.heap.size w1 w2 := bchain (by repeat' (first | with_reducible exact Below.refl _ _ | with_reducible refine Below.drew ?_ | with_reducible refine below_drewN ?_ _ | with_reducible refine Below.alloc ?_ (by first | (simp; done) | (simp; omega) | omega) _ | with_reducible refine Below.setCell ?_ (by first | (simp; done) | (simp; omega) | omega) _)) hc2
    replace O_0 := cell_later hst2 O_0
    replace O_1 := cell_later hst2 O_1
    replace O_l := Nat.lt_of_lt_of_le O_l hst2.size
    clear hst2
    go_wp2_with fail
    go_ret
    exact ⟨rfl, by repeat' (first | with_reducible exact hb2 | with_reducible refine Below.drew ?_ | with_reducible refine below_drewN ?_ _ | with_reducible refine Below.alloc ?_ (by have := hb2.size; first | (simp; done) | (simp; omega) | omega) _ | with_reducible refine Below.setCell ?_ (by first | (simp; done) | (simp; omega) | omega) _)⟩
  · have h1I : (1000 : Int) < (n : Int) := by omega
    have h2I : (9991 : Int) < (n : Int) := by omega
    have h3I : (n : Int) ≤ 11000 := by omega
    go_enter Tryd.func3, Tryd.ntmps3
    have hb0 := Below.refl w.heap.size w
    go_wp2_with fail
    refine wp_gen fun w1 hc1 => ?_
    have hb1 : Below w.heap.size w w1 := bchain (by repeat' (first | with_reducible exact hb0 | with_reducible refine Below.drew ?_ | with_reducible refine below_drewN ?_ _ | with_reducible refine Below.alloc ?_ (by have := hb0.size; first | (simp; done) | (simp; omega) | omega) _ | with_reducible refine Below.setCell ?_ (by first | (simp; done) | (simp; omega) | omega) _)) hc1
    have O_0 : w1.cell? ⟨w.heap.size, 0, none⟩ = some (.int .u32 E) := (hc1.cell (p := ⟨w.heap.size, 0, none⟩) (by first | (simp; done) | (simp; omega))).trans (by first | (simp; done) | go_simp)
    have O_1 : w1.cell? ⟨w.heap.size, 1, none⟩ = some (.int .u32 S) := (hc1.cell (p := ⟨w.heap.size, 1, none⟩) (by first | (simp; done) | (simp; omega))).trans (by first | (simp; done) | go_simp)
    have O_l : w.heap.size < w1.heap.size := Nat.lt_of_lt_of_le (by first | (simp; done) | (simp; omega)) hc1.size
    have KO_0 := cell_on O_0
    have KO_1 := cell_on O_1
    have H_hmA := Box.mk (H_hm.out.later hb1)
    have H_hTA := Box.mk (H_hT.out.later hb1)
    refine wp_region_on (by kernel_rfl) (by kernel_rfl) ?_
    repeat (go_big_quiet_step ((first | (go_at_call 10; with_reducible exact calls_on (H_q1.out _ (H_hmA.out.on _) (H_hTA.out.on _))) | (go_at_call 11; with_reducible exact calls_on (H_q2.out _ (H_hmA.out.on _))))))
    refine wpQuiet_nil ?_
    intro w2 hc2
    clear KO_0 KO_1
    have hb2 : Below w.heap.size w w2 := bchain (by repeat' (first | with_reducible exact hb1 | with_reducible refine Below.drew ?_ | with_reducible refine below_drewN ?_ _ | with_reducible refine Below.alloc ?_ (by have := hb1.size; first | (simp; done) | (simp; omega) | omega) _ | with_reducible refine Below.setCell ?_ (by first | (simp; done) | (simp; omega) | omega) _)) hc2
    have hst2 : Below w1.heap.size w1 w2 := bchain (by repeat' (first | with_reducible exact Below.refl _ _ | with_reducible refine Below.drew ?_ | with_reducible refine below_drewN ?_ _ | with_reducible refine Below.alloc ?_ (by first | (simp; done) | (simp; omega) | omega) _ | with_reducible refine Below.setCell ?_ (by first | (simp; done) | (simp; omega) | omega) _)) hc2
    replace O_0 := cell_later hst2 O_0
    replace O_1 := cell_later hst2 O_1
    replace O_l := Nat.lt_of_lt_of_le O_l hst2.size
    clear hst2
    go_wp2_with fail
    go_ret
    exact ⟨rfl, by repeat' (first | with_reducible exact hb2 | with_reducible refine Below.drew ?_ | with_reducible refine below_drewN ?_ _ | with_reducible refine Below.alloc ?_ (by have := hb2.size; first | (simp; done) | (simp; omega) | omega) _ | with_reducible refine Below.setCell ?_ (by first | (simp; done) | (simp; omega) | omega) _)⟩

/-- SignVerifies returns true. -/
theorem verifies_full (y : Int) (bs : List Int) (a : Option Addr) (c : Nat) (E S : Int) (w : World) (hy : (Lit.int .u32 y).wf = true) (hb : BytesIn w a bs) (hs : SigIn E S)
    (hK : CellsAt w (some ⟨0, 0, none⟩) (kcs.map (Value.int .u32)) ∧ 0 < w.heap.size) :
    Calls Tryd.prog 3 #[.int .u32 y, .slice a bs.length c, .agg #[.int .u32 E, .int .u32 S]] w fun e w' =>
      e = .returned (.bool true) ∧ Below w.heap.size w w' := by
  have h1 := bd_u32 hy
  have h2 := bd_u32 hs.e
  have h3 := bd_u32 hs.s
  by_cases h : (1000 < bs.length ∧ bs.length ≤ 9991) ∨ 11000 < bs.length
  · exact verifies_skip y E S a _ c w h
  · exact verifies_go y E S bs a _ c w h1.1 h1.2 h2.1 h2.2 h3.1 h3.2 hb.msg ⟨hK.1, hK.2⟩ (by omega)

end Go.Proofs.YtdlacedminebdaaDoor
