/- What the cards of this seat share: the door's world, the condition's meaning for the walks. -/
import Derived.Test.YtfabcdpmnbeflaaDoorDigOpen
import Derived.Test.YtfabcdpmnbeflaaDoorRows
import Derived.LaidMore
import Derived.Stop.Joined
import Derived.ProofKit
import Derived.Lib.LaidTab
namespace Go.Proofs.YtfabcdpmnbeflaaDoor
set_option maxRecDepth 100000
open Go.ChangeShapes Go.WideShapes Go.ChangeAt Go.RowKit
set_option linter.unusedVariables false

theorem own : ownKnob Tryd.prog.godebug = none := by kernel_rfl
theorem laidOut : laidOutB Tryd.prog = true := by kernel_rfl
def doorFuel : Nat := 1000
def laidK {H : Type} : List (String × DataW H) := [("braid/digest.constants", Rows.laid_braid_digest_constants)]
theorem gK : Tryd.prog.globalNamed "braid/digest.constants" = some 1 := by kernel_rfl
theorem gKType : (Tryd.prog.globals[1]?).map (·.type) = some 111 := by kernel_rfl
theorem cells_w64 : Tryd.prog.cellsOf 111 = 64 := by kernel_rfl
theorem door_met (os : Os) (args : Array Value) : laidMetH Tryd.prog laidK ((World.doorLaid Tryd.prog doorFuel os).forCall (fun _ _ => 0) ⟨#[], args, []⟩).memory :=
  laidMetH_of_parts3 (fuel := 8) (laidMet_of_run' 8 (by kernel_rfl) (by kernel_rfl)) (by kernel_rfl) (by kernel_rfl)
theorem of_laid {W : World} (h : laidMetH Tryd.prog laidK W) : CellsAt W (some ⟨1, 0, none⟩) (kcs.map (Value.int .u32)) ∧ 1 < W.heap.size := by
  rw [MakeChecks.laidMetH_plain _ _ _ (by kernel_rfl)] at h
  have hT : Lib.TabIs Tryd.prog W "braid/digest.constants" .u32 kcs := Lib.tabIs_of_head gK gKType Tryd.underlying111 Tryd.underlying92 cells_u32 cells_w64 h
  have hc : ∀ i, i < 64 → W.cell? ⟨1, i, none⟩ = some (.int .u32 (kcs.getD i 0)) := fun i hi => hT.cell gK i hi
  refine ⟨.inr ⟨1, 0, rfl, fun j u hj => ?_⟩, World.block_lt_of_cell? _ _ (hc 0 (by omega))⟩
  have hjl : j < 64 := by have := (List.getElem?_eq_some_iff.1 hj).1; simpa [kcs_len] using this
  rw [Nat.zero_add, hc j hjl]
  rw [List.getElem?_map, List.getElem?_eq_getElem (by rw [kcs_len]; omega)] at hj
  rw [List.getD, List.getElem?_eq_getElem (by rw [kcs_len]; omega)]
  exact hj

end Go.Proofs.YtfabcdpmnbeflaaDoor
