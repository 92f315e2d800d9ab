/- What the card of ConfigSigns needs: the door's world, the condition's meaning for the walk. -/
import Derived.Test.YthdldmkeoglflaaDoorCfgOpen
import Derived.Test.YthdldmkeoglflaaDoorSignHash
import Derived.Test.YthdldmkeoglflaaDoorRows
import Derived.LaidMore
import Derived.Stop.Joined
import Derived.Stop.LaidErr
import Derived.ProofKit
import Derived.Lib.LaidTab
import Derived.Lib.AppendIntMem
namespace Go.Proofs.YthdldmkeoglflaaDoor
open Go.ChangeShapes Go.WideShapes Go.ChangeAt Go.RowKit
set_option linter.unusedVariables false

theorem own : ownKnob Tryd.prog.godebug = none := by kernel_rfl
theorem laidOut : laidOutB Tryd.prog = true := by kernel_rfl
def doorFuel : Nat := 1000
def laidK {H : Type} : List (String × DataW H) := [("math/bits.deBruijn32tab", Rows.laid_math_bits_deBruijn32tab), ("math/bits.deBruijn64tab", Rows.laid_math_bits_deBruijn64tab), ("internal/strconv.uint64pow10", Rows.laid_internal_strconv_uint64pow10), ("braid/digest.constants", Rows.laid_braid_digest_constants)]
theorem gT : Tryd.prog.globalNamed "internal/strconv.uint64pow10" = some 0 := by kernel_rfl
theorem gTType : (Tryd.prog.globals[0]?).map (·.type) = some 144 := by kernel_rfl
theorem cells_u64 : Tryd.prog.cellsOf 81 = 1 := by kernel_rfl
theorem cells_a20 : Tryd.prog.cellsOf 144 = 20 := by kernel_rfl
theorem gK : Tryd.prog.globalNamed "braid/digest.constants" = some 6 := by kernel_rfl
theorem gKType : (Tryd.prog.globals[6]?).map (·.type) = some 181 := by kernel_rfl
theorem cells_w64 : Tryd.prog.cellsOf 181 = 64 := by kernel_rfl
theorem cells_w1 : Tryd.prog.cellsOf 24 = 1 := by kernel_rfl
theorem door_met (os : Os) (args : Array Value) : laidMetH Tryd.prog laidK ((World.doorLaid Tryd.prog doorFuel os).forCall (fun _ _ => 0) ⟨#[], args, []⟩).memory :=
  laidMetH_of_parts3 (fuel := 8) (laidMet_of_run' 8 (by kernel_rfl) (by kernel_rfl)) (by kernel_rfl) (by kernel_rfl)
structure LaidS (W : World) : Prop where
  tab : ∀ W', Below W.heap.size W W' → Lib.TabIs Tryd.prog W' "internal/strconv.uint64pow10" .u64 Lib.pow10Tab
  tk : TabK W
theorem of_laid {W : World} (h : laidMetH Tryd.prog laidK W) : LaidS W := by
  rw [MakeChecks.laidMetH_plain _ _ _ (by kernel_rfl)] at h
  have hT : Lib.TabIs Tryd.prog W "internal/strconv.uint64pow10" .u64 Lib.pow10Tab := Lib.tabIs_of_head gT gTType Tryd.underlying144 Tryd.underlying81 cells_u64 cells_a20 h.tail.tail
  have hK : Lib.TabIs Tryd.prog W "braid/digest.constants" .u32 kcs := Lib.tabIs_of_head gK gKType Tryd.underlying181 Tryd.underlying24 cells_w1 cells_w64 h.tail.tail.tail
  have hc : ∀ i, i < 64 → W.cell? ⟨6, i, none⟩ = some (.int .u32 (kcs.getD i 0)) := fun i hi => hK.cell gK i hi
  refine ⟨Lib.tabBelow_of_tabIs hT, ⟨.inr ⟨6, 0, rfl, fun j u hj => ?_⟩, World.block_lt_of_cell? _ _ (hc 0 (by omega))⟩⟩
  have hjl : j < 64 := by have := (List.getElem?_eq_some_iff.1 hj).1; simpa [kcs_len] using this
  rw [Nat.zero_add, hc j hjl]
  rw [List.getElem?_map, List.getElem?_eq_getElem (by rw [kcs_len]; omega)] at hj
  rw [List.getD, List.getElem?_eq_getElem (by rw [kcs_len]; omega)]
  exact hj

end Go.Proofs.YthdldmkeoglflaaDoor
