/- What the cards of this seat share: the door's world, the condition's meaning for the walks. -/
import Derived.Test.YtlilodfddojlhaaDoorDigOpen
import Derived.Test.YtlilodfddojlhaaDoorRows
import Derived.LaidMore
import Derived.Stop.Joined
import Derived.ProofKit
import Derived.Lib.LaidTab
namespace Go.Proofs.YtlilodfddojlhaaDoor
open Go.ChangeShapes Go.WideShapes Go.ChangeAt Go.RowKit
set_option linter.unusedVariables false

theorem own : ownKnob Tryd.prog.godebug = none := by kernel_rfl
theorem laidOut : laidOutB Tryd.prog = true := by kernel_rfl
def doorFuel : Nat := 1000
def laidK {H : Type} : List (String × DataW H) := [("braid/digest.constants", Rows.laid_braid_digest_constants)]
theorem gK : Tryd.prog.globalNamed "braid/digest.constants" = some 0 := by kernel_rfl
theorem gKType : (Tryd.prog.globals[0]?).map (·.type) = some 75 := by kernel_rfl
theorem cells_w64 : Tryd.prog.cellsOf 75 = 64 := by kernel_rfl
theorem door_met (os : Os) (args : Array Value) : laidMetH Tryd.prog laidK ((World.doorLaid Tryd.prog doorFuel os).forCall (fun _ _ => 0) ⟨#[], args, []⟩).memory :=
  laidMetH_of_parts3 (fuel := 8) (laidMet_of_run' 8 (by kernel_rfl) (by kernel_rfl)) (by kernel_rfl) (by kernel_rfl)
theorem of_laid {W : World} (h : laidMetH Tryd.prog laidK W) : CellsAt W (some ⟨0, 0, none⟩) (kcs.map (Value.int .u32)) ∧ 0 < W.heap.size := by
  rw [MakeChecks.laidMetH_plain _ _ _ (by kernel_rfl)] at h
  have hT : Lib.TabIs Tryd.prog W "braid/digest.constants" .u32 kcs := Lib.tabIs_of_head gK gKType Tryd.underlying75 Tryd.underlying22 cells_u32 cells_w64 h
  have hc : ∀ i, i < 64 → W.cell? ⟨0, i, none⟩ = some (.int .u32 (kcs.getD i 0)) := fun i hi => hT.cell gK i hi
  refine ⟨.inr ⟨0, 0, rfl, fun j u hj => ?_⟩, World.block_lt_of_cell? _ _ (hc 0 (by omega))⟩
  have hjl : j < 64 := by have := (List.getElem?_eq_some_iff.1 hj).1; simpa [kcs_len] using this
  rw [Nat.zero_add, hc j hjl]
  rw [List.getElem?_map, List.getElem?_eq_getElem (by rw [kcs_len]; omega)] at hj
  rw [List.getD, List.getElem?_eq_getElem (by rw [kcs_len]; omega)]
  exact hj

theorem mills_full (v : V8) (rs : List Int) (N : Int) (ra : Option Addr) (rc : Nat) (bs : List Int) (ba : Option Addr) (bc : Nat) (w : World) (hM : MillIn w v rs N ra) (hB : BytesIn w ba bs)
    (hK : CellsAt w (some ⟨0, 0, none⟩) (kcs.map (Value.int .u32)) ∧ 0 < w.heap.size) :
    Calls Tryd.prog 3 #[.agg #[.int .u32 v.a, .int .u32 v.b, .int .u32 v.c, .int .u32 v.d, .int .u32 v.e, .int .u32 v.f, .int .u32 v.g, .int .u32 v.z, .slice ra rs.length rc, .int .i64 N], .slice ba bs.length bc] w fun e w' =>
      e = .returned (.bool true) ∧ Below w.heap.size w w' := mills_walk v rs N ra rc bs ba bc w hM hB hK.1 hK.2

end Go.Proofs.YtlilodfddojlhaaDoor
