/- What the card of ConfigFinds needs: the door's world, the condition's meaning for the walk. -/
import Derived.Test.YthdldmkeoglflaaDoorConfigFindsW
import Derived.Test.YthdldmkeoglflaaDoorRows
import Derived.LaidMore
import Derived.Stop.Joined
import Derived.Stop.LaidErr
import Derived.ProofKit
import Derived.Lib.LaidTab
import Derived.Lib.AppendIntMem
namespace Go.Proofs.YthdldmkeoglflaaDoor
open Go.ChangeShapes Go.WideShapes Go.ChangeAt Go.RowKit
set_option linter.unusedVariables false

theorem own : ownKnob Tryd.prog.godebug = none := by kernel_rfl
theorem laidOut : laidOutB Tryd.prog = true := by kernel_rfl
def doorFuel : Nat := 1000
def laidK {H : Type} : List (String × DataW H) := [("math/bits.deBruijn32tab", Rows.laid_math_bits_deBruijn32tab), ("math/bits.deBruijn64tab", Rows.laid_math_bits_deBruijn64tab), ("internal/strconv.uint64pow10", Rows.laid_internal_strconv_uint64pow10)]
theorem gT : Tryd.prog.globalNamed "internal/strconv.uint64pow10" = some 0 := by kernel_rfl
theorem gTType : (Tryd.prog.globals[0]?).map (·.type) = some 144 := by kernel_rfl
theorem cells_u64 : Tryd.prog.cellsOf 81 = 1 := by kernel_rfl
theorem cells_a20 : Tryd.prog.cellsOf 144 = 20 := by kernel_rfl
theorem door_met (os : Os) (args : Array Value) : laidMetH Tryd.prog laidK ((World.doorLaid Tryd.prog doorFuel os).forCall (fun _ _ => 0) ⟨#[], args, []⟩).memory :=
  laidMetH_of_parts3 (fuel := 8) (laidMet_of_run' 8 (by kernel_rfl) (by kernel_rfl)) (by kernel_rfl) (by kernel_rfl)
theorem of_laid {W : World} (h : laidMetH Tryd.prog laidK W) : ∀ W', Below W.heap.size W W' → Lib.TabIs Tryd.prog W' "internal/strconv.uint64pow10" .u64 Lib.pow10Tab := by
  rw [MakeChecks.laidMetH_plain _ _ _ (by kernel_rfl)] at h
  have hT : Lib.TabIs Tryd.prog W "internal/strconv.uint64pow10" .u64 Lib.pow10Tab := Lib.tabIs_of_head gT gTType Tryd.underlying144 Tryd.underlying81 cells_u64 cells_a20 h.tail.tail
  exact Lib.tabBelow_of_tabIs hT

theorem finds_full (l0 l1 l2 l3 l4 l5 l6 l7 l8 : Int) (s : Int) (ps : Peers) (a : Option Addr) (c : Nat) (n : ByteArray) (q : Int) (w : World) (h : SetIn w s ps a c) (hq : 0 ≤ q ∧ q < 4294967296)
    (htab : ∀ W, Below w.heap.size w W → Lib.TabIs Tryd.prog W "internal/strconv.uint64pow10" .u64 Lib.pow10Tab) :
    Calls Tryd.prog 5 #[.agg #[.int .i64 l0, .int .i64 l1, .int .i64 l2, .int .i64 l3, .int .i64 l4, .int .i64 l5, .int .i64 l6, .int .i64 l7, .int .i64 l8, .int .u32 s, .slice a ps.length c], .agg #[.string n, .int .u32 q]] w fun e w' =>
      e = .returned (.bool true) ∧ Below w.heap.size w w' := finds_walk l0 l1 l2 l3 l4 l5 l6 l7 l8 s ps a c n q w h hq.1 hq.2 htab

end Go.Proofs.YthdldmkeoglflaaDoor
