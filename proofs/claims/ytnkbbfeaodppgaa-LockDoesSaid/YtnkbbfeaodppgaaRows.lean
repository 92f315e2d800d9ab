/-
  No cell of these rows narrows 'for every input' (looked for: loops, veiled, ifaces, maps, wideKeys, modest, calm, conditions, laid).
  DERIVED. THE GIVEN ROWS OF THIS SEAT. 5 by the template 'for every input the law returns true; each argument reads behind the call as it read before'; 0 by the template 'total and deterministic' (their statements: YtnkbbfeaodppgaaTotals.lean).
  GIVEN WITH THE SEED: the statements are not yours to turn. If you find one false, say at which input.
  Laid BY PROGRAM, IN A SANDBOX (cutbox-rows.mjs): the forced cells as the released guide's own fill.sh prints them over the translation cedc4da3e77077a4… (all of the seat's roots in one cut). By AI agents, Wed Nov 11 2026. No macro, syntax, notation, axiom, sorry.
-/
import Derived.Test.YtnkbbfeaodppgaaChecked
import GoSem.Claim
import GoSem.ClaimJoined
import GoSem.ClaimMapViews
import Derived.JoinedTies
import Derived.KernelRfl
namespace Go.Proofs.Ytnkbbfeaodppgaa
/- THE CELL 'sum', in the pinned program and in every row, IS THE sha256 OF THE DUMP (.gsa) THAT YtnkbbfeaodppgaaProg.lean LOADS. Nothing in Lean hashes anything: it is a label: what it is worth is what the hold of that sum in a sandbox is worth. -/
noncomputable def Try.pinned : Pinned := { name := "ytnkbbfeaodppgaa", sum := "cedc4da3e77077a4373b61444bfa978f79bf4968ab04a66cc1ffee1391b83528", checked := Try.checked }
namespace Rows
def none {H : Type} : Left H := { results := [], args := [] }

/-- 'braidlaw14.LockServes': WHATEVER THE INPUT: true; the input reads as it did. -/
def lockServesSpec : ChangeSpec := { name := "lockServes", fn := fun _ => fun
  | [d] => { results := [.lit (.bool true)], args := [d] }
  | _ => none }
def lockServesRow : OpenClaim := { program := "ytnkbbfeaodppgaa", sum := "cedc4da3e77077a4373b61444bfa978f79bf4968ab04a66cc1ffee1391b83528", func := "braid/braidlaw14.LockServes", spec := "lockServes", inPlace := ["slices.overlaps[int]"], unfollowed := true, recurses := true, apart := false }
def LockServesSaid : Prop := lockServesRow.holds Try.pinned (OpenSpec.ofChange lockServesSpec)

/-- ITS FALSE NEIGHBOUR: 'it returns false'. Refute it at one input. -/
def lockServesWrong : ChangeSpec := { name := "lockServes", fn := fun _ => fun
  | [d] => { results := [.lit (.bool false)], args := [d] }
  | _ => none }
def LockServesWrongFalsely : Prop := lockServesRow.holds Try.pinned (OpenSpec.ofChange lockServesWrong)

/-- 'braidlaw14.LockLeaves': WHATEVER THE INPUT: true; the input reads as it did. -/
def lockLeavesSpec : ChangeSpec := { name := "lockLeaves", fn := fun _ => fun
  | [d1, d2, d3] => { results := [.lit (.bool true)], args := [d1, d2, d3] }
  | _ => none }
def lockLeavesRow : OpenClaim := { program := "ytnkbbfeaodppgaa", sum := "cedc4da3e77077a4373b61444bfa978f79bf4968ab04a66cc1ffee1391b83528", func := "braid/braidlaw14.LockLeaves", spec := "lockLeaves", inPlace := ["slices.overlaps[int]"], unfollowed := true, recurses := true, apart := false }
def LockLeavesSaid : Prop := lockLeavesRow.holds Try.pinned (OpenSpec.ofChange lockLeavesSpec)

/-- ITS FALSE NEIGHBOUR: 'it returns false'. Refute it at one input. -/
def lockLeavesWrong : ChangeSpec := { name := "lockLeaves", fn := fun _ => fun
  | [d1, d2, d3] => { results := [.lit (.bool false)], args := [d1, d2, d3] }
  | _ => none }
def LockLeavesWrongFalsely : Prop := lockLeavesRow.holds Try.pinned (OpenSpec.ofChange lockLeavesWrong)

/-- 'braidlaw14.LockDoes': WHATEVER THE INPUT: true; the input reads as it did. -/
def lockDoesSpec : ChangeSpec := { name := "lockDoes", fn := fun _ => fun
  | [d1, d2, d3] => { results := [.lit (.bool true)], args := [d1, d2, d3] }
  | _ => none }
def lockDoesRow : OpenClaim := { program := "ytnkbbfeaodppgaa", sum := "cedc4da3e77077a4373b61444bfa978f79bf4968ab04a66cc1ffee1391b83528", func := "braid/braidlaw14.LockDoes", spec := "lockDoes", inPlace := ["slices.overlaps[int]"], unfollowed := true, recurses := true, apart := false }
def LockDoesSaid : Prop := lockDoesRow.holds Try.pinned (OpenSpec.ofChange lockDoesSpec)

/-- ITS FALSE NEIGHBOUR: 'it returns false'. Refute it at one input. -/
def lockDoesWrong : ChangeSpec := { name := "lockDoes", fn := fun _ => fun
  | [d1, d2, d3] => { results := [.lit (.bool false)], args := [d1, d2, d3] }
  | _ => none }
def LockDoesWrongFalsely : Prop := lockDoesRow.holds Try.pinned (OpenSpec.ofChange lockDoesWrong)

/-- 'braidlaw14.LockNames': WHATEVER THE INPUT: true; the input reads as it did. -/
def lockNamesSpec : ChangeSpec := { name := "lockNames", fn := fun _ => fun
  | [] => { results := [.lit (.bool true)], args := [] }
  | _ => none }
def lockNamesRow : OpenClaim := { program := "ytnkbbfeaodppgaa", sum := "cedc4da3e77077a4373b61444bfa978f79bf4968ab04a66cc1ffee1391b83528", func := "braid/braidlaw14.LockNames", spec := "lockNames", inPlace := ["slices.overlaps[int]"], unfollowed := true, recurses := true, apart := false }
def LockNamesSaid : Prop := lockNamesRow.holds Try.pinned (OpenSpec.ofChange lockNamesSpec)

/-- ITS FALSE NEIGHBOUR: 'it returns false'. Refute it at one input. -/
def lockNamesWrong : ChangeSpec := { name := "lockNames", fn := fun _ => fun
  | [] => { results := [.lit (.bool false)], args := [] }
  | _ => none }
def LockNamesWrongFalsely : Prop := lockNamesRow.holds Try.pinned (OpenSpec.ofChange lockNamesWrong)

/-- 'braidlaw14.LockAlone': WHATEVER THE INPUT: true; the input reads as it did. -/
def lockAloneSpec : ChangeSpec := { name := "lockAlone", fn := fun _ => fun
  | [d] => { results := [.lit (.bool true)], args := [d] }
  | _ => none }
def lockAloneRow : OpenClaim := { program := "ytnkbbfeaodppgaa", sum := "cedc4da3e77077a4373b61444bfa978f79bf4968ab04a66cc1ffee1391b83528", func := "braid/braidlaw14.LockAlone", spec := "lockAlone", inPlace := ["slices.overlaps[int]"], unfollowed := true, recurses := true, apart := false }
def LockAloneSaid : Prop := lockAloneRow.holds Try.pinned (OpenSpec.ofChange lockAloneSpec)

/-- ITS FALSE NEIGHBOUR: 'it returns false'. Refute it at one input. -/
def lockAloneWrong : ChangeSpec := { name := "lockAlone", fn := fun _ => fun
  | [d] => { results := [.lit (.bool false)], args := [d] }
  | _ => none }
def LockAloneWrongFalsely : Prop := lockAloneRow.holds Try.pinned (OpenSpec.ofChange lockAloneWrong)

/- THE SECOND FORM. 'bulk': how many values and letters a reading holds, each counted each time it is reached (what is shared counts as often as it is met; a slice's spare places count too). A statement '..UptoSaid' is the law's where the arguments, and the package variables that the reading takes, are together of bulk at most 1048576: NARROWER than '..Said'. Prove '..Said' where nothing that the law and all that it calls make is longer than what came in: it says more and counts as full. Else prove '..UptoSaid'. A law counts once. -/
mutual
def uptoBulk {H : Type} : DataW H → Nat
  | .lit (.string bytes) => bytes.length + 1
  | .lit _ => 1
  | .nil => 1
  | .ptr d => uptoBulk d + 1
  | .slice elems spare => uptoBulkAll elems + uptoBulkAll spare + 1
  | .agg parts => uptoBulkAll parts + 1
  | .iface _ d => uptoBulk d + 1
  | .map entries => uptoBulkEntries entries + 1
  | .held _ => 1
def uptoBulkAll {H : Type} : List (DataW H) → Nat
  | [] => 0
  | d :: r => uptoBulk d + uptoBulkAll r
def uptoBulkEntries {H : Type} : List (Lit × DataW H) → Nat
  | [] => 0
  | x :: r => uptoBulkEntry x + uptoBulkEntries r
def uptoBulkEntry {H : Type} : Lit × DataW H → Nat
  | (.string bytes, d) => bytes.length + uptoBulk d + 1
  | (_, d) => uptoBulk d + 1
 end
def uptoSmall : (H : Type) → List (DataW H) → Bool := fun _ ds => decide (uptoBulkAll ds ≤ 1048576)
def OpenSpec.upto (s : _root_.Go.ChangeSpec) : _root_.Go.OpenSpec := { _root_.Go.OpenSpec.ofChange s with cond := some uptoSmall }

/-- 'braidlaw14.LockServes', WHERE WHAT IT READS IS OF BULK AT MOST 1048576: true; the input reads as it did. -/
def lockServesUptoRow : OpenClaim := { program := "ytnkbbfeaodppgaa", sum := "cedc4da3e77077a4373b61444bfa978f79bf4968ab04a66cc1ffee1391b83528", func := "braid/braidlaw14.LockServes", spec := "lockServes", inPlace := ["slices.overlaps[int]"], unfollowed := true, recurses := true, apart := false, narrowed := true }
def LockServesUptoSaid : Prop := lockServesUptoRow.holds Try.pinned (OpenSpec.upto lockServesSpec)

/-- 'braidlaw14.LockLeaves', WHERE WHAT IT READS IS OF BULK AT MOST 1048576: true; the input reads as it did. -/
def lockLeavesUptoRow : OpenClaim := { program := "ytnkbbfeaodppgaa", sum := "cedc4da3e77077a4373b61444bfa978f79bf4968ab04a66cc1ffee1391b83528", func := "braid/braidlaw14.LockLeaves", spec := "lockLeaves", inPlace := ["slices.overlaps[int]"], unfollowed := true, recurses := true, apart := false, narrowed := true }
def LockLeavesUptoSaid : Prop := lockLeavesUptoRow.holds Try.pinned (OpenSpec.upto lockLeavesSpec)

/-- 'braidlaw14.LockDoes', WHERE WHAT IT READS IS OF BULK AT MOST 1048576: true; the input reads as it did. -/
def lockDoesUptoRow : OpenClaim := { program := "ytnkbbfeaodppgaa", sum := "cedc4da3e77077a4373b61444bfa978f79bf4968ab04a66cc1ffee1391b83528", func := "braid/braidlaw14.LockDoes", spec := "lockDoes", inPlace := ["slices.overlaps[int]"], unfollowed := true, recurses := true, apart := false, narrowed := true }
def LockDoesUptoSaid : Prop := lockDoesUptoRow.holds Try.pinned (OpenSpec.upto lockDoesSpec)

/-- 'braidlaw14.LockNames', WHERE WHAT IT READS IS OF BULK AT MOST 1048576: true; the input reads as it did. -/
def lockNamesUptoRow : OpenClaim := { program := "ytnkbbfeaodppgaa", sum := "cedc4da3e77077a4373b61444bfa978f79bf4968ab04a66cc1ffee1391b83528", func := "braid/braidlaw14.LockNames", spec := "lockNames", inPlace := ["slices.overlaps[int]"], unfollowed := true, recurses := true, apart := false, narrowed := true }
def LockNamesUptoSaid : Prop := lockNamesUptoRow.holds Try.pinned (OpenSpec.upto lockNamesSpec)

/-- 'braidlaw14.LockAlone', WHERE WHAT IT READS IS OF BULK AT MOST 1048576: true; the input reads as it did. -/
def lockAloneUptoRow : OpenClaim := { program := "ytnkbbfeaodppgaa", sum := "cedc4da3e77077a4373b61444bfa978f79bf4968ab04a66cc1ffee1391b83528", func := "braid/braidlaw14.LockAlone", spec := "lockAlone", inPlace := ["slices.overlaps[int]"], unfollowed := true, recurses := true, apart := false, narrowed := true }
def LockAloneUptoSaid : Prop := lockAloneUptoRow.holds Try.pinned (OpenSpec.upto lockAloneSpec)

end Rows
end Go.Proofs.Ytnkbbfeaodppgaa
