/-
  No cell of these rows narrows 'for every input' (looked for: loops, veiled, ifaces, maps, wideKeys, modest, calm, conditions, laid).
  DERIVED. THE GIVEN ROWS OF THIS SEAT. 5 by the template 'for every input the law returns true; each argument reads behind the call as it read before'; 0 by the template 'total and deterministic' (their statements: YtpfldkcbkolgnaaTotals.lean).
  GIVEN WITH THE SEED: the statements are not yours to turn. If you find one false, say at which input.
  Laid BY PROGRAM, IN A SANDBOX (cutbox-rows.mjs): the forced cells as the released guide's own fill.sh prints them over the translation 8cafdd722a6c9d16… (all of the seat's roots in one cut). By AI agents, Wed Nov 11 2026. No macro, syntax, notation, axiom, sorry.
-/
import Derived.Test.YtpfldkcbkolgnaaChecked
import GoSem.Claim
import GoSem.ClaimJoined
import GoSem.ClaimMapViews
import Derived.JoinedTies
import Derived.KernelRfl
namespace Go.Proofs.Ytpfldkcbkolgnaa
/- THE CELL 'sum', in the pinned program and in every row, IS THE sha256 OF THE DUMP (.gsa) THAT YtpfldkcbkolgnaaProg.lean LOADS. Nothing in Lean hashes anything: it is a label: what it is worth is what the hold of that sum in a sandbox is worth. -/
noncomputable def Try.pinned : Pinned := { name := "ytpfldkcbkolgnaa", sum := "8cafdd722a6c9d16d8e1b1285c42bb4857803d9ff29d4cf0ee47cb0d46bbb654", checked := Try.checked }
namespace Rows
def none {H : Type} : Left H := { results := [], args := [] }

/-- 'braidlaw16.TicketOrder': WHATEVER THE INPUT: true; the input reads as it did. -/
def ticketOrderSpec : ChangeSpec := { name := "ticketOrder", fn := fun _ => fun
  | [d1, d2, d3] => { results := [.lit (.bool true)], args := [d1, d2, d3] }
  | _ => none }
def ticketOrderRow : OpenClaim := { program := "ytpfldkcbkolgnaa", sum := "8cafdd722a6c9d16d8e1b1285c42bb4857803d9ff29d4cf0ee47cb0d46bbb654", func := "braid/braidlaw16.TicketOrder", spec := "ticketOrder", inPlace := ["slices.overlaps[braid/api.Slip]"], unfollowed := true, recurses := true, apart := false }
def TicketOrderSaid : Prop := ticketOrderRow.holds Try.pinned (OpenSpec.ofChange ticketOrderSpec)

/-- ITS FALSE NEIGHBOUR: 'it returns false'. Refute it at one input. -/
def ticketOrderWrong : ChangeSpec := { name := "ticketOrder", fn := fun _ => fun
  | [d1, d2, d3] => { results := [.lit (.bool false)], args := [d1, d2, d3] }
  | _ => none }
def TicketOrderWrongFalsely : Prop := ticketOrderRow.holds Try.pinned (OpenSpec.ofChange ticketOrderWrong)

/-- 'braidlaw16.TicketAll': WHATEVER THE INPUT: true; the input reads as it did. -/
def ticketAllSpec : ChangeSpec := { name := "ticketAll", fn := fun _ => fun
  | [d] => { results := [.lit (.bool true)], args := [d] }
  | _ => none }
def ticketAllRow : OpenClaim := { program := "ytpfldkcbkolgnaa", sum := "8cafdd722a6c9d16d8e1b1285c42bb4857803d9ff29d4cf0ee47cb0d46bbb654", func := "braid/braidlaw16.TicketAll", spec := "ticketAll", inPlace := ["slices.overlaps[braid/api.Slip]"], unfollowed := true, recurses := true, apart := false }
def TicketAllSaid : Prop := ticketAllRow.holds Try.pinned (OpenSpec.ofChange ticketAllSpec)

/-- ITS FALSE NEIGHBOUR: 'it returns false'. Refute it at one input. -/
def ticketAllWrong : ChangeSpec := { name := "ticketAll", fn := fun _ => fun
  | [d] => { results := [.lit (.bool false)], args := [d] }
  | _ => none }
def TicketAllWrongFalsely : Prop := ticketAllRow.holds Try.pinned (OpenSpec.ofChange ticketAllWrong)

/-- 'braidlaw16.TicketDoes': WHATEVER THE INPUT: true; the input reads as it did. -/
def ticketDoesSpec : ChangeSpec := { name := "ticketDoes", fn := fun _ => fun
  | [d1, d2, d3, d4] => { results := [.lit (.bool true)], args := [d1, d2, d3, d4] }
  | _ => none }
def ticketDoesRow : OpenClaim := { program := "ytpfldkcbkolgnaa", sum := "8cafdd722a6c9d16d8e1b1285c42bb4857803d9ff29d4cf0ee47cb0d46bbb654", func := "braid/braidlaw16.TicketDoes", spec := "ticketDoes", inPlace := ["slices.overlaps[braid/api.Slip]"], unfollowed := true, recurses := true, apart := false }
def TicketDoesSaid : Prop := ticketDoesRow.holds Try.pinned (OpenSpec.ofChange ticketDoesSpec)

/-- ITS FALSE NEIGHBOUR: 'it returns false'. Refute it at one input. -/
def ticketDoesWrong : ChangeSpec := { name := "ticketDoes", fn := fun _ => fun
  | [d1, d2, d3, d4] => { results := [.lit (.bool false)], args := [d1, d2, d3, d4] }
  | _ => none }
def TicketDoesWrongFalsely : Prop := ticketDoesRow.holds Try.pinned (OpenSpec.ofChange ticketDoesWrong)

/-- 'braidlaw16.TicketNames': WHATEVER THE INPUT: true; the input reads as it did. -/
def ticketNamesSpec : ChangeSpec := { name := "ticketNames", fn := fun _ => fun
  | [] => { results := [.lit (.bool true)], args := [] }
  | _ => none }
def ticketNamesRow : OpenClaim := { program := "ytpfldkcbkolgnaa", sum := "8cafdd722a6c9d16d8e1b1285c42bb4857803d9ff29d4cf0ee47cb0d46bbb654", func := "braid/braidlaw16.TicketNames", spec := "ticketNames", inPlace := ["slices.overlaps[braid/api.Slip]"], unfollowed := true, recurses := true, apart := false }
def TicketNamesSaid : Prop := ticketNamesRow.holds Try.pinned (OpenSpec.ofChange ticketNamesSpec)

/-- ITS FALSE NEIGHBOUR: 'it returns false'. Refute it at one input. -/
def ticketNamesWrong : ChangeSpec := { name := "ticketNames", fn := fun _ => fun
  | [] => { results := [.lit (.bool false)], args := [] }
  | _ => none }
def TicketNamesWrongFalsely : Prop := ticketNamesRow.holds Try.pinned (OpenSpec.ofChange ticketNamesWrong)

/-- 'braidlaw16.TicketDrains': WHATEVER THE INPUT: true; the input reads as it did. -/
def ticketDrainsSpec : ChangeSpec := { name := "ticketDrains", fn := fun _ => fun
  | [d] => { results := [.lit (.bool true)], args := [d] }
  | _ => none }
def ticketDrainsRow : OpenClaim := { program := "ytpfldkcbkolgnaa", sum := "8cafdd722a6c9d16d8e1b1285c42bb4857803d9ff29d4cf0ee47cb0d46bbb654", func := "braid/braidlaw16.TicketDrains", spec := "ticketDrains", inPlace := ["slices.overlaps[braid/api.Slip]"], unfollowed := true, recurses := true, apart := false }
def TicketDrainsSaid : Prop := ticketDrainsRow.holds Try.pinned (OpenSpec.ofChange ticketDrainsSpec)

/-- ITS FALSE NEIGHBOUR: 'it returns false'. Refute it at one input. -/
def ticketDrainsWrong : ChangeSpec := { name := "ticketDrains", fn := fun _ => fun
  | [d] => { results := [.lit (.bool false)], args := [d] }
  | _ => none }
def TicketDrainsWrongFalsely : Prop := ticketDrainsRow.holds Try.pinned (OpenSpec.ofChange ticketDrainsWrong)

/- THE SECOND FORM. 'bulk': how many values and letters a reading holds, each counted each time it is reached (what is shared counts as often as it is met; a slice's spare places count too). A statement '..UptoSaid' is the law's where the arguments, and the package variables that the reading takes, are together of bulk at most 1048576: NARROWER than '..Said'. Prove '..Said' where nothing that the law and all that it calls make is longer than what came in: it says more and counts as full. Else prove '..UptoSaid'. A law counts once. -/
mutual
def uptoBulk {H : Type} : DataW H → Nat
  | .lit (.string bytes) => bytes.length + 1
  | .lit _ => 1
  | .nil => 1
  | .ptr d => uptoBulk d + 1
  | .slice elems spare => uptoBulkAll elems + uptoBulkAll spare + 1
  | .agg parts => uptoBulkAll parts + 1
  | .iface _ d => uptoBulk d + 1
  | .map entries => uptoBulkEntries entries + 1
  | .held _ => 1
def uptoBulkAll {H : Type} : List (DataW H) → Nat
  | [] => 0
  | d :: r => uptoBulk d + uptoBulkAll r
def uptoBulkEntries {H : Type} : List (Lit × DataW H) → Nat
  | [] => 0
  | x :: r => uptoBulkEntry x + uptoBulkEntries r
def uptoBulkEntry {H : Type} : Lit × DataW H → Nat
  | (.string bytes, d) => bytes.length + uptoBulk d + 1
  | (_, d) => uptoBulk d + 1
 end
def uptoSmall : (H : Type) → List (DataW H) → Bool := fun _ ds => decide (uptoBulkAll ds ≤ 1048576)
def OpenSpec.upto (s : _root_.Go.ChangeSpec) : _root_.Go.OpenSpec := { _root_.Go.OpenSpec.ofChange s with cond := some uptoSmall }

/-- 'braidlaw16.TicketOrder', WHERE WHAT IT READS IS OF BULK AT MOST 1048576: true; the input reads as it did. -/
def ticketOrderUptoRow : OpenClaim := { program := "ytpfldkcbkolgnaa", sum := "8cafdd722a6c9d16d8e1b1285c42bb4857803d9ff29d4cf0ee47cb0d46bbb654", func := "braid/braidlaw16.TicketOrder", spec := "ticketOrder", inPlace := ["slices.overlaps[braid/api.Slip]"], unfollowed := true, recurses := true, apart := false, narrowed := true }
def TicketOrderUptoSaid : Prop := ticketOrderUptoRow.holds Try.pinned (OpenSpec.upto ticketOrderSpec)

/-- 'braidlaw16.TicketAll', WHERE WHAT IT READS IS OF BULK AT MOST 1048576: true; the input reads as it did. -/
def ticketAllUptoRow : OpenClaim := { program := "ytpfldkcbkolgnaa", sum := "8cafdd722a6c9d16d8e1b1285c42bb4857803d9ff29d4cf0ee47cb0d46bbb654", func := "braid/braidlaw16.TicketAll", spec := "ticketAll", inPlace := ["slices.overlaps[braid/api.Slip]"], unfollowed := true, recurses := true, apart := false, narrowed := true }
def TicketAllUptoSaid : Prop := ticketAllUptoRow.holds Try.pinned (OpenSpec.upto ticketAllSpec)

/-- 'braidlaw16.TicketDoes', WHERE WHAT IT READS IS OF BULK AT MOST 1048576: true; the input reads as it did. -/
def ticketDoesUptoRow : OpenClaim := { program := "ytpfldkcbkolgnaa", sum := "8cafdd722a6c9d16d8e1b1285c42bb4857803d9ff29d4cf0ee47cb0d46bbb654", func := "braid/braidlaw16.TicketDoes", spec := "ticketDoes", inPlace := ["slices.overlaps[braid/api.Slip]"], unfollowed := true, recurses := true, apart := false, narrowed := true }
def TicketDoesUptoSaid : Prop := ticketDoesUptoRow.holds Try.pinned (OpenSpec.upto ticketDoesSpec)

/-- 'braidlaw16.TicketNames', WHERE WHAT IT READS IS OF BULK AT MOST 1048576: true; the input reads as it did. -/
def ticketNamesUptoRow : OpenClaim := { program := "ytpfldkcbkolgnaa", sum := "8cafdd722a6c9d16d8e1b1285c42bb4857803d9ff29d4cf0ee47cb0d46bbb654", func := "braid/braidlaw16.TicketNames", spec := "ticketNames", inPlace := ["slices.overlaps[braid/api.Slip]"], unfollowed := true, recurses := true, apart := false, narrowed := true }
def TicketNamesUptoSaid : Prop := ticketNamesUptoRow.holds Try.pinned (OpenSpec.upto ticketNamesSpec)

/-- 'braidlaw16.TicketDrains', WHERE WHAT IT READS IS OF BULK AT MOST 1048576: true; the input reads as it did. -/
def ticketDrainsUptoRow : OpenClaim := { program := "ytpfldkcbkolgnaa", sum := "8cafdd722a6c9d16d8e1b1285c42bb4857803d9ff29d4cf0ee47cb0d46bbb654", func := "braid/braidlaw16.TicketDrains", spec := "ticketDrains", inPlace := ["slices.overlaps[braid/api.Slip]"], unfollowed := true, recurses := true, apart := false, narrowed := true }
def TicketDrainsUptoSaid : Prop := ticketDrainsUptoRow.holds Try.pinned (OpenSpec.upto ticketDrainsSpec)

end Rows
end Go.Proofs.Ytpfldkcbkolgnaa
