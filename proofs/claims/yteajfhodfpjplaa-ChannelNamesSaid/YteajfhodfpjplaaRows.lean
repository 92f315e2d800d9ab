/-
  No cell of these rows narrows 'for every input' (looked for: loops, veiled, ifaces, maps, wideKeys, modest, calm, conditions, laid).
  DERIVED. THE GIVEN ROWS OF THIS SEAT. 5 by the template 'for every input the law returns true; each argument reads behind the call as it read before'; 0 by the template 'total and deterministic' (their statements: YteajfhodfpjplaaTotals.lean).
  GIVEN WITH THE SEED: the statements are not yours to turn. If you find one false, say at which input.
  Laid BY PROGRAM, IN A SANDBOX (cutbox-rows.mjs): the forced cells as the released guide's own fill.sh prints them over the translation 9c2bc253f59ec4de… (all of the seat's roots in one cut). By AI agents, Wed Nov 11 2026. No macro, syntax, notation, axiom, sorry.
-/
import Derived.Test.YteajfhodfpjplaaChecked
import GoSem.Claim
import GoSem.ClaimJoined
import GoSem.ClaimMapViews
import Derived.JoinedTies
import Derived.KernelRfl
namespace Go.Proofs.Yteajfhodfpjplaa
/- THE CELL 'sum', in the pinned program and in every row, IS THE sha256 OF THE DUMP (.gsa) THAT YteajfhodfpjplaaProg.lean LOADS. Nothing in Lean hashes anything: it is a label: what it is worth is what the hold of that sum in a sandbox is worth. -/
noncomputable def Try.pinned : Pinned := { name := "yteajfhodfpjplaa", sum := "9c2bc253f59ec4dea7f6e833fc836ff126ffc5236564144869579dd486c6b491", checked := Try.checked }
namespace Rows
def none {H : Type} : Left H := { results := [], args := [] }

/-- 'braidlaw15.ChannelDoes': WHATEVER THE INPUT: true; the input reads as it did. -/
def channelDoesSpec : ChangeSpec := { name := "channelDoes", fn := fun _ => fun
  | [d1, d2, d3] => { results := [.lit (.bool true)], args := [d1, d2, d3] }
  | _ => none }
def channelDoesRow : OpenClaim := { program := "yteajfhodfpjplaa", sum := "9c2bc253f59ec4dea7f6e833fc836ff126ffc5236564144869579dd486c6b491", func := "braid/braidlaw15.ChannelDoes", spec := "channelDoes", apart := false }
def ChannelDoesSaid : Prop := channelDoesRow.holds Try.pinned (OpenSpec.ofChange channelDoesSpec)

/-- ITS FALSE NEIGHBOUR: 'it returns false'. Refute it at one input. -/
def channelDoesWrong : ChangeSpec := { name := "channelDoes", fn := fun _ => fun
  | [d1, d2, d3] => { results := [.lit (.bool false)], args := [d1, d2, d3] }
  | _ => none }
def ChannelDoesWrongFalsely : Prop := channelDoesRow.holds Try.pinned (OpenSpec.ofChange channelDoesWrong)

/-- 'braidlaw15.ChannelNames': WHATEVER THE INPUT: true; the input reads as it did. -/
def channelNamesSpec : ChangeSpec := { name := "channelNames", fn := fun _ => fun
  | [] => { results := [.lit (.bool true)], args := [] }
  | _ => none }
def channelNamesRow : OpenClaim := { program := "yteajfhodfpjplaa", sum := "9c2bc253f59ec4dea7f6e833fc836ff126ffc5236564144869579dd486c6b491", func := "braid/braidlaw15.ChannelNames", spec := "channelNames", apart := false }
def ChannelNamesSaid : Prop := channelNamesRow.holds Try.pinned (OpenSpec.ofChange channelNamesSpec)

/-- ITS FALSE NEIGHBOUR: 'it returns false'. Refute it at one input. -/
def channelNamesWrong : ChangeSpec := { name := "channelNames", fn := fun _ => fun
  | [] => { results := [.lit (.bool false)], args := [] }
  | _ => none }
def ChannelNamesWrongFalsely : Prop := channelNamesRow.holds Try.pinned (OpenSpec.ofChange channelNamesWrong)

/-- 'braidlaw15.ChannelOrder': WHATEVER THE INPUT: true; the input reads as it did. -/
def channelOrderSpec : ChangeSpec := { name := "channelOrder", fn := fun _ => fun
  | [d1, d2] => { results := [.lit (.bool true)], args := [d1, d2] }
  | _ => none }
def channelOrderRow : OpenClaim := { program := "yteajfhodfpjplaa", sum := "9c2bc253f59ec4dea7f6e833fc836ff126ffc5236564144869579dd486c6b491", func := "braid/braidlaw15.ChannelOrder", spec := "channelOrder", apart := false }
def ChannelOrderSaid : Prop := channelOrderRow.holds Try.pinned (OpenSpec.ofChange channelOrderSpec)

/-- ITS FALSE NEIGHBOUR: 'it returns false'. Refute it at one input. -/
def channelOrderWrong : ChangeSpec := { name := "channelOrder", fn := fun _ => fun
  | [d1, d2] => { results := [.lit (.bool false)], args := [d1, d2] }
  | _ => none }
def ChannelOrderWrongFalsely : Prop := channelOrderRow.holds Try.pinned (OpenSpec.ofChange channelOrderWrong)

/-- 'braidlaw15.ChannelEnds': WHATEVER THE INPUT: true; the input reads as it did. -/
def channelEndsSpec : ChangeSpec := { name := "channelEnds", fn := fun _ => fun
  | [d] => { results := [.lit (.bool true)], args := [d] }
  | _ => none }
def channelEndsRow : OpenClaim := { program := "yteajfhodfpjplaa", sum := "9c2bc253f59ec4dea7f6e833fc836ff126ffc5236564144869579dd486c6b491", func := "braid/braidlaw15.ChannelEnds", spec := "channelEnds", apart := false }
def ChannelEndsSaid : Prop := channelEndsRow.holds Try.pinned (OpenSpec.ofChange channelEndsSpec)

/-- ITS FALSE NEIGHBOUR: 'it returns false'. Refute it at one input. -/
def channelEndsWrong : ChangeSpec := { name := "channelEnds", fn := fun _ => fun
  | [d] => { results := [.lit (.bool false)], args := [d] }
  | _ => none }
def ChannelEndsWrongFalsely : Prop := channelEndsRow.holds Try.pinned (OpenSpec.ofChange channelEndsWrong)

/-- 'braidlaw15.ChannelBack': WHATEVER THE INPUT: true; the input reads as it did. -/
def channelBackSpec : ChangeSpec := { name := "channelBack", fn := fun _ => fun
  | [d1, d2] => { results := [.lit (.bool true)], args := [d1, d2] }
  | _ => none }
def channelBackRow : OpenClaim := { program := "yteajfhodfpjplaa", sum := "9c2bc253f59ec4dea7f6e833fc836ff126ffc5236564144869579dd486c6b491", func := "braid/braidlaw15.ChannelBack", spec := "channelBack", apart := false }
def ChannelBackSaid : Prop := channelBackRow.holds Try.pinned (OpenSpec.ofChange channelBackSpec)

/-- ITS FALSE NEIGHBOUR: 'it returns false'. Refute it at one input. -/
def channelBackWrong : ChangeSpec := { name := "channelBack", fn := fun _ => fun
  | [d1, d2] => { results := [.lit (.bool false)], args := [d1, d2] }
  | _ => none }
def ChannelBackWrongFalsely : Prop := channelBackRow.holds Try.pinned (OpenSpec.ofChange channelBackWrong)

/- THE SECOND FORM. 'bulk': how many values and letters a reading holds, each counted each time it is reached (what is shared counts as often as it is met; a slice's spare places count too). A statement '..UptoSaid' is the law's where the arguments, and the package variables that the reading takes, are together of bulk at most 1048576: NARROWER than '..Said'. Prove '..Said' where nothing that the law and all that it calls make is longer than what came in: it says more and counts as full. Else prove '..UptoSaid'. A law counts once. -/
mutual
def uptoBulk {H : Type} : DataW H → Nat
  | .lit (.string bytes) => bytes.length + 1
  | .lit _ => 1
  | .nil => 1
  | .ptr d => uptoBulk d + 1
  | .slice elems spare => uptoBulkAll elems + uptoBulkAll spare + 1
  | .agg parts => uptoBulkAll parts + 1
  | .iface _ d => uptoBulk d + 1
  | .map entries => uptoBulkEntries entries + 1
  | .held _ => 1
def uptoBulkAll {H : Type} : List (DataW H) → Nat
  | [] => 0
  | d :: r => uptoBulk d + uptoBulkAll r
def uptoBulkEntries {H : Type} : List (Lit × DataW H) → Nat
  | [] => 0
  | x :: r => uptoBulkEntry x + uptoBulkEntries r
def uptoBulkEntry {H : Type} : Lit × DataW H → Nat
  | (.string bytes, d) => bytes.length + uptoBulk d + 1
  | (_, d) => uptoBulk d + 1
 end
def uptoSmall : (H : Type) → List (DataW H) → Bool := fun _ ds => decide (uptoBulkAll ds ≤ 1048576)
def OpenSpec.upto (s : _root_.Go.ChangeSpec) : _root_.Go.OpenSpec := { _root_.Go.OpenSpec.ofChange s with cond := some uptoSmall }

/-- 'braidlaw15.ChannelDoes', WHERE WHAT IT READS IS OF BULK AT MOST 1048576: true; the input reads as it did. -/
def channelDoesUptoRow : OpenClaim := { program := "yteajfhodfpjplaa", sum := "9c2bc253f59ec4dea7f6e833fc836ff126ffc5236564144869579dd486c6b491", func := "braid/braidlaw15.ChannelDoes", spec := "channelDoes", apart := false, narrowed := true }
def ChannelDoesUptoSaid : Prop := channelDoesUptoRow.holds Try.pinned (OpenSpec.upto channelDoesSpec)

/-- 'braidlaw15.ChannelNames', WHERE WHAT IT READS IS OF BULK AT MOST 1048576: true; the input reads as it did. -/
def channelNamesUptoRow : OpenClaim := { program := "yteajfhodfpjplaa", sum := "9c2bc253f59ec4dea7f6e833fc836ff126ffc5236564144869579dd486c6b491", func := "braid/braidlaw15.ChannelNames", spec := "channelNames", apart := false, narrowed := true }
def ChannelNamesUptoSaid : Prop := channelNamesUptoRow.holds Try.pinned (OpenSpec.upto channelNamesSpec)

/-- 'braidlaw15.ChannelOrder', WHERE WHAT IT READS IS OF BULK AT MOST 1048576: true; the input reads as it did. -/
def channelOrderUptoRow : OpenClaim := { program := "yteajfhodfpjplaa", sum := "9c2bc253f59ec4dea7f6e833fc836ff126ffc5236564144869579dd486c6b491", func := "braid/braidlaw15.ChannelOrder", spec := "channelOrder", apart := false, narrowed := true }
def ChannelOrderUptoSaid : Prop := channelOrderUptoRow.holds Try.pinned (OpenSpec.upto channelOrderSpec)

/-- 'braidlaw15.ChannelEnds', WHERE WHAT IT READS IS OF BULK AT MOST 1048576: true; the input reads as it did. -/
def channelEndsUptoRow : OpenClaim := { program := "yteajfhodfpjplaa", sum := "9c2bc253f59ec4dea7f6e833fc836ff126ffc5236564144869579dd486c6b491", func := "braid/braidlaw15.ChannelEnds", spec := "channelEnds", apart := false, narrowed := true }
def ChannelEndsUptoSaid : Prop := channelEndsUptoRow.holds Try.pinned (OpenSpec.upto channelEndsSpec)

/-- 'braidlaw15.ChannelBack', WHERE WHAT IT READS IS OF BULK AT MOST 1048576: true; the input reads as it did. -/
def channelBackUptoRow : OpenClaim := { program := "yteajfhodfpjplaa", sum := "9c2bc253f59ec4dea7f6e833fc836ff126ffc5236564144869579dd486c6b491", func := "braid/braidlaw15.ChannelBack", spec := "channelBack", apart := false, narrowed := true }
def ChannelBackUptoSaid : Prop := channelBackUptoRow.holds Try.pinned (OpenSpec.upto channelBackSpec)

end Rows
end Go.Proofs.Yteajfhodfpjplaa
