/-
  DERIVED. GIVEN WITH THE SEED: THE CARDS: each row of YtfabcdpmnbeflaaDoorRows.lean that lists a variable, with what it lists TIED to the program's text (the seventh form; the later family's looks); each row that meets fmt, with fmt's text TOLD by the authors' own Lean function (tested against real Go, not proved from fmt's source: count such statements apart). THE CARD IS WHAT COUNTS. Prove the row's statement (the work); the ties are given (YtfabcdpmnbeflaaDoorTie.lean); close each card by the builder's one call (the guide's Derived/Test/ToyasCard.lean, 'card_holds'). Laid BY PROGRAM, IN A SANDBOX (cutbox-door.mjs). By AI agents, Wed Nov 11 2026. No macro, syntax, notation, axiom, sorry.
-/
import Derived.Test.YtfabcdpmnbeflaaDoorRows
import GoSem.ClaimSeven
namespace Go.Proofs.YtfabcdpmnbeflaaDoor
namespace Rows

/-- THE TIED CARD OF 'braidlaw40.TrieTells'. -/
def trieTellsCard : Claim7 := { stood := { row := trieTellsRow, standIns := [], harness := (true, "f72879a676336a4f57a1e8d0c22319c53daa3e0e8798a50377e594b844aa0fec"), looks := false }, kinds := [], alts := [], laidByText := true, laidKinds := [.data], laidTests := true, laidLooks := .later }
def TrieTellsCardSaid : Prop := Claim7.holds Tryd.pinned (.plain (OpenSpec.ofChange trieTellsSpec)) trieTellsCard

/-- THE TIED CARD OF 'braidlaw40.TrieFound'. -/
def trieFoundCard : Claim7 := { stood := { row := trieFoundRow, standIns := [], harness := (true, "f72879a676336a4f57a1e8d0c22319c53daa3e0e8798a50377e594b844aa0fec"), looks := false }, kinds := [], alts := [], laidByText := true, laidKinds := [.data], laidTests := true, laidLooks := .later }
def TrieFoundCardSaid : Prop := Claim7.holds Tryd.pinned (.plain (OpenSpec.ofChange trieFoundSpec)) trieFoundCard

/-- THE TIED CARD OF 'braidlaw40.TrieSplits'. -/
def trieSplitsCard : Claim7 := { stood := { row := trieSplitsRow, standIns := [], harness := (true, "f72879a676336a4f57a1e8d0c22319c53daa3e0e8798a50377e594b844aa0fec"), looks := false }, kinds := [], alts := [], laidByText := true, laidKinds := [.data], laidTests := true, laidLooks := .later }
def TrieSplitsCardSaid : Prop := Claim7.holds Tryd.pinned (.plain (OpenSpec.ofChange trieSplitsSpec)) trieSplitsCard

/-- THE TIED CARD OF 'braidlaw40.TrieProves'. -/
def trieProvesCard : Claim7 := { stood := { row := trieProvesRow, standIns := [], harness := (true, "f72879a676336a4f57a1e8d0c22319c53daa3e0e8798a50377e594b844aa0fec"), looks := false }, kinds := [], alts := [], laidByText := true, laidKinds := [.data], laidTests := true, laidLooks := .later }
def TrieProvesCardSaid : Prop := Claim7.holds Tryd.pinned (.plain (OpenSpec.ofChange trieProvesSpec)) trieProvesCard

/-- THE TIED CARD OF 'braidlaw40.TrieGrows'. -/
def trieGrowsCard : Claim7 := { stood := { row := trieGrowsRow, standIns := [], harness := (true, "f72879a676336a4f57a1e8d0c22319c53daa3e0e8798a50377e594b844aa0fec"), looks := false }, kinds := [], alts := [], laidByText := true, laidKinds := [.data], laidTests := true, laidLooks := .later }
def TrieGrowsCardSaid : Prop := Claim7.holds Tryd.pinned (.plain (OpenSpec.ofChange trieGrowsSpec)) trieGrowsCard

/-- THE SECOND FORM's CARD OF 'braidlaw40.TrieTells'. -/
def trieTellsUptoCard : Claim7 := { stood := { row := trieTellsUptoRow, standIns := [], harness := (true, "f72879a676336a4f57a1e8d0c22319c53daa3e0e8798a50377e594b844aa0fec"), looks := false }, kinds := [], alts := [], laidByText := true, laidKinds := [.data], laidTests := true, laidLooks := .later }
def TrieTellsUptoCardSaid : Prop := Claim7.holds Tryd.pinned (.plain (OpenSpec.upto trieTellsSpec)) trieTellsUptoCard

/-- THE SECOND FORM's CARD OF 'braidlaw40.TrieFound'. -/
def trieFoundUptoCard : Claim7 := { stood := { row := trieFoundUptoRow, standIns := [], harness := (true, "f72879a676336a4f57a1e8d0c22319c53daa3e0e8798a50377e594b844aa0fec"), looks := false }, kinds := [], alts := [], laidByText := true, laidKinds := [.data], laidTests := true, laidLooks := .later }
def TrieFoundUptoCardSaid : Prop := Claim7.holds Tryd.pinned (.plain (OpenSpec.upto trieFoundSpec)) trieFoundUptoCard

/-- THE SECOND FORM's CARD OF 'braidlaw40.TrieSplits'. -/
def trieSplitsUptoCard : Claim7 := { stood := { row := trieSplitsUptoRow, standIns := [], harness := (true, "f72879a676336a4f57a1e8d0c22319c53daa3e0e8798a50377e594b844aa0fec"), looks := false }, kinds := [], alts := [], laidByText := true, laidKinds := [.data], laidTests := true, laidLooks := .later }
def TrieSplitsUptoCardSaid : Prop := Claim7.holds Tryd.pinned (.plain (OpenSpec.upto trieSplitsSpec)) trieSplitsUptoCard

/-- THE SECOND FORM's CARD OF 'braidlaw40.TrieProves'. -/
def trieProvesUptoCard : Claim7 := { stood := { row := trieProvesUptoRow, standIns := [], harness := (true, "f72879a676336a4f57a1e8d0c22319c53daa3e0e8798a50377e594b844aa0fec"), looks := false }, kinds := [], alts := [], laidByText := true, laidKinds := [.data], laidTests := true, laidLooks := .later }
def TrieProvesUptoCardSaid : Prop := Claim7.holds Tryd.pinned (.plain (OpenSpec.upto trieProvesSpec)) trieProvesUptoCard

/-- THE SECOND FORM's CARD OF 'braidlaw40.TrieGrows'. -/
def trieGrowsUptoCard : Claim7 := { stood := { row := trieGrowsUptoRow, standIns := [], harness := (true, "f72879a676336a4f57a1e8d0c22319c53daa3e0e8798a50377e594b844aa0fec"), looks := false }, kinds := [], alts := [], laidByText := true, laidKinds := [.data], laidTests := true, laidLooks := .later }
def TrieGrowsUptoCardSaid : Prop := Claim7.holds Tryd.pinned (.plain (OpenSpec.upto trieGrowsSpec)) trieGrowsUptoCard
end Rows
end Go.Proofs.YtfabcdpmnbeflaaDoor
