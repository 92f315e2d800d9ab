/-
  DERIVED. GIVEN WITH THE SEED: THE CARDS: each row of YtlilodfddojlhaaDoorRows.lean that lists a variable, with what it lists TIED to the program's text (the seventh form; the later family's looks); each row that meets fmt, with fmt's text TOLD by the authors' own Lean function (tested against real Go, not proved from fmt's source: count such statements apart). THE CARD IS WHAT COUNTS. Prove the row's statement (the work); the ties are given (YtlilodfddojlhaaDoorTie.lean); close each card by the builder's one call (the guide's Derived/Test/ToyasCard.lean, 'card_holds'). Laid BY PROGRAM, IN A SANDBOX (cutbox-door.mjs). By AI agents, Wed Nov 11 2026. No macro, syntax, notation, axiom, sorry.
-/
import Derived.Test.YtlilodfddojlhaaDoorRows
import GoSem.ClaimSeven
namespace Go.Proofs.YtlilodfddojlhaaDoor
namespace Rows

/-- THE TIED CARD OF 'braidlaw01.DigestMills'. -/
def digestMillsCard : Claim7 := { stood := { row := digestMillsRow, standIns := [], harness := (true, "576f492d7628dae7ad15adc786457d821b5e4a06c755ac9144ba0c201762123a"), looks := false }, kinds := [], alts := [], laidByText := true, laidKinds := [.data], laidTests := true, laidLooks := .later }
def DigestMillsCardSaid : Prop := Claim7.holds Tryd.pinned (.plain (OpenSpec.ofChange digestMillsSpec)) digestMillsCard

/-- THE TIED CARD OF 'braidlaw01.DigestSums'. -/
def digestSumsCard : Claim7 := { stood := { row := digestSumsRow, standIns := [], harness := (true, "576f492d7628dae7ad15adc786457d821b5e4a06c755ac9144ba0c201762123a"), looks := false }, kinds := [], alts := [], laidByText := true, laidKinds := [.data], laidTests := true, laidLooks := .later }
def DigestSumsCardSaid : Prop := Claim7.holds Tryd.pinned (.plain (OpenSpec.ofChange digestSumsSpec)) digestSumsCard

/-- THE TIED CARD OF 'braidlaw01.DigestOrder'. -/
def digestOrderCard : Claim7 := { stood := { row := digestOrderRow, standIns := [], harness := (true, "576f492d7628dae7ad15adc786457d821b5e4a06c755ac9144ba0c201762123a"), looks := false }, kinds := [], alts := [], laidByText := true, laidKinds := [.data], laidTests := true, laidLooks := .later }
def DigestOrderCardSaid : Prop := Claim7.holds Tryd.pinned (.plain (OpenSpec.ofChange digestOrderSpec)) digestOrderCard

/-- THE TIED CARD OF 'braidlaw01.DigestPieces'. -/
def digestPiecesCard : Claim7 := { stood := { row := digestPiecesRow, standIns := [], harness := (true, "576f492d7628dae7ad15adc786457d821b5e4a06c755ac9144ba0c201762123a"), looks := false }, kinds := [], alts := [], laidByText := true, laidKinds := [.data], laidTests := true, laidLooks := .later }
def DigestPiecesCardSaid : Prop := Claim7.holds Tryd.pinned (.plain (OpenSpec.ofChange digestPiecesSpec)) digestPiecesCard

/-- THE TIED CARD OF 'braidlaw01.DigestOn'. -/
def digestOnCard : Claim7 := { stood := { row := digestOnRow, standIns := [], harness := (true, "576f492d7628dae7ad15adc786457d821b5e4a06c755ac9144ba0c201762123a"), looks := false }, kinds := [], alts := [], laidByText := true, laidKinds := [.data], laidTests := true, laidLooks := .later }
def DigestOnCardSaid : Prop := Claim7.holds Tryd.pinned (.plain (OpenSpec.ofChange digestOnSpec)) digestOnCard

/-- THE TIED CARD OF 'braidlaw01.DigestNames'. -/
def digestNamesCard : Claim7 := { stood := { row := digestNamesRow, standIns := [], harness := (true, "576f492d7628dae7ad15adc786457d821b5e4a06c755ac9144ba0c201762123a"), looks := false }, kinds := [], alts := [], laidByText := true, laidKinds := [.data], laidTests := true, laidLooks := .later }
def DigestNamesCardSaid : Prop := Claim7.holds Tryd.pinned (.plain (OpenSpec.ofChange digestNamesSpec)) digestNamesCard

/-- THE SECOND FORM's CARD OF 'braidlaw01.DigestMills'. -/
def digestMillsUptoCard : Claim7 := { stood := { row := digestMillsUptoRow, standIns := [], harness := (true, "576f492d7628dae7ad15adc786457d821b5e4a06c755ac9144ba0c201762123a"), looks := false }, kinds := [], alts := [], laidByText := true, laidKinds := [.data], laidTests := true, laidLooks := .later }
def DigestMillsUptoCardSaid : Prop := Claim7.holds Tryd.pinned (.plain (OpenSpec.upto digestMillsSpec)) digestMillsUptoCard

/-- THE SECOND FORM's CARD OF 'braidlaw01.DigestSums'. -/
def digestSumsUptoCard : Claim7 := { stood := { row := digestSumsUptoRow, standIns := [], harness := (true, "576f492d7628dae7ad15adc786457d821b5e4a06c755ac9144ba0c201762123a"), looks := false }, kinds := [], alts := [], laidByText := true, laidKinds := [.data], laidTests := true, laidLooks := .later }
def DigestSumsUptoCardSaid : Prop := Claim7.holds Tryd.pinned (.plain (OpenSpec.upto digestSumsSpec)) digestSumsUptoCard

/-- THE SECOND FORM's CARD OF 'braidlaw01.DigestOrder'. -/
def digestOrderUptoCard : Claim7 := { stood := { row := digestOrderUptoRow, standIns := [], harness := (true, "576f492d7628dae7ad15adc786457d821b5e4a06c755ac9144ba0c201762123a"), looks := false }, kinds := [], alts := [], laidByText := true, laidKinds := [.data], laidTests := true, laidLooks := .later }
def DigestOrderUptoCardSaid : Prop := Claim7.holds Tryd.pinned (.plain (OpenSpec.upto digestOrderSpec)) digestOrderUptoCard

/-- THE SECOND FORM's CARD OF 'braidlaw01.DigestPieces'. -/
def digestPiecesUptoCard : Claim7 := { stood := { row := digestPiecesUptoRow, standIns := [], harness := (true, "576f492d7628dae7ad15adc786457d821b5e4a06c755ac9144ba0c201762123a"), looks := false }, kinds := [], alts := [], laidByText := true, laidKinds := [.data], laidTests := true, laidLooks := .later }
def DigestPiecesUptoCardSaid : Prop := Claim7.holds Tryd.pinned (.plain (OpenSpec.upto digestPiecesSpec)) digestPiecesUptoCard

/-- THE SECOND FORM's CARD OF 'braidlaw01.DigestOn'. -/
def digestOnUptoCard : Claim7 := { stood := { row := digestOnUptoRow, standIns := [], harness := (true, "576f492d7628dae7ad15adc786457d821b5e4a06c755ac9144ba0c201762123a"), looks := false }, kinds := [], alts := [], laidByText := true, laidKinds := [.data], laidTests := true, laidLooks := .later }
def DigestOnUptoCardSaid : Prop := Claim7.holds Tryd.pinned (.plain (OpenSpec.upto digestOnSpec)) digestOnUptoCard

/-- THE SECOND FORM's CARD OF 'braidlaw01.DigestNames'. -/
def digestNamesUptoCard : Claim7 := { stood := { row := digestNamesUptoRow, standIns := [], harness := (true, "576f492d7628dae7ad15adc786457d821b5e4a06c755ac9144ba0c201762123a"), looks := false }, kinds := [], alts := [], laidByText := true, laidKinds := [.data], laidTests := true, laidLooks := .later }
def DigestNamesUptoCardSaid : Prop := Claim7.holds Tryd.pinned (.plain (OpenSpec.upto digestNamesSpec)) digestNamesUptoCard
end Rows
end Go.Proofs.YtlilodfddojlhaaDoor
