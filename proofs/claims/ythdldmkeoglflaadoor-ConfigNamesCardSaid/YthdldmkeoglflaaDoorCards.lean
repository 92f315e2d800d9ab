/-
  DERIVED. GIVEN WITH THE SEED: THE CARDS: each row of YthdldmkeoglflaaDoorRows.lean that lists a variable, with what it lists TIED to the program's text (the seventh form; the later family's looks); each row that meets fmt, with fmt's text TOLD by the authors' own Lean function (tested against real Go, not proved from fmt's source: count such statements apart). THE CARD IS WHAT COUNTS. Prove the row's statement (the work); the ties are given (YthdldmkeoglflaaDoorTie.lean); close each card by the builder's one call (the guide's Derived/Test/ToyasCard.lean, 'card_holds'). Laid BY PROGRAM, IN A SANDBOX (cutbox-door.mjs). By AI agents, Wed Nov 11 2026. No macro, syntax, notation, axiom, sorry.
-/
import Derived.Test.YthdldmkeoglflaaDoorRows
import GoSem.ClaimSeven
namespace Go.Proofs.YthdldmkeoglflaaDoor
namespace Rows

/-- THE TIED CARD OF 'braidlaw44.ConfigBack'. -/
def configBackCard : Claim7 := { stood := { row := configBackRow, standIns := [], harness := (true, "278317cc07b96e8093de4d218750cbfe92a3c76fa2983f6738714ed34e0d0448"), looks := true }, kinds := [], alts := [], laidByText := true, laidKinds := [.data, .data, .data, .data, .sentinel, .sentinel, .pinned], laidTests := true, laidLooks := .later }
def ConfigBackCardSaid : Prop := Claim7.holds Tryd.pinned (.plain (OpenSpec.ofChange configBackSpec)) configBackCard

/-- THE TIED CARD OF 'braidlaw44.ConfigNames'. -/
def configNamesCard : Claim7 := { stood := { row := configNamesRow, standIns := [], harness := (true, "278317cc07b96e8093de4d218750cbfe92a3c76fa2983f6738714ed34e0d0448"), looks := true }, kinds := [], alts := [], laidByText := true, laidKinds := [.data, .data, .data, .data, .sentinel, .sentinel, .pinned], laidTests := true, laidLooks := .later }
def ConfigNamesCardSaid : Prop := Claim7.holds Tryd.pinned (.plain (OpenSpec.ofChange configNamesSpec)) configNamesCard

/-- THE TIED CARD OF 'braidlaw44.ConfigFinds'. -/
def configFindsCard : Claim7 := { stood := { row := configFindsRow, standIns := [], harness := (true, "278317cc07b96e8093de4d218750cbfe92a3c76fa2983f6738714ed34e0d0448"), looks := true }, kinds := [], alts := [], laidByText := true, laidKinds := [.data, .data, .data], laidTests := true, laidLooks := .later }
def ConfigFindsCardSaid : Prop := Claim7.holds Tryd.pinned (.plain (OpenSpec.ofChange configFindsSpec)) configFindsCard

/-- THE TIED CARD OF 'braidlaw44.ConfigSigns'. -/
def configSignsCard : Claim7 := { stood := { row := configSignsRow, standIns := [], harness := (true, "278317cc07b96e8093de4d218750cbfe92a3c76fa2983f6738714ed34e0d0448"), looks := true }, kinds := [], alts := [], laidByText := true, laidKinds := [.data, .data, .data, .data], laidTests := true, laidLooks := .later }
def ConfigSignsCardSaid : Prop := Claim7.holds Tryd.pinned (.plain (OpenSpec.ofChange configSignsSpec)) configSignsCard

/-- THE TIED CARD OF 'braidlaw44.ConfigTexts'. -/
def configTextsCard : Claim7 := { stood := { row := configTextsRow, standIns := [], harness := (true, "278317cc07b96e8093de4d218750cbfe92a3c76fa2983f6738714ed34e0d0448"), looks := true }, kinds := [], alts := [], laidByText := true, laidKinds := [.data, .data, .data, .data, .sentinel, .sentinel, .pinned], laidTests := true, laidLooks := .later }
def ConfigTextsCardSaid : Prop := Claim7.holds Tryd.pinned (.plain (OpenSpec.ofChange configTextsSpec)) configTextsCard

/-- THE SECOND FORM's CARD OF 'braidlaw44.ConfigBack'. -/
def configBackUptoCard : Claim7 := { stood := { row := configBackUptoRow, standIns := [], harness := (true, "278317cc07b96e8093de4d218750cbfe92a3c76fa2983f6738714ed34e0d0448"), looks := true }, kinds := [], alts := [], laidByText := true, laidKinds := [.data, .data, .data, .data, .sentinel, .sentinel, .pinned], laidTests := true, laidLooks := .later }
def ConfigBackUptoCardSaid : Prop := Claim7.holds Tryd.pinned (.plain (OpenSpec.upto configBackSpec)) configBackUptoCard

/-- THE SECOND FORM's CARD OF 'braidlaw44.ConfigNames'. -/
def configNamesUptoCard : Claim7 := { stood := { row := configNamesUptoRow, standIns := [], harness := (true, "278317cc07b96e8093de4d218750cbfe92a3c76fa2983f6738714ed34e0d0448"), looks := true }, kinds := [], alts := [], laidByText := true, laidKinds := [.data, .data, .data, .data, .sentinel, .sentinel, .pinned], laidTests := true, laidLooks := .later }
def ConfigNamesUptoCardSaid : Prop := Claim7.holds Tryd.pinned (.plain (OpenSpec.upto configNamesSpec)) configNamesUptoCard

/-- THE SECOND FORM's CARD OF 'braidlaw44.ConfigFinds'. -/
def configFindsUptoCard : Claim7 := { stood := { row := configFindsUptoRow, standIns := [], harness := (true, "278317cc07b96e8093de4d218750cbfe92a3c76fa2983f6738714ed34e0d0448"), looks := true }, kinds := [], alts := [], laidByText := true, laidKinds := [.data, .data, .data], laidTests := true, laidLooks := .later }
def ConfigFindsUptoCardSaid : Prop := Claim7.holds Tryd.pinned (.plain (OpenSpec.upto configFindsSpec)) configFindsUptoCard

/-- THE SECOND FORM's CARD OF 'braidlaw44.ConfigSigns'. -/
def configSignsUptoCard : Claim7 := { stood := { row := configSignsUptoRow, standIns := [], harness := (true, "278317cc07b96e8093de4d218750cbfe92a3c76fa2983f6738714ed34e0d0448"), looks := true }, kinds := [], alts := [], laidByText := true, laidKinds := [.data, .data, .data, .data], laidTests := true, laidLooks := .later }
def ConfigSignsUptoCardSaid : Prop := Claim7.holds Tryd.pinned (.plain (OpenSpec.upto configSignsSpec)) configSignsUptoCard

/-- THE SECOND FORM's CARD OF 'braidlaw44.ConfigTexts'. -/
def configTextsUptoCard : Claim7 := { stood := { row := configTextsUptoRow, standIns := [], harness := (true, "278317cc07b96e8093de4d218750cbfe92a3c76fa2983f6738714ed34e0d0448"), looks := true }, kinds := [], alts := [], laidByText := true, laidKinds := [.data, .data, .data, .data, .sentinel, .sentinel, .pinned], laidTests := true, laidLooks := .later }
def ConfigTextsUptoCardSaid : Prop := Claim7.holds Tryd.pinned (.plain (OpenSpec.upto configTextsSpec)) configTextsUptoCard
end Rows
end Go.Proofs.YthdldmkeoglflaaDoor
