/-
  DERIVED. GIVEN WITH THE SEED: THE CARDS: each row of YtdlacedminebdaaDoorRows.lean that lists a variable, with what it lists TIED to the program's text (the seventh form; the later family's looks); each row that meets fmt, with fmt's text TOLD by the authors' own Lean function (tested against real Go, not proved from fmt's source: count such statements apart). THE CARD IS WHAT COUNTS. Prove the row's statement (the work); the ties are given (YtdlacedminebdaaDoorTie.lean); close each card by the builder's one call (the guide's Derived/Test/ToyasCard.lean, 'card_holds'). Laid BY PROGRAM, IN A SANDBOX (cutbox-door.mjs). By AI agents, Wed Nov 11 2026. No macro, syntax, notation, axiom, sorry.
-/
import Derived.Test.YtdlacedminebdaaDoorRows
import GoSem.ClaimSeven
namespace Go.Proofs.YtdlacedminebdaaDoor
namespace Rows

/-- THE TIED CARD OF 'braidlaw03.SignVerifies'. -/
def signVerifiesCard : Claim7 := { stood := { row := signVerifiesRow, standIns := [], harness := (true, "f37e08a4a4851fa3bc711199481edb0b95e91e0fa7ef54ec829646b5113dba9a"), looks := false }, kinds := [], alts := [], laidByText := true, laidKinds := [.data], laidTests := true, laidLooks := .later }
def SignVerifiesCardSaid : Prop := Claim7.holds Tryd.pinned (.plain (OpenSpec.ofChange signVerifiesSpec)) signVerifiesCard

/-- THE TIED CARD OF 'braidlaw03.SignMakes'. -/
def signMakesCard : Claim7 := { stood := { row := signMakesRow, standIns := [], harness := (true, "f37e08a4a4851fa3bc711199481edb0b95e91e0fa7ef54ec829646b5113dba9a"), looks := false }, kinds := [], alts := [], laidByText := true, laidKinds := [.data], laidTests := true, laidLooks := .later }
def SignMakesCardSaid : Prop := Claim7.holds Tryd.pinned (.plain (OpenSpec.ofChange signMakesSpec)) signMakesCard

/-- THE TIED CARD OF 'braidlaw03.SignNames'. -/
def signNamesCard : Claim7 := { stood := { row := signNamesRow, standIns := [], harness := (true, "f37e08a4a4851fa3bc711199481edb0b95e91e0fa7ef54ec829646b5113dba9a"), looks := false }, kinds := [], alts := [], laidByText := true, laidKinds := [.data], laidTests := true, laidLooks := .later }
def SignNamesCardSaid : Prop := Claim7.holds Tryd.pinned (.plain (OpenSpec.ofChange signNamesSpec)) signNamesCard

/-- THE TIED CARD OF 'braidlaw03.SignRight'. -/
def signRightCard : Claim7 := { stood := { row := signRightRow, standIns := [], harness := (true, "f37e08a4a4851fa3bc711199481edb0b95e91e0fa7ef54ec829646b5113dba9a"), looks := false }, kinds := [], alts := [], laidByText := true, laidKinds := [.data], laidTests := true, laidLooks := .later }
def SignRightCardSaid : Prop := Claim7.holds Tryd.pinned (.plain (OpenSpec.ofChange signRightSpec)) signRightCard

/-- THE TIED CARD OF 'braidlaw03.SignMade'. -/
def signMadeCard : Claim7 := { stood := { row := signMadeRow, standIns := [], harness := (true, "f37e08a4a4851fa3bc711199481edb0b95e91e0fa7ef54ec829646b5113dba9a"), looks := false }, kinds := [], alts := [], laidByText := true, laidKinds := [.data], laidTests := true, laidLooks := .later }
def SignMadeCardSaid : Prop := Claim7.holds Tryd.pinned (.plain (OpenSpec.ofChange signMadeSpec)) signMadeCard

/-- THE TIED CARD OF 'braidlaw03.SignKeys'. -/
def signKeysCard : Claim7 := { stood := { row := signKeysRow, standIns := [], harness := (true, "f37e08a4a4851fa3bc711199481edb0b95e91e0fa7ef54ec829646b5113dba9a"), looks := false }, kinds := [], alts := [], laidByText := true, laidKinds := [.data], laidTests := true, laidLooks := .later }
def SignKeysCardSaid : Prop := Claim7.holds Tryd.pinned (.plain (OpenSpec.ofChange signKeysSpec)) signKeysCard

/-- THE TIED CARD OF 'braidlaw03.SignTells'. -/
def signTellsCard : Claim7 := { stood := { row := signTellsRow, standIns := [], harness := (true, "f37e08a4a4851fa3bc711199481edb0b95e91e0fa7ef54ec829646b5113dba9a"), looks := false }, kinds := [], alts := [], laidByText := true, laidKinds := [.data], laidTests := true, laidLooks := .later }
def SignTellsCardSaid : Prop := Claim7.holds Tryd.pinned (.plain (OpenSpec.ofChange signTellsSpec)) signTellsCard

/-- THE SECOND FORM's CARD OF 'braidlaw03.SignVerifies'. -/
def signVerifiesUptoCard : Claim7 := { stood := { row := signVerifiesUptoRow, standIns := [], harness := (true, "f37e08a4a4851fa3bc711199481edb0b95e91e0fa7ef54ec829646b5113dba9a"), looks := false }, kinds := [], alts := [], laidByText := true, laidKinds := [.data], laidTests := true, laidLooks := .later }
def SignVerifiesUptoCardSaid : Prop := Claim7.holds Tryd.pinned (.plain (OpenSpec.upto signVerifiesSpec)) signVerifiesUptoCard

/-- THE SECOND FORM's CARD OF 'braidlaw03.SignMakes'. -/
def signMakesUptoCard : Claim7 := { stood := { row := signMakesUptoRow, standIns := [], harness := (true, "f37e08a4a4851fa3bc711199481edb0b95e91e0fa7ef54ec829646b5113dba9a"), looks := false }, kinds := [], alts := [], laidByText := true, laidKinds := [.data], laidTests := true, laidLooks := .later }
def SignMakesUptoCardSaid : Prop := Claim7.holds Tryd.pinned (.plain (OpenSpec.upto signMakesSpec)) signMakesUptoCard

/-- THE SECOND FORM's CARD OF 'braidlaw03.SignNames'. -/
def signNamesUptoCard : Claim7 := { stood := { row := signNamesUptoRow, standIns := [], harness := (true, "f37e08a4a4851fa3bc711199481edb0b95e91e0fa7ef54ec829646b5113dba9a"), looks := false }, kinds := [], alts := [], laidByText := true, laidKinds := [.data], laidTests := true, laidLooks := .later }
def SignNamesUptoCardSaid : Prop := Claim7.holds Tryd.pinned (.plain (OpenSpec.upto signNamesSpec)) signNamesUptoCard

/-- THE SECOND FORM's CARD OF 'braidlaw03.SignRight'. -/
def signRightUptoCard : Claim7 := { stood := { row := signRightUptoRow, standIns := [], harness := (true, "f37e08a4a4851fa3bc711199481edb0b95e91e0fa7ef54ec829646b5113dba9a"), looks := false }, kinds := [], alts := [], laidByText := true, laidKinds := [.data], laidTests := true, laidLooks := .later }
def SignRightUptoCardSaid : Prop := Claim7.holds Tryd.pinned (.plain (OpenSpec.upto signRightSpec)) signRightUptoCard

/-- THE SECOND FORM's CARD OF 'braidlaw03.SignMade'. -/
def signMadeUptoCard : Claim7 := { stood := { row := signMadeUptoRow, standIns := [], harness := (true, "f37e08a4a4851fa3bc711199481edb0b95e91e0fa7ef54ec829646b5113dba9a"), looks := false }, kinds := [], alts := [], laidByText := true, laidKinds := [.data], laidTests := true, laidLooks := .later }
def SignMadeUptoCardSaid : Prop := Claim7.holds Tryd.pinned (.plain (OpenSpec.upto signMadeSpec)) signMadeUptoCard

/-- THE SECOND FORM's CARD OF 'braidlaw03.SignKeys'. -/
def signKeysUptoCard : Claim7 := { stood := { row := signKeysUptoRow, standIns := [], harness := (true, "f37e08a4a4851fa3bc711199481edb0b95e91e0fa7ef54ec829646b5113dba9a"), looks := false }, kinds := [], alts := [], laidByText := true, laidKinds := [.data], laidTests := true, laidLooks := .later }
def SignKeysUptoCardSaid : Prop := Claim7.holds Tryd.pinned (.plain (OpenSpec.upto signKeysSpec)) signKeysUptoCard

/-- THE SECOND FORM's CARD OF 'braidlaw03.SignTells'. -/
def signTellsUptoCard : Claim7 := { stood := { row := signTellsUptoRow, standIns := [], harness := (true, "f37e08a4a4851fa3bc711199481edb0b95e91e0fa7ef54ec829646b5113dba9a"), looks := false }, kinds := [], alts := [], laidByText := true, laidKinds := [.data], laidTests := true, laidLooks := .later }
def SignTellsUptoCardSaid : Prop := Claim7.holds Tryd.pinned (.plain (OpenSpec.upto signTellsSpec)) signTellsUptoCard
end Rows
end Go.Proofs.YtdlacedminebdaaDoor
