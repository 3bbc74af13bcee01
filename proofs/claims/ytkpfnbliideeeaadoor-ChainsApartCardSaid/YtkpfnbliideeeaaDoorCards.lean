/-
  DERIVED. GIVEN WITH THE SEED: THE CARDS: each row of YtkpfnbliideeeaaDoorRows.lean that lists a variable, with what it lists TIED to the program's text (the seventh form; the later family's looks); each row that meets fmt, with fmt's text TOLD by the authors' own Lean function (tested against real Go, not proved from fmt's source: count such statements apart). THE CARD IS WHAT COUNTS. Prove the row's statement (the work); the ties are given (YtkpfnbliideeeaaDoorTie.lean); close each card by the builder's one call (the guide's Derived/Test/ToyasCard.lean, 'card_holds'). Laid BY PROGRAM, IN A SANDBOX (cutbox-door.mjs). By AI agents, Wed Nov 11 2026. No macro, syntax, notation, axiom, sorry.
-/
import Derived.Test.YtkpfnbliideeeaaDoorRows
import GoSem.ClaimSeven
namespace Go.Proofs.YtkpfnbliideeeaaDoor
namespace Rows

/-- THE TIED CARD OF 'testamurlaw05.ChainsDigitsSpec'. -/
def chainsDigitsSpecCard : Claim7 := { stood := { row := chainsDigitsSpecRow, standIns := [], harness := (true, "3cfa3525a023d2753854da551972dfdd1406266820309f2f91d76716abb53ca6"), looks := false }, kinds := [], alts := [], laidByText := true, laidKinds := [.data, .data], laidTests := true, laidLooks := .later }
def ChainsDigitsSpecCardSaid : Prop := Claim7.holds Tryd.pinned (.plain (OpenSpec.ofChange chainsDigitsSpecSpec)) chainsDigitsSpecCard

/-- THE TIED CARD OF 'testamurlaw05.ChainsSigned'. -/
def chainsSignedCard : Claim7 := { stood := { row := chainsSignedRow, standIns := [], harness := (true, "3cfa3525a023d2753854da551972dfdd1406266820309f2f91d76716abb53ca6"), looks := false }, kinds := [], alts := [], laidByText := true, laidKinds := [.data, .data], laidTests := true, laidLooks := .later }
def ChainsSignedCardSaid : Prop := Claim7.holds Tryd.pinned (.plain (OpenSpec.ofChange chainsSignedSpec)) chainsSignedCard

/-- THE TIED CARD OF 'testamurlaw05.ChainsApart'. -/
def chainsApartCard : Claim7 := { stood := { row := chainsApartRow, standIns := [], harness := (true, "3cfa3525a023d2753854da551972dfdd1406266820309f2f91d76716abb53ca6"), looks := false }, kinds := [], alts := [], laidByText := true, laidKinds := [.data, .data], laidTests := true, laidLooks := .later }
def ChainsApartCardSaid : Prop := Claim7.holds Tryd.pinned (.plain (OpenSpec.ofChange chainsApartSpec)) chainsApartCard

/-- THE TIED CARD OF 'testamurlaw05.ChainsOnly'. -/
def chainsOnlyCard : Claim7 := { stood := { row := chainsOnlyRow, standIns := [], harness := (true, "3cfa3525a023d2753854da551972dfdd1406266820309f2f91d76716abb53ca6"), looks := false }, kinds := [], alts := [], laidByText := true, laidKinds := [.data, .data], laidTests := true, laidLooks := .later }
def ChainsOnlyCardSaid : Prop := Claim7.holds Tryd.pinned (.plain (OpenSpec.ofChange chainsOnlySpec)) chainsOnlyCard

/-- THE SECOND FORM's CARD OF 'testamurlaw05.ChainsDigitsSpec'. -/
def chainsDigitsSpecUptoCard : Claim7 := { stood := { row := chainsDigitsSpecUptoRow, standIns := [], harness := (true, "3cfa3525a023d2753854da551972dfdd1406266820309f2f91d76716abb53ca6"), looks := false }, kinds := [], alts := [], laidByText := true, laidKinds := [.data, .data], laidTests := true, laidLooks := .later }
def ChainsDigitsSpecUptoCardSaid : Prop := Claim7.holds Tryd.pinned (.plain (OpenSpec.upto chainsDigitsSpecSpec)) chainsDigitsSpecUptoCard

/-- THE SECOND FORM's CARD OF 'testamurlaw05.ChainsSigned'. -/
def chainsSignedUptoCard : Claim7 := { stood := { row := chainsSignedUptoRow, standIns := [], harness := (true, "3cfa3525a023d2753854da551972dfdd1406266820309f2f91d76716abb53ca6"), looks := false }, kinds := [], alts := [], laidByText := true, laidKinds := [.data, .data], laidTests := true, laidLooks := .later }
def ChainsSignedUptoCardSaid : Prop := Claim7.holds Tryd.pinned (.plain (OpenSpec.upto chainsSignedSpec)) chainsSignedUptoCard

/-- THE SECOND FORM's CARD OF 'testamurlaw05.ChainsApart'. -/
def chainsApartUptoCard : Claim7 := { stood := { row := chainsApartUptoRow, standIns := [], harness := (true, "3cfa3525a023d2753854da551972dfdd1406266820309f2f91d76716abb53ca6"), looks := false }, kinds := [], alts := [], laidByText := true, laidKinds := [.data, .data], laidTests := true, laidLooks := .later }
def ChainsApartUptoCardSaid : Prop := Claim7.holds Tryd.pinned (.plain (OpenSpec.upto chainsApartSpec)) chainsApartUptoCard

/-- THE SECOND FORM's CARD OF 'testamurlaw05.ChainsOnly'. -/
def chainsOnlyUptoCard : Claim7 := { stood := { row := chainsOnlyUptoRow, standIns := [], harness := (true, "3cfa3525a023d2753854da551972dfdd1406266820309f2f91d76716abb53ca6"), looks := false }, kinds := [], alts := [], laidByText := true, laidKinds := [.data, .data], laidTests := true, laidLooks := .later }
def ChainsOnlyUptoCardSaid : Prop := Claim7.holds Tryd.pinned (.plain (OpenSpec.upto chainsOnlySpec)) chainsOnlyUptoCard
end Rows
end Go.Proofs.YtkpfnbliideeeaaDoor
