/-
  DERIVED. GIVEN WITH THE SEED: THE CARDS: each row of YtnhkikebfinejaaGreatDoorRows.lean that lists a variable, with what it lists TIED to the program's text (the seventh form; the later family's looks); each row that meets fmt, with fmt's text TOLD by the authors' own Lean function (tested against real Go, not proved from fmt's source: count such statements apart). THE CARD IS WHAT COUNTS. Prove the row's statement (the work); the ties are given (YtnhkikebfinejaaGreatDoorTie.lean); close each card by the builder's one call (the guide's Derived/Test/ToyasCard.lean, 'card_holds'). Laid BY PROGRAM, IN A SANDBOX (cutbox-door.mjs). By AI agents, Wed Nov 11 2026. No macro, syntax, notation, axiom, sorry.
-/
import Derived.Test.YtnhkikebfinejaaGreatDoorRows
import GoSem.ClaimSeven
namespace Go.Proofs.YtnhkikebfinejaaGreatDoor
namespace Rows

/-- THE TIED CARD OF 'ricktop.RickMany'. -/
def rickManyCard : Claim7 := { stood := { row := rickManyRow, standIns := [], harness := (true, "8c6dce0ae359101a75254449e67d8edf282d1ed263f42b98fc3857907f15bfeb"), looks := false }, kinds := [], alts := [], laidByText := true, laidKinds := [.data], laidTests := true, laidLooks := .later }
def RickManyCardSaid : Prop := Claim7.holds Tryz.pinned (.plain (OpenSpec.ofChange rickManySpec)) rickManyCard

/-- THE TIED CARD OF 'ricktop.RickApart'. -/
def rickApartCard : Claim7 := { stood := { row := rickApartRow, standIns := [], harness := (true, "8c6dce0ae359101a75254449e67d8edf282d1ed263f42b98fc3857907f15bfeb"), looks := false }, kinds := [], alts := [], laidByText := true, laidKinds := [.data], laidTests := true, laidLooks := .later }
def RickApartCardSaid : Prop := Claim7.holds Tryz.pinned (.plain (OpenSpec.ofChange rickApartSpec)) rickApartCard

/-- THE TIED CARD OF 'ricktop.RickLays'. -/
def rickLaysCard : Claim7 := { stood := { row := rickLaysRow, standIns := [], harness := (true, "8c6dce0ae359101a75254449e67d8edf282d1ed263f42b98fc3857907f15bfeb"), looks := false }, kinds := [], alts := [], laidByText := true, laidKinds := [.data], laidTests := true, laidLooks := .later }
def RickLaysCardSaid : Prop := Claim7.holds Tryz.pinned (.plain (OpenSpec.ofChange rickLaysSpec)) rickLaysCard

/-- THE SECOND FORM's CARD OF 'ricktop.RickMany'. -/
def rickManyUptoCard : Claim7 := { stood := { row := rickManyUptoRow, standIns := [], harness := (true, "8c6dce0ae359101a75254449e67d8edf282d1ed263f42b98fc3857907f15bfeb"), looks := false }, kinds := [], alts := [], laidByText := true, laidKinds := [.data], laidTests := true, laidLooks := .later }
def RickManyUptoCardSaid : Prop := Claim7.holds Tryz.pinned (.plain (OpenSpec.upto rickManySpec)) rickManyUptoCard

/-- THE SECOND FORM's CARD OF 'ricktop.RickApart'. -/
def rickApartUptoCard : Claim7 := { stood := { row := rickApartUptoRow, standIns := [], harness := (true, "8c6dce0ae359101a75254449e67d8edf282d1ed263f42b98fc3857907f15bfeb"), looks := false }, kinds := [], alts := [], laidByText := true, laidKinds := [.data], laidTests := true, laidLooks := .later }
def RickApartUptoCardSaid : Prop := Claim7.holds Tryz.pinned (.plain (OpenSpec.upto rickApartSpec)) rickApartUptoCard

/-- THE SECOND FORM's CARD OF 'ricktop.RickLays'. -/
def rickLaysUptoCard : Claim7 := { stood := { row := rickLaysUptoRow, standIns := [], harness := (true, "8c6dce0ae359101a75254449e67d8edf282d1ed263f42b98fc3857907f15bfeb"), looks := false }, kinds := [], alts := [], laidByText := true, laidKinds := [.data], laidTests := true, laidLooks := .later }
def RickLaysUptoCardSaid : Prop := Claim7.holds Tryz.pinned (.plain (OpenSpec.upto rickLaysSpec)) rickLaysUptoCard
end Rows
end Go.Proofs.YtnhkikebfinejaaGreatDoor
