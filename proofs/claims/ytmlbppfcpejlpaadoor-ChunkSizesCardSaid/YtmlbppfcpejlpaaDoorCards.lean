/-
  DERIVED. GIVEN WITH THE SEED: THE CARDS: each row of YtmlbppfcpejlpaaDoorRows.lean that lists a variable, with what it lists TIED to the program's text (the seventh form; the later family's looks); each row that meets fmt, with fmt's text TOLD by the authors' own Lean function (tested against real Go, not proved from fmt's source: count such statements apart). THE CARD IS WHAT COUNTS. Prove the row's statement (the work); the ties are given (YtmlbppfcpejlpaaDoorTie.lean); close each card by the builder's one call (the guide's Derived/Test/ToyasCard.lean, 'card_holds'). Laid BY PROGRAM, IN A SANDBOX (cutbox-door.mjs). By AI agents, Wed Nov 11 2026. No macro, syntax, notation, axiom, sorry.
-/
import Derived.Test.YtmlbppfcpejlpaaDoorRows
import GoSem.ClaimSeven
namespace Go.Proofs.YtmlbppfcpejlpaaDoor
namespace Rows

/-- THE TIED CARD OF 'ricklaw08.XorsPuts'. -/
def xorsPutsCard : Claim7 := { stood := { row := xorsPutsRow, standIns := [], harness := (true, "22e564da100d9e965cdf5209f0eb6d075318f4bb9c0603af7257649a4fb4973c"), looks := false }, kinds := [], alts := [], laidByText := true, laidKinds := [.data], laidTests := true, laidLooks := .later }
def XorsPutsCardSaid : Prop := Claim7.holds Tryd.pinned (.plain (OpenSpec.ofChange xorsPutsSpec)) xorsPutsCard

/-- THE TIED CARD OF 'ricklaw08.XorsGets'. -/
def xorsGetsCard : Claim7 := { stood := { row := xorsGetsRow, standIns := [], harness := (true, "22e564da100d9e965cdf5209f0eb6d075318f4bb9c0603af7257649a4fb4973c"), looks := false }, kinds := [], alts := [], laidByText := true, laidKinds := [.data], laidTests := true, laidLooks := .later }
def XorsGetsCardSaid : Prop := Claim7.holds Tryd.pinned (.plain (OpenSpec.ofChange xorsGetsSpec)) xorsGetsCard

/-- THE TIED CARD OF 'ricklaw08.XorsBits'. -/
def xorsBitsCard : Claim7 := { stood := { row := xorsBitsRow, standIns := [], harness := (true, "22e564da100d9e965cdf5209f0eb6d075318f4bb9c0603af7257649a4fb4973c"), looks := false }, kinds := [], alts := [], laidByText := true, laidKinds := [.data], laidTests := true, laidLooks := .later }
def XorsBitsCardSaid : Prop := Claim7.holds Tryd.pinned (.plain (OpenSpec.ofChange xorsBitsSpec)) xorsBitsCard

/-- THE TIED CARD OF 'ricklaw08.XorsSame'. -/
def xorsSameCard : Claim7 := { stood := { row := xorsSameRow, standIns := [], harness := (true, "22e564da100d9e965cdf5209f0eb6d075318f4bb9c0603af7257649a4fb4973c"), looks := false }, kinds := [], alts := [], laidByText := true, laidKinds := [.data], laidTests := true, laidLooks := .later }
def XorsSameCardSaid : Prop := Claim7.holds Tryd.pinned (.plain (OpenSpec.ofChange xorsSameSpec)) xorsSameCard

/-- THE TIED CARD OF 'ricklaw10.ChunkCodecs'. -/
def chunkCodecsCard : Claim7 := { stood := { row := chunkCodecsRow, standIns := [], harness := (true, "22e564da100d9e965cdf5209f0eb6d075318f4bb9c0603af7257649a4fb4973c"), looks := false }, kinds := [], alts := [], laidByText := true, laidKinds := [.data], laidTests := true, laidLooks := .later }
def ChunkCodecsCardSaid : Prop := Claim7.holds Tryd.pinned (.plain (OpenSpec.ofChange chunkCodecsSpec)) chunkCodecsCard

/-- THE TIED CARD OF 'ricklaw10.ChunkRights'. -/
def chunkRightsCard : Claim7 := { stood := { row := chunkRightsRow, standIns := [], harness := (true, "22e564da100d9e965cdf5209f0eb6d075318f4bb9c0603af7257649a4fb4973c"), looks := false }, kinds := [], alts := [], laidByText := true, laidKinds := [.data], laidTests := true, laidLooks := .later }
def ChunkRightsCardSaid : Prop := Claim7.holds Tryd.pinned (.plain (OpenSpec.ofChange chunkRightsSpec)) chunkRightsCard

/-- THE TIED CARD OF 'ricklaw10.ChunkSizes'. -/
def chunkSizesCard : Claim7 := { stood := { row := chunkSizesRow, standIns := [], harness := (true, "22e564da100d9e965cdf5209f0eb6d075318f4bb9c0603af7257649a4fb4973c"), looks := false }, kinds := [], alts := [], laidByText := true, laidKinds := [.data], laidTests := true, laidLooks := .later }
def ChunkSizesCardSaid : Prop := Claim7.holds Tryd.pinned (.plain (OpenSpec.ofChange chunkSizesSpec)) chunkSizesCard

/-- THE SECOND FORM's CARD OF 'ricklaw08.XorsPuts'. -/
def xorsPutsUptoCard : Claim7 := { stood := { row := xorsPutsUptoRow, standIns := [], harness := (true, "22e564da100d9e965cdf5209f0eb6d075318f4bb9c0603af7257649a4fb4973c"), looks := false }, kinds := [], alts := [], laidByText := true, laidKinds := [.data], laidTests := true, laidLooks := .later }
def XorsPutsUptoCardSaid : Prop := Claim7.holds Tryd.pinned (.plain (OpenSpec.upto xorsPutsSpec)) xorsPutsUptoCard

/-- THE SECOND FORM's CARD OF 'ricklaw08.XorsGets'. -/
def xorsGetsUptoCard : Claim7 := { stood := { row := xorsGetsUptoRow, standIns := [], harness := (true, "22e564da100d9e965cdf5209f0eb6d075318f4bb9c0603af7257649a4fb4973c"), looks := false }, kinds := [], alts := [], laidByText := true, laidKinds := [.data], laidTests := true, laidLooks := .later }
def XorsGetsUptoCardSaid : Prop := Claim7.holds Tryd.pinned (.plain (OpenSpec.upto xorsGetsSpec)) xorsGetsUptoCard

/-- THE SECOND FORM's CARD OF 'ricklaw08.XorsBits'. -/
def xorsBitsUptoCard : Claim7 := { stood := { row := xorsBitsUptoRow, standIns := [], harness := (true, "22e564da100d9e965cdf5209f0eb6d075318f4bb9c0603af7257649a4fb4973c"), looks := false }, kinds := [], alts := [], laidByText := true, laidKinds := [.data], laidTests := true, laidLooks := .later }
def XorsBitsUptoCardSaid : Prop := Claim7.holds Tryd.pinned (.plain (OpenSpec.upto xorsBitsSpec)) xorsBitsUptoCard

/-- THE SECOND FORM's CARD OF 'ricklaw08.XorsSame'. -/
def xorsSameUptoCard : Claim7 := { stood := { row := xorsSameUptoRow, standIns := [], harness := (true, "22e564da100d9e965cdf5209f0eb6d075318f4bb9c0603af7257649a4fb4973c"), looks := false }, kinds := [], alts := [], laidByText := true, laidKinds := [.data], laidTests := true, laidLooks := .later }
def XorsSameUptoCardSaid : Prop := Claim7.holds Tryd.pinned (.plain (OpenSpec.upto xorsSameSpec)) xorsSameUptoCard

/-- THE SECOND FORM's CARD OF 'ricklaw10.ChunkCodecs'. -/
def chunkCodecsUptoCard : Claim7 := { stood := { row := chunkCodecsUptoRow, standIns := [], harness := (true, "22e564da100d9e965cdf5209f0eb6d075318f4bb9c0603af7257649a4fb4973c"), looks := false }, kinds := [], alts := [], laidByText := true, laidKinds := [.data], laidTests := true, laidLooks := .later }
def ChunkCodecsUptoCardSaid : Prop := Claim7.holds Tryd.pinned (.plain (OpenSpec.upto chunkCodecsSpec)) chunkCodecsUptoCard

/-- THE SECOND FORM's CARD OF 'ricklaw10.ChunkRights'. -/
def chunkRightsUptoCard : Claim7 := { stood := { row := chunkRightsUptoRow, standIns := [], harness := (true, "22e564da100d9e965cdf5209f0eb6d075318f4bb9c0603af7257649a4fb4973c"), looks := false }, kinds := [], alts := [], laidByText := true, laidKinds := [.data], laidTests := true, laidLooks := .later }
def ChunkRightsUptoCardSaid : Prop := Claim7.holds Tryd.pinned (.plain (OpenSpec.upto chunkRightsSpec)) chunkRightsUptoCard

/-- THE SECOND FORM's CARD OF 'ricklaw10.ChunkSizes'. -/
def chunkSizesUptoCard : Claim7 := { stood := { row := chunkSizesUptoRow, standIns := [], harness := (true, "22e564da100d9e965cdf5209f0eb6d075318f4bb9c0603af7257649a4fb4973c"), looks := false }, kinds := [], alts := [], laidByText := true, laidKinds := [.data], laidTests := true, laidLooks := .later }
def ChunkSizesUptoCardSaid : Prop := Claim7.holds Tryd.pinned (.plain (OpenSpec.upto chunkSizesSpec)) chunkSizesUptoCard
end Rows
end Go.Proofs.YtmlbppfcpejlpaaDoor
