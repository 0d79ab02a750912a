/-
  DERIVED. GIVEN WITH THE SEED: THE CARDS: each row of YtlngoohfkaceoaaGreatDoorRows.lean that lists a variable, with what it lists TIED to the program's text (the seventh form; the later family's looks); each row that meets fmt, with fmt's text TOLD by the authors' own Lean function (tested against real Go, not proved from fmt's source: count such statements apart). THE CARD IS WHAT COUNTS. Prove the row's statement (the work); the ties are given (YtlngoohfkaceoaaGreatDoorTie.lean); close each card by the builder's one call (the guide's Derived/Test/ToyasCard.lean, 'card_holds'). Laid BY PROGRAM, IN A SANDBOX (cutbox-door.mjs). By AI agents, Wed Nov 11 2026. No macro, syntax, notation, axiom, sorry.
-/
import Derived.Test.YtlngoohfkaceoaaGreatDoorRows
import GoSem.ClaimSeven
namespace Go.Proofs.YtlngoohfkaceoaaGreatDoor
namespace Rows

/-- THE TIED CARD OF 'cutplanelaw16.BookConstants'. -/
def bookConstantsCard : Claim7 := { stood := { row := bookConstantsRow, standIns := [], harness := (true, "8742131c680fecdeea4c78fe1bc310c3e17b486433e7d5b66bb6af2022ab68af"), looks := false }, kinds := [], alts := [], laidByText := true, laidKinds := [.data], laidTests := true, laidLooks := .later }
def BookConstantsCardSaid : Prop := Claim7.holds Tryz.pinned (.plain (OpenSpec.ofChange bookConstantsSpec)) bookConstantsCard

/-- THE TIED CARD OF 'cutplanelaw16.BookMercator'. -/
def bookMercatorCard : Claim7 := { stood := { row := bookMercatorRow, standIns := [], harness := (true, "8742131c680fecdeea4c78fe1bc310c3e17b486433e7d5b66bb6af2022ab68af"), looks := false }, kinds := [], alts := [], laidByText := true, laidKinds := [.data], laidTests := true, laidLooks := .later }
def BookMercatorCardSaid : Prop := Claim7.holds Tryz.pinned (.plain (OpenSpec.ofChange bookMercatorSpec)) bookMercatorCard

/-- THE TIED CARD OF 'cutplanelaw16.BookMachin'. -/
def bookMachinCard : Claim7 := { stood := { row := bookMachinRow, standIns := [], harness := (true, "8742131c680fecdeea4c78fe1bc310c3e17b486433e7d5b66bb6af2022ab68af"), looks := false }, kinds := [], alts := [], laidByText := true, laidKinds := [.data], laidTests := true, laidLooks := .later }
def BookMachinCardSaid : Prop := Claim7.holds Tryz.pinned (.plain (OpenSpec.ofChange bookMachinSpec)) bookMachinCard

/-- THE SECOND FORM's CARD OF 'cutplanelaw16.BookConstants'. -/
def bookConstantsUptoCard : Claim7 := { stood := { row := bookConstantsUptoRow, standIns := [], harness := (true, "8742131c680fecdeea4c78fe1bc310c3e17b486433e7d5b66bb6af2022ab68af"), looks := false }, kinds := [], alts := [], laidByText := true, laidKinds := [.data], laidTests := true, laidLooks := .later }
def BookConstantsUptoCardSaid : Prop := Claim7.holds Tryz.pinned (.plain (OpenSpec.upto bookConstantsSpec)) bookConstantsUptoCard

/-- THE SECOND FORM's CARD OF 'cutplanelaw16.BookMercator'. -/
def bookMercatorUptoCard : Claim7 := { stood := { row := bookMercatorUptoRow, standIns := [], harness := (true, "8742131c680fecdeea4c78fe1bc310c3e17b486433e7d5b66bb6af2022ab68af"), looks := false }, kinds := [], alts := [], laidByText := true, laidKinds := [.data], laidTests := true, laidLooks := .later }
def BookMercatorUptoCardSaid : Prop := Claim7.holds Tryz.pinned (.plain (OpenSpec.upto bookMercatorSpec)) bookMercatorUptoCard

/-- THE SECOND FORM's CARD OF 'cutplanelaw16.BookMachin'. -/
def bookMachinUptoCard : Claim7 := { stood := { row := bookMachinUptoRow, standIns := [], harness := (true, "8742131c680fecdeea4c78fe1bc310c3e17b486433e7d5b66bb6af2022ab68af"), looks := false }, kinds := [], alts := [], laidByText := true, laidKinds := [.data], laidTests := true, laidLooks := .later }
def BookMachinUptoCardSaid : Prop := Claim7.holds Tryz.pinned (.plain (OpenSpec.upto bookMachinSpec)) bookMachinUptoCard
end Rows
end Go.Proofs.YtlngoohfkaceoaaGreatDoor
