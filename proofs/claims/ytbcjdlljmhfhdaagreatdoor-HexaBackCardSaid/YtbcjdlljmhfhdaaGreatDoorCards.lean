/-
  DERIVED. GIVEN WITH THE SEED: THE CARDS: each row of YtbcjdlljmhfhdaaGreatDoorRows.lean that lists a variable, with what it lists TIED to the program's text (the seventh form; the later family's looks); each row that meets fmt, with fmt's text TOLD by the authors' own Lean function (tested against real Go, not proved from fmt's source: count such statements apart). THE CARD IS WHAT COUNTS. Prove the row's statement (the work); the ties are given (YtbcjdlljmhfhdaaGreatDoorTie.lean); close each card by the builder's one call (the guide's Derived/Test/ToyasCard.lean, 'card_holds'). Laid BY PROGRAM, IN A SANDBOX (cutbox-door.mjs). By AI agents, Wed Nov 11 2026. No macro, syntax, notation, axiom, sorry.
-/
import Derived.Test.YtbcjdlljmhfhdaaGreatDoorRows
import GoSem.ClaimSeven
namespace Go.Proofs.YtbcjdlljmhfhdaaGreatDoor
namespace Rows

/-- THE TIED CARD OF 'cutplanelaw09.HexaPrints'. -/
def hexaPrintsCard : Claim7 := { stood := { row := hexaPrintsRow, standIns := [], harness := (true, "90824420c715ecd7bd0b1b6e22fffb08a1517bf37f617546a40ded8685aae15b"), looks := false }, kinds := [], alts := [], laidByText := true, laidKinds := [.data, .data, .data], laidTests := true, laidLooks := .later }
def HexaPrintsCardSaid : Prop := Claim7.holds Tryz.pinned (.plain (OpenSpec.ofChange hexaPrintsSpec)) hexaPrintsCard

/-- THE TIED CARD OF 'cutplanelaw09.HexaReads'. -/
def hexaReadsCard : Claim7 := { stood := { row := hexaReadsRow, standIns := [], harness := (true, "90824420c715ecd7bd0b1b6e22fffb08a1517bf37f617546a40ded8685aae15b"), looks := false }, kinds := [], alts := [], laidByText := true, laidKinds := [.data, .data, .data], laidTests := true, laidLooks := .later }
def HexaReadsCardSaid : Prop := Claim7.holds Tryz.pinned (.plain (OpenSpec.ofChange hexaReadsSpec)) hexaReadsCard

/-- THE TIED CARD OF 'cutplanelaw09.HexaBack'. -/
def hexaBackCard : Claim7 := { stood := { row := hexaBackRow, standIns := [], harness := (true, "90824420c715ecd7bd0b1b6e22fffb08a1517bf37f617546a40ded8685aae15b"), looks := false }, kinds := [], alts := [], laidByText := true, laidKinds := [.data, .data, .data], laidTests := true, laidLooks := .later }
def HexaBackCardSaid : Prop := Claim7.holds Tryz.pinned (.plain (OpenSpec.ofChange hexaBackSpec)) hexaBackCard

/-- THE SECOND FORM's CARD OF 'cutplanelaw09.HexaPrints'. -/
def hexaPrintsUptoCard : Claim7 := { stood := { row := hexaPrintsUptoRow, standIns := [], harness := (true, "90824420c715ecd7bd0b1b6e22fffb08a1517bf37f617546a40ded8685aae15b"), looks := false }, kinds := [], alts := [], laidByText := true, laidKinds := [.data, .data, .data], laidTests := true, laidLooks := .later }
def HexaPrintsUptoCardSaid : Prop := Claim7.holds Tryz.pinned (.plain (OpenSpec.upto hexaPrintsSpec)) hexaPrintsUptoCard

/-- THE SECOND FORM's CARD OF 'cutplanelaw09.HexaReads'. -/
def hexaReadsUptoCard : Claim7 := { stood := { row := hexaReadsUptoRow, standIns := [], harness := (true, "90824420c715ecd7bd0b1b6e22fffb08a1517bf37f617546a40ded8685aae15b"), looks := false }, kinds := [], alts := [], laidByText := true, laidKinds := [.data, .data, .data], laidTests := true, laidLooks := .later }
def HexaReadsUptoCardSaid : Prop := Claim7.holds Tryz.pinned (.plain (OpenSpec.upto hexaReadsSpec)) hexaReadsUptoCard

/-- THE SECOND FORM's CARD OF 'cutplanelaw09.HexaBack'. -/
def hexaBackUptoCard : Claim7 := { stood := { row := hexaBackUptoRow, standIns := [], harness := (true, "90824420c715ecd7bd0b1b6e22fffb08a1517bf37f617546a40ded8685aae15b"), looks := false }, kinds := [], alts := [], laidByText := true, laidKinds := [.data, .data, .data], laidTests := true, laidLooks := .later }
def HexaBackUptoCardSaid : Prop := Claim7.holds Tryz.pinned (.plain (OpenSpec.upto hexaBackSpec)) hexaBackUptoCard
end Rows
end Go.Proofs.YtbcjdlljmhfhdaaGreatDoor
