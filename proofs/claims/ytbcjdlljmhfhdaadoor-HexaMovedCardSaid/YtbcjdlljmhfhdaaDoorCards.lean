/-
  DERIVED. GIVEN WITH THE SEED: THE CARDS: each row of YtbcjdlljmhfhdaaDoorRows.lean that lists a variable, with what it lists TIED to the program's text (the seventh form; the later family's looks); each row that meets fmt, with fmt's text TOLD by the authors' own Lean function (tested against real Go, not proved from fmt's source: count such statements apart). THE CARD IS WHAT COUNTS. Prove the row's statement (the work); the ties are given (YtbcjdlljmhfhdaaDoorTie.lean); close each card by the builder's one call (the guide's Derived/Test/ToyasCard.lean, 'card_holds'). Laid BY PROGRAM, IN A SANDBOX (cutbox-door.mjs). By AI agents, Wed Nov 11 2026. No macro, syntax, notation, axiom, sorry.
-/
import Derived.Test.YtbcjdlljmhfhdaaDoorRows
import GoSem.ClaimSeven
namespace Go.Proofs.YtbcjdlljmhfhdaaDoor
namespace Rows

/-- THE TIED CARD OF 'cutplanelaw09.HexaMoved'. -/
def hexaMovedCard : Claim7 := { stood := { row := hexaMovedRow, standIns := [], harness := (true, "bfeb50fbb8712cab7420b121c0228dcedffb4c206bec65432b16687c4d845801"), looks := false }, kinds := [], alts := [], laidByText := true, laidKinds := [.data, .data, .data], laidTests := true, laidLooks := .later }
def HexaMovedCardSaid : Prop := Claim7.holds Tryd.pinned (.plain (OpenSpec.ofChange hexaMovedSpec)) hexaMovedCard

/-- THE SECOND FORM's CARD OF 'cutplanelaw09.HexaMoved'. -/
def hexaMovedUptoCard : Claim7 := { stood := { row := hexaMovedUptoRow, standIns := [], harness := (true, "bfeb50fbb8712cab7420b121c0228dcedffb4c206bec65432b16687c4d845801"), looks := false }, kinds := [], alts := [], laidByText := true, laidKinds := [.data, .data, .data], laidTests := true, laidLooks := .later }
def HexaMovedUptoCardSaid : Prop := Claim7.holds Tryd.pinned (.plain (OpenSpec.upto hexaMovedSpec)) hexaMovedUptoCard
end Rows
end Go.Proofs.YtbcjdlljmhfhdaaDoor
