/-
  DERIVED. GIVEN WITH THE SEED: THE CARDS: each row of YtclegbgmhimenaaDoorRows.lean that lists a variable, with what it lists TIED to the program's text (the seventh form; the later family's looks); each row that meets fmt, with fmt's text TOLD by the authors' own Lean function (tested against real Go, not proved from fmt's source: count such statements apart). THE CARD IS WHAT COUNTS. Prove the row's statement (the work); the ties are given (YtclegbgmhimenaaDoorTie.lean); close each card by the builder's one call (the guide's Derived/Test/ToyasCard.lean, 'card_holds'). Laid BY PROGRAM, IN A SANDBOX (cutbox-door.mjs). By AI agents, Wed Nov 11 2026. No macro, syntax, notation, axiom, sorry.
-/
import Derived.Test.YtclegbgmhimenaaDoorRows
import GoSem.ClaimSeven
namespace Go.Proofs.YtclegbgmhimenaaDoor
namespace Rows

/-- THE TIED CARD OF 'cutplanelaw06.ConvThere'. -/
def convThereCard : Claim7 := { stood := { row := convThereRow, standIns := [], harness := (true, "9220af5f1fc16778f13f6b56ae3743cdd1c68abdb3064679edc1dccaf75d375f"), looks := false }, kinds := [], alts := [], laidByText := true, laidKinds := [.data], laidTests := true, laidLooks := .later }
def ConvThereCardSaid : Prop := Claim7.holds Tryd.pinned (.plain (OpenSpec.ofChange convThereSpec)) convThereCard

/-- THE TIED CARD OF 'cutplanelaw06.ConvLeft'. -/
def convLeftCard : Claim7 := { stood := { row := convLeftRow, standIns := [], harness := (true, "9220af5f1fc16778f13f6b56ae3743cdd1c68abdb3064679edc1dccaf75d375f"), looks := false }, kinds := [], alts := [], laidByText := true, laidKinds := [.data], laidTests := true, laidLooks := .later }
def ConvLeftCardSaid : Prop := Claim7.holds Tryd.pinned (.plain (OpenSpec.ofChange convLeftSpec)) convLeftCard

/-- THE TIED CARD OF 'cutplanelaw06.ConvBack'. -/
def convBackCard : Claim7 := { stood := { row := convBackRow, standIns := [], harness := (true, "9220af5f1fc16778f13f6b56ae3743cdd1c68abdb3064679edc1dccaf75d375f"), looks := false }, kinds := [], alts := [], laidByText := true, laidKinds := [.data], laidTests := true, laidLooks := .later }
def ConvBackCardSaid : Prop := Claim7.holds Tryd.pinned (.plain (OpenSpec.ofChange convBackSpec)) convBackCard

/-- THE SECOND FORM's CARD OF 'cutplanelaw06.ConvThere'. -/
def convThereUptoCard : Claim7 := { stood := { row := convThereUptoRow, standIns := [], harness := (true, "9220af5f1fc16778f13f6b56ae3743cdd1c68abdb3064679edc1dccaf75d375f"), looks := false }, kinds := [], alts := [], laidByText := true, laidKinds := [.data], laidTests := true, laidLooks := .later }
def ConvThereUptoCardSaid : Prop := Claim7.holds Tryd.pinned (.plain (OpenSpec.upto convThereSpec)) convThereUptoCard

/-- THE SECOND FORM's CARD OF 'cutplanelaw06.ConvLeft'. -/
def convLeftUptoCard : Claim7 := { stood := { row := convLeftUptoRow, standIns := [], harness := (true, "9220af5f1fc16778f13f6b56ae3743cdd1c68abdb3064679edc1dccaf75d375f"), looks := false }, kinds := [], alts := [], laidByText := true, laidKinds := [.data], laidTests := true, laidLooks := .later }
def ConvLeftUptoCardSaid : Prop := Claim7.holds Tryd.pinned (.plain (OpenSpec.upto convLeftSpec)) convLeftUptoCard

/-- THE SECOND FORM's CARD OF 'cutplanelaw06.ConvBack'. -/
def convBackUptoCard : Claim7 := { stood := { row := convBackUptoRow, standIns := [], harness := (true, "9220af5f1fc16778f13f6b56ae3743cdd1c68abdb3064679edc1dccaf75d375f"), looks := false }, kinds := [], alts := [], laidByText := true, laidKinds := [.data], laidTests := true, laidLooks := .later }
def ConvBackUptoCardSaid : Prop := Claim7.holds Tryd.pinned (.plain (OpenSpec.upto convBackSpec)) convBackUptoCard
end Rows
end Go.Proofs.YtclegbgmhimenaaDoor
