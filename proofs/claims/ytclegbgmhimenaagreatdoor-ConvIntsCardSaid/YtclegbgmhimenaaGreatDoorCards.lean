/-
  DERIVED. GIVEN WITH THE SEED: THE CARDS: each row of YtclegbgmhimenaaGreatDoorRows.lean that lists a variable, with what it lists TIED to the program's text (the seventh form; the later family's looks); each row that meets fmt, with fmt's text TOLD by the authors' own Lean function (tested against real Go, not proved from fmt's source: count such statements apart). THE CARD IS WHAT COUNTS. Prove the row's statement (the work); the ties are given (YtclegbgmhimenaaGreatDoorTie.lean); close each card by the builder's one call (the guide's Derived/Test/ToyasCard.lean, 'card_holds'). Laid BY PROGRAM, IN A SANDBOX (cutbox-door.mjs). By AI agents, Wed Nov 11 2026. No macro, syntax, notation, axiom, sorry.
-/
import Derived.Test.YtclegbgmhimenaaGreatDoorRows
import GoSem.ClaimSeven
namespace Go.Proofs.YtclegbgmhimenaaGreatDoor
namespace Rows

/-- THE TIED CARD OF 'cutplanelaw06.ConvFormats'. -/
def convFormatsCard : Claim7 := { stood := { row := convFormatsRow, standIns := [], harness := (true, "e18b2835bdf90bfc0c6cbd31b14e3d3f172293270b40ffda965ae9d9795be34a"), looks := false }, kinds := [], alts := [], laidByText := true, laidKinds := [.data], laidTests := true, laidLooks := .later }
def ConvFormatsCardSaid : Prop := Claim7.holds Tryz.pinned (.plain (OpenSpec.ofChange convFormatsSpec)) convFormatsCard

/-- THE TIED CARD OF 'cutplanelaw06.ConvRemainders'. -/
def convRemaindersCard : Claim7 := { stood := { row := convRemaindersRow, standIns := [], harness := (true, "e18b2835bdf90bfc0c6cbd31b14e3d3f172293270b40ffda965ae9d9795be34a"), looks := false }, kinds := [], alts := [], laidByText := true, laidKinds := [.data], laidTests := true, laidLooks := .later }
def ConvRemaindersCardSaid : Prop := Claim7.holds Tryz.pinned (.plain (OpenSpec.ofChange convRemaindersSpec)) convRemaindersCard

/-- THE TIED CARD OF 'cutplanelaw06.ConvScales'. -/
def convScalesCard : Claim7 := { stood := { row := convScalesRow, standIns := [], harness := (true, "e18b2835bdf90bfc0c6cbd31b14e3d3f172293270b40ffda965ae9d9795be34a"), looks := false }, kinds := [], alts := [], laidByText := true, laidKinds := [.data], laidTests := true, laidLooks := .later }
def ConvScalesCardSaid : Prop := Claim7.holds Tryz.pinned (.plain (OpenSpec.ofChange convScalesSpec)) convScalesCard

/-- THE TIED CARD OF 'cutplanelaw06.ConvInts'. -/
def convIntsCard : Claim7 := { stood := { row := convIntsRow, standIns := [], harness := (true, "e18b2835bdf90bfc0c6cbd31b14e3d3f172293270b40ffda965ae9d9795be34a"), looks := false }, kinds := [], alts := [], laidByText := true, laidKinds := [.data], laidTests := true, laidLooks := .later }
def ConvIntsCardSaid : Prop := Claim7.holds Tryz.pinned (.plain (OpenSpec.ofChange convIntsSpec)) convIntsCard

/-- THE TIED CARD OF 'cutplanelaw06.ConvTaken'. -/
def convTakenCard : Claim7 := { stood := { row := convTakenRow, standIns := [], harness := (true, "e18b2835bdf90bfc0c6cbd31b14e3d3f172293270b40ffda965ae9d9795be34a"), looks := false }, kinds := [], alts := [], laidByText := true, laidKinds := [.data], laidTests := true, laidLooks := .later }
def ConvTakenCardSaid : Prop := Claim7.holds Tryz.pinned (.plain (OpenSpec.ofChange convTakenSpec)) convTakenCard

/-- THE TIED CARD OF 'cutplanelaw06.ConvWholes'. -/
def convWholesCard : Claim7 := { stood := { row := convWholesRow, standIns := [], harness := (true, "e18b2835bdf90bfc0c6cbd31b14e3d3f172293270b40ffda965ae9d9795be34a"), looks := false }, kinds := [], alts := [], laidByText := true, laidKinds := [.data], laidTests := true, laidLooks := .later }
def ConvWholesCardSaid : Prop := Claim7.holds Tryz.pinned (.plain (OpenSpec.ofChange convWholesSpec)) convWholesCard

/-- THE SECOND FORM's CARD OF 'cutplanelaw06.ConvFormats'. -/
def convFormatsUptoCard : Claim7 := { stood := { row := convFormatsUptoRow, standIns := [], harness := (true, "e18b2835bdf90bfc0c6cbd31b14e3d3f172293270b40ffda965ae9d9795be34a"), looks := false }, kinds := [], alts := [], laidByText := true, laidKinds := [.data], laidTests := true, laidLooks := .later }
def ConvFormatsUptoCardSaid : Prop := Claim7.holds Tryz.pinned (.plain (OpenSpec.upto convFormatsSpec)) convFormatsUptoCard

/-- THE SECOND FORM's CARD OF 'cutplanelaw06.ConvRemainders'. -/
def convRemaindersUptoCard : Claim7 := { stood := { row := convRemaindersUptoRow, standIns := [], harness := (true, "e18b2835bdf90bfc0c6cbd31b14e3d3f172293270b40ffda965ae9d9795be34a"), looks := false }, kinds := [], alts := [], laidByText := true, laidKinds := [.data], laidTests := true, laidLooks := .later }
def ConvRemaindersUptoCardSaid : Prop := Claim7.holds Tryz.pinned (.plain (OpenSpec.upto convRemaindersSpec)) convRemaindersUptoCard

/-- THE SECOND FORM's CARD OF 'cutplanelaw06.ConvScales'. -/
def convScalesUptoCard : Claim7 := { stood := { row := convScalesUptoRow, standIns := [], harness := (true, "e18b2835bdf90bfc0c6cbd31b14e3d3f172293270b40ffda965ae9d9795be34a"), looks := false }, kinds := [], alts := [], laidByText := true, laidKinds := [.data], laidTests := true, laidLooks := .later }
def ConvScalesUptoCardSaid : Prop := Claim7.holds Tryz.pinned (.plain (OpenSpec.upto convScalesSpec)) convScalesUptoCard

/-- THE SECOND FORM's CARD OF 'cutplanelaw06.ConvInts'. -/
def convIntsUptoCard : Claim7 := { stood := { row := convIntsUptoRow, standIns := [], harness := (true, "e18b2835bdf90bfc0c6cbd31b14e3d3f172293270b40ffda965ae9d9795be34a"), looks := false }, kinds := [], alts := [], laidByText := true, laidKinds := [.data], laidTests := true, laidLooks := .later }
def ConvIntsUptoCardSaid : Prop := Claim7.holds Tryz.pinned (.plain (OpenSpec.upto convIntsSpec)) convIntsUptoCard

/-- THE SECOND FORM's CARD OF 'cutplanelaw06.ConvTaken'. -/
def convTakenUptoCard : Claim7 := { stood := { row := convTakenUptoRow, standIns := [], harness := (true, "e18b2835bdf90bfc0c6cbd31b14e3d3f172293270b40ffda965ae9d9795be34a"), looks := false }, kinds := [], alts := [], laidByText := true, laidKinds := [.data], laidTests := true, laidLooks := .later }
def ConvTakenUptoCardSaid : Prop := Claim7.holds Tryz.pinned (.plain (OpenSpec.upto convTakenSpec)) convTakenUptoCard

/-- THE SECOND FORM's CARD OF 'cutplanelaw06.ConvWholes'. -/
def convWholesUptoCard : Claim7 := { stood := { row := convWholesUptoRow, standIns := [], harness := (true, "e18b2835bdf90bfc0c6cbd31b14e3d3f172293270b40ffda965ae9d9795be34a"), looks := false }, kinds := [], alts := [], laidByText := true, laidKinds := [.data], laidTests := true, laidLooks := .later }
def ConvWholesUptoCardSaid : Prop := Claim7.holds Tryz.pinned (.plain (OpenSpec.upto convWholesSpec)) convWholesUptoCard
end Rows
end Go.Proofs.YtclegbgmhimenaaGreatDoor
