/-
  DERIVED. GIVEN WITH THE SEED: THE CARDS: each row of YtioialhbjmnndaaGreatDoorRows.lean that lists a variable, with what it lists TIED to the program's text (the seventh form; the later family's looks); each row that meets fmt, with fmt's text TOLD by the authors' own Lean function (tested against real Go, not proved from fmt's source: count such statements apart). THE CARD IS WHAT COUNTS. Prove the row's statement (the work); the ties are given (YtioialhbjmnndaaGreatDoorTie.lean); close each card by the builder's one call (the guide's Derived/Test/ToyasCard.lean, 'card_holds'). Laid BY PROGRAM, IN A SANDBOX (cutbox-door.mjs). By AI agents, Wed Nov 11 2026. No macro, syntax, notation, axiom, sorry.
-/
import Derived.Test.YtioialhbjmnndaaGreatDoorRows
import GoSem.ClaimSeven
namespace Go.Proofs.YtioialhbjmnndaaGreatDoor
namespace Rows

/-- THE TIED CARD OF 'cutplanelaw14.GaugeMeasures'. -/
def gaugeMeasuresCard : Claim7 := { stood := { row := gaugeMeasuresRow, standIns := [], harness := (true, "c4d75ffc4d1b11c68445c77a1dce6f412de4a7e6d6a1d85268c8f85e3d8f816b"), looks := false }, kinds := [], alts := [], laidByText := true, laidKinds := [.data], laidTests := true, laidLooks := .later }
def GaugeMeasuresCardSaid : Prop := Claim7.holds Tryz.pinned (.plain (OpenSpec.ofChange gaugeMeasuresSpec)) gaugeMeasuresCard

/-- THE TIED CARD OF 'cutplanelaw14.GaugeSafe'. -/
def gaugeSafeCard : Claim7 := { stood := { row := gaugeSafeRow, standIns := [], harness := (true, "c4d75ffc4d1b11c68445c77a1dce6f412de4a7e6d6a1d85268c8f85e3d8f816b"), looks := false }, kinds := [], alts := [], laidByText := true, laidKinds := [.data], laidTests := true, laidLooks := .later }
def GaugeSafeCardSaid : Prop := Claim7.holds Tryz.pinned (.plain (OpenSpec.ofChange gaugeSafeSpec)) gaugeSafeCard

/-- THE TIED CARD OF 'cutplanelaw14.GaugeParts'. -/
def gaugePartsCard : Claim7 := { stood := { row := gaugePartsRow, standIns := [], harness := (true, "c4d75ffc4d1b11c68445c77a1dce6f412de4a7e6d6a1d85268c8f85e3d8f816b"), looks := false }, kinds := [], alts := [], laidByText := true, laidKinds := [.data], laidTests := true, laidLooks := .later }
def GaugePartsCardSaid : Prop := Claim7.holds Tryz.pinned (.plain (OpenSpec.ofChange gaugePartsSpec)) gaugePartsCard

/-- THE TIED CARD OF 'cutplanelaw14.GaugeExact'. -/
def gaugeExactCard : Claim7 := { stood := { row := gaugeExactRow, standIns := [], harness := (true, "c4d75ffc4d1b11c68445c77a1dce6f412de4a7e6d6a1d85268c8f85e3d8f816b"), looks := false }, kinds := [], alts := [], laidByText := true, laidKinds := [.data], laidTests := true, laidLooks := .later }
def GaugeExactCardSaid : Prop := Claim7.holds Tryz.pinned (.plain (OpenSpec.ofChange gaugeExactSpec)) gaugeExactCard

/-- THE SECOND FORM's CARD OF 'cutplanelaw14.GaugeMeasures'. -/
def gaugeMeasuresUptoCard : Claim7 := { stood := { row := gaugeMeasuresUptoRow, standIns := [], harness := (true, "c4d75ffc4d1b11c68445c77a1dce6f412de4a7e6d6a1d85268c8f85e3d8f816b"), looks := false }, kinds := [], alts := [], laidByText := true, laidKinds := [.data], laidTests := true, laidLooks := .later }
def GaugeMeasuresUptoCardSaid : Prop := Claim7.holds Tryz.pinned (.plain (OpenSpec.upto gaugeMeasuresSpec)) gaugeMeasuresUptoCard

/-- THE SECOND FORM's CARD OF 'cutplanelaw14.GaugeSafe'. -/
def gaugeSafeUptoCard : Claim7 := { stood := { row := gaugeSafeUptoRow, standIns := [], harness := (true, "c4d75ffc4d1b11c68445c77a1dce6f412de4a7e6d6a1d85268c8f85e3d8f816b"), looks := false }, kinds := [], alts := [], laidByText := true, laidKinds := [.data], laidTests := true, laidLooks := .later }
def GaugeSafeUptoCardSaid : Prop := Claim7.holds Tryz.pinned (.plain (OpenSpec.upto gaugeSafeSpec)) gaugeSafeUptoCard

/-- THE SECOND FORM's CARD OF 'cutplanelaw14.GaugeParts'. -/
def gaugePartsUptoCard : Claim7 := { stood := { row := gaugePartsUptoRow, standIns := [], harness := (true, "c4d75ffc4d1b11c68445c77a1dce6f412de4a7e6d6a1d85268c8f85e3d8f816b"), looks := false }, kinds := [], alts := [], laidByText := true, laidKinds := [.data], laidTests := true, laidLooks := .later }
def GaugePartsUptoCardSaid : Prop := Claim7.holds Tryz.pinned (.plain (OpenSpec.upto gaugePartsSpec)) gaugePartsUptoCard

/-- THE SECOND FORM's CARD OF 'cutplanelaw14.GaugeExact'. -/
def gaugeExactUptoCard : Claim7 := { stood := { row := gaugeExactUptoRow, standIns := [], harness := (true, "c4d75ffc4d1b11c68445c77a1dce6f412de4a7e6d6a1d85268c8f85e3d8f816b"), looks := false }, kinds := [], alts := [], laidByText := true, laidKinds := [.data], laidTests := true, laidLooks := .later }
def GaugeExactUptoCardSaid : Prop := Claim7.holds Tryz.pinned (.plain (OpenSpec.upto gaugeExactSpec)) gaugeExactUptoCard
end Rows
end Go.Proofs.YtioialhbjmnndaaGreatDoor
