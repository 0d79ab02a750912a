/-
  DERIVED. GIVEN WITH THE SEED: THE CARDS: each row of YtioialhbjmnndaaDoorRows.lean that lists a variable, with what it lists TIED to the program's text (the seventh form; the later family's looks); each row that meets fmt, with fmt's text TOLD by the authors' own Lean function (tested against real Go, not proved from fmt's source: count such statements apart). THE CARD IS WHAT COUNTS. Prove the row's statement (the work); the ties are given (YtioialhbjmnndaaDoorTie.lean); close each card by the builder's one call (the guide's Derived/Test/ToyasCard.lean, 'card_holds'). Laid BY PROGRAM, IN A SANDBOX (cutbox-door.mjs). By AI agents, Wed Nov 11 2026. No macro, syntax, notation, axiom, sorry.
-/
import Derived.Test.YtioialhbjmnndaaDoorRows
import GoSem.ClaimSeven
namespace Go.Proofs.YtioialhbjmnndaaDoor
namespace Rows

/-- THE TIED CARD OF 'cutplanelaw14.GaugeLeast'. -/
def gaugeLeastCard : Claim7 := { stood := { row := gaugeLeastRow, standIns := [], harness := (true, "76ce2da7022f7c58b2121eab0c492c3182e7cae3d3e6c008968147e2e37f2c0f"), looks := false }, kinds := [], alts := [], laidByText := true, laidKinds := [.data], laidTests := true, laidLooks := .later }
def GaugeLeastCardSaid : Prop := Claim7.holds Tryd.pinned (.plain (OpenSpec.ofChange gaugeLeastSpec)) gaugeLeastCard

/-- THE SECOND FORM's CARD OF 'cutplanelaw14.GaugeLeast'. -/
def gaugeLeastUptoCard : Claim7 := { stood := { row := gaugeLeastUptoRow, standIns := [], harness := (true, "76ce2da7022f7c58b2121eab0c492c3182e7cae3d3e6c008968147e2e37f2c0f"), looks := false }, kinds := [], alts := [], laidByText := true, laidKinds := [.data], laidTests := true, laidLooks := .later }
def GaugeLeastUptoCardSaid : Prop := Claim7.holds Tryd.pinned (.plain (OpenSpec.upto gaugeLeastSpec)) gaugeLeastUptoCard
end Rows
end Go.Proofs.YtioialhbjmnndaaDoor
