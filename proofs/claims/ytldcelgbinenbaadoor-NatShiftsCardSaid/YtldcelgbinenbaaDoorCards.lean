/-
  DERIVED. GIVEN WITH THE SEED: THE CARDS: each row of YtldcelgbinenbaaDoorRows.lean that lists a variable, with what it lists TIED to the program's text (the seventh form; the later family's looks); each row that meets fmt, with fmt's text TOLD by the authors' own Lean function (tested against real Go, not proved from fmt's source: count such statements apart). THE CARD IS WHAT COUNTS. Prove the row's statement (the work); the ties are given (YtldcelgbinenbaaDoorTie.lean); close each card by the builder's one call (the guide's Derived/Test/ToyasCard.lean, 'card_holds'). Laid BY PROGRAM, IN A SANDBOX (cutbox-door.mjs). By AI agents, Wed Nov 11 2026. No macro, syntax, notation, axiom, sorry.
-/
import Derived.Test.YtldcelgbinenbaaDoorRows
import GoSem.ClaimSeven
namespace Go.Proofs.YtldcelgbinenbaaDoor
namespace Rows

/-- THE TIED CARD OF 'cutplanelaw01.NatShifts'. -/
def natShiftsCard : Claim7 := { stood := { row := natShiftsRow, standIns := [], harness := (true, "6abfb3a6a7e2c4b4bc76ef4a227b818654c016a49e2a3e0b7424901b5050fee6"), looks := false }, kinds := [], alts := [], laidByText := true, laidKinds := [.data], laidTests := true, laidLooks := .later }
def NatShiftsCardSaid : Prop := Claim7.holds Tryd.pinned (.plain (OpenSpec.ofChange natShiftsSpec)) natShiftsCard

/-- THE TIED CARD OF 'cutplanelaw01.NatUpDown'. -/
def natUpDownCard : Claim7 := { stood := { row := natUpDownRow, standIns := [], harness := (true, "6abfb3a6a7e2c4b4bc76ef4a227b818654c016a49e2a3e0b7424901b5050fee6"), looks := false }, kinds := [], alts := [], laidByText := true, laidKinds := [.data], laidTests := true, laidLooks := .later }
def NatUpDownCardSaid : Prop := Claim7.holds Tryd.pinned (.plain (OpenSpec.ofChange natUpDownSpec)) natUpDownCard

/-- THE SECOND FORM's CARD OF 'cutplanelaw01.NatShifts'. -/
def natShiftsUptoCard : Claim7 := { stood := { row := natShiftsUptoRow, standIns := [], harness := (true, "6abfb3a6a7e2c4b4bc76ef4a227b818654c016a49e2a3e0b7424901b5050fee6"), looks := false }, kinds := [], alts := [], laidByText := true, laidKinds := [.data], laidTests := true, laidLooks := .later }
def NatShiftsUptoCardSaid : Prop := Claim7.holds Tryd.pinned (.plain (OpenSpec.upto natShiftsSpec)) natShiftsUptoCard

/-- THE SECOND FORM's CARD OF 'cutplanelaw01.NatUpDown'. -/
def natUpDownUptoCard : Claim7 := { stood := { row := natUpDownUptoRow, standIns := [], harness := (true, "6abfb3a6a7e2c4b4bc76ef4a227b818654c016a49e2a3e0b7424901b5050fee6"), looks := false }, kinds := [], alts := [], laidByText := true, laidKinds := [.data], laidTests := true, laidLooks := .later }
def NatUpDownUptoCardSaid : Prop := Claim7.holds Tryd.pinned (.plain (OpenSpec.upto natUpDownSpec)) natUpDownUptoCard
end Rows
end Go.Proofs.YtldcelgbinenbaaDoor
