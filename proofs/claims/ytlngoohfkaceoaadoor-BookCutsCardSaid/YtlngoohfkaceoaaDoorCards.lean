/-
  DERIVED. GIVEN WITH THE SEED: THE CARDS: each row of YtlngoohfkaceoaaDoorRows.lean that lists a variable, with what it lists TIED to the program's text (the seventh form; the later family's looks); each row that meets fmt, with fmt's text TOLD by the authors' own Lean function (tested against real Go, not proved from fmt's source: count such statements apart). THE CARD IS WHAT COUNTS. Prove the row's statement (the work); the ties are given (YtlngoohfkaceoaaDoorTie.lean); close each card by the builder's one call (the guide's Derived/Test/ToyasCard.lean, 'card_holds'). Laid BY PROGRAM, IN A SANDBOX (cutbox-door.mjs). By AI agents, Wed Nov 11 2026. No macro, syntax, notation, axiom, sorry.
-/
import Derived.Test.YtlngoohfkaceoaaDoorRows
import GoSem.ClaimSeven
namespace Go.Proofs.YtlngoohfkaceoaaDoor
namespace Rows

/-- THE TIED CARD OF 'cutplanelaw16.BookCuts'. -/
def bookCutsCard : Claim7 := { stood := { row := bookCutsRow, standIns := [], harness := (true, "ffd30c9e7c58dbaefe0f47696a8672a67c8b0302b823b6b1769f5d1d34bf63d5"), looks := false }, kinds := [], alts := [], laidByText := true, laidKinds := [.data], laidTests := true, laidLooks := .later }
def BookCutsCardSaid : Prop := Claim7.holds Tryd.pinned (.plain (OpenSpec.ofChange bookCutsSpec)) bookCutsCard

/-- THE TIED CARD OF 'cutplanelaw16.BookNone'. -/
def bookNoneCard : Claim7 := { stood := { row := bookNoneRow, standIns := [], harness := (true, "ffd30c9e7c58dbaefe0f47696a8672a67c8b0302b823b6b1769f5d1d34bf63d5"), looks := false }, kinds := [], alts := [], laidByText := true, laidKinds := [.data], laidTests := true, laidLooks := .later }
def BookNoneCardSaid : Prop := Claim7.holds Tryd.pinned (.plain (OpenSpec.ofChange bookNoneSpec)) bookNoneCard

/-- THE SECOND FORM's CARD OF 'cutplanelaw16.BookCuts'. -/
def bookCutsUptoCard : Claim7 := { stood := { row := bookCutsUptoRow, standIns := [], harness := (true, "ffd30c9e7c58dbaefe0f47696a8672a67c8b0302b823b6b1769f5d1d34bf63d5"), looks := false }, kinds := [], alts := [], laidByText := true, laidKinds := [.data], laidTests := true, laidLooks := .later }
def BookCutsUptoCardSaid : Prop := Claim7.holds Tryd.pinned (.plain (OpenSpec.upto bookCutsSpec)) bookCutsUptoCard

/-- THE SECOND FORM's CARD OF 'cutplanelaw16.BookNone'. -/
def bookNoneUptoCard : Claim7 := { stood := { row := bookNoneUptoRow, standIns := [], harness := (true, "ffd30c9e7c58dbaefe0f47696a8672a67c8b0302b823b6b1769f5d1d34bf63d5"), looks := false }, kinds := [], alts := [], laidByText := true, laidKinds := [.data], laidTests := true, laidLooks := .later }
def BookNoneUptoCardSaid : Prop := Claim7.holds Tryd.pinned (.plain (OpenSpec.upto bookNoneSpec)) bookNoneUptoCard
end Rows
end Go.Proofs.YtlngoohfkaceoaaDoor
