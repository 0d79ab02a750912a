/-
  DERIVED. GIVEN WITH THE SEED: THE CARDS: each row of YtnkpmjhlkmlmbaaGreatDoorRows.lean that lists a variable, with what it lists TIED to the program's text (the seventh form; the later family's looks); each row that meets fmt, with fmt's text TOLD by the authors' own Lean function (tested against real Go, not proved from fmt's source: count such statements apart). THE CARD IS WHAT COUNTS. Prove the row's statement (the work); the ties are given (YtnkpmjhlkmlmbaaGreatDoorTie.lean); close each card by the builder's one call (the guide's Derived/Test/ToyasCard.lean, 'card_holds'). Laid BY PROGRAM, IN A SANDBOX (cutbox-door.mjs). By AI agents, Wed Nov 11 2026. No macro, syntax, notation, axiom, sorry.
-/
import Derived.Test.YtnkpmjhlkmlmbaaGreatDoorRows
import GoSem.ClaimSeven
namespace Go.Proofs.YtnkpmjhlkmlmbaaGreatDoor
namespace Rows

/-- THE TIED CARD OF 'cutplanelaw08.DeciReads'. -/
def deciReadsCard : Claim7 := { stood := { row := deciReadsRow, standIns := [], harness := (true, "57d011c10f139844d8cef4773dbd89071f0b1ebf04d4dbd79f3c1d77eb9c6c40"), looks := true }, kinds := [], alts := [], laidByText := true, laidKinds := [.data, .data, .data, .data, .sentinel, .sentinel, .pinned], laidTests := true, laidLooks := .later }
def DeciReadsCardSaid : Prop := Claim7.holds Tryz.pinned (.plain (OpenSpec.ofChange deciReadsSpec)) deciReadsCard

/-- THE TIED CARD OF 'cutplanelaw08.DeciShortest'. -/
def deciShortestCard : Claim7 := { stood := { row := deciShortestRow, standIns := [], harness := (true, "57d011c10f139844d8cef4773dbd89071f0b1ebf04d4dbd79f3c1d77eb9c6c40"), looks := true }, kinds := [], alts := [], laidByText := true, laidKinds := [.data, .data, .data, .data, .sentinel, .sentinel, .pinned], laidTests := true, laidLooks := .later }
def DeciShortestCardSaid : Prop := Claim7.holds Tryz.pinned (.plain (OpenSpec.ofChange deciShortestSpec)) deciShortestCard

/-- THE TIED CARD OF 'cutplanelaw08.DeciFewest'. -/
def deciFewestCard : Claim7 := { stood := { row := deciFewestRow, standIns := [], harness := (true, "57d011c10f139844d8cef4773dbd89071f0b1ebf04d4dbd79f3c1d77eb9c6c40"), looks := true }, kinds := [], alts := [], laidByText := true, laidKinds := [.data, .data, .data, .data, .sentinel, .sentinel, .pinned], laidTests := true, laidLooks := .later }
def DeciFewestCardSaid : Prop := Claim7.holds Tryz.pinned (.plain (OpenSpec.ofChange deciFewestSpec)) deciFewestCard

/-- THE TIED CARD OF 'cutplanelaw08.DeciOrder'. -/
def deciOrderCard : Claim7 := { stood := { row := deciOrderRow, standIns := [], harness := (true, "57d011c10f139844d8cef4773dbd89071f0b1ebf04d4dbd79f3c1d77eb9c6c40"), looks := true }, kinds := [], alts := [], laidByText := true, laidKinds := [.data, .data, .data, .data, .sentinel, .sentinel, .pinned], laidTests := true, laidLooks := .later }
def DeciOrderCardSaid : Prop := Claim7.holds Tryz.pinned (.plain (OpenSpec.ofChange deciOrderSpec)) deciOrderCard

/-- THE TIED CARD OF 'cutplanelaw08.DeciExact'. -/
def deciExactCard : Claim7 := { stood := { row := deciExactRow, standIns := [], harness := (true, "57d011c10f139844d8cef4773dbd89071f0b1ebf04d4dbd79f3c1d77eb9c6c40"), looks := true }, kinds := [], alts := [], laidByText := true, laidKinds := [.data, .data, .data, .data, .sentinel, .sentinel, .pinned], laidTests := true, laidLooks := .later }
def DeciExactCardSaid : Prop := Claim7.holds Tryz.pinned (.plain (OpenSpec.ofChange deciExactSpec)) deciExactCard

/-- THE TIED CARD OF 'cutplanelaw08.DeciBack'. -/
def deciBackCard : Claim7 := { stood := { row := deciBackRow, standIns := [], harness := (true, "57d011c10f139844d8cef4773dbd89071f0b1ebf04d4dbd79f3c1d77eb9c6c40"), looks := true }, kinds := [], alts := [], laidByText := true, laidKinds := [.data, .data, .data, .data, .sentinel, .sentinel, .pinned], laidTests := true, laidLooks := .later }
def DeciBackCardSaid : Prop := Claim7.holds Tryz.pinned (.plain (OpenSpec.ofChange deciBackSpec)) deciBackCard

/-- THE TIED CARD OF 'cutplanelaw08.DeciShows'. -/
def deciShowsCard : Claim7 := { stood := { row := deciShowsRow, standIns := [], harness := (true, "57d011c10f139844d8cef4773dbd89071f0b1ebf04d4dbd79f3c1d77eb9c6c40"), looks := true }, kinds := [], alts := [], laidByText := true, laidKinds := [.data, .data, .data, .data, .sentinel, .sentinel, .pinned], laidTests := true, laidLooks := .later }
def DeciShowsCardSaid : Prop := Claim7.holds Tryz.pinned (.plain (OpenSpec.ofChange deciShowsSpec)) deciShowsCard

/-- THE TIED CARD OF 'cutplanelaw08.DeciTaken'. -/
def deciTakenCard : Claim7 := { stood := { row := deciTakenRow, standIns := [], harness := (true, "57d011c10f139844d8cef4773dbd89071f0b1ebf04d4dbd79f3c1d77eb9c6c40"), looks := true }, kinds := [], alts := [], laidByText := true, laidKinds := [.data, .data, .data, .data, .sentinel, .sentinel, .pinned], laidTests := true, laidLooks := .later }
def DeciTakenCardSaid : Prop := Claim7.holds Tryz.pinned (.plain (OpenSpec.ofChange deciTakenSpec)) deciTakenCard

/-- THE TIED CARD OF 'cutplanelaw26.CtextPrints'. -/
def ctextPrintsCard : Claim7 := { stood := { row := ctextPrintsRow, standIns := [], harness := (true, "57d011c10f139844d8cef4773dbd89071f0b1ebf04d4dbd79f3c1d77eb9c6c40"), looks := true }, kinds := [], alts := [], laidByText := true, laidKinds := [.data, .data, .data, .data, .sentinel, .sentinel, .pinned], laidTests := true, laidLooks := .later }
def CtextPrintsCardSaid : Prop := Claim7.holds Tryz.pinned (.plain (OpenSpec.ofChange ctextPrintsSpec)) ctextPrintsCard

/-- THE TIED CARD OF 'cutplanelaw26.CtextReads'. -/
def ctextReadsCard : Claim7 := { stood := { row := ctextReadsRow, standIns := [], harness := (true, "57d011c10f139844d8cef4773dbd89071f0b1ebf04d4dbd79f3c1d77eb9c6c40"), looks := true }, kinds := [], alts := [], laidByText := true, laidKinds := [.data, .data, .data, .data, .sentinel, .sentinel, .pinned], laidTests := true, laidLooks := .later }
def CtextReadsCardSaid : Prop := Claim7.holds Tryz.pinned (.plain (OpenSpec.ofChange ctextReadsSpec)) ctextReadsCard

/-- THE TIED CARD OF 'cutplanelaw26.CtextBack'. -/
def ctextBackCard : Claim7 := { stood := { row := ctextBackRow, standIns := [], harness := (true, "57d011c10f139844d8cef4773dbd89071f0b1ebf04d4dbd79f3c1d77eb9c6c40"), looks := true }, kinds := [], alts := [], laidByText := true, laidKinds := [.data, .data, .data, .data, .sentinel, .sentinel, .pinned], laidTests := true, laidLooks := .later }
def CtextBackCardSaid : Prop := Claim7.holds Tryz.pinned (.plain (OpenSpec.ofChange ctextBackSpec)) ctextBackCard

/-- THE SECOND FORM's CARD OF 'cutplanelaw08.DeciReads'. -/
def deciReadsUptoCard : Claim7 := { stood := { row := deciReadsUptoRow, standIns := [], harness := (true, "57d011c10f139844d8cef4773dbd89071f0b1ebf04d4dbd79f3c1d77eb9c6c40"), looks := true }, kinds := [], alts := [], laidByText := true, laidKinds := [.data, .data, .data, .data, .sentinel, .sentinel, .pinned], laidTests := true, laidLooks := .later }
def DeciReadsUptoCardSaid : Prop := Claim7.holds Tryz.pinned (.plain (OpenSpec.upto deciReadsSpec)) deciReadsUptoCard

/-- THE SECOND FORM's CARD OF 'cutplanelaw08.DeciShortest'. -/
def deciShortestUptoCard : Claim7 := { stood := { row := deciShortestUptoRow, standIns := [], harness := (true, "57d011c10f139844d8cef4773dbd89071f0b1ebf04d4dbd79f3c1d77eb9c6c40"), looks := true }, kinds := [], alts := [], laidByText := true, laidKinds := [.data, .data, .data, .data, .sentinel, .sentinel, .pinned], laidTests := true, laidLooks := .later }
def DeciShortestUptoCardSaid : Prop := Claim7.holds Tryz.pinned (.plain (OpenSpec.upto deciShortestSpec)) deciShortestUptoCard

/-- THE SECOND FORM's CARD OF 'cutplanelaw08.DeciFewest'. -/
def deciFewestUptoCard : Claim7 := { stood := { row := deciFewestUptoRow, standIns := [], harness := (true, "57d011c10f139844d8cef4773dbd89071f0b1ebf04d4dbd79f3c1d77eb9c6c40"), looks := true }, kinds := [], alts := [], laidByText := true, laidKinds := [.data, .data, .data, .data, .sentinel, .sentinel, .pinned], laidTests := true, laidLooks := .later }
def DeciFewestUptoCardSaid : Prop := Claim7.holds Tryz.pinned (.plain (OpenSpec.upto deciFewestSpec)) deciFewestUptoCard

/-- THE SECOND FORM's CARD OF 'cutplanelaw08.DeciOrder'. -/
def deciOrderUptoCard : Claim7 := { stood := { row := deciOrderUptoRow, standIns := [], harness := (true, "57d011c10f139844d8cef4773dbd89071f0b1ebf04d4dbd79f3c1d77eb9c6c40"), looks := true }, kinds := [], alts := [], laidByText := true, laidKinds := [.data, .data, .data, .data, .sentinel, .sentinel, .pinned], laidTests := true, laidLooks := .later }
def DeciOrderUptoCardSaid : Prop := Claim7.holds Tryz.pinned (.plain (OpenSpec.upto deciOrderSpec)) deciOrderUptoCard

/-- THE SECOND FORM's CARD OF 'cutplanelaw08.DeciExact'. -/
def deciExactUptoCard : Claim7 := { stood := { row := deciExactUptoRow, standIns := [], harness := (true, "57d011c10f139844d8cef4773dbd89071f0b1ebf04d4dbd79f3c1d77eb9c6c40"), looks := true }, kinds := [], alts := [], laidByText := true, laidKinds := [.data, .data, .data, .data, .sentinel, .sentinel, .pinned], laidTests := true, laidLooks := .later }
def DeciExactUptoCardSaid : Prop := Claim7.holds Tryz.pinned (.plain (OpenSpec.upto deciExactSpec)) deciExactUptoCard

/-- THE SECOND FORM's CARD OF 'cutplanelaw08.DeciBack'. -/
def deciBackUptoCard : Claim7 := { stood := { row := deciBackUptoRow, standIns := [], harness := (true, "57d011c10f139844d8cef4773dbd89071f0b1ebf04d4dbd79f3c1d77eb9c6c40"), looks := true }, kinds := [], alts := [], laidByText := true, laidKinds := [.data, .data, .data, .data, .sentinel, .sentinel, .pinned], laidTests := true, laidLooks := .later }
def DeciBackUptoCardSaid : Prop := Claim7.holds Tryz.pinned (.plain (OpenSpec.upto deciBackSpec)) deciBackUptoCard

/-- THE SECOND FORM's CARD OF 'cutplanelaw08.DeciShows'. -/
def deciShowsUptoCard : Claim7 := { stood := { row := deciShowsUptoRow, standIns := [], harness := (true, "57d011c10f139844d8cef4773dbd89071f0b1ebf04d4dbd79f3c1d77eb9c6c40"), looks := true }, kinds := [], alts := [], laidByText := true, laidKinds := [.data, .data, .data, .data, .sentinel, .sentinel, .pinned], laidTests := true, laidLooks := .later }
def DeciShowsUptoCardSaid : Prop := Claim7.holds Tryz.pinned (.plain (OpenSpec.upto deciShowsSpec)) deciShowsUptoCard

/-- THE SECOND FORM's CARD OF 'cutplanelaw08.DeciTaken'. -/
def deciTakenUptoCard : Claim7 := { stood := { row := deciTakenUptoRow, standIns := [], harness := (true, "57d011c10f139844d8cef4773dbd89071f0b1ebf04d4dbd79f3c1d77eb9c6c40"), looks := true }, kinds := [], alts := [], laidByText := true, laidKinds := [.data, .data, .data, .data, .sentinel, .sentinel, .pinned], laidTests := true, laidLooks := .later }
def DeciTakenUptoCardSaid : Prop := Claim7.holds Tryz.pinned (.plain (OpenSpec.upto deciTakenSpec)) deciTakenUptoCard

/-- THE SECOND FORM's CARD OF 'cutplanelaw26.CtextPrints'. -/
def ctextPrintsUptoCard : Claim7 := { stood := { row := ctextPrintsUptoRow, standIns := [], harness := (true, "57d011c10f139844d8cef4773dbd89071f0b1ebf04d4dbd79f3c1d77eb9c6c40"), looks := true }, kinds := [], alts := [], laidByText := true, laidKinds := [.data, .data, .data, .data, .sentinel, .sentinel, .pinned], laidTests := true, laidLooks := .later }
def CtextPrintsUptoCardSaid : Prop := Claim7.holds Tryz.pinned (.plain (OpenSpec.upto ctextPrintsSpec)) ctextPrintsUptoCard

/-- THE SECOND FORM's CARD OF 'cutplanelaw26.CtextReads'. -/
def ctextReadsUptoCard : Claim7 := { stood := { row := ctextReadsUptoRow, standIns := [], harness := (true, "57d011c10f139844d8cef4773dbd89071f0b1ebf04d4dbd79f3c1d77eb9c6c40"), looks := true }, kinds := [], alts := [], laidByText := true, laidKinds := [.data, .data, .data, .data, .sentinel, .sentinel, .pinned], laidTests := true, laidLooks := .later }
def CtextReadsUptoCardSaid : Prop := Claim7.holds Tryz.pinned (.plain (OpenSpec.upto ctextReadsSpec)) ctextReadsUptoCard

/-- THE SECOND FORM's CARD OF 'cutplanelaw26.CtextBack'. -/
def ctextBackUptoCard : Claim7 := { stood := { row := ctextBackUptoRow, standIns := [], harness := (true, "57d011c10f139844d8cef4773dbd89071f0b1ebf04d4dbd79f3c1d77eb9c6c40"), looks := true }, kinds := [], alts := [], laidByText := true, laidKinds := [.data, .data, .data, .data, .sentinel, .sentinel, .pinned], laidTests := true, laidLooks := .later }
def CtextBackUptoCardSaid : Prop := Claim7.holds Tryz.pinned (.plain (OpenSpec.upto ctextBackSpec)) ctextBackUptoCard
end Rows
end Go.Proofs.YtnkpmjhlkmlmbaaGreatDoor
