/-
  DERIVED. GIVEN WITH THE SEED: THE CARDS: each row of YtpfcgfgkmgnaaaaDoorRows.lean that lists a variable, with what it lists TIED to the program's text (the seventh form; the later family's looks); each row that meets fmt, with fmt's text TOLD by the authors' own Lean function (tested against real Go, not proved from fmt's source: count such statements apart). THE CARD IS WHAT COUNTS. Prove the row's statement (the work); the ties are given (YtpfcgfgkmgnaaaaDoorTie.lean); close each card by the builder's one call (the guide's Derived/Test/ToyasCard.lean, 'card_holds'). Laid BY PROGRAM, IN A SANDBOX (cutbox-door.mjs). By AI agents, Wed Nov 11 2026. No macro, syntax, notation, axiom, sorry.
-/
import Derived.Test.YtpfcgfgkmgnaaaaDoorRows
import GoSem.ClaimSeven
namespace Go.Proofs.YtpfcgfgkmgnaaaaDoor
namespace Rows

/-- THE TIED CARD OF 'bywaylaw05.ReachPlays'. -/
def reachPlaysCard : Claim7 := { stood := { row := reachPlaysRow, standIns := [], harness := (true, "7b62dd137ca8a5a5d847abaa05429ec5ee28f7604366d5f08aa4349ddb7f8d8b"), looks := false }, kinds := [], alts := [], laidByText := true, laidKinds := [.data], laidTests := true, laidLooks := .later }
def ReachPlaysCardSaid : Prop := Claim7.holds Tryd.pinned (.plain (OpenSpec.ofChange reachPlaysSpec)) reachPlaysCard

/-- THE TIED CARD OF 'bywaylaw05.ReachLeast'. -/
def reachLeastCard : Claim7 := { stood := { row := reachLeastRow, standIns := [], harness := (true, "7b62dd137ca8a5a5d847abaa05429ec5ee28f7604366d5f08aa4349ddb7f8d8b"), looks := false }, kinds := [], alts := [], laidByText := true, laidKinds := [.data], laidTests := true, laidLooks := .later }
def ReachLeastCardSaid : Prop := Claim7.holds Tryd.pinned (.plain (OpenSpec.ofChange reachLeastSpec)) reachLeastCard

/-- THE TIED CARD OF 'bywaylaw05.ReachKept'. -/
def reachKeptCard : Claim7 := { stood := { row := reachKeptRow, standIns := [], harness := (true, "7b62dd137ca8a5a5d847abaa05429ec5ee28f7604366d5f08aa4349ddb7f8d8b"), looks := false }, kinds := [], alts := [], laidByText := true, laidKinds := [.data], laidTests := true, laidLooks := .later }
def ReachKeptCardSaid : Prop := Claim7.holds Tryd.pinned (.plain (OpenSpec.ofChange reachKeptSpec)) reachKeptCard

/-- THE TIED CARD OF 'bywaylaw05.ReachClosure'. -/
def reachClosureCard : Claim7 := { stood := { row := reachClosureRow, standIns := [], harness := (true, "7b62dd137ca8a5a5d847abaa05429ec5ee28f7604366d5f08aa4349ddb7f8d8b"), looks := false }, kinds := [], alts := [], laidByText := true, laidKinds := [.data], laidTests := true, laidLooks := .later }
def ReachClosureCardSaid : Prop := Claim7.holds Tryd.pinned (.plain (OpenSpec.ofChange reachClosureSpec)) reachClosureCard

/-- THE TIED CARD OF 'bywaylaw05.ReachWalks'. -/
def reachWalksCard : Claim7 := { stood := { row := reachWalksRow, standIns := [], harness := (true, "7b62dd137ca8a5a5d847abaa05429ec5ee28f7604366d5f08aa4349ddb7f8d8b"), looks := false }, kinds := [], alts := [], laidByText := true, laidKinds := [.data], laidTests := true, laidLooks := .later }
def ReachWalksCardSaid : Prop := Claim7.holds Tryd.pinned (.plain (OpenSpec.ofChange reachWalksSpec)) reachWalksCard

/-- THE SECOND FORM's CARD OF 'bywaylaw05.ReachPlays'. -/
def reachPlaysUptoCard : Claim7 := { stood := { row := reachPlaysUptoRow, standIns := [], harness := (true, "7b62dd137ca8a5a5d847abaa05429ec5ee28f7604366d5f08aa4349ddb7f8d8b"), looks := false }, kinds := [], alts := [], laidByText := true, laidKinds := [.data], laidTests := true, laidLooks := .later }
def ReachPlaysUptoCardSaid : Prop := Claim7.holds Tryd.pinned (.plain (OpenSpec.upto reachPlaysSpec)) reachPlaysUptoCard

/-- THE SECOND FORM's CARD OF 'bywaylaw05.ReachLeast'. -/
def reachLeastUptoCard : Claim7 := { stood := { row := reachLeastUptoRow, standIns := [], harness := (true, "7b62dd137ca8a5a5d847abaa05429ec5ee28f7604366d5f08aa4349ddb7f8d8b"), looks := false }, kinds := [], alts := [], laidByText := true, laidKinds := [.data], laidTests := true, laidLooks := .later }
def ReachLeastUptoCardSaid : Prop := Claim7.holds Tryd.pinned (.plain (OpenSpec.upto reachLeastSpec)) reachLeastUptoCard

/-- THE SECOND FORM's CARD OF 'bywaylaw05.ReachKept'. -/
def reachKeptUptoCard : Claim7 := { stood := { row := reachKeptUptoRow, standIns := [], harness := (true, "7b62dd137ca8a5a5d847abaa05429ec5ee28f7604366d5f08aa4349ddb7f8d8b"), looks := false }, kinds := [], alts := [], laidByText := true, laidKinds := [.data], laidTests := true, laidLooks := .later }
def ReachKeptUptoCardSaid : Prop := Claim7.holds Tryd.pinned (.plain (OpenSpec.upto reachKeptSpec)) reachKeptUptoCard

/-- THE SECOND FORM's CARD OF 'bywaylaw05.ReachClosure'. -/
def reachClosureUptoCard : Claim7 := { stood := { row := reachClosureUptoRow, standIns := [], harness := (true, "7b62dd137ca8a5a5d847abaa05429ec5ee28f7604366d5f08aa4349ddb7f8d8b"), looks := false }, kinds := [], alts := [], laidByText := true, laidKinds := [.data], laidTests := true, laidLooks := .later }
def ReachClosureUptoCardSaid : Prop := Claim7.holds Tryd.pinned (.plain (OpenSpec.upto reachClosureSpec)) reachClosureUptoCard

/-- THE SECOND FORM's CARD OF 'bywaylaw05.ReachWalks'. -/
def reachWalksUptoCard : Claim7 := { stood := { row := reachWalksUptoRow, standIns := [], harness := (true, "7b62dd137ca8a5a5d847abaa05429ec5ee28f7604366d5f08aa4349ddb7f8d8b"), looks := false }, kinds := [], alts := [], laidByText := true, laidKinds := [.data], laidTests := true, laidLooks := .later }
def ReachWalksUptoCardSaid : Prop := Claim7.holds Tryd.pinned (.plain (OpenSpec.upto reachWalksSpec)) reachWalksUptoCard
end Rows
end Go.Proofs.YtpfcgfgkmgnaaaaDoor
