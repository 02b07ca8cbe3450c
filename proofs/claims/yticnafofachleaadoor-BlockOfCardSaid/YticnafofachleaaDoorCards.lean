/-
  DERIVED. GIVEN WITH THE SEED: THE CARDS: each row of YticnafofachleaaDoorRows.lean that lists a variable, with what it lists TIED to the program's text (the seventh form; the later family's looks); each row that meets fmt, with fmt's text TOLD by the authors' own Lean function (tested against real Go, not proved from fmt's source: count such statements apart). THE CARD IS WHAT COUNTS. Prove the row's statement (the work); the ties are given (YticnafofachleaaDoorTie.lean); close each card by the builder's one call (the guide's Derived/Test/ToyasCard.lean, 'card_holds'). Laid BY PROGRAM, IN A SANDBOX (cutbox-door.mjs). By AI agents, Wed Nov 11 2026. No macro, syntax, notation, axiom, sorry.
-/
import Derived.Test.YticnafofachleaaDoorRows
import GoSem.ClaimSeven
namespace Go.Proofs.YticnafofachleaaDoor
namespace Rows

/-- THE TIED CARD OF 'bywaylaw01.BlockOf'. -/
def blockOfCard : Claim7 := { stood := { row := blockOfRow, standIns := [], harness := (true, "bd7d641a9b160cdfb634098eed69fd2803c3c0bcab660144f48445376af25d42"), looks := false }, kinds := [], alts := [], laidByText := true, laidKinds := [.data], laidTests := true, laidLooks := .later }
def BlockOfCardSaid : Prop := Claim7.holds Tryd.pinned (.plain (OpenSpec.ofChange blockOfSpec)) blockOfCard

/-- THE TIED CARD OF 'bywaylaw01.BlockProducts'. -/
def blockProductsCard : Claim7 := { stood := { row := blockProductsRow, standIns := [], harness := (true, "bd7d641a9b160cdfb634098eed69fd2803c3c0bcab660144f48445376af25d42"), looks := false }, kinds := [], alts := [], laidByText := true, laidKinds := [.data], laidTests := true, laidLooks := .later }
def BlockProductsCardSaid : Prop := Claim7.holds Tryd.pinned (.plain (OpenSpec.ofChange blockProductsSpec)) blockProductsCard

/-- THE TIED CARD OF 'bywaylaw01.BlockRing'. -/
def blockRingCard : Claim7 := { stood := { row := blockRingRow, standIns := [], harness := (true, "bd7d641a9b160cdfb634098eed69fd2803c3c0bcab660144f48445376af25d42"), looks := false }, kinds := [], alts := [], laidByText := true, laidKinds := [.data], laidTests := true, laidLooks := .later }
def BlockRingCardSaid : Prop := Claim7.holds Tryd.pinned (.plain (OpenSpec.ofChange blockRingSpec)) blockRingCard

/-- THE TIED CARD OF 'bywaylaw01.BlockTurned'. -/
def blockTurnedCard : Claim7 := { stood := { row := blockTurnedRow, standIns := [], harness := (true, "bd7d641a9b160cdfb634098eed69fd2803c3c0bcab660144f48445376af25d42"), looks := false }, kinds := [], alts := [], laidByText := true, laidKinds := [.data], laidTests := true, laidLooks := .later }
def BlockTurnedCardSaid : Prop := Claim7.holds Tryd.pinned (.plain (OpenSpec.ofChange blockTurnedSpec)) blockTurnedCard

/-- THE TIED CARD OF 'bywaylaw01.BlockLeast'. -/
def blockLeastCard : Claim7 := { stood := { row := blockLeastRow, standIns := [], harness := (true, "bd7d641a9b160cdfb634098eed69fd2803c3c0bcab660144f48445376af25d42"), looks := false }, kinds := [], alts := [], laidByText := true, laidKinds := [.data], laidTests := true, laidLooks := .later }
def BlockLeastCardSaid : Prop := Claim7.holds Tryd.pinned (.plain (OpenSpec.ofChange blockLeastSpec)) blockLeastCard

/-- THE SECOND FORM's CARD OF 'bywaylaw01.BlockOf'. -/
def blockOfUptoCard : Claim7 := { stood := { row := blockOfUptoRow, standIns := [], harness := (true, "bd7d641a9b160cdfb634098eed69fd2803c3c0bcab660144f48445376af25d42"), looks := false }, kinds := [], alts := [], laidByText := true, laidKinds := [.data], laidTests := true, laidLooks := .later }
def BlockOfUptoCardSaid : Prop := Claim7.holds Tryd.pinned (.plain (OpenSpec.upto blockOfSpec)) blockOfUptoCard

/-- THE SECOND FORM's CARD OF 'bywaylaw01.BlockProducts'. -/
def blockProductsUptoCard : Claim7 := { stood := { row := blockProductsUptoRow, standIns := [], harness := (true, "bd7d641a9b160cdfb634098eed69fd2803c3c0bcab660144f48445376af25d42"), looks := false }, kinds := [], alts := [], laidByText := true, laidKinds := [.data], laidTests := true, laidLooks := .later }
def BlockProductsUptoCardSaid : Prop := Claim7.holds Tryd.pinned (.plain (OpenSpec.upto blockProductsSpec)) blockProductsUptoCard

/-- THE SECOND FORM's CARD OF 'bywaylaw01.BlockRing'. -/
def blockRingUptoCard : Claim7 := { stood := { row := blockRingUptoRow, standIns := [], harness := (true, "bd7d641a9b160cdfb634098eed69fd2803c3c0bcab660144f48445376af25d42"), looks := false }, kinds := [], alts := [], laidByText := true, laidKinds := [.data], laidTests := true, laidLooks := .later }
def BlockRingUptoCardSaid : Prop := Claim7.holds Tryd.pinned (.plain (OpenSpec.upto blockRingSpec)) blockRingUptoCard

/-- THE SECOND FORM's CARD OF 'bywaylaw01.BlockTurned'. -/
def blockTurnedUptoCard : Claim7 := { stood := { row := blockTurnedUptoRow, standIns := [], harness := (true, "bd7d641a9b160cdfb634098eed69fd2803c3c0bcab660144f48445376af25d42"), looks := false }, kinds := [], alts := [], laidByText := true, laidKinds := [.data], laidTests := true, laidLooks := .later }
def BlockTurnedUptoCardSaid : Prop := Claim7.holds Tryd.pinned (.plain (OpenSpec.upto blockTurnedSpec)) blockTurnedUptoCard

/-- THE SECOND FORM's CARD OF 'bywaylaw01.BlockLeast'. -/
def blockLeastUptoCard : Claim7 := { stood := { row := blockLeastUptoRow, standIns := [], harness := (true, "bd7d641a9b160cdfb634098eed69fd2803c3c0bcab660144f48445376af25d42"), looks := false }, kinds := [], alts := [], laidByText := true, laidKinds := [.data], laidTests := true, laidLooks := .later }
def BlockLeastUptoCardSaid : Prop := Claim7.holds Tryd.pinned (.plain (OpenSpec.upto blockLeastSpec)) blockLeastUptoCard
end Rows
end Go.Proofs.YticnafofachleaaDoor
