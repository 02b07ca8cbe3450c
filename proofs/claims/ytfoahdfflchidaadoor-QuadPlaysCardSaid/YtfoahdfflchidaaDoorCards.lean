/-
  DERIVED. GIVEN WITH THE SEED: THE CARDS: each row of YtfoahdfflchidaaDoorRows.lean that lists a variable, with what it lists TIED to the program's text (the seventh form; the later family's looks); each row that meets fmt, with fmt's text TOLD by the authors' own Lean function (tested against real Go, not proved from fmt's source: count such statements apart). THE CARD IS WHAT COUNTS. Prove the row's statement (the work); the ties are given (YtfoahdfflchidaaDoorTie.lean); close each card by the builder's one call (the guide's Derived/Test/ToyasCard.lean, 'card_holds'). Laid BY PROGRAM, IN A SANDBOX (cutbox-door.mjs). By AI agents, Wed Nov 11 2026. No macro, syntax, notation, axiom, sorry.
-/
import Derived.Test.YtfoahdfflchidaaDoorRows
import GoSem.ClaimSeven
namespace Go.Proofs.YtfoahdfflchidaaDoor
namespace Rows

/-- THE TIED CARD OF 'bywaylaw02.QuadKeeps'. -/
def quadKeepsCard : Claim7 := { stood := { row := quadKeepsRow, standIns := [], harness := (true, "ed9cf76c42cc57cb903ab777583e60c6b394741da0254178727c9d58ccc36e32"), looks := false }, kinds := [], alts := [], laidByText := true, laidKinds := [.data], laidTests := true, laidLooks := .later }
def QuadKeepsCardSaid : Prop := Claim7.holds Tryd.pinned (.plain (OpenSpec.ofChange quadKeepsSpec)) quadKeepsCard

/-- THE TIED CARD OF 'bywaylaw02.QuadTurned'. -/
def quadTurnedCard : Claim7 := { stood := { row := quadTurnedRow, standIns := [], harness := (true, "ed9cf76c42cc57cb903ab777583e60c6b394741da0254178727c9d58ccc36e32"), looks := false }, kinds := [], alts := [], laidByText := true, laidKinds := [.data], laidTests := true, laidLooks := .later }
def QuadTurnedCardSaid : Prop := Claim7.holds Tryd.pinned (.plain (OpenSpec.ofChange quadTurnedSpec)) quadTurnedCard

/-- THE TIED CARD OF 'bywaylaw02.QuadJoins'. -/
def quadJoinsCard : Claim7 := { stood := { row := quadJoinsRow, standIns := [], harness := (true, "ed9cf76c42cc57cb903ab777583e60c6b394741da0254178727c9d58ccc36e32"), looks := false }, kinds := [], alts := [], laidByText := true, laidKinds := [.data], laidTests := true, laidLooks := .later }
def QuadJoinsCardSaid : Prop := Claim7.holds Tryd.pinned (.plain (OpenSpec.ofChange quadJoinsSpec)) quadJoinsCard

/-- THE TIED CARD OF 'bywaylaw02.QuadPlays'. -/
def quadPlaysCard : Claim7 := { stood := { row := quadPlaysRow, standIns := [], harness := (true, "ed9cf76c42cc57cb903ab777583e60c6b394741da0254178727c9d58ccc36e32"), looks := false }, kinds := [], alts := [], laidByText := true, laidKinds := [.data], laidTests := true, laidLooks := .later }
def QuadPlaysCardSaid : Prop := Claim7.holds Tryd.pinned (.plain (OpenSpec.ofChange quadPlaysSpec)) quadPlaysCard

/-- THE SECOND FORM's CARD OF 'bywaylaw02.QuadKeeps'. -/
def quadKeepsUptoCard : Claim7 := { stood := { row := quadKeepsUptoRow, standIns := [], harness := (true, "ed9cf76c42cc57cb903ab777583e60c6b394741da0254178727c9d58ccc36e32"), looks := false }, kinds := [], alts := [], laidByText := true, laidKinds := [.data], laidTests := true, laidLooks := .later }
def QuadKeepsUptoCardSaid : Prop := Claim7.holds Tryd.pinned (.plain (OpenSpec.upto quadKeepsSpec)) quadKeepsUptoCard

/-- THE SECOND FORM's CARD OF 'bywaylaw02.QuadTurned'. -/
def quadTurnedUptoCard : Claim7 := { stood := { row := quadTurnedUptoRow, standIns := [], harness := (true, "ed9cf76c42cc57cb903ab777583e60c6b394741da0254178727c9d58ccc36e32"), looks := false }, kinds := [], alts := [], laidByText := true, laidKinds := [.data], laidTests := true, laidLooks := .later }
def QuadTurnedUptoCardSaid : Prop := Claim7.holds Tryd.pinned (.plain (OpenSpec.upto quadTurnedSpec)) quadTurnedUptoCard

/-- THE SECOND FORM's CARD OF 'bywaylaw02.QuadJoins'. -/
def quadJoinsUptoCard : Claim7 := { stood := { row := quadJoinsUptoRow, standIns := [], harness := (true, "ed9cf76c42cc57cb903ab777583e60c6b394741da0254178727c9d58ccc36e32"), looks := false }, kinds := [], alts := [], laidByText := true, laidKinds := [.data], laidTests := true, laidLooks := .later }
def QuadJoinsUptoCardSaid : Prop := Claim7.holds Tryd.pinned (.plain (OpenSpec.upto quadJoinsSpec)) quadJoinsUptoCard

/-- THE SECOND FORM's CARD OF 'bywaylaw02.QuadPlays'. -/
def quadPlaysUptoCard : Claim7 := { stood := { row := quadPlaysUptoRow, standIns := [], harness := (true, "ed9cf76c42cc57cb903ab777583e60c6b394741da0254178727c9d58ccc36e32"), looks := false }, kinds := [], alts := [], laidByText := true, laidKinds := [.data], laidTests := true, laidLooks := .later }
def QuadPlaysUptoCardSaid : Prop := Claim7.holds Tryd.pinned (.plain (OpenSpec.upto quadPlaysSpec)) quadPlaysUptoCard
end Rows
end Go.Proofs.YtfoahdfflchidaaDoor
