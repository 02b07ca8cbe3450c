/-
  DERIVED. GIVEN WITH THE SEED: THE CARDS: each row of YtpemblhbfafmpaaDoorRows.lean that lists a variable, with what it lists TIED to the program's text (the seventh form; the later family's looks); each row that meets fmt, with fmt's text TOLD by the authors' own Lean function (tested against real Go, not proved from fmt's source: count such statements apart). THE CARD IS WHAT COUNTS. Prove the row's statement (the work); the ties are given (YtpemblhbfafmpaaDoorTie.lean); close each card by the builder's one call (the guide's Derived/Test/ToyasCard.lean, 'card_holds'). Laid BY PROGRAM, IN A SANDBOX (cutbox-door.mjs). By AI agents, Wed Nov 11 2026. No macro, syntax, notation, axiom, sorry.
-/
import Derived.Test.YtpemblhbfafmpaaDoorRows
import GoSem.ClaimSeven
namespace Go.Proofs.YtpemblhbfafmpaaDoor
namespace Rows

/-- THE TIED CARD OF 'bywaylaw03.ProductMul'. -/
def productMulCard : Claim7 := { stood := { row := productMulRow, standIns := [], harness := (true, "7fc08c7a85d170a0b44d9b54fdb769c26238c08ee4578f9b4a8927441c33639d"), looks := false }, kinds := [], alts := [], laidByText := true, laidKinds := [.data], laidTests := true, laidLooks := .later }
def ProductMulCardSaid : Prop := Claim7.holds Tryd.pinned (.plain (OpenSpec.ofChange productMulSpec)) productMulCard

/-- THE TIED CARD OF 'bywaylaw03.ProductInto'. -/
def productIntoCard : Claim7 := { stood := { row := productIntoRow, standIns := [], harness := (true, "7fc08c7a85d170a0b44d9b54fdb769c26238c08ee4578f9b4a8927441c33639d"), looks := false }, kinds := [], alts := [], laidByText := true, laidKinds := [.data], laidTests := true, laidLooks := .later }
def ProductIntoCardSaid : Prop := Claim7.holds Tryd.pinned (.plain (OpenSpec.ofChange productIntoSpec)) productIntoCard

/-- THE TIED CARD OF 'bywaylaw03.ProductChain'. -/
def productChainCard : Claim7 := { stood := { row := productChainRow, standIns := [], harness := (true, "7fc08c7a85d170a0b44d9b54fdb769c26238c08ee4578f9b4a8927441c33639d"), looks := false }, kinds := [], alts := [], laidByText := true, laidKinds := [.data], laidTests := true, laidLooks := .later }
def ProductChainCardSaid : Prop := Claim7.holds Tryd.pinned (.plain (OpenSpec.ofChange productChainSpec)) productChainCard

/-- THE TIED CARD OF 'bywaylaw03.ProductPower'. -/
def productPowerCard : Claim7 := { stood := { row := productPowerRow, standIns := [], harness := (true, "7fc08c7a85d170a0b44d9b54fdb769c26238c08ee4578f9b4a8927441c33639d"), looks := false }, kinds := [], alts := [], laidByText := true, laidKinds := [.data], laidTests := true, laidLooks := .later }
def ProductPowerCardSaid : Prop := Claim7.holds Tryd.pinned (.plain (OpenSpec.ofChange productPowerSpec)) productPowerCard

/-- THE TIED CARD OF 'bywaylaw03.ProductTurned'. -/
def productTurnedCard : Claim7 := { stood := { row := productTurnedRow, standIns := [], harness := (true, "7fc08c7a85d170a0b44d9b54fdb769c26238c08ee4578f9b4a8927441c33639d"), looks := false }, kinds := [], alts := [], laidByText := true, laidKinds := [.data], laidTests := true, laidLooks := .later }
def ProductTurnedCardSaid : Prop := Claim7.holds Tryd.pinned (.plain (OpenSpec.ofChange productTurnedSpec)) productTurnedCard

/-- THE TIED CARD OF 'bywaylaw03.ProductSteps'. -/
def productStepsCard : Claim7 := { stood := { row := productStepsRow, standIns := [], harness := (true, "7fc08c7a85d170a0b44d9b54fdb769c26238c08ee4578f9b4a8927441c33639d"), looks := false }, kinds := [], alts := [], laidByText := true, laidKinds := [.data], laidTests := true, laidLooks := .later }
def ProductStepsCardSaid : Prop := Claim7.holds Tryd.pinned (.plain (OpenSpec.ofChange productStepsSpec)) productStepsCard

/-- THE TIED CARD OF 'bywaylaw03.ProductRing'. -/
def productRingCard : Claim7 := { stood := { row := productRingRow, standIns := [], harness := (true, "7fc08c7a85d170a0b44d9b54fdb769c26238c08ee4578f9b4a8927441c33639d"), looks := false }, kinds := [], alts := [], laidByText := true, laidKinds := [.data], laidTests := true, laidLooks := .later }
def ProductRingCardSaid : Prop := Claim7.holds Tryd.pinned (.plain (OpenSpec.ofChange productRingSpec)) productRingCard

/-- THE SECOND FORM's CARD OF 'bywaylaw03.ProductMul'. -/
def productMulUptoCard : Claim7 := { stood := { row := productMulUptoRow, standIns := [], harness := (true, "7fc08c7a85d170a0b44d9b54fdb769c26238c08ee4578f9b4a8927441c33639d"), looks := false }, kinds := [], alts := [], laidByText := true, laidKinds := [.data], laidTests := true, laidLooks := .later }
def ProductMulUptoCardSaid : Prop := Claim7.holds Tryd.pinned (.plain (OpenSpec.upto productMulSpec)) productMulUptoCard

/-- THE SECOND FORM's CARD OF 'bywaylaw03.ProductInto'. -/
def productIntoUptoCard : Claim7 := { stood := { row := productIntoUptoRow, standIns := [], harness := (true, "7fc08c7a85d170a0b44d9b54fdb769c26238c08ee4578f9b4a8927441c33639d"), looks := false }, kinds := [], alts := [], laidByText := true, laidKinds := [.data], laidTests := true, laidLooks := .later }
def ProductIntoUptoCardSaid : Prop := Claim7.holds Tryd.pinned (.plain (OpenSpec.upto productIntoSpec)) productIntoUptoCard

/-- THE SECOND FORM's CARD OF 'bywaylaw03.ProductChain'. -/
def productChainUptoCard : Claim7 := { stood := { row := productChainUptoRow, standIns := [], harness := (true, "7fc08c7a85d170a0b44d9b54fdb769c26238c08ee4578f9b4a8927441c33639d"), looks := false }, kinds := [], alts := [], laidByText := true, laidKinds := [.data], laidTests := true, laidLooks := .later }
def ProductChainUptoCardSaid : Prop := Claim7.holds Tryd.pinned (.plain (OpenSpec.upto productChainSpec)) productChainUptoCard

/-- THE SECOND FORM's CARD OF 'bywaylaw03.ProductPower'. -/
def productPowerUptoCard : Claim7 := { stood := { row := productPowerUptoRow, standIns := [], harness := (true, "7fc08c7a85d170a0b44d9b54fdb769c26238c08ee4578f9b4a8927441c33639d"), looks := false }, kinds := [], alts := [], laidByText := true, laidKinds := [.data], laidTests := true, laidLooks := .later }
def ProductPowerUptoCardSaid : Prop := Claim7.holds Tryd.pinned (.plain (OpenSpec.upto productPowerSpec)) productPowerUptoCard

/-- THE SECOND FORM's CARD OF 'bywaylaw03.ProductTurned'. -/
def productTurnedUptoCard : Claim7 := { stood := { row := productTurnedUptoRow, standIns := [], harness := (true, "7fc08c7a85d170a0b44d9b54fdb769c26238c08ee4578f9b4a8927441c33639d"), looks := false }, kinds := [], alts := [], laidByText := true, laidKinds := [.data], laidTests := true, laidLooks := .later }
def ProductTurnedUptoCardSaid : Prop := Claim7.holds Tryd.pinned (.plain (OpenSpec.upto productTurnedSpec)) productTurnedUptoCard

/-- THE SECOND FORM's CARD OF 'bywaylaw03.ProductSteps'. -/
def productStepsUptoCard : Claim7 := { stood := { row := productStepsUptoRow, standIns := [], harness := (true, "7fc08c7a85d170a0b44d9b54fdb769c26238c08ee4578f9b4a8927441c33639d"), looks := false }, kinds := [], alts := [], laidByText := true, laidKinds := [.data], laidTests := true, laidLooks := .later }
def ProductStepsUptoCardSaid : Prop := Claim7.holds Tryd.pinned (.plain (OpenSpec.upto productStepsSpec)) productStepsUptoCard

/-- THE SECOND FORM's CARD OF 'bywaylaw03.ProductRing'. -/
def productRingUptoCard : Claim7 := { stood := { row := productRingUptoRow, standIns := [], harness := (true, "7fc08c7a85d170a0b44d9b54fdb769c26238c08ee4578f9b4a8927441c33639d"), looks := false }, kinds := [], alts := [], laidByText := true, laidKinds := [.data], laidTests := true, laidLooks := .later }
def ProductRingUptoCardSaid : Prop := Claim7.holds Tryd.pinned (.plain (OpenSpec.upto productRingSpec)) productRingUptoCard
end Rows
end Go.Proofs.YtpemblhbfafmpaaDoor
