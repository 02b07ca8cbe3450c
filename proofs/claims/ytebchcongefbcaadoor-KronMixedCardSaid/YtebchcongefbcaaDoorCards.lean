/-
  DERIVED. GIVEN WITH THE SEED: THE CARDS: each row of YtebchcongefbcaaDoorRows.lean that lists a variable, with what it lists TIED to the program's text (the seventh form; the later family's looks); each row that meets fmt, with fmt's text TOLD by the authors' own Lean function (tested against real Go, not proved from fmt's source: count such statements apart). THE CARD IS WHAT COUNTS. Prove the row's statement (the work); the ties are given (YtebchcongefbcaaDoorTie.lean); close each card by the builder's one call (the guide's Derived/Test/ToyasCard.lean, 'card_holds'). Laid BY PROGRAM, IN A SANDBOX (cutbox-door.mjs). By AI agents, Wed Nov 11 2026. No macro, syntax, notation, axiom, sorry.
-/
import Derived.Test.YtebchcongefbcaaDoorRows
import GoSem.ClaimSeven
namespace Go.Proofs.YtebchcongefbcaaDoor
namespace Rows

/-- THE TIED CARD OF 'bywaylaw04.KronProduct'. -/
def kronProductCard : Claim7 := { stood := { row := kronProductRow, standIns := [], harness := (true, "f8c2a064e16a15fb56e96679423a71dce258dcf61a4423395afdd39cbb87e6a5"), looks := false }, kinds := [], alts := [], laidByText := true, laidKinds := [.data], laidTests := true, laidLooks := .later }
def KronProductCardSaid : Prop := Claim7.holds Tryd.pinned (.plain (OpenSpec.ofChange kronProductSpec)) kronProductCard

/-- THE TIED CARD OF 'bywaylaw04.KronInto'. -/
def kronIntoCard : Claim7 := { stood := { row := kronIntoRow, standIns := [], harness := (true, "f8c2a064e16a15fb56e96679423a71dce258dcf61a4423395afdd39cbb87e6a5"), looks := false }, kinds := [], alts := [], laidByText := true, laidKinds := [.data], laidTests := true, laidLooks := .later }
def KronIntoCardSaid : Prop := Claim7.holds Tryd.pinned (.plain (OpenSpec.ofChange kronIntoSpec)) kronIntoCard

/-- THE TIED CARD OF 'bywaylaw04.KronTaken'. -/
def kronTakenCard : Claim7 := { stood := { row := kronTakenRow, standIns := [], harness := (true, "f8c2a064e16a15fb56e96679423a71dce258dcf61a4423395afdd39cbb87e6a5"), looks := false }, kinds := [], alts := [], laidByText := true, laidKinds := [.data], laidTests := true, laidLooks := .later }
def KronTakenCardSaid : Prop := Claim7.holds Tryd.pinned (.plain (OpenSpec.ofChange kronTakenSpec)) kronTakenCard

/-- THE TIED CARD OF 'bywaylaw04.KronBack'. -/
def kronBackCard : Claim7 := { stood := { row := kronBackRow, standIns := [], harness := (true, "f8c2a064e16a15fb56e96679423a71dce258dcf61a4423395afdd39cbb87e6a5"), looks := false }, kinds := [], alts := [], laidByText := true, laidKinds := [.data], laidTests := true, laidLooks := .later }
def KronBackCardSaid : Prop := Claim7.holds Tryd.pinned (.plain (OpenSpec.ofChange kronBackSpec)) kronBackCard

/-- THE TIED CARD OF 'bywaylaw04.KronMixed'. -/
def kronMixedCard : Claim7 := { stood := { row := kronMixedRow, standIns := [], harness := (true, "f8c2a064e16a15fb56e96679423a71dce258dcf61a4423395afdd39cbb87e6a5"), looks := false }, kinds := [], alts := [], laidByText := true, laidKinds := [.data], laidTests := true, laidLooks := .later }
def KronMixedCardSaid : Prop := Claim7.holds Tryd.pinned (.plain (OpenSpec.ofChange kronMixedSpec)) kronMixedCard

/-- THE SECOND FORM's CARD OF 'bywaylaw04.KronProduct'. -/
def kronProductUptoCard : Claim7 := { stood := { row := kronProductUptoRow, standIns := [], harness := (true, "f8c2a064e16a15fb56e96679423a71dce258dcf61a4423395afdd39cbb87e6a5"), looks := false }, kinds := [], alts := [], laidByText := true, laidKinds := [.data], laidTests := true, laidLooks := .later }
def KronProductUptoCardSaid : Prop := Claim7.holds Tryd.pinned (.plain (OpenSpec.upto kronProductSpec)) kronProductUptoCard

/-- THE SECOND FORM's CARD OF 'bywaylaw04.KronInto'. -/
def kronIntoUptoCard : Claim7 := { stood := { row := kronIntoUptoRow, standIns := [], harness := (true, "f8c2a064e16a15fb56e96679423a71dce258dcf61a4423395afdd39cbb87e6a5"), looks := false }, kinds := [], alts := [], laidByText := true, laidKinds := [.data], laidTests := true, laidLooks := .later }
def KronIntoUptoCardSaid : Prop := Claim7.holds Tryd.pinned (.plain (OpenSpec.upto kronIntoSpec)) kronIntoUptoCard

/-- THE SECOND FORM's CARD OF 'bywaylaw04.KronTaken'. -/
def kronTakenUptoCard : Claim7 := { stood := { row := kronTakenUptoRow, standIns := [], harness := (true, "f8c2a064e16a15fb56e96679423a71dce258dcf61a4423395afdd39cbb87e6a5"), looks := false }, kinds := [], alts := [], laidByText := true, laidKinds := [.data], laidTests := true, laidLooks := .later }
def KronTakenUptoCardSaid : Prop := Claim7.holds Tryd.pinned (.plain (OpenSpec.upto kronTakenSpec)) kronTakenUptoCard

/-- THE SECOND FORM's CARD OF 'bywaylaw04.KronBack'. -/
def kronBackUptoCard : Claim7 := { stood := { row := kronBackUptoRow, standIns := [], harness := (true, "f8c2a064e16a15fb56e96679423a71dce258dcf61a4423395afdd39cbb87e6a5"), looks := false }, kinds := [], alts := [], laidByText := true, laidKinds := [.data], laidTests := true, laidLooks := .later }
def KronBackUptoCardSaid : Prop := Claim7.holds Tryd.pinned (.plain (OpenSpec.upto kronBackSpec)) kronBackUptoCard

/-- THE SECOND FORM's CARD OF 'bywaylaw04.KronMixed'. -/
def kronMixedUptoCard : Claim7 := { stood := { row := kronMixedUptoRow, standIns := [], harness := (true, "f8c2a064e16a15fb56e96679423a71dce258dcf61a4423395afdd39cbb87e6a5"), looks := false }, kinds := [], alts := [], laidByText := true, laidKinds := [.data], laidTests := true, laidLooks := .later }
def KronMixedUptoCardSaid : Prop := Claim7.holds Tryd.pinned (.plain (OpenSpec.upto kronMixedSpec)) kronMixedUptoCard
end Rows
end Go.Proofs.YtebchcongefbcaaDoor
