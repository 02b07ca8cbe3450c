/-
  No cell of these rows narrows 'for every input' (looked for: loops, veiled, ifaces, maps, wideKeys, modest, calm, conditions, laid).
  DERIVED. THE GIVEN ROWS OF THIS SEAT. 6 by the template 'for every input the law returns true; each argument reads behind the call as it read before'; 0 by the template 'total and deterministic' (their statements: YtcemehocbemfmaaTotals.lean).
  GIVEN WITH THE SEED: the statements are not yours to turn. If you find one false, say at which input.
  Laid BY PROGRAM, IN A SANDBOX (cutbox-rows.mjs): the forced cells as the released guide's own fill.sh prints them over the translation ee3b2781b070de07… (all of the seat's roots in one cut). By AI agents, Wed Nov 11 2026. No macro, syntax, notation, axiom, sorry.
-/
import Derived.Test.YtcemehocbemfmaaChecked
import GoSem.Claim
import GoSem.ClaimJoined
import GoSem.ClaimMapViews
import Derived.JoinedTies
import Derived.KernelRfl
namespace Go.Proofs.Ytcemehocbemfmaa
/- THE CELL 'sum', in the pinned program and in every row, IS THE sha256 OF THE DUMP (.gsa) THAT YtcemehocbemfmaaProg.lean LOADS. Nothing in Lean hashes anything: it is a label: what it is worth is what the hold of that sum in a sandbox is worth. -/
noncomputable def Try.pinned : Pinned := { name := "ytcemehocbemfmaa", sum := "ee3b2781b070de076640383bf482d658fb995c5752f0e11078b3f47816b1cdaa", checked := Try.checked }
namespace Rows
def none {H : Type} : Left H := { results := [], args := [] }

/-- 'bywaylaw13.LeastTells': WHATEVER THE INPUT: true; the input reads as it did. -/
def leastTellsSpec : ChangeSpec := { name := "leastTells", fn := fun _ => fun
  | [d] => { results := [.lit (.bool true)], args := [d] }
  | _ => none }
def leastTellsRow : OpenClaim := { program := "ytcemehocbemfmaa", sum := "ee3b2781b070de076640383bf482d658fb995c5752f0e11078b3f47816b1cdaa", func := "byway/bywaylaw13.LeastTells", spec := "leastTells", unfollowed := true, recurses := true, apart := false }
def LeastTellsSaid : Prop := leastTellsRow.holds Try.pinned (OpenSpec.ofChange leastTellsSpec)

/-- ITS FALSE NEIGHBOUR: 'it returns false'. Refute it at one input. -/
def leastTellsWrong : ChangeSpec := { name := "leastTells", fn := fun _ => fun
  | [d] => { results := [.lit (.bool false)], args := [d] }
  | _ => none }
def LeastTellsWrongFalsely : Prop := leastTellsRow.holds Try.pinned (OpenSpec.ofChange leastTellsWrong)

/-- 'bywaylaw13.LeastGoes': WHATEVER THE INPUT: true; the input reads as it did. -/
def leastGoesSpec : ChangeSpec := { name := "leastGoes", fn := fun _ => fun
  | [d] => { results := [.lit (.bool true)], args := [d] }
  | _ => none }
def leastGoesRow : OpenClaim := { program := "ytcemehocbemfmaa", sum := "ee3b2781b070de076640383bf482d658fb995c5752f0e11078b3f47816b1cdaa", func := "byway/bywaylaw13.LeastGoes", spec := "leastGoes", unfollowed := true, recurses := true, apart := false }
def LeastGoesSaid : Prop := leastGoesRow.holds Try.pinned (OpenSpec.ofChange leastGoesSpec)

/-- ITS FALSE NEIGHBOUR: 'it returns false'. Refute it at one input. -/
def leastGoesWrong : ChangeSpec := { name := "leastGoes", fn := fun _ => fun
  | [d] => { results := [.lit (.bool false)], args := [d] }
  | _ => none }
def LeastGoesWrongFalsely : Prop := leastGoesRow.holds Try.pinned (OpenSpec.ofChange leastGoesWrong)

/-- 'bywaylaw13.LeastUsed': WHATEVER THE INPUT: true; the input reads as it did. -/
def leastUsedSpec : ChangeSpec := { name := "leastUsed", fn := fun _ => fun
  | [d1, d2] => { results := [.lit (.bool true)], args := [d1, d2] }
  | _ => none }
def leastUsedRow : OpenClaim := { program := "ytcemehocbemfmaa", sum := "ee3b2781b070de076640383bf482d658fb995c5752f0e11078b3f47816b1cdaa", func := "byway/bywaylaw13.LeastUsed", spec := "leastUsed", unfollowed := true, recurses := true, apart := false }
def LeastUsedSaid : Prop := leastUsedRow.holds Try.pinned (OpenSpec.ofChange leastUsedSpec)

/-- ITS FALSE NEIGHBOUR: 'it returns false'. Refute it at one input. -/
def leastUsedWrong : ChangeSpec := { name := "leastUsed", fn := fun _ => fun
  | [d1, d2] => { results := [.lit (.bool false)], args := [d1, d2] }
  | _ => none }
def LeastUsedWrongFalsely : Prop := leastUsedRow.holds Try.pinned (OpenSpec.ofChange leastUsedWrong)

/-- 'bywaylaw13.LeastCleans': WHATEVER THE INPUT: true; the input reads as it did. -/
def leastCleansSpec : ChangeSpec := { name := "leastCleans", fn := fun _ => fun
  | [d1, d2] => { results := [.lit (.bool true)], args := [d1, d2] }
  | _ => none }
def leastCleansRow : OpenClaim := { program := "ytcemehocbemfmaa", sum := "ee3b2781b070de076640383bf482d658fb995c5752f0e11078b3f47816b1cdaa", func := "byway/bywaylaw13.LeastCleans", spec := "leastCleans", unfollowed := true, recurses := true, apart := false }
def LeastCleansSaid : Prop := leastCleansRow.holds Try.pinned (OpenSpec.ofChange leastCleansSpec)

/-- ITS FALSE NEIGHBOUR: 'it returns false'. Refute it at one input. -/
def leastCleansWrong : ChangeSpec := { name := "leastCleans", fn := fun _ => fun
  | [d1, d2] => { results := [.lit (.bool false)], args := [d1, d2] }
  | _ => none }
def LeastCleansWrongFalsely : Prop := leastCleansRow.holds Try.pinned (OpenSpec.ofChange leastCleansWrong)

/-- 'bywaylaw13.LeastWithout': WHATEVER THE INPUT: true; the input reads as it did. -/
def leastWithoutSpec : ChangeSpec := { name := "leastWithout", fn := fun _ => fun
  | [d] => { results := [.lit (.bool true)], args := [d] }
  | _ => none }
def leastWithoutRow : OpenClaim := { program := "ytcemehocbemfmaa", sum := "ee3b2781b070de076640383bf482d658fb995c5752f0e11078b3f47816b1cdaa", func := "byway/bywaylaw13.LeastWithout", spec := "leastWithout", unfollowed := true, recurses := true, apart := false }
def LeastWithoutSaid : Prop := leastWithoutRow.holds Try.pinned (OpenSpec.ofChange leastWithoutSpec)

/-- ITS FALSE NEIGHBOUR: 'it returns false'. Refute it at one input. -/
def leastWithoutWrong : ChangeSpec := { name := "leastWithout", fn := fun _ => fun
  | [d] => { results := [.lit (.bool false)], args := [d] }
  | _ => none }
def LeastWithoutWrongFalsely : Prop := leastWithoutRow.holds Try.pinned (OpenSpec.ofChange leastWithoutWrong)

/-- 'bywaylaw13.LeastLeaves': WHATEVER THE INPUT: true; the input reads as it did. -/
def leastLeavesSpec : ChangeSpec := { name := "leastLeaves", fn := fun _ => fun
  | [d] => { results := [.lit (.bool true)], args := [d] }
  | _ => none }
def leastLeavesRow : OpenClaim := { program := "ytcemehocbemfmaa", sum := "ee3b2781b070de076640383bf482d658fb995c5752f0e11078b3f47816b1cdaa", func := "byway/bywaylaw13.LeastLeaves", spec := "leastLeaves", unfollowed := true, recurses := true, apart := false }
def LeastLeavesSaid : Prop := leastLeavesRow.holds Try.pinned (OpenSpec.ofChange leastLeavesSpec)

/-- ITS FALSE NEIGHBOUR: 'it returns false'. Refute it at one input. -/
def leastLeavesWrong : ChangeSpec := { name := "leastLeaves", fn := fun _ => fun
  | [d] => { results := [.lit (.bool false)], args := [d] }
  | _ => none }
def LeastLeavesWrongFalsely : Prop := leastLeavesRow.holds Try.pinned (OpenSpec.ofChange leastLeavesWrong)

/- THE SECOND FORM. 'bulk': how many values and letters a reading holds, each counted each time it is reached (what is shared counts as often as it is met; a slice's spare places count too). A statement '..UptoSaid' is the law's where the arguments, and the package variables that the reading takes, are together of bulk at most 1048576: NARROWER than '..Said'. Prove '..Said' where nothing that the law and all that it calls make is longer than what came in: it says more and counts as full. Else prove '..UptoSaid'. A law counts once. -/
mutual
def uptoBulk {H : Type} : DataW H → Nat
  | .lit (.string bytes) => bytes.length + 1
  | .lit _ => 1
  | .nil => 1
  | .ptr d => uptoBulk d + 1
  | .slice elems spare => uptoBulkAll elems + uptoBulkAll spare + 1
  | .agg parts => uptoBulkAll parts + 1
  | .iface _ d => uptoBulk d + 1
  | .map entries => uptoBulkEntries entries + 1
  | .held _ => 1
def uptoBulkAll {H : Type} : List (DataW H) → Nat
  | [] => 0
  | d :: r => uptoBulk d + uptoBulkAll r
def uptoBulkEntries {H : Type} : List (Lit × DataW H) → Nat
  | [] => 0
  | x :: r => uptoBulkEntry x + uptoBulkEntries r
def uptoBulkEntry {H : Type} : Lit × DataW H → Nat
  | (.string bytes, d) => bytes.length + uptoBulk d + 1
  | (_, d) => uptoBulk d + 1
 end
def uptoSmall : (H : Type) → List (DataW H) → Bool := fun _ ds => decide (uptoBulkAll ds ≤ 1048576)
def OpenSpec.upto (s : _root_.Go.ChangeSpec) : _root_.Go.OpenSpec := { _root_.Go.OpenSpec.ofChange s with cond := some uptoSmall }

/-- 'bywaylaw13.LeastTells', WHERE WHAT IT READS IS OF BULK AT MOST 1048576: true; the input reads as it did. -/
def leastTellsUptoRow : OpenClaim := { program := "ytcemehocbemfmaa", sum := "ee3b2781b070de076640383bf482d658fb995c5752f0e11078b3f47816b1cdaa", func := "byway/bywaylaw13.LeastTells", spec := "leastTells", unfollowed := true, recurses := true, apart := false, narrowed := true }
def LeastTellsUptoSaid : Prop := leastTellsUptoRow.holds Try.pinned (OpenSpec.upto leastTellsSpec)

/-- 'bywaylaw13.LeastGoes', WHERE WHAT IT READS IS OF BULK AT MOST 1048576: true; the input reads as it did. -/
def leastGoesUptoRow : OpenClaim := { program := "ytcemehocbemfmaa", sum := "ee3b2781b070de076640383bf482d658fb995c5752f0e11078b3f47816b1cdaa", func := "byway/bywaylaw13.LeastGoes", spec := "leastGoes", unfollowed := true, recurses := true, apart := false, narrowed := true }
def LeastGoesUptoSaid : Prop := leastGoesUptoRow.holds Try.pinned (OpenSpec.upto leastGoesSpec)

/-- 'bywaylaw13.LeastUsed', WHERE WHAT IT READS IS OF BULK AT MOST 1048576: true; the input reads as it did. -/
def leastUsedUptoRow : OpenClaim := { program := "ytcemehocbemfmaa", sum := "ee3b2781b070de076640383bf482d658fb995c5752f0e11078b3f47816b1cdaa", func := "byway/bywaylaw13.LeastUsed", spec := "leastUsed", unfollowed := true, recurses := true, apart := false, narrowed := true }
def LeastUsedUptoSaid : Prop := leastUsedUptoRow.holds Try.pinned (OpenSpec.upto leastUsedSpec)

/-- 'bywaylaw13.LeastCleans', WHERE WHAT IT READS IS OF BULK AT MOST 1048576: true; the input reads as it did. -/
def leastCleansUptoRow : OpenClaim := { program := "ytcemehocbemfmaa", sum := "ee3b2781b070de076640383bf482d658fb995c5752f0e11078b3f47816b1cdaa", func := "byway/bywaylaw13.LeastCleans", spec := "leastCleans", unfollowed := true, recurses := true, apart := false, narrowed := true }
def LeastCleansUptoSaid : Prop := leastCleansUptoRow.holds Try.pinned (OpenSpec.upto leastCleansSpec)

/-- 'bywaylaw13.LeastWithout', WHERE WHAT IT READS IS OF BULK AT MOST 1048576: true; the input reads as it did. -/
def leastWithoutUptoRow : OpenClaim := { program := "ytcemehocbemfmaa", sum := "ee3b2781b070de076640383bf482d658fb995c5752f0e11078b3f47816b1cdaa", func := "byway/bywaylaw13.LeastWithout", spec := "leastWithout", unfollowed := true, recurses := true, apart := false, narrowed := true }
def LeastWithoutUptoSaid : Prop := leastWithoutUptoRow.holds Try.pinned (OpenSpec.upto leastWithoutSpec)

/-- 'bywaylaw13.LeastLeaves', WHERE WHAT IT READS IS OF BULK AT MOST 1048576: true; the input reads as it did. -/
def leastLeavesUptoRow : OpenClaim := { program := "ytcemehocbemfmaa", sum := "ee3b2781b070de076640383bf482d658fb995c5752f0e11078b3f47816b1cdaa", func := "byway/bywaylaw13.LeastLeaves", spec := "leastLeaves", unfollowed := true, recurses := true, apart := false, narrowed := true }
def LeastLeavesUptoSaid : Prop := leastLeavesUptoRow.holds Try.pinned (OpenSpec.upto leastLeavesSpec)

end Rows
end Go.Proofs.Ytcemehocbemfmaa
