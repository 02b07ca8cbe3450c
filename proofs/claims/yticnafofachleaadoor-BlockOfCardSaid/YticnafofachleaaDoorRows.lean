/-
  NARROWER THAN 'FOR EVERY INPUT', by the rows' own cells (each row's printed sentence says how): BlockOf: laid · BlockProducts: laid · BlockRing: laid · BlockTurned: laid · BlockLeast: laid.
  DERIVED. THE GIVEN ROWS OF THIS SEAT. 5 by the template 'for every input the law returns true; each argument reads behind the call as it read before'; 0 by the template 'total and deterministic' (their statements: YticnafofachleaaDoorTotals.lean).
  GIVEN WITH THE SEED: the statements are not yours to turn. If you find one false, say at which input.
  Laid BY PROGRAM, IN A SANDBOX (cutbox-rows.mjs): the forced cells as the released guide's own fill.sh prints them over the translation 8ffb6f2d96d5ee18… (all of the seat's roots in one cut). By AI agents, Wed Nov 11 2026. No macro, syntax, notation, axiom, sorry.
-/
import Derived.Test.YticnafofachleaaDoorChecked
import GoSem.Claim
import GoSem.ClaimJoined
import GoSem.ClaimMapViews
import Derived.JoinedTies
import Derived.KernelRfl
namespace Go.Proofs.YticnafofachleaaDoor
/- THE CELL 'sum', in the pinned program and in every row, IS THE sha256 OF THE DUMP (.gsa) THAT YticnafofachleaaDoorProg.lean LOADS. Nothing in Lean hashes anything: it is a label: what it is worth is what the hold of that sum in a sandbox is worth. -/
noncomputable def Tryd.pinned : Pinned := { name := "yticnafofachleaadoor", sum := "8ffb6f2d96d5ee1891c3291ba5f4759f7d62cb0195cac2235f7385322427c5b4", checked := Tryd.checked }
namespace Rows
def none {H : Type} : Left H := { results := [], args := [] }

/- WHAT THE LISTED PACKAGE-LEVEL VARIABLES READ AS WHEN THE CALL BEGINS. Each datum BY PROGRAM (the guide's laid-datum.mjs) off the statement by which the dump's own 'gosem.cut.vars' lays the variable. In a bare row this is a premise. The card (YticnafofachleaaDoorCards.lean) ties it to the program's text. -/
def laid_math_bits_deBruijn64tab {H : Type} : DataW H := .agg [.lit (.int .u8 0), .lit (.int .u8 1), .lit (.int .u8 56), .lit (.int .u8 2), .lit (.int .u8 57), .lit (.int .u8 49), .lit (.int .u8 28), .lit (.int .u8 3), .lit (.int .u8 61), .lit (.int .u8 58), .lit (.int .u8 42), .lit (.int .u8 50), .lit (.int .u8 38), .lit (.int .u8 29), .lit (.int .u8 17), .lit (.int .u8 4), .lit (.int .u8 62), .lit (.int .u8 47), .lit (.int .u8 59), .lit (.int .u8 36), .lit (.int .u8 45), .lit (.int .u8 43), .lit (.int .u8 51), .lit (.int .u8 22), .lit (.int .u8 53), .lit (.int .u8 39), .lit (.int .u8 33), .lit (.int .u8 30), .lit (.int .u8 24), .lit (.int .u8 18), .lit (.int .u8 12), .lit (.int .u8 5), .lit (.int .u8 63), .lit (.int .u8 55), .lit (.int .u8 48), .lit (.int .u8 27), .lit (.int .u8 60), .lit (.int .u8 41), .lit (.int .u8 37), .lit (.int .u8 16), .lit (.int .u8 46), .lit (.int .u8 35), .lit (.int .u8 44), .lit (.int .u8 21), .lit (.int .u8 52), .lit (.int .u8 32), .lit (.int .u8 23), .lit (.int .u8 11), .lit (.int .u8 54), .lit (.int .u8 26), .lit (.int .u8 40), .lit (.int .u8 15), .lit (.int .u8 34), .lit (.int .u8 20), .lit (.int .u8 31), .lit (.int .u8 10), .lit (.int .u8 25), .lit (.int .u8 14), .lit (.int .u8 19), .lit (.int .u8 9), .lit (.int .u8 13), .lit (.int .u8 8), .lit (.int .u8 7), .lit (.int .u8 6)]

/-- 'bywaylaw01.BlockOf': WHATEVER THE INPUT: true; the input reads as it did. -/
def blockOfSpec : ChangeSpec := { name := "blockOf", fn := fun _ => fun
  | [d1, d2] => { results := [.lit (.bool true)], args := [d1, d2] }
  | _ => none }
def blockOfRow : OpenClaim := { program := "yticnafofachleaadoor", sum := "8ffb6f2d96d5ee1891c3291ba5f4759f7d62cb0195cac2235f7385322427c5b4", func := "byway/bywaylaw01.BlockOf", spec := "blockOf", unfollowed := true, recurses := true, named := ["math/bits.deBruijn64tab"], apart := false, laid := [("math/bits.deBruijn64tab", laid_math_bits_deBruijn64tab)] }
def BlockOfSaid : Prop := blockOfRow.holds Tryd.pinned (OpenSpec.ofChange blockOfSpec)

/-- ITS FALSE NEIGHBOUR: 'it returns false'. Refute it at one input. -/
def blockOfWrong : ChangeSpec := { name := "blockOf", fn := fun _ => fun
  | [d1, d2] => { results := [.lit (.bool false)], args := [d1, d2] }
  | _ => none }
def BlockOfWrongFalsely : Prop := blockOfRow.holds Tryd.pinned (OpenSpec.ofChange blockOfWrong)

/-- 'bywaylaw01.BlockProducts': WHATEVER THE INPUT: true; the input reads as it did. -/
def blockProductsSpec : ChangeSpec := { name := "blockProducts", fn := fun _ => fun
  | [d1, d2] => { results := [.lit (.bool true)], args := [d1, d2] }
  | _ => none }
def blockProductsRow : OpenClaim := { program := "yticnafofachleaadoor", sum := "8ffb6f2d96d5ee1891c3291ba5f4759f7d62cb0195cac2235f7385322427c5b4", func := "byway/bywaylaw01.BlockProducts", spec := "blockProducts", named := ["math/bits.deBruijn64tab"], apart := false, laid := [("math/bits.deBruijn64tab", laid_math_bits_deBruijn64tab)] }
def BlockProductsSaid : Prop := blockProductsRow.holds Tryd.pinned (OpenSpec.ofChange blockProductsSpec)

/-- ITS FALSE NEIGHBOUR: 'it returns false'. Refute it at one input. -/
def blockProductsWrong : ChangeSpec := { name := "blockProducts", fn := fun _ => fun
  | [d1, d2] => { results := [.lit (.bool false)], args := [d1, d2] }
  | _ => none }
def BlockProductsWrongFalsely : Prop := blockProductsRow.holds Tryd.pinned (OpenSpec.ofChange blockProductsWrong)

/-- 'bywaylaw01.BlockRing': WHATEVER THE INPUT: true; the input reads as it did. -/
def blockRingSpec : ChangeSpec := { name := "blockRing", fn := fun _ => fun
  | [d1, d2, d3] => { results := [.lit (.bool true)], args := [d1, d2, d3] }
  | _ => none }
def blockRingRow : OpenClaim := { program := "yticnafofachleaadoor", sum := "8ffb6f2d96d5ee1891c3291ba5f4759f7d62cb0195cac2235f7385322427c5b4", func := "byway/bywaylaw01.BlockRing", spec := "blockRing", named := ["math/bits.deBruijn64tab"], apart := false, laid := [("math/bits.deBruijn64tab", laid_math_bits_deBruijn64tab)] }
def BlockRingSaid : Prop := blockRingRow.holds Tryd.pinned (OpenSpec.ofChange blockRingSpec)

/-- ITS FALSE NEIGHBOUR: 'it returns false'. Refute it at one input. -/
def blockRingWrong : ChangeSpec := { name := "blockRing", fn := fun _ => fun
  | [d1, d2, d3] => { results := [.lit (.bool false)], args := [d1, d2, d3] }
  | _ => none }
def BlockRingWrongFalsely : Prop := blockRingRow.holds Tryd.pinned (OpenSpec.ofChange blockRingWrong)

/-- 'bywaylaw01.BlockTurned': WHATEVER THE INPUT: true; the input reads as it did. -/
def blockTurnedSpec : ChangeSpec := { name := "blockTurned", fn := fun _ => fun
  | [d1, d2] => { results := [.lit (.bool true)], args := [d1, d2] }
  | _ => none }
def blockTurnedRow : OpenClaim := { program := "yticnafofachleaadoor", sum := "8ffb6f2d96d5ee1891c3291ba5f4759f7d62cb0195cac2235f7385322427c5b4", func := "byway/bywaylaw01.BlockTurned", spec := "blockTurned", named := ["math/bits.deBruijn64tab"], apart := false, laid := [("math/bits.deBruijn64tab", laid_math_bits_deBruijn64tab)] }
def BlockTurnedSaid : Prop := blockTurnedRow.holds Tryd.pinned (OpenSpec.ofChange blockTurnedSpec)

/-- ITS FALSE NEIGHBOUR: 'it returns false'. Refute it at one input. -/
def blockTurnedWrong : ChangeSpec := { name := "blockTurned", fn := fun _ => fun
  | [d1, d2] => { results := [.lit (.bool false)], args := [d1, d2] }
  | _ => none }
def BlockTurnedWrongFalsely : Prop := blockTurnedRow.holds Tryd.pinned (OpenSpec.ofChange blockTurnedWrong)

/-- 'bywaylaw01.BlockLeast': WHATEVER THE INPUT: true; the input reads as it did. -/
def blockLeastSpec : ChangeSpec := { name := "blockLeast", fn := fun _ => fun
  | [d1, d2] => { results := [.lit (.bool true)], args := [d1, d2] }
  | _ => none }
def blockLeastRow : OpenClaim := { program := "yticnafofachleaadoor", sum := "8ffb6f2d96d5ee1891c3291ba5f4759f7d62cb0195cac2235f7385322427c5b4", func := "byway/bywaylaw01.BlockLeast", spec := "blockLeast", named := ["math/bits.deBruijn64tab"], apart := false, laid := [("math/bits.deBruijn64tab", laid_math_bits_deBruijn64tab)] }
def BlockLeastSaid : Prop := blockLeastRow.holds Tryd.pinned (OpenSpec.ofChange blockLeastSpec)

/-- ITS FALSE NEIGHBOUR: 'it returns false'. Refute it at one input. -/
def blockLeastWrong : ChangeSpec := { name := "blockLeast", fn := fun _ => fun
  | [d1, d2] => { results := [.lit (.bool false)], args := [d1, d2] }
  | _ => none }
def BlockLeastWrongFalsely : Prop := blockLeastRow.holds Tryd.pinned (OpenSpec.ofChange blockLeastWrong)

/- THE SECOND FORM. 'bulk': how many values and letters a reading holds, each counted each time it is reached (what is shared counts as often as it is met; a slice's spare places count too). A statement '..UptoSaid' is the law's where the arguments, and the package variables that the reading takes, are together of bulk at most 1048576: NARROWER than '..Said'. Prove '..Said' where nothing that the law and all that it calls make is longer than what came in: it says more and counts as full. Else prove '..UptoSaid'. A law counts once. -/
mutual
def uptoBulk {H : Type} : DataW H → Nat
  | .lit (.string bytes) => bytes.length + 1
  | .lit _ => 1
  | .nil => 1
  | .ptr d => uptoBulk d + 1
  | .slice elems spare => uptoBulkAll elems + uptoBulkAll spare + 1
  | .agg parts => uptoBulkAll parts + 1
  | .iface _ d => uptoBulk d + 1
  | .map entries => uptoBulkEntries entries + 1
  | .held _ => 1
def uptoBulkAll {H : Type} : List (DataW H) → Nat
  | [] => 0
  | d :: r => uptoBulk d + uptoBulkAll r
def uptoBulkEntries {H : Type} : List (Lit × DataW H) → Nat
  | [] => 0
  | x :: r => uptoBulkEntry x + uptoBulkEntries r
def uptoBulkEntry {H : Type} : Lit × DataW H → Nat
  | (.string bytes, d) => bytes.length + uptoBulk d + 1
  | (_, d) => uptoBulk d + 1
 end
def uptoSmall : (H : Type) → List (DataW H) → Bool := fun _ ds => decide (uptoBulkAll ds ≤ 1048576)
def OpenSpec.upto (s : _root_.Go.ChangeSpec) : _root_.Go.OpenSpec := { _root_.Go.OpenSpec.ofChange s with cond := some uptoSmall }

/-- 'bywaylaw01.BlockOf', WHERE WHAT IT READS IS OF BULK AT MOST 1048576: true; the input reads as it did. -/
def blockOfUptoRow : OpenClaim := { program := "yticnafofachleaadoor", sum := "8ffb6f2d96d5ee1891c3291ba5f4759f7d62cb0195cac2235f7385322427c5b4", func := "byway/bywaylaw01.BlockOf", spec := "blockOf", unfollowed := true, recurses := true, named := ["math/bits.deBruijn64tab"], apart := false, laid := [("math/bits.deBruijn64tab", laid_math_bits_deBruijn64tab)], narrowed := true }
def BlockOfUptoSaid : Prop := blockOfUptoRow.holds Tryd.pinned (OpenSpec.upto blockOfSpec)

/-- 'bywaylaw01.BlockProducts', WHERE WHAT IT READS IS OF BULK AT MOST 1048576: true; the input reads as it did. -/
def blockProductsUptoRow : OpenClaim := { program := "yticnafofachleaadoor", sum := "8ffb6f2d96d5ee1891c3291ba5f4759f7d62cb0195cac2235f7385322427c5b4", func := "byway/bywaylaw01.BlockProducts", spec := "blockProducts", named := ["math/bits.deBruijn64tab"], apart := false, laid := [("math/bits.deBruijn64tab", laid_math_bits_deBruijn64tab)], narrowed := true }
def BlockProductsUptoSaid : Prop := blockProductsUptoRow.holds Tryd.pinned (OpenSpec.upto blockProductsSpec)

/-- 'bywaylaw01.BlockRing', WHERE WHAT IT READS IS OF BULK AT MOST 1048576: true; the input reads as it did. -/
def blockRingUptoRow : OpenClaim := { program := "yticnafofachleaadoor", sum := "8ffb6f2d96d5ee1891c3291ba5f4759f7d62cb0195cac2235f7385322427c5b4", func := "byway/bywaylaw01.BlockRing", spec := "blockRing", named := ["math/bits.deBruijn64tab"], apart := false, laid := [("math/bits.deBruijn64tab", laid_math_bits_deBruijn64tab)], narrowed := true }
def BlockRingUptoSaid : Prop := blockRingUptoRow.holds Tryd.pinned (OpenSpec.upto blockRingSpec)

/-- 'bywaylaw01.BlockTurned', WHERE WHAT IT READS IS OF BULK AT MOST 1048576: true; the input reads as it did. -/
def blockTurnedUptoRow : OpenClaim := { program := "yticnafofachleaadoor", sum := "8ffb6f2d96d5ee1891c3291ba5f4759f7d62cb0195cac2235f7385322427c5b4", func := "byway/bywaylaw01.BlockTurned", spec := "blockTurned", named := ["math/bits.deBruijn64tab"], apart := false, laid := [("math/bits.deBruijn64tab", laid_math_bits_deBruijn64tab)], narrowed := true }
def BlockTurnedUptoSaid : Prop := blockTurnedUptoRow.holds Tryd.pinned (OpenSpec.upto blockTurnedSpec)

/-- 'bywaylaw01.BlockLeast', WHERE WHAT IT READS IS OF BULK AT MOST 1048576: true; the input reads as it did. -/
def blockLeastUptoRow : OpenClaim := { program := "yticnafofachleaadoor", sum := "8ffb6f2d96d5ee1891c3291ba5f4759f7d62cb0195cac2235f7385322427c5b4", func := "byway/bywaylaw01.BlockLeast", spec := "blockLeast", named := ["math/bits.deBruijn64tab"], apart := false, laid := [("math/bits.deBruijn64tab", laid_math_bits_deBruijn64tab)], narrowed := true }
def BlockLeastUptoSaid : Prop := blockLeastUptoRow.holds Tryd.pinned (OpenSpec.upto blockLeastSpec)

end Rows
end Go.Proofs.YticnafofachleaaDoor
