/-
  NARROWER THAN 'FOR EVERY INPUT', by the rows' own cells (each row's printed sentence says how): ProductMul: laid · ProductInto: laid · ProductChain: laid · ProductPower: laid · ProductTurned: laid · ProductSteps: laid · ProductRing: laid.
  DERIVED. THE GIVEN ROWS OF THIS SEAT. 7 by the template 'for every input the law returns true; each argument reads behind the call as it read before'; 0 by the template 'total and deterministic' (their statements: YtpemblhbfafmpaaDoorTotals.lean).
  GIVEN WITH THE SEED: the statements are not yours to turn. If you find one false, say at which input.
  Laid BY PROGRAM, IN A SANDBOX (cutbox-rows.mjs): the forced cells as the released guide's own fill.sh prints them over the translation 99ca53c851149b71… (all of the seat's roots in one cut). By AI agents, Wed Nov 11 2026. No macro, syntax, notation, axiom, sorry.
-/
import Derived.Test.YtpemblhbfafmpaaDoorChecked
import GoSem.Claim
import GoSem.ClaimJoined
import GoSem.ClaimMapViews
import Derived.JoinedTies
import Derived.KernelRfl
namespace Go.Proofs.YtpemblhbfafmpaaDoor
/- THE CELL 'sum', in the pinned program and in every row, IS THE sha256 OF THE DUMP (.gsa) THAT YtpemblhbfafmpaaDoorProg.lean LOADS. Nothing in Lean hashes anything: it is a label: what it is worth is what the hold of that sum in a sandbox is worth. -/
noncomputable def Tryd.pinned : Pinned := { name := "ytpemblhbfafmpaadoor", sum := "99ca53c851149b71e469ad706976989de60ed694657d30ad87893560fac96be9", checked := Tryd.checked }
namespace Rows
def none {H : Type} : Left H := { results := [], args := [] }

/- WHAT THE LISTED PACKAGE-LEVEL VARIABLES READ AS WHEN THE CALL BEGINS. Each datum BY PROGRAM (the guide's laid-datum.mjs) off the statement by which the dump's own 'gosem.cut.vars' lays the variable. In a bare row this is a premise. The card (YtpemblhbfafmpaaDoorCards.lean) ties it to the program's text. -/
def laid_math_bits_deBruijn64tab {H : Type} : DataW H := .agg [.lit (.int .u8 0), .lit (.int .u8 1), .lit (.int .u8 56), .lit (.int .u8 2), .lit (.int .u8 57), .lit (.int .u8 49), .lit (.int .u8 28), .lit (.int .u8 3), .lit (.int .u8 61), .lit (.int .u8 58), .lit (.int .u8 42), .lit (.int .u8 50), .lit (.int .u8 38), .lit (.int .u8 29), .lit (.int .u8 17), .lit (.int .u8 4), .lit (.int .u8 62), .lit (.int .u8 47), .lit (.int .u8 59), .lit (.int .u8 36), .lit (.int .u8 45), .lit (.int .u8 43), .lit (.int .u8 51), .lit (.int .u8 22), .lit (.int .u8 53), .lit (.int .u8 39), .lit (.int .u8 33), .lit (.int .u8 30), .lit (.int .u8 24), .lit (.int .u8 18), .lit (.int .u8 12), .lit (.int .u8 5), .lit (.int .u8 63), .lit (.int .u8 55), .lit (.int .u8 48), .lit (.int .u8 27), .lit (.int .u8 60), .lit (.int .u8 41), .lit (.int .u8 37), .lit (.int .u8 16), .lit (.int .u8 46), .lit (.int .u8 35), .lit (.int .u8 44), .lit (.int .u8 21), .lit (.int .u8 52), .lit (.int .u8 32), .lit (.int .u8 23), .lit (.int .u8 11), .lit (.int .u8 54), .lit (.int .u8 26), .lit (.int .u8 40), .lit (.int .u8 15), .lit (.int .u8 34), .lit (.int .u8 20), .lit (.int .u8 31), .lit (.int .u8 10), .lit (.int .u8 25), .lit (.int .u8 14), .lit (.int .u8 19), .lit (.int .u8 9), .lit (.int .u8 13), .lit (.int .u8 8), .lit (.int .u8 7), .lit (.int .u8 6)]

/-- 'bywaylaw03.ProductMul': WHATEVER THE INPUT: true; the input reads as it did. -/
def productMulSpec : ChangeSpec := { name := "productMul", fn := fun _ => fun
  | [d1, d2] => { results := [.lit (.bool true)], args := [d1, d2] }
  | _ => none }
def productMulRow : OpenClaim := { program := "ytpemblhbfafmpaadoor", sum := "99ca53c851149b71e469ad706976989de60ed694657d30ad87893560fac96be9", func := "byway/bywaylaw03.ProductMul", spec := "productMul", unfollowed := true, recurses := true, named := ["math/bits.deBruijn64tab"], apart := false, laid := [("math/bits.deBruijn64tab", laid_math_bits_deBruijn64tab)] }
def ProductMulSaid : Prop := productMulRow.holds Tryd.pinned (OpenSpec.ofChange productMulSpec)

/-- ITS FALSE NEIGHBOUR: 'it returns false'. Refute it at one input. -/
def productMulWrong : ChangeSpec := { name := "productMul", fn := fun _ => fun
  | [d1, d2] => { results := [.lit (.bool false)], args := [d1, d2] }
  | _ => none }
def ProductMulWrongFalsely : Prop := productMulRow.holds Tryd.pinned (OpenSpec.ofChange productMulWrong)

/-- 'bywaylaw03.ProductInto': WHATEVER THE INPUT: true; the input reads as it did. -/
def productIntoSpec : ChangeSpec := { name := "productInto", fn := fun _ => fun
  | [d1, d2, d3, d4] => { results := [.lit (.bool true)], args := [d1, d2, d3, d4] }
  | _ => none }
def productIntoRow : OpenClaim := { program := "ytpemblhbfafmpaadoor", sum := "99ca53c851149b71e469ad706976989de60ed694657d30ad87893560fac96be9", func := "byway/bywaylaw03.ProductInto", spec := "productInto", unfollowed := true, recurses := true, named := ["math/bits.deBruijn64tab"], apart := false, laid := [("math/bits.deBruijn64tab", laid_math_bits_deBruijn64tab)] }
def ProductIntoSaid : Prop := productIntoRow.holds Tryd.pinned (OpenSpec.ofChange productIntoSpec)

/-- ITS FALSE NEIGHBOUR: 'it returns false'. Refute it at one input. -/
def productIntoWrong : ChangeSpec := { name := "productInto", fn := fun _ => fun
  | [d1, d2, d3, d4] => { results := [.lit (.bool false)], args := [d1, d2, d3, d4] }
  | _ => none }
def ProductIntoWrongFalsely : Prop := productIntoRow.holds Tryd.pinned (OpenSpec.ofChange productIntoWrong)

/-- 'bywaylaw03.ProductChain': WHATEVER THE INPUT: true; the input reads as it did. -/
def productChainSpec : ChangeSpec := { name := "productChain", fn := fun _ => fun
  | [d] => { results := [.lit (.bool true)], args := [d] }
  | _ => none }
def productChainRow : OpenClaim := { program := "ytpemblhbfafmpaadoor", sum := "99ca53c851149b71e469ad706976989de60ed694657d30ad87893560fac96be9", func := "byway/bywaylaw03.ProductChain", spec := "productChain", unfollowed := true, recurses := true, named := ["math/bits.deBruijn64tab"], apart := false, laid := [("math/bits.deBruijn64tab", laid_math_bits_deBruijn64tab)] }
def ProductChainSaid : Prop := productChainRow.holds Tryd.pinned (OpenSpec.ofChange productChainSpec)

/-- ITS FALSE NEIGHBOUR: 'it returns false'. Refute it at one input. -/
def productChainWrong : ChangeSpec := { name := "productChain", fn := fun _ => fun
  | [d] => { results := [.lit (.bool false)], args := [d] }
  | _ => none }
def ProductChainWrongFalsely : Prop := productChainRow.holds Tryd.pinned (OpenSpec.ofChange productChainWrong)

/-- 'bywaylaw03.ProductPower': WHATEVER THE INPUT: true; the input reads as it did. -/
def productPowerSpec : ChangeSpec := { name := "productPower", fn := fun _ => fun
  | [d1, d2, d3, d4] => { results := [.lit (.bool true)], args := [d1, d2, d3, d4] }
  | _ => none }
def productPowerRow : OpenClaim := { program := "ytpemblhbfafmpaadoor", sum := "99ca53c851149b71e469ad706976989de60ed694657d30ad87893560fac96be9", func := "byway/bywaylaw03.ProductPower", spec := "productPower", unfollowed := true, recurses := true, named := ["math/bits.deBruijn64tab"], apart := false, laid := [("math/bits.deBruijn64tab", laid_math_bits_deBruijn64tab)] }
def ProductPowerSaid : Prop := productPowerRow.holds Tryd.pinned (OpenSpec.ofChange productPowerSpec)

/-- ITS FALSE NEIGHBOUR: 'it returns false'. Refute it at one input. -/
def productPowerWrong : ChangeSpec := { name := "productPower", fn := fun _ => fun
  | [d1, d2, d3, d4] => { results := [.lit (.bool false)], args := [d1, d2, d3, d4] }
  | _ => none }
def ProductPowerWrongFalsely : Prop := productPowerRow.holds Tryd.pinned (OpenSpec.ofChange productPowerWrong)

/-- 'bywaylaw03.ProductTurned': WHATEVER THE INPUT: true; the input reads as it did. -/
def productTurnedSpec : ChangeSpec := { name := "productTurned", fn := fun _ => fun
  | [d1, d2, d3] => { results := [.lit (.bool true)], args := [d1, d2, d3] }
  | _ => none }
def productTurnedRow : OpenClaim := { program := "ytpemblhbfafmpaadoor", sum := "99ca53c851149b71e469ad706976989de60ed694657d30ad87893560fac96be9", func := "byway/bywaylaw03.ProductTurned", spec := "productTurned", unfollowed := true, recurses := true, named := ["math/bits.deBruijn64tab"], apart := false, laid := [("math/bits.deBruijn64tab", laid_math_bits_deBruijn64tab)] }
def ProductTurnedSaid : Prop := productTurnedRow.holds Tryd.pinned (OpenSpec.ofChange productTurnedSpec)

/-- ITS FALSE NEIGHBOUR: 'it returns false'. Refute it at one input. -/
def productTurnedWrong : ChangeSpec := { name := "productTurned", fn := fun _ => fun
  | [d1, d2, d3] => { results := [.lit (.bool false)], args := [d1, d2, d3] }
  | _ => none }
def ProductTurnedWrongFalsely : Prop := productTurnedRow.holds Tryd.pinned (OpenSpec.ofChange productTurnedWrong)

/-- 'bywaylaw03.ProductSteps': WHATEVER THE INPUT: true; the input reads as it did. -/
def productStepsSpec : ChangeSpec := { name := "productSteps", fn := fun _ => fun
  | [d1, d2, d3, d4, d5] => { results := [.lit (.bool true)], args := [d1, d2, d3, d4, d5] }
  | _ => none }
def productStepsRow : OpenClaim := { program := "ytpemblhbfafmpaadoor", sum := "99ca53c851149b71e469ad706976989de60ed694657d30ad87893560fac96be9", func := "byway/bywaylaw03.ProductSteps", spec := "productSteps", unfollowed := true, recurses := true, named := ["math/bits.deBruijn64tab"], apart := false, laid := [("math/bits.deBruijn64tab", laid_math_bits_deBruijn64tab)] }
def ProductStepsSaid : Prop := productStepsRow.holds Tryd.pinned (OpenSpec.ofChange productStepsSpec)

/-- ITS FALSE NEIGHBOUR: 'it returns false'. Refute it at one input. -/
def productStepsWrong : ChangeSpec := { name := "productSteps", fn := fun _ => fun
  | [d1, d2, d3, d4, d5] => { results := [.lit (.bool false)], args := [d1, d2, d3, d4, d5] }
  | _ => none }
def ProductStepsWrongFalsely : Prop := productStepsRow.holds Tryd.pinned (OpenSpec.ofChange productStepsWrong)

/-- 'bywaylaw03.ProductRing': WHATEVER THE INPUT: true; the input reads as it did. -/
def productRingSpec : ChangeSpec := { name := "productRing", fn := fun _ => fun
  | [d1, d2, d3, d4] => { results := [.lit (.bool true)], args := [d1, d2, d3, d4] }
  | _ => none }
def productRingRow : OpenClaim := { program := "ytpemblhbfafmpaadoor", sum := "99ca53c851149b71e469ad706976989de60ed694657d30ad87893560fac96be9", func := "byway/bywaylaw03.ProductRing", spec := "productRing", unfollowed := true, recurses := true, named := ["math/bits.deBruijn64tab"], apart := false, laid := [("math/bits.deBruijn64tab", laid_math_bits_deBruijn64tab)] }
def ProductRingSaid : Prop := productRingRow.holds Tryd.pinned (OpenSpec.ofChange productRingSpec)

/-- ITS FALSE NEIGHBOUR: 'it returns false'. Refute it at one input. -/
def productRingWrong : ChangeSpec := { name := "productRing", fn := fun _ => fun
  | [d1, d2, d3, d4] => { results := [.lit (.bool false)], args := [d1, d2, d3, d4] }
  | _ => none }
def ProductRingWrongFalsely : Prop := productRingRow.holds Tryd.pinned (OpenSpec.ofChange productRingWrong)

/- THE SECOND FORM. 'bulk': how many values and letters a reading holds, each counted each time it is reached (what is shared counts as often as it is met; a slice's spare places count too). A statement '..UptoSaid' is the law's where the arguments, and the package variables that the reading takes, are together of bulk at most 1048576: NARROWER than '..Said'. Prove '..Said' where nothing that the law and all that it calls make is longer than what came in: it says more and counts as full. Else prove '..UptoSaid'. A law counts once. -/
mutual
def uptoBulk {H : Type} : DataW H → Nat
  | .lit (.string bytes) => bytes.length + 1
  | .lit _ => 1
  | .nil => 1
  | .ptr d => uptoBulk d + 1
  | .slice elems spare => uptoBulkAll elems + uptoBulkAll spare + 1
  | .agg parts => uptoBulkAll parts + 1
  | .iface _ d => uptoBulk d + 1
  | .map entries => uptoBulkEntries entries + 1
  | .held _ => 1
def uptoBulkAll {H : Type} : List (DataW H) → Nat
  | [] => 0
  | d :: r => uptoBulk d + uptoBulkAll r
def uptoBulkEntries {H : Type} : List (Lit × DataW H) → Nat
  | [] => 0
  | x :: r => uptoBulkEntry x + uptoBulkEntries r
def uptoBulkEntry {H : Type} : Lit × DataW H → Nat
  | (.string bytes, d) => bytes.length + uptoBulk d + 1
  | (_, d) => uptoBulk d + 1
 end
def uptoSmall : (H : Type) → List (DataW H) → Bool := fun _ ds => decide (uptoBulkAll ds ≤ 1048576)
def OpenSpec.upto (s : _root_.Go.ChangeSpec) : _root_.Go.OpenSpec := { _root_.Go.OpenSpec.ofChange s with cond := some uptoSmall }

/-- 'bywaylaw03.ProductMul', WHERE WHAT IT READS IS OF BULK AT MOST 1048576: true; the input reads as it did. -/
def productMulUptoRow : OpenClaim := { program := "ytpemblhbfafmpaadoor", sum := "99ca53c851149b71e469ad706976989de60ed694657d30ad87893560fac96be9", func := "byway/bywaylaw03.ProductMul", spec := "productMul", unfollowed := true, recurses := true, named := ["math/bits.deBruijn64tab"], apart := false, laid := [("math/bits.deBruijn64tab", laid_math_bits_deBruijn64tab)], narrowed := true }
def ProductMulUptoSaid : Prop := productMulUptoRow.holds Tryd.pinned (OpenSpec.upto productMulSpec)

/-- 'bywaylaw03.ProductInto', WHERE WHAT IT READS IS OF BULK AT MOST 1048576: true; the input reads as it did. -/
def productIntoUptoRow : OpenClaim := { program := "ytpemblhbfafmpaadoor", sum := "99ca53c851149b71e469ad706976989de60ed694657d30ad87893560fac96be9", func := "byway/bywaylaw03.ProductInto", spec := "productInto", unfollowed := true, recurses := true, named := ["math/bits.deBruijn64tab"], apart := false, laid := [("math/bits.deBruijn64tab", laid_math_bits_deBruijn64tab)], narrowed := true }
def ProductIntoUptoSaid : Prop := productIntoUptoRow.holds Tryd.pinned (OpenSpec.upto productIntoSpec)

/-- 'bywaylaw03.ProductChain', WHERE WHAT IT READS IS OF BULK AT MOST 1048576: true; the input reads as it did. -/
def productChainUptoRow : OpenClaim := { program := "ytpemblhbfafmpaadoor", sum := "99ca53c851149b71e469ad706976989de60ed694657d30ad87893560fac96be9", func := "byway/bywaylaw03.ProductChain", spec := "productChain", unfollowed := true, recurses := true, named := ["math/bits.deBruijn64tab"], apart := false, laid := [("math/bits.deBruijn64tab", laid_math_bits_deBruijn64tab)], narrowed := true }
def ProductChainUptoSaid : Prop := productChainUptoRow.holds Tryd.pinned (OpenSpec.upto productChainSpec)

/-- 'bywaylaw03.ProductPower', WHERE WHAT IT READS IS OF BULK AT MOST 1048576: true; the input reads as it did. -/
def productPowerUptoRow : OpenClaim := { program := "ytpemblhbfafmpaadoor", sum := "99ca53c851149b71e469ad706976989de60ed694657d30ad87893560fac96be9", func := "byway/bywaylaw03.ProductPower", spec := "productPower", unfollowed := true, recurses := true, named := ["math/bits.deBruijn64tab"], apart := false, laid := [("math/bits.deBruijn64tab", laid_math_bits_deBruijn64tab)], narrowed := true }
def ProductPowerUptoSaid : Prop := productPowerUptoRow.holds Tryd.pinned (OpenSpec.upto productPowerSpec)

/-- 'bywaylaw03.ProductTurned', WHERE WHAT IT READS IS OF BULK AT MOST 1048576: true; the input reads as it did. -/
def productTurnedUptoRow : OpenClaim := { program := "ytpemblhbfafmpaadoor", sum := "99ca53c851149b71e469ad706976989de60ed694657d30ad87893560fac96be9", func := "byway/bywaylaw03.ProductTurned", spec := "productTurned", unfollowed := true, recurses := true, named := ["math/bits.deBruijn64tab"], apart := false, laid := [("math/bits.deBruijn64tab", laid_math_bits_deBruijn64tab)], narrowed := true }
def ProductTurnedUptoSaid : Prop := productTurnedUptoRow.holds Tryd.pinned (OpenSpec.upto productTurnedSpec)

/-- 'bywaylaw03.ProductSteps', WHERE WHAT IT READS IS OF BULK AT MOST 1048576: true; the input reads as it did. -/
def productStepsUptoRow : OpenClaim := { program := "ytpemblhbfafmpaadoor", sum := "99ca53c851149b71e469ad706976989de60ed694657d30ad87893560fac96be9", func := "byway/bywaylaw03.ProductSteps", spec := "productSteps", unfollowed := true, recurses := true, named := ["math/bits.deBruijn64tab"], apart := false, laid := [("math/bits.deBruijn64tab", laid_math_bits_deBruijn64tab)], narrowed := true }
def ProductStepsUptoSaid : Prop := productStepsUptoRow.holds Tryd.pinned (OpenSpec.upto productStepsSpec)

/-- 'bywaylaw03.ProductRing', WHERE WHAT IT READS IS OF BULK AT MOST 1048576: true; the input reads as it did. -/
def productRingUptoRow : OpenClaim := { program := "ytpemblhbfafmpaadoor", sum := "99ca53c851149b71e469ad706976989de60ed694657d30ad87893560fac96be9", func := "byway/bywaylaw03.ProductRing", spec := "productRing", unfollowed := true, recurses := true, named := ["math/bits.deBruijn64tab"], apart := false, laid := [("math/bits.deBruijn64tab", laid_math_bits_deBruijn64tab)], narrowed := true }
def ProductRingUptoSaid : Prop := productRingUptoRow.holds Tryd.pinned (OpenSpec.upto productRingSpec)

end Rows
end Go.Proofs.YtpemblhbfafmpaaDoor
