/-
  No cell of these rows narrows 'for every input' (looked for: loops, veiled, ifaces, maps, wideKeys, modest, calm, conditions, laid).
  DERIVED. THE GIVEN ROWS OF THIS SEAT. 6 by the template 'for every input the law returns true; each argument reads behind the call as it read before'; 0 by the template 'total and deterministic' (their statements: YtjokibfldngkeaaTotals.lean).
  GIVEN WITH THE SEED: the statements are not yours to turn. If you find one false, say at which input.
  Laid BY PROGRAM, IN A SANDBOX (cutbox-rows.mjs): the forced cells as the released guide's own fill.sh prints them over the translation 4d7a1bb740847de4… (all of the seat's roots in one cut). By AI agents, Wed Nov 11 2026. No macro, syntax, notation, axiom, sorry.
-/
import Derived.Test.YtjokibfldngkeaaChecked
import GoSem.Claim
import GoSem.ClaimJoined
import GoSem.ClaimMapViews
import Derived.JoinedTies
import Derived.KernelRfl
namespace Go.Proofs.Ytjokibfldngkeaa
/- THE CELL 'sum', in the pinned program and in every row, IS THE sha256 OF THE DUMP (.gsa) THAT YtjokibfldngkeaaProg.lean LOADS. Nothing in Lean hashes anything: it is a label: what it is worth is what the hold of that sum in a sandbox is worth. -/
noncomputable def Try.pinned : Pinned := { name := "ytjokibfldngkeaa", sum := "4d7a1bb740847de49d8c7c578199ad64082669a746ad187083c14fa87f21b86d", checked := Try.checked }
namespace Rows
def none {H : Type} : Left H := { results := [], args := [] }

/-- 'bywaylaw15.DeriveHas': WHATEVER THE INPUT: true; the input reads as it did. -/
def deriveHasSpec : ChangeSpec := { name := "deriveHas", fn := fun _ => fun
  | [d1, d2, d3] => { results := [.lit (.bool true)], args := [d1, d2, d3] }
  | _ => none }
def deriveHasRow : OpenClaim := { program := "ytjokibfldngkeaa", sum := "4d7a1bb740847de49d8c7c578199ad64082669a746ad187083c14fa87f21b86d", func := "byway/bywaylaw15.DeriveHas", spec := "deriveHas", unfollowed := true, recurses := true, plainKeys := false, apart := false }
def DeriveHasSaid : Prop := deriveHasRow.holds Try.pinned (OpenSpec.ofChange deriveHasSpec)

/-- ITS FALSE NEIGHBOUR: 'it returns false'. Refute it at one input. -/
def deriveHasWrong : ChangeSpec := { name := "deriveHas", fn := fun _ => fun
  | [d1, d2, d3] => { results := [.lit (.bool false)], args := [d1, d2, d3] }
  | _ => none }
def DeriveHasWrongFalsely : Prop := deriveHasRow.holds Try.pinned (OpenSpec.ofChange deriveHasWrong)

/-- 'bywaylaw15.DeriveBegins': WHATEVER THE INPUT: true; the input reads as it did. -/
def deriveBeginsSpec : ChangeSpec := { name := "deriveBegins", fn := fun _ => fun
  | [d1, d2, d3] => { results := [.lit (.bool true)], args := [d1, d2, d3] }
  | _ => none }
def deriveBeginsRow : OpenClaim := { program := "ytjokibfldngkeaa", sum := "4d7a1bb740847de49d8c7c578199ad64082669a746ad187083c14fa87f21b86d", func := "byway/bywaylaw15.DeriveBegins", spec := "deriveBegins", unfollowed := true, recurses := true, plainKeys := false, apart := false }
def DeriveBeginsSaid : Prop := deriveBeginsRow.holds Try.pinned (OpenSpec.ofChange deriveBeginsSpec)

/-- ITS FALSE NEIGHBOUR: 'it returns false'. Refute it at one input. -/
def deriveBeginsWrong : ChangeSpec := { name := "deriveBegins", fn := fun _ => fun
  | [d1, d2, d3] => { results := [.lit (.bool false)], args := [d1, d2, d3] }
  | _ => none }
def DeriveBeginsWrongFalsely : Prop := deriveBeginsRow.holds Try.pinned (OpenSpec.ofChange deriveBeginsWrong)

/-- 'bywaylaw15.DeriveRight': WHATEVER THE INPUT: true; the input reads as it did. -/
def deriveRightSpec : ChangeSpec := { name := "deriveRight", fn := fun _ => fun
  | [d1, d2, d3, d4] => { results := [.lit (.bool true)], args := [d1, d2, d3, d4] }
  | _ => none }
def deriveRightRow : OpenClaim := { program := "ytjokibfldngkeaa", sum := "4d7a1bb740847de49d8c7c578199ad64082669a746ad187083c14fa87f21b86d", func := "byway/bywaylaw15.DeriveRight", spec := "deriveRight", unfollowed := true, recurses := true, plainKeys := false, apart := false }
def DeriveRightSaid : Prop := deriveRightRow.holds Try.pinned (OpenSpec.ofChange deriveRightSpec)

/-- ITS FALSE NEIGHBOUR: 'it returns false'. Refute it at one input. -/
def deriveRightWrong : ChangeSpec := { name := "deriveRight", fn := fun _ => fun
  | [d1, d2, d3, d4] => { results := [.lit (.bool false)], args := [d1, d2, d3, d4] }
  | _ => none }
def DeriveRightWrongFalsely : Prop := deriveRightRow.holds Try.pinned (OpenSpec.ofChange deriveRightWrong)

/-- 'bywaylaw15.DeriveTree': WHATEVER THE INPUT: true; the input reads as it did. -/
def deriveTreeSpec : ChangeSpec := { name := "deriveTree", fn := fun _ => fun
  | [d1, d2, d3] => { results := [.lit (.bool true)], args := [d1, d2, d3] }
  | _ => none }
def deriveTreeRow : OpenClaim := { program := "ytjokibfldngkeaa", sum := "4d7a1bb740847de49d8c7c578199ad64082669a746ad187083c14fa87f21b86d", func := "byway/bywaylaw15.DeriveTree", spec := "deriveTree", unfollowed := true, recurses := true, plainKeys := false, apart := false }
def DeriveTreeSaid : Prop := deriveTreeRow.holds Try.pinned (OpenSpec.ofChange deriveTreeSpec)

/-- ITS FALSE NEIGHBOUR: 'it returns false'. Refute it at one input. -/
def deriveTreeWrong : ChangeSpec := { name := "deriveTree", fn := fun _ => fun
  | [d1, d2, d3] => { results := [.lit (.bool false)], args := [d1, d2, d3] }
  | _ => none }
def DeriveTreeWrongFalsely : Prop := deriveTreeRow.holds Try.pinned (OpenSpec.ofChange deriveTreeWrong)

/-- 'bywaylaw15.DeriveRows': WHATEVER THE INPUT: true; the input reads as it did. -/
def deriveRowsSpec : ChangeSpec := { name := "deriveRows", fn := fun _ => fun
  | [d1, d2, d3, d4] => { results := [.lit (.bool true)], args := [d1, d2, d3, d4] }
  | _ => none }
def deriveRowsRow : OpenClaim := { program := "ytjokibfldngkeaa", sum := "4d7a1bb740847de49d8c7c578199ad64082669a746ad187083c14fa87f21b86d", func := "byway/bywaylaw15.DeriveRows", spec := "deriveRows", unfollowed := true, recurses := true, plainKeys := false, apart := false }
def DeriveRowsSaid : Prop := deriveRowsRow.holds Try.pinned (OpenSpec.ofChange deriveRowsSpec)

/-- ITS FALSE NEIGHBOUR: 'it returns false'. Refute it at one input. -/
def deriveRowsWrong : ChangeSpec := { name := "deriveRows", fn := fun _ => fun
  | [d1, d2, d3, d4] => { results := [.lit (.bool false)], args := [d1, d2, d3, d4] }
  | _ => none }
def DeriveRowsWrongFalsely : Prop := deriveRowsRow.holds Try.pinned (OpenSpec.ofChange deriveRowsWrong)

/-- 'bywaylaw15.DeriveAgrees': WHATEVER THE INPUT: true; the input reads as it did. -/
def deriveAgreesSpec : ChangeSpec := { name := "deriveAgrees", fn := fun _ => fun
  | [d1, d2, d3] => { results := [.lit (.bool true)], args := [d1, d2, d3] }
  | _ => none }
def deriveAgreesRow : OpenClaim := { program := "ytjokibfldngkeaa", sum := "4d7a1bb740847de49d8c7c578199ad64082669a746ad187083c14fa87f21b86d", func := "byway/bywaylaw15.DeriveAgrees", spec := "deriveAgrees", unfollowed := true, recurses := true, plainKeys := false, apart := false }
def DeriveAgreesSaid : Prop := deriveAgreesRow.holds Try.pinned (OpenSpec.ofChange deriveAgreesSpec)

/-- ITS FALSE NEIGHBOUR: 'it returns false'. Refute it at one input. -/
def deriveAgreesWrong : ChangeSpec := { name := "deriveAgrees", fn := fun _ => fun
  | [d1, d2, d3] => { results := [.lit (.bool false)], args := [d1, d2, d3] }
  | _ => none }
def DeriveAgreesWrongFalsely : Prop := deriveAgreesRow.holds Try.pinned (OpenSpec.ofChange deriveAgreesWrong)

/- THE SECOND FORM. 'bulk': how many values and letters a reading holds, each counted each time it is reached (what is shared counts as often as it is met; a slice's spare places count too). A statement '..UptoSaid' is the law's where the arguments, and the package variables that the reading takes, are together of bulk at most 1048576: NARROWER than '..Said'. Prove '..Said' where nothing that the law and all that it calls make is longer than what came in: it says more and counts as full. Else prove '..UptoSaid'. A law counts once. -/
mutual
def uptoBulk {H : Type} : DataW H → Nat
  | .lit (.string bytes) => bytes.length + 1
  | .lit _ => 1
  | .nil => 1
  | .ptr d => uptoBulk d + 1
  | .slice elems spare => uptoBulkAll elems + uptoBulkAll spare + 1
  | .agg parts => uptoBulkAll parts + 1
  | .iface _ d => uptoBulk d + 1
  | .map entries => uptoBulkEntries entries + 1
  | .held _ => 1
def uptoBulkAll {H : Type} : List (DataW H) → Nat
  | [] => 0
  | d :: r => uptoBulk d + uptoBulkAll r
def uptoBulkEntries {H : Type} : List (Lit × DataW H) → Nat
  | [] => 0
  | x :: r => uptoBulkEntry x + uptoBulkEntries r
def uptoBulkEntry {H : Type} : Lit × DataW H → Nat
  | (.string bytes, d) => bytes.length + uptoBulk d + 1
  | (_, d) => uptoBulk d + 1
 end
def uptoSmall : (H : Type) → List (DataW H) → Bool := fun _ ds => decide (uptoBulkAll ds ≤ 1048576)
def OpenSpec.upto (s : _root_.Go.ChangeSpec) : _root_.Go.OpenSpec := { _root_.Go.OpenSpec.ofChange s with cond := some uptoSmall }

/-- 'bywaylaw15.DeriveHas', WHERE WHAT IT READS IS OF BULK AT MOST 1048576: true; the input reads as it did. -/
def deriveHasUptoRow : OpenClaim := { program := "ytjokibfldngkeaa", sum := "4d7a1bb740847de49d8c7c578199ad64082669a746ad187083c14fa87f21b86d", func := "byway/bywaylaw15.DeriveHas", spec := "deriveHas", unfollowed := true, recurses := true, plainKeys := false, apart := false, narrowed := true }
def DeriveHasUptoSaid : Prop := deriveHasUptoRow.holds Try.pinned (OpenSpec.upto deriveHasSpec)

/-- 'bywaylaw15.DeriveBegins', WHERE WHAT IT READS IS OF BULK AT MOST 1048576: true; the input reads as it did. -/
def deriveBeginsUptoRow : OpenClaim := { program := "ytjokibfldngkeaa", sum := "4d7a1bb740847de49d8c7c578199ad64082669a746ad187083c14fa87f21b86d", func := "byway/bywaylaw15.DeriveBegins", spec := "deriveBegins", unfollowed := true, recurses := true, plainKeys := false, apart := false, narrowed := true }
def DeriveBeginsUptoSaid : Prop := deriveBeginsUptoRow.holds Try.pinned (OpenSpec.upto deriveBeginsSpec)

/-- 'bywaylaw15.DeriveRight', WHERE WHAT IT READS IS OF BULK AT MOST 1048576: true; the input reads as it did. -/
def deriveRightUptoRow : OpenClaim := { program := "ytjokibfldngkeaa", sum := "4d7a1bb740847de49d8c7c578199ad64082669a746ad187083c14fa87f21b86d", func := "byway/bywaylaw15.DeriveRight", spec := "deriveRight", unfollowed := true, recurses := true, plainKeys := false, apart := false, narrowed := true }
def DeriveRightUptoSaid : Prop := deriveRightUptoRow.holds Try.pinned (OpenSpec.upto deriveRightSpec)

/-- 'bywaylaw15.DeriveTree', WHERE WHAT IT READS IS OF BULK AT MOST 1048576: true; the input reads as it did. -/
def deriveTreeUptoRow : OpenClaim := { program := "ytjokibfldngkeaa", sum := "4d7a1bb740847de49d8c7c578199ad64082669a746ad187083c14fa87f21b86d", func := "byway/bywaylaw15.DeriveTree", spec := "deriveTree", unfollowed := true, recurses := true, plainKeys := false, apart := false, narrowed := true }
def DeriveTreeUptoSaid : Prop := deriveTreeUptoRow.holds Try.pinned (OpenSpec.upto deriveTreeSpec)

/-- 'bywaylaw15.DeriveRows', WHERE WHAT IT READS IS OF BULK AT MOST 1048576: true; the input reads as it did. -/
def deriveRowsUptoRow : OpenClaim := { program := "ytjokibfldngkeaa", sum := "4d7a1bb740847de49d8c7c578199ad64082669a746ad187083c14fa87f21b86d", func := "byway/bywaylaw15.DeriveRows", spec := "deriveRows", unfollowed := true, recurses := true, plainKeys := false, apart := false, narrowed := true }
def DeriveRowsUptoSaid : Prop := deriveRowsUptoRow.holds Try.pinned (OpenSpec.upto deriveRowsSpec)

/-- 'bywaylaw15.DeriveAgrees', WHERE WHAT IT READS IS OF BULK AT MOST 1048576: true; the input reads as it did. -/
def deriveAgreesUptoRow : OpenClaim := { program := "ytjokibfldngkeaa", sum := "4d7a1bb740847de49d8c7c578199ad64082669a746ad187083c14fa87f21b86d", func := "byway/bywaylaw15.DeriveAgrees", spec := "deriveAgrees", unfollowed := true, recurses := true, plainKeys := false, apart := false, narrowed := true }
def DeriveAgreesUptoSaid : Prop := deriveAgreesUptoRow.holds Try.pinned (OpenSpec.upto deriveAgreesSpec)

end Rows
end Go.Proofs.Ytjokibfldngkeaa
