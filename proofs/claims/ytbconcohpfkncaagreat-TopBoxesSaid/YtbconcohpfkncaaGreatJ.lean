/-
  Rules: minus and times on words.
-/
import Derived.Test.YtbconcohpfkncaaGreatI
namespace Go.Proofs.YtbconcohpfkncaaGreat
open Go
attribute [local irreducible] pt init exs pur
section rules
variable {P : Program} {c : Cx} {A : Array Oper} {rest : List Oper} {K : Kont} {L : Env} {H : List HP} {t : TypeId} {p : String} {e : Array Edge} {x y : Operand} {d : Nat} {ty ty' : TypeId} {m n : Int} {a b : BitVec 64}
end rules
instance ofU_db : OfU 285870213051353865 285870213051353865#64 := ⟨rfl⟩
end Go.Proofs.YtbconcohpfkncaaGreat
