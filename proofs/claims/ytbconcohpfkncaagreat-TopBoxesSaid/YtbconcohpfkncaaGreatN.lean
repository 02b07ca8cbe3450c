/-
  Rules for single operations, continued: a value told in other words. Any program.
-/
import Derived.Test.YtbconcohpfkncaaGreatZ
namespace Go.Proofs.YtbconcohpfkncaaGreat
open Go
attribute [local irreducible] pt init exs pur own
section
variable {P : Program} {c : Cx} {A : Array Oper} {os : List Oper} {K : Kont} {L : Env} {H : List HP} {C : Code} {d : Nat} {u v : Value}
end
section
variable {P : Program} {c : Cx} {A : Array Oper} {rest : List Oper} {K : Kont} {L : Env} {H : List HP} {t : TypeId} {p : String} {e : Array Edge}
variable {d : Nat} {ty ty' : TypeId} {x y : Operand}
theorem GO.pickTa {x y z : Operand} {v : Value} {b : Bool} (hN : Nat.blt d c.N = true) (hx : evl L x = some (.bool b)) (hb : b = true) (hy : evl L y = some v) (k : GO P c A rest K ((d, v) :: L) H) : GO P c A (⟨some d, .pick x y z, t, p, e, none⟩ :: rest) K L H := by
  subst hb; exact GO.pickT hN hx hy k
theorem GO.pickFa {x y z : Operand} {v : Value} {b : Bool} (hN : Nat.blt d c.N = true) (hx : evl L x = some (.bool b)) (hb : b = false) (hz : evl L z = some v) (k : GO P c A rest K ((d, v) :: L) H) : GO P c A (⟨some d, .pick x y z, t, p, e, none⟩ :: rest) K L H := by
  subst hb; exact GO.pickF hN hx hz k
end
end Go.Proofs.YtbconcohpfkncaaGreat
