/-
  Rules for single operations, continued: a value told in other words. Any program.
-/
import Derived.Test.YtcemehocbemfmaaZ
namespace Go.Proofs.Ytcemehocbemfmaa
open Go
attribute [local irreducible] pt init exs pur own
section
variable {P : Program} {c : Cx} {A : Array Oper} {os : List Oper} {K : Kont} {L : Env} {H : List HP} {C : Code} {d : Nat} {u v : Value}
/-- What the last slot holds, in other words. -/
theorem KQ.zv (h : u = v) : GO P c A [] (KQ ((d, v) :: L) H) ((d, u) :: L) H := by subst h; exact KQ.z
theorem GO.chg (v : Value) (h : u = v) (k : GO P c A os K ((d, v) :: L) H) : GO P c A os K ((d, u) :: L) H := by subst h; exact k
theorem G.chg (v : Value) (h : u = v) (k : G P c C K ((d, v) :: L) H) : G P c C K ((d, u) :: L) H := by subst h; exact k
end
section
variable {P : Program} {c : Cx} {A : Array Oper} {rest : List Oper} {K : Kont} {L : Env} {H : List HP} {t : TypeId} {p : String} {e : Array Edge}
variable {d : Nat} {ty ty' : TypeId} {x y : Operand}
theorem GO.neqF {b b' : Bool} [hu : UL P ty .bool] (hN : Nat.blt d c.N = true) (hx : evl L x = some (.bool b)) (hy : evl L y = some (.bool b')) (h : b = b')
    (k : GO P c A rest K ((d, .bool false) :: L) H) : GO P c A (⟨some d, .binOp .neq ty x y ty', t, p, e, none⟩ :: rest) K L H :=
  GO.neqB hN hx hy (by rw [h, beq_self_eq_true]; exact k)
theorem GO.pickTa {x y z : Operand} {v : Value} {b : Bool} (hN : Nat.blt d c.N = true) (hx : evl L x = some (.bool b)) (hb : b = true) (hy : evl L y = some v) (k : GO P c A rest K ((d, v) :: L) H) : GO P c A (⟨some d, .pick x y z, t, p, e, none⟩ :: rest) K L H := by
  subst hb; exact GO.pickT hN hx hy k
theorem GO.pickFa {x y z : Operand} {v : Value} {b : Bool} (hN : Nat.blt d c.N = true) (hx : evl L x = some (.bool b)) (hb : b = false) (hz : evl L z = some v) (k : GO P c A rest K ((d, v) :: L) H) : GO P c A (⟨some d, .pick x y z, t, p, e, none⟩ :: rest) K L H := by
  subst hb; exact GO.pickF hN hx hz k
end
end Go.Proofs.Ytcemehocbemfmaa
