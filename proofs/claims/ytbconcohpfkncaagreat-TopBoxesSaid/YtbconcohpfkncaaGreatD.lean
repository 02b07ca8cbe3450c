/-
  The rules for the single operations, continued: numbers, memory, calls. Any program.
-/
import Derived.Test.YtbconcohpfkncaaGreatC
namespace Go.Proofs.YtbconcohpfkncaaGreat
open Go

class OfU (m : Int) (x : outParam (BitVec 64)) : Prop where out : m = (x.toNat : Int)
instance (x : BitVec 64) : OfU (x.toNat : Int) x := ⟨rfl⟩
instance : OfU 0 0#64 := ⟨rfl⟩
instance : OfU 1 1#64 := ⟨rfl⟩
instance : OfU 2 2#64 := ⟨rfl⟩
instance : OfU 18446744073709551615 (BitVec.allOnes 64) := ⟨rfl⟩
/-- A number as a value. -/
abbrev i64 (n : Int) : Value := .int .i64 n

section rules
variable {P : Program} {c : Cx} {A : Array Oper} {rest : List Oper} {K : Kont} {L : Env} {H : List HP} {t : TypeId} {p : String} {e : Array Edge}

/-! ### Numbers -/
section
variable {d : Nat} {x y : Operand} {m n : Int} {ty ty' : TypeId} (hN : Nat.blt d c.N = true)
include hN
theorem GO.addi (hx : evl L x = some (.int .i64 m)) (hy : evl L y = some (.int .i64 n)) (h : -9223372036854775808 ≤ m + n ∧ m + n ≤ 9223372036854775807)
    (k : GO P c A rest K ((d, .int .i64 (m + n)) :: L) H) : GO P c A (⟨some d, .binOp .add ty x y ty', t, p, e, none⟩ :: rest) K L H :=
  GO.bin hN hx hy (by simp only [binI]; rw [IntWalk.i64_in _ h]) k
theorem GO.subi (hx : evl L x = some (.int .i64 m)) (hy : evl L y = some (.int .i64 n)) (h : -9223372036854775808 ≤ m - n ∧ m - n ≤ 9223372036854775807)
    (k : GO P c A rest K ((d, .int .i64 (m - n)) :: L) H) : GO P c A (⟨some d, .binOp .sub ty x y ty', t, p, e, none⟩ :: rest) K L H :=
  GO.bin hN hx hy (by simp only [binI]; rw [IntWalk.i64_in _ h]) k
theorem GO.muli (hx : evl L x = some (.int .i64 m)) (hy : evl L y = some (.int .i64 n)) (h : -9223372036854775808 ≤ m * n ∧ m * n ≤ 9223372036854775807)
    (k : GO P c A rest K ((d, .int .i64 (m * n)) :: L) H) : GO P c A (⟨some d, .binOp .mul ty x y ty', t, p, e, none⟩ :: rest) K L H :=
  GO.bin hN hx hy (by simp only [binI]; rw [IntWalk.i64_in _ h]) k
theorem GO.quoi (hx : evl L x = some (.int .i64 m)) (hy : evl L y = some (.int .i64 n)) (h : 0 ≤ m ∧ m ≤ 9223372036854775807 ∧ 1 ≤ n)
    (k : GO P c A rest K ((d, .int .i64 (m / n)) :: L) H) : GO P c A (⟨some d, .binOp .quo ty x y ty', t, p, e, none⟩ :: rest) K L H :=
  GO.bin hN hx hy (by simp only [binI]; rw [if_neg (by omega), IntWalk.i64_quo _ _ h]) k
variable {a b : BitVec 64}
theorem GO.eqi {kk : IntKind} (hx : evl L x = some (.int kk m)) (hy : evl L y = some (.int kk n))
    (k : GO P c A rest K ((d, .bool (decide (m = n))) :: L) H) : GO P c A (⟨some d, .binOp .eql ty x y ty', t, p, e, none⟩ :: rest) K L H :=
  GO.bin hN hx hy rfl k
theorem GO.nei {kk : IntKind} (hx : evl L x = some (.int kk m)) (hy : evl L y = some (.int kk n))
    (k : GO P c A rest K ((d, .bool (decide (m ≠ n))) :: L) H) : GO P c A (⟨some d, .binOp .neq ty x y ty', t, p, e, none⟩ :: rest) K L H :=
  GO.bin hN hx hy rfl k
theorem GO.lti {kk : IntKind} (hx : evl L x = some (.int kk m)) (hy : evl L y = some (.int kk n))
    (k : GO P c A rest K ((d, .bool (decide (m < n))) :: L) H) : GO P c A (⟨some d, .binOp .lss ty x y ty', t, p, e, none⟩ :: rest) K L H :=
  GO.bin hN hx hy rfl k
theorem GO.lei {kk : IntKind} (hx : evl L x = some (.int kk m)) (hy : evl L y = some (.int kk n))
    (k : GO P c A rest K ((d, .bool (decide (m ≤ n))) :: L) H) : GO P c A (⟨some d, .binOp .leq ty x y ty', t, p, e, none⟩ :: rest) K L H :=
  GO.bin hN hx hy rfl k
theorem GO.gti {kk : IntKind} (hx : evl L x = some (.int kk m)) (hy : evl L y = some (.int kk n))
    (k : GO P c A rest K ((d, .bool (decide (n < m))) :: L) H) : GO P c A (⟨some d, .binOp .gtr ty x y ty', t, p, e, none⟩ :: rest) K L H :=
  GO.bin hN hx hy rfl k
theorem GO.gei {kk : IntKind} (hx : evl L x = some (.int kk m)) (hy : evl L y = some (.int kk n))
    (k : GO P c A rest K ((d, .bool (decide (n ≤ m))) :: L) H) : GO P c A (⟨some d, .binOp .geq ty x y ty', t, p, e, none⟩ :: rest) K L H :=
  GO.bin hN hx hy rfl k
end
end rules
end Go.Proofs.YtbconcohpfkncaaGreat
