/-
  The engine's Close, and the law BlockLeast.
-/
import Derived.Test.YtfoahdfflchidaaDoorKL
namespace Go.Proofs.YtfoahdfflchidaaDoor
open Go
attribute [local irreducible] G GO GQ Fn pt init exs pur sat

/-! ## Close -/
/-! ## What is reached -/
/-! ## The walk from a row -/
def leB (x y : BitVec 64) : Prop := ∀ j, j < 64 → x.getLsbD j = true → y.getLsbD j = true
theorem leB.refl (x : BitVec 64) : leB x x := fun _ _ h => h
theorem leB.trans {x y z : BitVec 64} (a : leB x y) (b : leB y z) : leB x z := fun j hj h => b j hj (a j hj h)
/-! How many bits. -/
def cnt (x : BitVec 64) : Nat → Nat
  | 0 => 0
  | n + 1 => cnt x n + (if x.getLsbD n then 1 else 0)
theorem cnt_le (x : BitVec 64) : ∀ n, cnt x n ≤ n
  | 0 => Nat.le_refl _
  | n + 1 => by have := cnt_le x n; simp only [cnt]; split <;> omega
end Go.Proofs.YtfoahdfflchidaaDoor
