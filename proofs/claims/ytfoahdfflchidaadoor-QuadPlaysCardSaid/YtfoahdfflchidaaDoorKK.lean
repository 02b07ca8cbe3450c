/-
  The engine's Mul, and within.
-/
import Derived.Test.YtfoahdfflchidaaDoorKJ
namespace Go.Proofs.YtfoahdfflchidaaDoor
open Go
attribute [local irreducible] G GO GQ Fn pt init exs pur sat

/-! ## within -/
def subB (A B : Blk) : Prop := ∀ r, r < 64 → A r &&& B r = A r
instance (A B : Blk) : Decidable (subB A B) := inferInstanceAs (Decidable (∀ r, r < 64 → A r &&& B r = A r))
end Go.Proofs.YtfoahdfflchidaaDoor
