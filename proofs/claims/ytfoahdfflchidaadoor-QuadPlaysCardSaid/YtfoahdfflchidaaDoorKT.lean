/-
  The reference's Cells and Of.
-/
import Derived.Test.YtfoahdfflchidaaDoorKS
namespace Go.Proofs.YtfoahdfflchidaaDoor
open Go
attribute [local irreducible] G GO GQ Fn pt init exs pur sat own
def castL (l : List (Nat × Nat)) : List (Int × Int) := l.map fun p => ((p.1 : Int), (p.2 : Int))
theorem cellsV_app (a b : List (Int × Int)) : cellsV (a ++ b) = cellsV a ++ cellsV b := by simp [cellsV]
theorem castL_len (a : List (Nat × Nat)) : (castL a).length = a.length := by simp [castL]
end Go.Proofs.YtfoahdfflchidaaDoor
