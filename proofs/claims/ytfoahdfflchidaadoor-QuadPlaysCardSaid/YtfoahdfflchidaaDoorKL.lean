/-
  The laws BlockRing and BlockTurned.
-/
import Derived.Test.YtfoahdfflchidaaDoorKD
import Derived.Test.YtfoahdfflchidaaDoorKK
namespace Go.Proofs.YtfoahdfflchidaaDoor
open Go
attribute [local irreducible] G GO GQ Fn pt init exs pur sat

/-! ## The plain laws -/
theorem turnB_bit (A : Blk) (r c : Nat) (hc : c < 64) : (turnB A r).getLsbD c = (A c).getLsbD r := blkOf_bit _ r c hc
end Go.Proofs.YtfoahdfflchidaaDoor
