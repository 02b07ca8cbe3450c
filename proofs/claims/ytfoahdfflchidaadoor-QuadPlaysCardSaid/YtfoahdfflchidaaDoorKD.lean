/-
  The laws' examples (awake), and the law on the cells of blocks.
-/
import Derived.Test.YtfoahdfflchidaaDoorKC
namespace Go.Proofs.YtfoahdfflchidaaDoor
open Go
attribute [local irreducible] G GO GQ Fn pt init exs pur sat

theorem SlR.own {b cap n sz : Nat} {l : List Value} {T : TypeId} (hl : l.length = n * sz) : SlR (pt b (row l T)) (.slice (some ⟨b, 0, none⟩) n cap) n sz l :=
  ⟨_, _, rfl, hl, fun _ => ⟨b, 0, rfl, fun j u h => by rw [Nat.zero_add]; exact Rd.row h⟩⟩
/-- Blocks held against each other. -/
def eqBlk (B C : Blk) : Bool := allB 64 fun i => decide ((B i).toNat = ((C i).toNat : Int))
theorem eqBlk_t {B C : Blk} (h : ∀ i, i < 64 → B i = C i) : eqBlk B C = true := by
  unfold eqBlk; rw [allB_iff]; intro i hi; rw [h i hi]; simp
theorem EqR.blk {d : Nat} {B C : Blk} : EqR Tryd.prog (d + 2) 77 (blk B) (blk C) (eqBlk B C) :=
  EqR.arr (P := Tryd.prog) (d := d + 1) (t := 77) (n := 64) rfl fun i hi => ⟨_, _, cells_get B hi rfl, cells_get C hi rfl, EqR.int⟩

theorem EqR.blkT {d : Nat} {B C : Blk} (h : ∀ i, i < 64 → B i = C i) : EqR Tryd.prog (d + 2) 77 (.agg (cells B).toArray) (.agg (cells C).toArray) true := by
  rw [← eqBlk_t h]; exact EqR.blk
end Go.Proofs.YtfoahdfflchidaaDoor
