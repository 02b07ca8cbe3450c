/-
  The reference's Cells and Of.
-/
import Derived.Test.YtpfcgfgkmgnaaaaDoorKS
namespace Go.Proofs.YtpfcgfgkmgnaaaaDoor
open Go
attribute [local irreducible] G GO GQ Fn pt init exs pur sat own
def castL (l : List (Nat × Nat)) : List (Int × Int) := l.map fun p => ((p.1 : Int), (p.2 : Int))
def partL (r : Nat) (x : BitVec 64) (c : Nat) : List (Nat × Nat) := ((List.range c).filter fun c => x.getLsbD c).map fun c => (r, c)
def uptoL (B : Blk) (r : Nat) : List (Nat × Nat) := (List.range r).flatMap fun i => rowL i (B i)
theorem partL_on {r c : Nat} {x : BitVec 64} (h : x.getLsbD c = true) : partL r x (c + 1) = partL r x c ++ [(r, c)] := by
  unfold partL; rw [List.range_succ, List.filter_append, List.map_append]; simp [h]
theorem partL_off {r c : Nat} {x : BitVec 64} (h : x.getLsbD c = false) : partL r x (c + 1) = partL r x c := by
  unfold partL; rw [List.range_succ, List.filter_append, List.map_append]; simp [h]
theorem uptoL_succ (B : Blk) (r : Nat) : uptoL B (r + 1) = uptoL B r ++ partL r (B r) 64 := by
  unfold uptoL; rw [List.range_succ, List.flatMap_append]; simp [partL, rowL]
theorem uptoL_all (B : Blk) : uptoL B 64 = cellsL B := by unfold uptoL cellsL rowsL; rw [List.range_eq_range']
theorem partL_len (r : Nat) (x : BitVec 64) (c : Nat) : (partL r x c).length ≤ c := by
  unfold partL; rw [List.length_map]; exact Nat.le_trans (List.length_filter_le _ _) (by simp)
theorem uptoL_len (B : Blk) : ∀ r, (uptoL B r).length ≤ 64 * r
  | 0 => by simp [uptoL]
  | r + 1 => by
    have := uptoL_len B r
    have := partL_len r (B r) 64
    rw [uptoL_succ, List.length_append]; omega
theorem cellsV_app (a b : List (Int × Int)) : cellsV (a ++ b) = cellsV a ++ cellsV b := by simp [cellsV]
theorem castL_app (a b : List (Nat × Nat)) : castL (a ++ b) = castL a ++ castL b := by simp [castL]
theorem castL_len (a : List (Nat × Nat)) : (castL a).length = a.length := by simp [castL]
end Go.Proofs.YtpfcgfgkmgnaaaaDoor
