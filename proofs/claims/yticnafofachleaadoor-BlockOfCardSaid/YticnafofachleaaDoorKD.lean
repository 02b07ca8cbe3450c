/-
  The laws' examples (awake), and the law on the cells of blocks.
-/
import Derived.Test.YticnafofachleaaDoorKC
namespace Go.Proofs.YticnafofachleaaDoor
open Go
attribute [local irreducible] G GO GQ Fn pt init exs pur sat

theorem SlR.own {b cap n sz : Nat} {l : List Value} {T : TypeId} (hl : l.length = n * sz) : SlR (pt b (row l T)) (.slice (some ⟨b, 0, none⟩) n cap) n sz l :=
  ⟨_, _, rfl, hl, fun _ => ⟨b, 0, rfl, fun j u h => by rw [Nat.zero_add]; exact Rd.row h⟩⟩
/-- Blocks held against each other. -/
def eqBlk (B C : Blk) : Bool := allB 64 fun i => decide ((B i).toNat = ((C i).toNat : Int))
theorem eqBlk_t {B C : Blk} (h : ∀ i, i < 64 → B i = C i) : eqBlk B C = true := by
  unfold eqBlk; rw [allB_iff]; intro i hi; rw [h i hi]; simp
theorem EqR.blk {d : Nat} {B C : Blk} : EqR Tryd.prog (d + 2) 25 (blk B) (blk C) (eqBlk B C) :=
  EqR.arr (P := Tryd.prog) (d := d + 1) (t := 25) (n := 64) rfl fun i hi => ⟨_, _, cells_get B hi rfl, cells_get C hi rfl, EqR.int⟩

theorem EqR.blkT {d : Nat} {B C : Blk} (h : ∀ i, i < 64 → B i = C i) : EqR Tryd.prog (d + 2) 25 (.agg (cells B).toArray) (.agg (cells C).toArray) true := by
  rw [← eqBlk_t h]; exact EqR.blk
def exL : List (Int × Int) := [(0, 1), (1, 63)]
theorem awake_spec : Fn Tryd.prog 13 #[] [] (fun v Q => v = .bool true ∧ Q = []) := by
  refine Fn.mk Tryd.func13 rfl rfl fun w0 F => ?_
  (refine G.seq ?_; refine G.region ?_; refine GO.assign rfl rfl ?_; refine GO.nil ?_; refine kthen_n ?_; refine G.seq ?_; refine G.region ?_; refine GO.build2 rfl rfl rfl rfl ?_; refine GO.build2 rfl rfl rfl rfl ?_)
  refine GO.buildSlice2 rfl rfl rfl (by simp [putParts, Value.cells]) rfl (by omega) fun b => ?_
  refine GO.call1 rfl rfl (of_spec _ _ exL (SlR.own (l := cellsV exL) rfl) (by decide)) (Tks.c Tk.h Tks.n) ?_
  rintro _ _ ⟨rfl, rfl⟩
  have e : ofV exL = .tuple #[blk (foldB exL), i64 0] := rfl
  rw [e]
  (refine GO.move rfl rfl ?_; refine GO.extract rfl rfl rfl ?_; refine GO.extract rfl rfl rfl ?_)
  refine GO.alloc rfl fun b1 => ?_
  refine GO.storeW rfl rfl Tk.h ⟨cells_len _, rfl⟩ (cells_one _) ?_
  (refine GO.assign rfl rfl ?_; refine GO.nil ?_; refine kthen_n ?_; refine G.seq ?_; refine G.region ?_)
  refine GO.loadW rfl rfl rfl Tk.h (cells_len _) ?_
  refine GO.call3 rfl rfl rfl rfl (get_spec _ 1 63) Tks.n ?_
  rintro _ _ ⟨rfl, rfl⟩
  have e1 : getV (foldB exL) 1 63 = .tuple #[.bool true, i64 0] := rfl
  rw [e1]
  (refine GO.move rfl rfl ?_; refine GO.extract rfl rfl rfl ?_; refine GO.extract rfl rfl rfl ?_; refine GO.assign rfl rfl ?_; refine GO.assign rfl rfl ?_; refine GO.nil ?_; refine kthen_n ?_; refine G.seq ?_; refine G.region ?_)
  refine GO.loadW rfl rfl rfl Tk.h (cells_len _) ?_
  refine GO.call2 rfl rfl rfl (row_spec _ 1) Tks.n ?_
  rintro _ _ ⟨rfl, rfl⟩
  have e2 : rowV (foldB exL) 1 = .tuple #[.int .u64 9223372036854775808, i64 0] := rfl
  rw [e2]
  (refine GO.move rfl rfl ?_; refine GO.extract rfl rfl rfl ?_; refine GO.extract rfl rfl rfl ?_; refine GO.assign rfl rfl ?_; refine GO.assign rfl rfl ?_; refine GO.nil ?_; refine kthen_n ?_; refine G.seq ?_; refine G.region ?_)
  refine GO.loadW rfl rfl rfl Tk.h (cells_len _) ?_
  refine GO.call3 rfl rfl rfl rfl (get_spec _ 64 0) Tks.n ?_
  rintro _ _ ⟨rfl, rfl⟩
  have e3 : getV (foldB exL) 64 0 = .tuple #[.bool false, i64 2] := rfl
  rw [e3]
  (refine GO.move rfl rfl ?_; refine GO.extract rfl rfl rfl ?_; refine GO.extract rfl rfl rfl ?_; refine GO.assign rfl rfl ?_; refine GO.assign rfl rfl ?_; refine GO.nil ?_; refine kthen_n ?_; refine G.seq ?_; refine G.region ?_; refine GO.move rfl rfl ?_; refine GO.eqT rfl rfl rfl rfl ?_; refine GO.move rfl rfl ?_; refine GO.gT rfl rfl rfl ?_; refine GO.move rfl rfl ?_; refine GO.gT rfl rfl rfl ?_; refine GO.eqT rfl rfl rfl rfl ?_; refine GO.pickT rfl rfl rfl ?_; refine GO.move rfl rfl ?_; refine GO.gT rfl rfl rfl ?_; refine GO.move rfl rfl ?_; refine GO.gT rfl rfl rfl ?_; refine GO.eqT rfl rfl rfl rfl ?_; refine GO.pickT rfl rfl rfl ?_; refine GO.move rfl rfl ?_; refine GO.gT rfl rfl rfl ?_; refine GO.move rfl rfl ?_; refine GO.gT rfl rfl rfl ?_; refine GO.eqT rfl rfl rfl rfl ?_; refine GO.pickT rfl rfl rfl ?_; refine GO.move rfl rfl ?_; refine GO.gT rfl rfl rfl ?_; refine GO.move rfl rfl ?_; refine GO.pickT rfl rfl rfl ?_; refine GO.move rfl rfl ?_; refine GO.gT rfl rfl rfl ?_; refine GO.move rfl rfl ?_; refine GO.gT rfl rfl rfl ?_; refine GO.eqT rfl rfl rfl rfl ?_; refine GO.pickT rfl rfl rfl ?_; refine GO.move rfl rfl ?_; refine GO.gT rfl rfl rfl ?_)
  refine GO.loadW rfl rfl rfl Tk.h (cells_len _) ?_
  refine GO.gT rfl rfl rfl ?_
  refine GO.call1 rfl rfl (len_spec _) Tks.n ?_
  rintro _ _ ⟨rfl, rfl⟩
  have e4 : lenB (foldB exL) 64 = 2 := by decide +kernel
  rw [e4]
  (refine GO.gT rfl rfl rfl ?_; refine GO.eqT rfl rfl rfl rfl ?_; refine GO.pickT rfl rfl rfl ?_; refine GO.assign rfl rfl ?_; refine GO.nil ?_; refine kthen_n ?_; refine G.ret ?_)
  refine KF.r1 rfl (RV.t rfl) ⟨rfl, rfl⟩ ?_
  (skip; (refine Sb.s ?_; refine Sb.s ?_; exact Sb.r))

end Go.Proofs.YticnafofachleaaDoor
