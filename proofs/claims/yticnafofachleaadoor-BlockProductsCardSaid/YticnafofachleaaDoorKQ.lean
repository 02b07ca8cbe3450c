/-
  The walk of the law BlockProducts.
-/
import Derived.Test.YticnafofachleaaDoorKP
namespace Go.Proofs.YticnafofachleaaDoor
open Go
attribute [local irreducible] G GO GQ Fn pt init exs pur sat
set_option maxHeartbeats 4000000 in
set_option maxRecDepth 20000 in
theorem products_law (q : HP) (hq : Tab q) (v v' : Value) (cs cs' : List (Int × Int)) (hv : SlR q v cs.length 2 (cellsV cs)) (hn : cs.length ≤ 9223372036854775807) (hv' : SlR q v' cs'.length 2 (cellsV cs')) (hn' : cs'.length ≤ 9223372036854775807) :
    Fn Tryd.prog 4 #[v, v'] [q] (fun x Q => x = .bool true ∧ Q = [q]) := by
  refine Fn.mk Tryd.func4 rfl rfl fun w0 F => ?_
  (refine G.seq ?_; refine G.region ?_; refine GO.assign rfl rfl ?_; refine GO.nil ?_; refine kthen_n ?_; refine G.seq ?_; refine G.region ?_; refine GO.move rfl rfl ?_)
  refine GO.call1 rfl rfl (fold_spec q v cs hv hn) (Tks.c Tk.h Tks.n) ?_
  rintro _ _ ⟨rfl, rfl⟩
  (refine GO.move rfl rfl ?_)
  refine GO.call1 rfl rfl (fold_spec q v' cs' hv' hn') (Tks.c Tk.h Tks.n) ?_
  rintro _ _ ⟨rfl, rfl⟩
  generalize foldB cs = A
  generalize foldB cs' = B
  refine GO.alloc rfl fun b5 => ?_
  refine GO.alloc rfl fun b6 => ?_
  refine GO.storeW rfl rfl (by (exact (Tk.t Tk.h))) ⟨cells_len _, rfl⟩ (cells_one _) ?_
  refine GO.storeW rfl rfl (by (exact (Tk.t Tk.h))) ⟨cells_len _, rfl⟩ (cells_one _) ?_
  (refine GO.nil ?_; refine kthen_n ?_; refine G.seq ?_)
  refine G.take (p := q) (by (exact (Tk.t (Tk.t Tk.h)))) ?_
  refine G.draw 16 (by kernel_rfl) ?_
  apply GQ.step; focus (intro Z; refine GO.loadW rfl rfl rfl (by (exact (Tk.t (Tk.t Tk.h)))) (cells_len _) ?_; exact KQ.z)
  apply GQ.step; focus (intro Z; refine GO.loadW rfl rfl rfl (by (exact (Tk.t Tk.h))) (cells_len _) ?_; exact KQ.z)
  apply GQ.step; focus (intro Z; refine GO.call2 rfl rfl rfl (mul_spec q hq A B) (Tks.c Tk.h Tks.n) ?_; rintro _ _ ⟨rfl, rfl⟩; exact KQ.z)
  apply GQ.step; focus (intro Z; refine GO.loadW rfl rfl rfl (by (exact (Tk.t (Tk.t Tk.h)))) (cells_len _) ?_; exact KQ.z)
  apply GQ.step; focus (intro Z; refine GO.loadW rfl rfl rfl (by (exact (Tk.t Tk.h))) (cells_len _) ?_; exact KQ.z)
  apply GQ.step; focus (intro Z; refine GO.call2 rfl rfl rfl (rmul_spec A B) Tks.n ?_; rintro _ _ ⟨rfl, rfl⟩; exact KQ.z)
  apply GQ.step; focus (intro Z; refine GO.eqlA (EqR.blkT fun i hi => rfl) rfl rfl rfl ?_; exact KQ.z)
  ((apply GQ.step; focus (intro Z; refine GO.move rfl rfl ?_; exact KQ.z)))
  apply GQ.step; focus (intro Z; refine GO.gT rfl rfl rfl ?_; refine GO.loadW rfl rfl rfl (by (exact (Tk.t (Tk.t Tk.h)))) (cells_len _) ?_; exact KQ.z)
  apply GQ.step; focus (intro Z; refine GO.gT rfl rfl rfl ?_; refine GO.call1 rfl rfl (close_spec A) Tks.n ?_; rintro _ _ ⟨rfl, rfl⟩; exact KQ.z)
  apply GQ.step; focus (intro Z; refine GO.gT rfl rfl rfl ?_; refine GO.loadW rfl rfl rfl (by (exact (Tk.t (Tk.t Tk.h)))) (cells_len _) ?_; exact KQ.z)
  apply GQ.step; focus (intro Z; refine GO.gT rfl rfl rfl ?_; refine GO.call1 rfl rfl (rclose_spec A) Tks.n ?_; rintro _ _ ⟨rfl, rfl⟩; exact KQ.z)
  apply GQ.step; focus (intro Z; refine GO.gT rfl rfl rfl ?_; refine GO.eqlA (EqR.blkT fun i hi => rfl) rfl rfl rfl ?_; exact KQ.z)
  ((apply GQ.step; focus (intro Z; refine GO.pickT rfl rfl rfl ?_; exact KQ.z)); (apply GQ.step; focus (intro Z; refine GO.move rfl rfl ?_; exact KQ.z)))
  apply GQ.step; focus (intro Z; refine GO.gT rfl rfl rfl ?_; refine GO.call0 rfl (awake_spec) Tks.n ?_; rintro _ _ ⟨rfl, rfl⟩; exact KQ.z)
  skip
  refine GQ.nil ?_
  (refine GO.pickT rfl rfl rfl ?_; refine GO.assign rfl rfl ?_; refine GO.nil ?_; refine kthen_n ?_; refine G.ret ?_)
  refine KF.r1 rfl (RV.t rfl) ⟨rfl, rfl⟩ ?_
  ((refine Sb.c Tk.h ?_); (refine Sb.s ?_; refine Sb.s ?_; exact Sb.r))
end Go.Proofs.YticnafofachleaaDoor
