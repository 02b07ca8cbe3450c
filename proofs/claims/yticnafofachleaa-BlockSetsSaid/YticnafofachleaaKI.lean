/-
  The law on Or, And, Less, Turn, Corner and One.
-/
import Derived.Test.YticnafofachleaaKD
import Derived.Test.YticnafofachleaaKH
namespace Go.Proofs.Yticnafofachleaa
open Go
attribute [local irreducible] G GO GQ Fn pt init exs pur sat

set_option maxHeartbeats 4000000 in
theorem sets_law (q : HP) (v v' : Value) (cs cs' : List (Int × Int)) (hv : SlR q v cs.length 2 (cellsV cs)) (hn : cs.length ≤ 9223372036854775807) (hv' : SlR q v' cs'.length 2 (cellsV cs')) (hn' : cs'.length ≤ 9223372036854775807) (r k : Int) :
    Fn Try.prog 4 #[v, v', i64 r, i64 k] [q] (fun x Q => x = .bool true ∧ Q = [q]) := by
  refine Fn.mk Try.func4 rfl rfl fun w0 F => ?_
  (refine G.seq ?_; refine G.region ?_; refine GO.assign rfl rfl ?_; refine GO.nil ?_; refine kthen_n ?_; refine G.seq ?_; refine G.region ?_; refine GO.move rfl rfl ?_)
  refine GO.call1 rfl rfl (fold_spec q v cs hv hn) (Tks.c Tk.h Tks.n) ?_
  rintro _ _ ⟨rfl, rfl⟩
  (refine GO.move rfl rfl ?_)
  refine GO.call1 rfl rfl (fold_spec q v' cs' hv' hn') (Tks.c Tk.h Tks.n) ?_
  rintro _ _ ⟨rfl, rfl⟩
  generalize foldB cs = A
  generalize foldB cs' = B
  refine GO.alloc rfl fun b9 => ?_
  refine GO.alloc rfl fun b10 => ?_
  refine GO.storeW rfl rfl (by (exact (Tk.t Tk.h))) ⟨cells_len _, rfl⟩ (cells_one _) ?_
  refine GO.storeW rfl rfl (by (exact (Tk.t Tk.h))) ⟨cells_len _, rfl⟩ (cells_one _) ?_
  (refine GO.nil ?_; refine kthen_n ?_; refine G.seq ?_; refine G.region ?_)
  refine GO.loadW rfl rfl rfl (by (exact (Tk.t Tk.h))) (cells_len _) ?_
  refine GO.loadW rfl rfl rfl (by (exact Tk.h)) (cells_len _) ?_
  refine GO.call2 rfl rfl rfl (rsets_spec A B) Tks.n ?_
  rintro _ _ ⟨rfl, rfl⟩
  (refine GO.move rfl rfl ?_; refine GO.extract rfl rfl rfl ?_; refine GO.extract rfl rfl rfl ?_; refine GO.extract rfl rfl rfl ?_)
  refine GO.alloc rfl fun b11 => ?_
  refine GO.alloc rfl fun b12 => ?_
  refine GO.alloc rfl fun b13 => ?_
  refine GO.storeW rfl rfl (by (exact (Tk.t (Tk.t Tk.h)))) ⟨cells_len _, rfl⟩ (cells_one _) ?_
  refine GO.storeW rfl rfl (by (exact (Tk.t (Tk.t Tk.h)))) ⟨cells_len _, rfl⟩ (cells_one _) ?_
  refine GO.storeW rfl rfl (by (exact (Tk.t (Tk.t Tk.h)))) ⟨cells_len _, rfl⟩ (cells_one _) ?_
  obtain ⟨c1, c2, hc⟩ : ∃ c1 c2, cornerV A r k = .tuple #[blk c1, i64 c2] := by unfold cornerV; split <;> exact ⟨_, _, rfl⟩
  (refine GO.nil ?_; refine kthen_n ?_; refine G.seq ?_; refine G.region ?_)
  refine GO.loadW rfl rfl rfl (by (exact (Tk.t (Tk.t (Tk.t (Tk.t Tk.h)))))) (cells_len _) ?_
  (refine GO.move rfl rfl ?_; refine GO.move rfl rfl ?_)
  refine GO.call3 rfl rfl rfl rfl (corner_spec A r k) Tks.n ?_
  rintro _ _ ⟨rfl, rfl⟩
  rw [hc]
  (refine GO.move rfl rfl ?_; refine GO.extract rfl rfl rfl ?_; refine GO.extract rfl rfl rfl ?_)
  refine GO.alloc rfl fun b14 => ?_
  refine GO.storeW rfl rfl (by (exact Tk.h)) ⟨cells_len _, rfl⟩ (cells_one _) ?_
  (refine GO.assign rfl rfl ?_; refine GO.nil ?_; refine kthen_n ?_; refine G.seq ?_; refine G.region ?_)
  refine GO.loadW rfl rfl rfl (by (exact (Tk.t (Tk.t (Tk.t (Tk.t (Tk.t Tk.h))))))) (cells_len _) ?_
  (refine GO.move rfl rfl ?_; refine GO.move rfl rfl ?_)
  refine GO.call3 rfl rfl rfl rfl (rcorner_spec A r k) Tks.n ?_
  rintro _ _ ⟨rfl, rfl⟩
  rw [hc]
  (refine GO.move rfl rfl ?_; refine GO.extract rfl rfl rfl ?_; refine GO.extract rfl rfl rfl ?_)
  refine GO.alloc rfl fun b16 => ?_
  refine GO.storeW rfl rfl (by (exact Tk.h)) ⟨cells_len _, rfl⟩ (cells_one _) ?_
  (refine GO.assign rfl rfl ?_; refine GO.nil ?_; refine kthen_n ?_; refine G.seq ?_)
  refine G.draw 44 (by kernel_rfl) ?_
  apply GQ.step; focus (intro Z; refine GO.loadW rfl rfl rfl (by (exact (Tk.t (Tk.t (Tk.t (Tk.t (Tk.t (Tk.t Tk.h)))))))) (cells_len _) ?_; exact KQ.z)
  apply GQ.step; focus (intro Z; refine GO.loadW rfl rfl rfl (by (exact (Tk.t (Tk.t (Tk.t (Tk.t (Tk.t Tk.h))))))) (cells_len _) ?_; exact KQ.z)
  apply GQ.step; focus (intro Z; refine GO.call2 rfl rfl rfl (or_spec A B) Tks.n ?_; rintro _ _ ⟨rfl, rfl⟩; exact KQ.z)
  apply GQ.step; focus (intro Z; refine GO.loadW rfl rfl rfl (by (exact (Tk.t (Tk.t (Tk.t (Tk.t Tk.h)))))) (cells_len _) ?_; exact KQ.z)
  apply GQ.step; focus (intro Z; refine GO.eqlA (EqR.blkT fun _ _ => rfl) rfl rfl rfl ?_; exact KQ.z)
  ((apply GQ.step; focus (intro Z; refine GO.move rfl rfl ?_; exact KQ.z)))
  apply GQ.step; focus (intro Z; refine GO.gT rfl rfl rfl ?_; refine GO.loadW rfl rfl rfl (by (exact (Tk.t (Tk.t (Tk.t (Tk.t (Tk.t (Tk.t Tk.h)))))))) (cells_len _) ?_; exact KQ.z)
  apply GQ.step; focus (intro Z; refine GO.gT rfl rfl rfl ?_; refine GO.loadW rfl rfl rfl (by (exact (Tk.t (Tk.t (Tk.t (Tk.t (Tk.t Tk.h))))))) (cells_len _) ?_; exact KQ.z)
  apply GQ.step; focus (intro Z; refine GO.gT rfl rfl rfl ?_; refine GO.call2 rfl rfl rfl (and_spec A B) Tks.n ?_; rintro _ _ ⟨rfl, rfl⟩; exact KQ.z)
  apply GQ.step; focus (intro Z; refine GO.gT rfl rfl rfl ?_; refine GO.loadW rfl rfl rfl (by (exact (Tk.t (Tk.t (Tk.t Tk.h))))) (cells_len _) ?_; exact KQ.z)
  apply GQ.step; focus (intro Z; refine GO.gT rfl rfl rfl ?_; refine GO.eqlA (EqR.blkT fun _ _ => rfl) rfl rfl rfl ?_; exact KQ.z)
  ((apply GQ.step; focus (intro Z; refine GO.pickT rfl rfl rfl ?_; exact KQ.z)); (apply GQ.step; focus (intro Z; refine GO.move rfl rfl ?_; exact KQ.z)))
  apply GQ.step; focus (intro Z; refine GO.gT rfl rfl rfl ?_; refine GO.loadW rfl rfl rfl (by (exact (Tk.t (Tk.t (Tk.t (Tk.t (Tk.t (Tk.t Tk.h)))))))) (cells_len _) ?_; exact KQ.z)
  apply GQ.step; focus (intro Z; refine GO.gT rfl rfl rfl ?_; refine GO.loadW rfl rfl rfl (by (exact (Tk.t (Tk.t (Tk.t (Tk.t (Tk.t Tk.h))))))) (cells_len _) ?_; exact KQ.z)
  apply GQ.step; focus (intro Z; refine GO.gT rfl rfl rfl ?_; refine GO.call2 rfl rfl rfl (less_spec A B) Tks.n ?_; rintro _ _ ⟨rfl, rfl⟩; exact KQ.z)
  apply GQ.step; focus (intro Z; refine GO.gT rfl rfl rfl ?_; refine GO.loadW rfl rfl rfl (by (exact (Tk.t (Tk.t Tk.h)))) (cells_len _) ?_; exact KQ.z)
  apply GQ.step; focus (intro Z; refine GO.gT rfl rfl rfl ?_; refine GO.eqlA (EqR.blkT fun _ _ => rfl) rfl rfl rfl ?_; exact KQ.z)
  ((apply GQ.step; focus (intro Z; refine GO.pickT rfl rfl rfl ?_; exact KQ.z)); (apply GQ.step; focus (intro Z; refine GO.move rfl rfl ?_; exact KQ.z)))
  apply GQ.step; focus (intro Z; refine GO.gT rfl rfl rfl ?_; refine GO.loadW rfl rfl rfl (by (exact (Tk.t (Tk.t (Tk.t (Tk.t (Tk.t (Tk.t Tk.h)))))))) (cells_len _) ?_; exact KQ.z)
  apply GQ.step; focus (intro Z; refine GO.gT rfl rfl rfl ?_; refine GO.call1 rfl rfl (turn_spec A) Tks.n ?_; rintro _ _ ⟨rfl, rfl⟩; exact KQ.z)
  apply GQ.step; focus (intro Z; refine GO.gT rfl rfl rfl ?_; refine GO.loadW rfl rfl rfl (by (exact (Tk.t (Tk.t (Tk.t (Tk.t (Tk.t (Tk.t Tk.h)))))))) (cells_len _) ?_; exact KQ.z)
  apply GQ.step; focus (intro Z; refine GO.gT rfl rfl rfl ?_; refine GO.call1 rfl rfl (rturn_spec A) Tks.n ?_; rintro _ _ ⟨rfl, rfl⟩; exact KQ.z)
  apply GQ.step; focus (intro Z; refine GO.gT rfl rfl rfl ?_; refine GO.eqlA (EqR.blkT fun _ _ => rfl) rfl rfl rfl ?_; exact KQ.z)
  ((apply GQ.step; focus (intro Z; refine GO.pickT rfl rfl rfl ?_; exact KQ.z)); (apply GQ.step; focus (intro Z; refine GO.move rfl rfl ?_; exact KQ.z)))
  apply GQ.step; focus (intro Z; refine GO.gT rfl rfl rfl ?_; refine GO.loadW rfl rfl rfl (by (exact (Tk.t Tk.h))) (cells_len _) ?_; exact KQ.z)
  apply GQ.step; focus (intro Z; refine GO.gT rfl rfl rfl ?_; refine GO.loadW rfl rfl rfl (by (exact Tk.h)) (cells_len _) ?_; exact KQ.z)
  apply GQ.step; focus (intro Z; refine GO.gT rfl rfl rfl ?_; refine GO.eqlA (EqR.blkT fun _ _ => rfl) rfl rfl rfl ?_; exact KQ.z)
  ((apply GQ.step; focus (intro Z; refine GO.pickT rfl rfl rfl ?_; exact KQ.z)); (apply GQ.step; focus (intro Z; refine GO.move rfl rfl ?_; exact KQ.z)))
  apply GQ.step; focus (intro Z; refine GO.gT rfl rfl rfl ?_; refine GO.move rfl rfl ?_; exact KQ.z)
  apply GQ.step; focus (intro Z; refine GO.gT rfl rfl rfl ?_; refine GO.move rfl rfl ?_; exact KQ.z)
  apply GQ.step; focus (intro Z; refine GO.gT rfl rfl rfl ?_; refine GO.eqT rfl rfl rfl rfl ?_; exact KQ.z)
  ((apply GQ.step; focus (intro Z; refine GO.pickT rfl rfl rfl ?_; exact KQ.z)); (apply GQ.step; focus (intro Z; refine GO.move rfl rfl ?_; exact KQ.z)))
  apply GQ.step; focus (intro Z; refine GO.gT rfl rfl rfl ?_; refine GO.call0 rfl (one_spec) Tks.n ?_; rintro _ _ ⟨rfl, rfl⟩; exact KQ.z)
  apply GQ.step; focus (intro Z; refine GO.gT rfl rfl rfl ?_; refine GO.call0 rfl (rone_spec) Tks.n ?_; rintro _ _ ⟨rfl, rfl⟩; exact KQ.z)
  apply GQ.step; focus (intro Z; refine GO.gT rfl rfl rfl ?_; refine GO.eqlA (EqR.blkT fun _ _ => rfl) rfl rfl rfl ?_; exact KQ.z)
  ((apply GQ.step; focus (intro Z; refine GO.pickT rfl rfl rfl ?_; exact KQ.z)); (apply GQ.step; focus (intro Z; refine GO.move rfl rfl ?_; exact KQ.z)))
  apply GQ.step; focus (intro Z; refine GO.gT rfl rfl rfl ?_; refine GO.call0 rfl (awake_spec) Tks.n ?_; rintro _ _ ⟨rfl, rfl⟩; exact KQ.z)
  ((apply GQ.step; focus (intro Z; refine GO.pickT rfl rfl rfl ?_; exact KQ.z)))
  refine GQ.nil ?_
  (refine GO.assign rfl rfl ?_; refine GO.nil ?_; refine kthen_n ?_; refine G.ret ?_)
  refine KF.r1 rfl (RV.t rfl) ⟨rfl, rfl⟩ ?_
  ((refine Sb.c (Tk.t (Tk.t (Tk.t (Tk.t (Tk.t (Tk.t (Tk.t Tk.h))))))) ?_); (refine Sb.s ?_; refine Sb.s ?_; refine Sb.s ?_; refine Sb.s ?_; refine Sb.s ?_; refine Sb.s ?_; refine Sb.s ?_; exact Sb.r))
end Go.Proofs.Yticnafofachleaa
