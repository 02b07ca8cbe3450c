/-
  The walk of the law BlockTurned.
-/
import Derived.Test.YticnafofachleaaDoorKL
namespace Go.Proofs.YticnafofachleaaDoor
open Go
attribute [local irreducible] G GO GQ Fn pt init exs pur sat
set_option maxHeartbeats 4000000 in
set_option maxRecDepth 20000 in
theorem turned_law (q : HP) (hq : Tab q) (v v' : Value) (cs cs' : List (Int × Int)) (hv : SlR q v cs.length 2 (cellsV cs)) (hn : cs.length ≤ 9223372036854775807) (hv' : SlR q v' cs'.length 2 (cellsV cs')) (hn' : cs'.length ≤ 9223372036854775807) :
    Fn Tryd.prog 6 #[v, v'] [q] (fun x Q => x = .bool true ∧ Q = [q]) := by
  refine Fn.mk Tryd.func6 rfl rfl fun w0 F => ?_
  (refine G.seq ?_; refine G.region ?_; refine GO.assign rfl rfl ?_; refine GO.nil ?_; refine kthen_n ?_; refine G.seq ?_; refine G.region ?_; refine GO.move rfl rfl ?_)
  refine GO.call1 rfl rfl (fold_spec q v cs hv hn) (Tks.c Tk.h Tks.n) ?_
  rintro _ _ ⟨rfl, rfl⟩
  (refine GO.move rfl rfl ?_)
  refine GO.call1 rfl rfl (fold_spec q v' cs' hv' hn') (Tks.c Tk.h Tks.n) ?_
  rintro _ _ ⟨rfl, rfl⟩
  generalize foldB cs = A
  generalize foldB cs' = B
  refine GO.alloc rfl fun b5 => ?_
  refine GO.alloc rfl fun b6 => ?_
  refine GO.storeW rfl rfl (by (exact (Tk.t Tk.h))) ⟨cells_len _, rfl⟩ (cells_one _) ?_
  refine GO.storeW rfl rfl (by (exact (Tk.t Tk.h))) ⟨cells_len _, rfl⟩ (cells_one _) ?_
  (refine GO.nil ?_; refine kthen_n ?_; refine G.seq ?_; refine G.region ?_)
  refine GO.loadW rfl rfl rfl (by (exact (Tk.t Tk.h))) (cells_len _) ?_
  refine GO.call1 rfl rfl (turn_spec A) Tks.n ?_
  rintro _ _ ⟨rfl, rfl⟩
  refine GO.alloc rfl fun b7 => ?_
  refine GO.storeW rfl rfl (by (exact Tk.h)) ⟨cells_len _, rfl⟩ (cells_one _) ?_
  (refine GO.nil ?_; refine kthen_n ?_; refine G.seq ?_; refine G.seq ?_; refine G.region ?_; refine GO.assign rfl rfl ?_; refine GO.nil ?_; refine kthen_n ?_; refine G.block ?_)
  refine G.loop (fun i : Nat => [(5, .pointer (some ⟨b5, 0, none⟩)), (6, .pointer (some ⟨b6, 0, none⟩)), (7, .pointer (some ⟨b7, 0, none⟩)), (8, i64 i)])
    (fun i => q :: pt b5 (row (cells A) 25) :: pt b6 (row (cells B) 25) :: pt b7 (row (cells (turnB A)) 25) :: F) (fun i => i ≤ 4096) (fun i => 4096 - i) 0 (by omega) ?_ ?_ ?_
  · (refine SubE.c rfl rfl ?_; refine SubE.c rfl rfl ?_; refine SubE.c rfl rfl ?_; refine SubE.c rfl rfl ?_; exact SubE.n)
  · ((refine Sb.c (Tk.t (Tk.t (Tk.t Tk.h))) ?_; refine Sb.c (Tk.t (Tk.t Tk.h)) ?_; refine Sb.c (Tk.t Tk.h) ?_; refine Sb.c Tk.h ?_); (exact Sb.r))
  intro i hi
  (refine G.seq ?_; refine G.seq ?_; refine G.region ?_; refine GO.move rfl rfl ?_; refine GO.lti rfl rfl rfl ?_; refine GO.nil ?_; refine kthen_n ?_)
  refine G.condD rfl (fun hlt => ?_) (fun hge => ?_)
  · (refine G.skip ?_; refine kthen_n ?_; refine G.seq ?_; refine G.block ?_; refine G.seq ?_; refine G.region ?_; refine GO.move rfl rfl ?_; refine GO.quoi rfl rfl rfl (by omega) ?_; refine GO.move rfl rfl ?_; refine GO.remi rfl rfl rfl (by omega) ?_; refine GO.assign rfl rfl ?_; refine GO.assign rfl rfl ?_; refine GO.nil ?_; refine kthen_n ?_; refine G.seq ?_)
    have e1 : (i : Int) / 64 = ((i / 64 : Nat) : Int) := by omega
    have e2 : (i : Int) % 64 = ((i % 64 : Nat) : Int) := by omega
    rw [e1, e2]
    have hr : i / 64 < 64 := by omega
    have hc : i % 64 < 64 := by omega
    generalize i / 64 = r at hr ⊢
    generalize i % 64 = c at hc ⊢
    refine G.draw 15 (by kernel_rfl) ?_
    ((apply GQ.step; focus (intro Z; refine GO.move rfl rfl ?_; exact KQ.z)); (apply GQ.step; focus (intro Z; refine GO.idxA rfl rfl rfl ⟨rfl, by omega⟩ ?_; exact KQ.z)))
    apply GQ.step; focus (intro Z; refine GO.load1 rfl rfl rfl (Tk.t Tk.h) (cells_get A (j := r) (by omega) (by omega)) ?_; exact KQ.z)
    ((apply GQ.step; focus (intro Z; refine GO.move rfl rfl ?_; exact KQ.z)))
    apply GQ.step; focus (intro Z; refine GO.conv rfl rfl (by rw [IntWalk.u64_in]; omega) ?_; exact KQ.z)
    ((apply GQ.step; focus (intro Z; refine GO.shru rfl rfl rfl ?_; exact KQ.z)))
    apply GQ.step; focus (intro Z; refine GO.remu rfl rfl rfl (by decide) ?_; exact KQ.z)
    ((apply GQ.step; focus (intro Z; refine GO.move rfl rfl ?_; exact KQ.z)); (apply GQ.step; focus (intro Z; refine GO.idxA rfl rfl rfl ⟨rfl, by omega⟩ ?_; exact KQ.z)))
    apply GQ.step; focus (intro Z; refine GO.load1 rfl rfl rfl (Tk.t (Tk.t (Tk.t Tk.h))) (cells_get (turnB A) (j := c) (by omega) (by omega)) ?_; exact KQ.z)
    ((apply GQ.step; focus (intro Z; refine GO.move rfl rfl ?_; exact KQ.z)))
    apply GQ.step; focus (intro Z; refine GO.conv rfl rfl (by rw [IntWalk.u64_in]; omega) ?_; exact KQ.z)
    ((apply GQ.step; focus (intro Z; refine GO.shru rfl rfl rfl ?_; exact KQ.z)))
    apply GQ.step; focus (intro Z; refine GO.remu rfl rfl rfl (by decide) ?_; exact KQ.z)
    ((apply GQ.step; focus (intro Z; refine GO.neu rfl rfl rfl ?_; exact KQ.z)))
    refine GQ.nil ?_
    (refine GO.nil ?_; refine kthen_n ?_)
    refine G.condD rfl (fun hne => ?_) (fun he => ?_)
    · exact absurd (by rw [bit_two, bit_two, turnB_bit A c r hr]) hne
    · (refine G.skip ?_; refine kblock_n ?_; refine kthen_n ?_; refine G.region ?_; refine GO.move rfl rfl ?_; refine GO.addi rfl rfl rfl (by omega) ?_; refine GO.assign rfl rfl ?_; refine GO.nil ?_; refine kthen_n ?_)
      refine ⟨i + 1, by omega, by omega, ?_, ?_⟩
      · (refine SubE.c rfl rfl ?_; refine SubE.c rfl rfl ?_; refine SubE.c rfl rfl ?_; refine SubE.c rfl rfl ?_; exact SubE.n)
      · ((refine Sb.c Tk.h ?_; refine Sb.c Tk.h ?_; refine Sb.c Tk.h ?_; refine Sb.c Tk.h ?_); (exact Sb.r))
  have : i = 4096 := by omega
  subst this
  (refine G.exit ?_; refine G.seq ?_)
  refine G.draw 17 (by kernel_rfl) ?_
  apply GQ.step; focus (intro Z; refine GO.loadW rfl rfl rfl (by (exact (Tk.t (Tk.t (Tk.t Tk.h))))) (cells_len _) ?_; exact KQ.z)
  apply GQ.step; focus (intro Z; refine GO.call1 rfl rfl (turn_spec (turnB A)) Tks.n ?_; rintro _ _ ⟨rfl, rfl⟩; exact KQ.z)
  apply GQ.step; focus (intro Z; refine GO.loadW rfl rfl rfl (by (exact (Tk.t Tk.h))) (cells_len _) ?_; exact KQ.z)
  apply GQ.step; focus (intro Z; refine GO.eqlA (EqR.blkT fun i hi => turn_turn A i hi) rfl rfl rfl ?_; exact KQ.z)
  ((apply GQ.step; focus (intro Z; refine GO.move rfl rfl ?_; exact KQ.z)))
  apply GQ.step; focus (intro Z; refine GO.gT rfl rfl rfl ?_; refine GO.loadW rfl rfl rfl (by (exact (Tk.t Tk.h))) (cells_len _) ?_; exact KQ.z)
  apply GQ.step; focus (intro Z; refine GO.gT rfl rfl rfl ?_; refine GO.loadW rfl rfl rfl (by (exact (Tk.t (Tk.t Tk.h)))) (cells_len _) ?_; exact KQ.z)
  apply GQ.step; focus (intro Z; refine GO.gT rfl rfl rfl ?_; refine GO.call2 rfl rfl rfl (mul_spec q hq A B) (Tks.c Tk.h Tks.n) ?_; rintro _ _ ⟨rfl, rfl⟩; exact KQ.z)
  apply GQ.step; focus (intro Z; refine GO.gT rfl rfl rfl ?_; refine GO.call1 rfl rfl (turn_spec (mulB A B)) Tks.n ?_; rintro _ _ ⟨rfl, rfl⟩; exact KQ.z)
  apply GQ.step; focus (intro Z; refine GO.gT rfl rfl rfl ?_; refine GO.loadW rfl rfl rfl (by (exact (Tk.t (Tk.t Tk.h)))) (cells_len _) ?_; exact KQ.z)
  apply GQ.step; focus (intro Z; refine GO.gT rfl rfl rfl ?_; refine GO.call1 rfl rfl (turn_spec B) Tks.n ?_; rintro _ _ ⟨rfl, rfl⟩; exact KQ.z)
  apply GQ.step; focus (intro Z; refine GO.gT rfl rfl rfl ?_; refine GO.loadW rfl rfl rfl (by (exact (Tk.t (Tk.t (Tk.t Tk.h))))) (cells_len _) ?_; exact KQ.z)
  apply GQ.step; focus (intro Z; refine GO.gT rfl rfl rfl ?_; refine GO.call2 rfl rfl rfl (mul_spec q hq (turnB B) (turnB A)) (Tks.c Tk.h Tks.n) ?_; rintro _ _ ⟨rfl, rfl⟩; exact KQ.z)
  apply GQ.step; focus (intro Z; refine GO.gT rfl rfl rfl ?_; refine GO.eqlA (EqR.blkT fun i hi => turn_mul A B i hi) rfl rfl rfl ?_; exact KQ.z)
  ((apply GQ.step; focus (intro Z; refine GO.pickT rfl rfl rfl ?_; exact KQ.z)); (apply GQ.step; focus (intro Z; refine GO.move rfl rfl ?_; exact KQ.z)))
  apply GQ.step; focus (intro Z; refine GO.gT rfl rfl rfl ?_; refine GO.call0 rfl (awake_spec) Tks.n ?_; rintro _ _ ⟨rfl, rfl⟩; exact KQ.z)
  skip
  refine GQ.nil ?_
  (refine GO.pickT rfl rfl rfl ?_; refine GO.assign rfl rfl ?_; refine GO.nil ?_; refine kthen_n ?_; refine G.ret ?_)
  refine KF.r1 rfl (RV.t rfl) ⟨rfl, rfl⟩ ?_
  ((refine Sb.c Tk.h ?_); (refine Sb.s ?_; refine Sb.s ?_; refine Sb.s ?_; exact Sb.r))
end Go.Proofs.YticnafofachleaaDoor
