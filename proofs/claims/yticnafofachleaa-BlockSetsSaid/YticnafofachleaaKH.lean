/-
  The contract of the reference's Sets.
-/
import Derived.Test.YticnafofachleaaKG
namespace Go.Proofs.Yticnafofachleaa
open Go
attribute [local irreducible] G GO GQ Fn pt init exs pur sat

def oP (A B : Blk) : Nat → Nat → Bool := fun r c => (A r).getLsbD c || (B r).getLsbD c
def aP (A B : Blk) : Nat → Nat → Bool := fun r c => (A r).getLsbD c && (B r).getLsbD c
def lP (A B : Blk) : Nat → Nat → Bool := fun r c => (A r).getLsbD c && !(B r).getLsbD c
theorem oP_end (A B : Blk) : cells (partB (oP A B) 64 0) = cells (orB A B) := by
  rw [partB_end]; exact cells_congr fun i _ => eq_of_bits fun c hc => by rw [blkOf_bit _ i c hc]; simp [oP, orB]
theorem aP_end (A B : Blk) : cells (partB (aP A B) 64 0) = cells (andB A B) := by
  rw [partB_end]; exact cells_congr fun i _ => eq_of_bits fun c hc => by rw [blkOf_bit _ i c hc]; simp [aP, andB]
theorem lP_end (A B : Blk) : cells (partB (lP A B) 64 0) = cells (lessB A B) := by
  rw [partB_end]; exact cells_congr fun i _ => eq_of_bits fun c hc => by rw [blkOf_bit _ i c hc]; simp [lP, lessB, hc]
set_option maxHeartbeats 4000000 in
theorem rsets_spec (A B : Blk) : Fn Try.prog 15 #[blk A, blk B] [] (fun v Q => v = .tuple #[blk (orB A B), blk (andB A B), blk (lessB A B)] ∧ Q = []) := by
  refine Fn.mk Try.func15 rfl rfl fun w0 F => ?_
  (refine G.seq ?_; refine G.region ?_)
  refine GO.box rfl rfl rfl fun b2 => ?_
  refine GO.box rfl rfl rfl fun b3 => ?_
  refine GO.alloc rfl fun b4 => ?_
  refine GO.alloc rfl fun b5 => ?_
  refine GO.alloc rfl fun b6 => ?_
  (refine GO.nil ?_; refine kthen_n ?_; refine G.seq ?_; refine G.region ?_)
  refine GO.alloc rfl fun b7 => ?_
  refine GO.alloc rfl fun b8 => ?_
  refine GO.alloc rfl fun b9 => ?_
  rw [cells_zero]
  have e7 := partB_zero (oP A B)
  have e8 := partB_zero (aP A B)
  have e9 := partB_zero (lP A B)
  (refine GO.nil ?_; refine kthen_n ?_; refine G.seq ?_; refine G.seq ?_; refine G.region ?_; refine GO.assign rfl rfl ?_; refine GO.nil ?_; refine kthen_n ?_; refine G.block ?_)
  refine G.loop (fun j : Nat => [(2, .pointer (some ⟨b2, 0, none⟩)), (3, .pointer (some ⟨b3, 0, none⟩)), (4, .pointer (some ⟨b4, 0, none⟩)), (5, .pointer (some ⟨b5, 0, none⟩)), (6, .pointer (some ⟨b6, 0, none⟩)), (7, .pointer (some ⟨b7, 0, none⟩)), (8, .pointer (some ⟨b8, 0, none⟩)), (9, .pointer (some ⟨b9, 0, none⟩)), (10, i64 j)])
    (fun j => pt b7 (row (cells (partB (oP A B) j 0)) 25) :: pt b8 (row (cells (partB (aP A B) j 0)) 25) :: pt b9 (row (cells (partB (lP A B) j 0)) 25) :: pt b2 (row (cells A) 25) :: pt b3 (row (cells B) 25) :: pt b4 (row (cells zeroB) 25) :: pt b5 (row (cells zeroB) 25) :: pt b6 (row (cells zeroB) 25) :: F) (fun j => j ≤ 64) (fun j => 64 - j) 0 (by omega) ?_ ?_ ?_
  · (refine SubE.c rfl rfl ?_; refine SubE.c rfl rfl ?_; refine SubE.c rfl rfl ?_; refine SubE.c rfl rfl ?_; refine SubE.c rfl rfl ?_; refine SubE.c rfl rfl ?_; refine SubE.c rfl rfl ?_; refine SubE.c rfl rfl ?_; refine SubE.c rfl rfl ?_; exact SubE.n)
  · rw [← e7, ← e8, ← e9]; ((refine Sb.c (Tk.t (Tk.t Tk.h)) ?_; refine Sb.c (Tk.t Tk.h) ?_; refine Sb.c Tk.h ?_; refine Sb.c (Tk.t (Tk.t (Tk.t (Tk.t Tk.h)))) ?_; refine Sb.c (Tk.t (Tk.t (Tk.t Tk.h))) ?_; refine Sb.c (Tk.t (Tk.t Tk.h)) ?_; refine Sb.c (Tk.t Tk.h) ?_; refine Sb.c Tk.h ?_); (exact Sb.r))
  intro j hj
  (refine G.seq ?_; refine G.seq ?_; refine G.region ?_; refine GO.move rfl rfl ?_; refine GO.lti rfl rfl rfl ?_; refine GO.nil ?_; refine kthen_n ?_)
  refine G.condD rfl (fun hlt => ?_) (fun hge => ?_)
  · (refine G.skip ?_; refine kthen_n ?_; refine G.seq ?_; refine G.block ?_; refine G.seq ?_; refine G.region ?_; refine GO.assign rfl rfl ?_; refine GO.nil ?_; refine kthen_n ?_; refine G.block ?_)
    refine G.loop (fun i : Nat => [(2, .pointer (some ⟨b2, 0, none⟩)), (3, .pointer (some ⟨b3, 0, none⟩)), (4, .pointer (some ⟨b4, 0, none⟩)), (5, .pointer (some ⟨b5, 0, none⟩)), (6, .pointer (some ⟨b6, 0, none⟩)), (7, .pointer (some ⟨b7, 0, none⟩)), (8, .pointer (some ⟨b8, 0, none⟩)), (9, .pointer (some ⟨b9, 0, none⟩)), (10, i64 j), (11, i64 i)])
      (fun i => pt b7 (row (cells (partB (oP A B) j i)) 25) :: pt b8 (row (cells (partB (aP A B) j i)) 25) :: pt b9 (row (cells (partB (lP A B) j i)) 25) :: pt b2 (row (cells A) 25) :: pt b3 (row (cells B) 25) :: pt b4 (row (cells zeroB) 25) :: pt b5 (row (cells zeroB) 25) :: pt b6 (row (cells zeroB) 25) :: F) (fun i => i ≤ 64) (fun i => 64 - i) 0 (by omega) ?_ ?_ ?_
    · (refine SubE.c rfl rfl ?_; refine SubE.c rfl rfl ?_; refine SubE.c rfl rfl ?_; refine SubE.c rfl rfl ?_; refine SubE.c rfl rfl ?_; refine SubE.c rfl rfl ?_; refine SubE.c rfl rfl ?_; refine SubE.c rfl rfl ?_; refine SubE.c rfl rfl ?_; refine SubE.c rfl rfl ?_; exact SubE.n)
    · ((refine Sb.c Tk.h ?_; refine Sb.c Tk.h ?_; refine Sb.c Tk.h ?_; refine Sb.c Tk.h ?_; refine Sb.c Tk.h ?_; refine Sb.c Tk.h ?_; refine Sb.c Tk.h ?_; refine Sb.c Tk.h ?_); (exact Sb.r))
    intro i hi
    (refine G.seq ?_; refine G.seq ?_; refine G.region ?_; refine GO.move rfl rfl ?_; refine GO.lti rfl rfl rfl ?_; refine GO.nil ?_; refine kthen_n ?_)
    refine G.condD rfl (fun hlt2 => ?_) (fun hge2 => ?_)
    · have h7 := partB_step (oP A B) j i
      have h8 := partB_step (aP A B) j i
      have h9 := partB_step (lP A B) j i
      have p7 : oP A B j i = ((A j).getLsbD i || (B j).getLsbD i) := rfl
      have p8 : aP A B j i = ((A j).getLsbD i && (B j).getLsbD i) := rfl
      have p9 : lP A B j i = ((A j).getLsbD i && !(B j).getLsbD i) := rfl
      rw [p7] at h7; rw [p8] at h8; rw [p9] at h9
      (refine G.skip ?_; refine kthen_n ?_; refine G.seq ?_; refine G.block ?_; refine G.seq ?_)
      refine G.draw 10 (by kernel_rfl) ?_
      apply GQ.step; focus (intro Z; refine GO.loadW rfl rfl rfl (Tk.t (Tk.t (Tk.t Tk.h))) (cells_len _) ?_; exact KQ.z)
      ((apply GQ.step; focus (intro Z; refine GO.move rfl rfl ?_; exact KQ.z)); (apply GQ.step; focus (intro Z; refine GO.move rfl rfl ?_; exact KQ.z)))
      apply GQ.step; focus (intro Z; refine GO.call3 rfl rfl rfl rfl (has_spec A j i (by omega) (by omega)) Tks.n ?_; rintro _ _ ⟨rfl, rfl⟩; exact KQ.z)
      apply GQ.step; focus (intro Z; refine GO.loadW rfl rfl rfl (Tk.t (Tk.t (Tk.t (Tk.t Tk.h)))) (cells_len _) ?_; exact KQ.z)
      ((apply GQ.step; focus (intro Z; refine GO.move rfl rfl ?_; exact KQ.z)); (apply GQ.step; focus (intro Z; refine GO.move rfl rfl ?_; exact KQ.z)))
      apply GQ.step; focus (intro Z; refine GO.call3 rfl rfl rfl rfl (has_spec B j i (by omega) (by omega)) Tks.n ?_; rintro _ _ ⟨rfl, rfl⟩; exact KQ.z)
      ((apply GQ.step; focus (intro Z; refine GO.assign rfl rfl ?_; exact KQ.z)); (apply GQ.step; focus (intro Z; refine GO.assign rfl rfl ?_; exact KQ.z)))
      refine GQ.nil ?_
      generalize (A j).getLsbD i = x at *
      generalize (B j).getLsbD i = y at *
      cases x <;> cases y <;> simp only [Bool.or_true, Bool.or_false, Bool.and_true, Bool.and_false, Bool.not_true, Bool.not_false, Bool.false_eq_true, if_true, if_false] at h7 h8 h9
      · (refine GO.nil ?_; refine kthen_n ?_; refine G.seq ?_; refine G.seq ?_; refine G.region ?_; refine GO.move rfl rfl ?_; refine GO.move rfl rfl ?_; refine GO.gT rfl rfl rfl ?_; refine GO.move rfl rfl ?_; refine GO.pickF rfl rfl rfl ?_; refine GO.nil ?_; refine kthen_n ?_; refine G.condF rfl rfl ?_; refine G.skip ?_; refine kthen_n ?_; refine G.seq ?_; refine G.seq ?_; refine G.region ?_; refine GO.move rfl rfl ?_; refine GO.move rfl rfl ?_; refine GO.gF rfl rfl rfl rfl ?_; refine GO.pickF rfl rfl rfl ?_; refine GO.nil ?_; refine kthen_n ?_; refine G.condF rfl rfl ?_; refine G.skip ?_; refine kthen_n ?_; refine G.seq ?_; refine G.region ?_; refine GO.move rfl rfl ?_; refine GO.move rfl rfl ?_; refine GO.gF rfl rfl rfl rfl ?_; refine GO.gF rfl rfl rfl rfl ?_; refine GO.pickF rfl rfl rfl ?_; refine GO.nil ?_; refine kthen_n ?_; refine G.condF rfl rfl ?_; refine G.skip ?_; refine kblock_n ?_; refine kthen_n ?_; refine G.region ?_; refine GO.move rfl rfl ?_; refine GO.addi rfl rfl rfl (by omega) ?_; refine GO.assign rfl rfl ?_; refine GO.nil ?_; refine kthen_n ?_)
        refine ⟨i + 1, by omega, by omega, ?_, ?_⟩
        · (refine SubE.c rfl rfl ?_; refine SubE.c rfl rfl ?_; refine SubE.c rfl rfl ?_; refine SubE.c rfl rfl ?_; refine SubE.c rfl rfl ?_; refine SubE.c rfl rfl ?_; refine SubE.c rfl rfl ?_; refine SubE.c rfl rfl ?_; refine SubE.c rfl rfl ?_; refine SubE.c rfl rfl ?_; exact SubE.n)
        · rw [← h7, ← h8, ← h9]; ((refine Sb.c Tk.h ?_; refine Sb.c Tk.h ?_; refine Sb.c Tk.h ?_; refine Sb.c Tk.h ?_; refine Sb.c Tk.h ?_; refine Sb.c Tk.h ?_; refine Sb.c Tk.h ?_; refine Sb.c Tk.h ?_); (exact Sb.r))
      · (refine GO.nil ?_; refine kthen_n ?_; refine G.seq ?_; refine G.seq ?_; refine G.region ?_; refine GO.move rfl rfl ?_; refine GO.move rfl rfl ?_; refine GO.gT rfl rfl rfl ?_; refine GO.move rfl rfl ?_; refine GO.pickF rfl rfl rfl ?_; refine GO.nil ?_; refine kthen_n ?_; refine G.condT rfl rfl ?_; refine G.region ?_)
        refine GO.loadW rfl rfl rfl (by (exact Tk.h)) (cells_len _) ?_
        (refine GO.move rfl rfl ?_; refine GO.move rfl rfl ?_)
        refine GO.call3 rfl rfl rfl rfl (put_spec _ j i (by omega) (by omega)) Tks.n ?_
        rintro _ _ ⟨rfl, rfl⟩
        rw [h7]
        refine GO.storeW rfl rfl (by (exact Tk.h)) ⟨cells_len _, cells_len _⟩ (cells_one _) ?_
        (refine GO.nil ?_; refine kthen_n ?_; refine G.seq ?_; refine G.seq ?_; refine G.region ?_; refine GO.move rfl rfl ?_; refine GO.move rfl rfl ?_; refine GO.gF rfl rfl rfl rfl ?_; refine GO.pickF rfl rfl rfl ?_; refine GO.nil ?_; refine kthen_n ?_; refine G.condF rfl rfl ?_; refine G.skip ?_; refine kthen_n ?_; refine G.seq ?_; refine G.region ?_; refine GO.move rfl rfl ?_; refine GO.move rfl rfl ?_; refine GO.gF rfl rfl rfl rfl ?_; refine GO.gF rfl rfl rfl rfl ?_; refine GO.pickF rfl rfl rfl ?_; refine GO.nil ?_; refine kthen_n ?_; refine G.condF rfl rfl ?_; refine G.skip ?_; refine kblock_n ?_; refine kthen_n ?_; refine G.region ?_; refine GO.move rfl rfl ?_; refine GO.addi rfl rfl rfl (by omega) ?_; refine GO.assign rfl rfl ?_; refine GO.nil ?_; refine kthen_n ?_)
        refine ⟨i + 1, by omega, by omega, ?_, ?_⟩
        · (refine SubE.c rfl rfl ?_; refine SubE.c rfl rfl ?_; refine SubE.c rfl rfl ?_; refine SubE.c rfl rfl ?_; refine SubE.c rfl rfl ?_; refine SubE.c rfl rfl ?_; refine SubE.c rfl rfl ?_; refine SubE.c rfl rfl ?_; refine SubE.c rfl rfl ?_; refine SubE.c rfl rfl ?_; exact SubE.n)
        · rw [← h8, ← h9]; ((refine Sb.c Tk.h ?_; refine Sb.c Tk.h ?_; refine Sb.c Tk.h ?_; refine Sb.c Tk.h ?_; refine Sb.c Tk.h ?_; refine Sb.c Tk.h ?_; refine Sb.c Tk.h ?_; refine Sb.c Tk.h ?_); (exact Sb.r))
      · (refine GO.nil ?_; refine kthen_n ?_; refine G.seq ?_; refine G.seq ?_; refine G.region ?_; refine GO.move rfl rfl ?_; refine GO.move rfl rfl ?_; refine GO.gF rfl rfl rfl rfl ?_; refine GO.pickT rfl rfl rfl ?_; refine GO.nil ?_; refine kthen_n ?_; refine G.condT rfl rfl ?_; refine G.region ?_)
        refine GO.loadW rfl rfl rfl (by (exact Tk.h)) (cells_len _) ?_
        (refine GO.move rfl rfl ?_; refine GO.move rfl rfl ?_)
        refine GO.call3 rfl rfl rfl rfl (put_spec _ j i (by omega) (by omega)) Tks.n ?_
        rintro _ _ ⟨rfl, rfl⟩
        rw [h7]
        refine GO.storeW rfl rfl (by (exact Tk.h)) ⟨cells_len _, cells_len _⟩ (cells_one _) ?_
        (refine GO.nil ?_; refine kthen_n ?_; refine G.seq ?_; refine G.seq ?_; refine G.region ?_; refine GO.move rfl rfl ?_; refine GO.move rfl rfl ?_; refine GO.gT rfl rfl rfl ?_; refine GO.move rfl rfl ?_; refine GO.pickT rfl rfl rfl ?_; refine GO.nil ?_; refine kthen_n ?_; refine G.condF rfl rfl ?_; refine G.skip ?_; refine kthen_n ?_; refine G.seq ?_; refine G.region ?_; refine GO.move rfl rfl ?_; refine GO.move rfl rfl ?_; refine GO.gT rfl rfl rfl ?_; refine GO.move rfl rfl ?_; refine GO.gT rfl rfl rfl ?_; refine GO.not rfl rfl ?_; refine GO.pickT rfl rfl rfl ?_; refine GO.nil ?_; refine kthen_n ?_; refine G.condT rfl rfl ?_; refine G.region ?_)
        refine GO.loadW rfl rfl rfl (by (exact (Tk.t (Tk.t Tk.h)))) (cells_len _) ?_
        (refine GO.move rfl rfl ?_; refine GO.move rfl rfl ?_)
        refine GO.call3 rfl rfl rfl rfl (put_spec _ j i (by omega) (by omega)) Tks.n ?_
        rintro _ _ ⟨rfl, rfl⟩
        rw [h9]
        refine GO.storeW rfl rfl (by (exact (Tk.t (Tk.t Tk.h)))) ⟨cells_len _, cells_len _⟩ (cells_one _) ?_
        (refine GO.nil ?_; refine kblock_n ?_; refine kthen_n ?_; refine G.region ?_; refine GO.move rfl rfl ?_; refine GO.addi rfl rfl rfl (by omega) ?_; refine GO.assign rfl rfl ?_; refine GO.nil ?_; refine kthen_n ?_)
        refine ⟨i + 1, by omega, by omega, ?_, ?_⟩
        · (refine SubE.c rfl rfl ?_; refine SubE.c rfl rfl ?_; refine SubE.c rfl rfl ?_; refine SubE.c rfl rfl ?_; refine SubE.c rfl rfl ?_; refine SubE.c rfl rfl ?_; refine SubE.c rfl rfl ?_; refine SubE.c rfl rfl ?_; refine SubE.c rfl rfl ?_; refine SubE.c rfl rfl ?_; exact SubE.n)
        · rw [← h8]; ((refine Sb.c (Tk.t Tk.h) ?_; refine Sb.c (Tk.t Tk.h) ?_; refine Sb.c Tk.h ?_; refine Sb.c Tk.h ?_; refine Sb.c Tk.h ?_; refine Sb.c Tk.h ?_; refine Sb.c Tk.h ?_; refine Sb.c Tk.h ?_); (exact Sb.r))
      · (refine GO.nil ?_; refine kthen_n ?_; refine G.seq ?_; refine G.seq ?_; refine G.region ?_; refine GO.move rfl rfl ?_; refine GO.move rfl rfl ?_; refine GO.gF rfl rfl rfl rfl ?_; refine GO.pickT rfl rfl rfl ?_; refine GO.nil ?_; refine kthen_n ?_; refine G.condT rfl rfl ?_; refine G.region ?_)
        refine GO.loadW rfl rfl rfl (by (exact Tk.h)) (cells_len _) ?_
        (refine GO.move rfl rfl ?_; refine GO.move rfl rfl ?_)
        refine GO.call3 rfl rfl rfl rfl (put_spec _ j i (by omega) (by omega)) Tks.n ?_
        rintro _ _ ⟨rfl, rfl⟩
        rw [h7]
        refine GO.storeW rfl rfl (by (exact Tk.h)) ⟨cells_len _, cells_len _⟩ (cells_one _) ?_
        (refine GO.nil ?_; refine kthen_n ?_; refine G.seq ?_; refine G.seq ?_; refine G.region ?_; refine GO.move rfl rfl ?_; refine GO.move rfl rfl ?_; refine GO.gT rfl rfl rfl ?_; refine GO.move rfl rfl ?_; refine GO.pickT rfl rfl rfl ?_; refine GO.nil ?_; refine kthen_n ?_; refine G.condT rfl rfl ?_; refine G.region ?_)
        refine GO.loadW rfl rfl rfl (by (exact (Tk.t Tk.h))) (cells_len _) ?_
        (refine GO.move rfl rfl ?_; refine GO.move rfl rfl ?_)
        refine GO.call3 rfl rfl rfl rfl (put_spec _ j i (by omega) (by omega)) Tks.n ?_
        rintro _ _ ⟨rfl, rfl⟩
        rw [h8]
        refine GO.storeW rfl rfl (by (exact (Tk.t Tk.h))) ⟨cells_len _, cells_len _⟩ (cells_one _) ?_
        (refine GO.nil ?_; refine kthen_n ?_; refine G.seq ?_; refine G.region ?_; refine GO.move rfl rfl ?_; refine GO.move rfl rfl ?_; refine GO.gT rfl rfl rfl ?_; refine GO.move rfl rfl ?_; refine GO.gT rfl rfl rfl ?_; refine GO.not rfl rfl ?_; refine GO.pickT rfl rfl rfl ?_; refine GO.nil ?_; refine kthen_n ?_; refine G.condF rfl rfl ?_; refine G.skip ?_; refine kblock_n ?_; refine kthen_n ?_; refine G.region ?_; refine GO.move rfl rfl ?_; refine GO.addi rfl rfl rfl (by omega) ?_; refine GO.assign rfl rfl ?_; refine GO.nil ?_; refine kthen_n ?_)
        refine ⟨i + 1, by omega, by omega, ?_, ?_⟩
        · (refine SubE.c rfl rfl ?_; refine SubE.c rfl rfl ?_; refine SubE.c rfl rfl ?_; refine SubE.c rfl rfl ?_; refine SubE.c rfl rfl ?_; refine SubE.c rfl rfl ?_; refine SubE.c rfl rfl ?_; refine SubE.c rfl rfl ?_; refine SubE.c rfl rfl ?_; refine SubE.c rfl rfl ?_; exact SubE.n)
        · rw [← h9]; ((refine Sb.c (Tk.t Tk.h) ?_; refine Sb.c Tk.h ?_; refine Sb.c Tk.h ?_; refine Sb.c Tk.h ?_; refine Sb.c Tk.h ?_; refine Sb.c Tk.h ?_; refine Sb.c Tk.h ?_; refine Sb.c Tk.h ?_); (exact Sb.r))
    · have : i = 64 := by omega
      subst this
      have r7 := partB_row (oP A B) j 64 (by omega) (fun x h1 _ => by omega)
      have r8 := partB_row (aP A B) j 64 (by omega) (fun x h1 _ => by omega)
      have r9 := partB_row (lP A B) j 64 (by omega) (fun x h1 _ => by omega)
      (refine G.exit ?_; refine G.region ?_; refine GO.move rfl rfl ?_; refine GO.addi rfl rfl rfl (by omega) ?_; refine GO.assign rfl rfl ?_; refine GO.nil ?_; refine kthen_n ?_)
      refine ⟨j + 1, by omega, by omega, ?_, ?_⟩
      · (refine SubE.c rfl rfl ?_; refine SubE.c rfl rfl ?_; refine SubE.c rfl rfl ?_; refine SubE.c rfl rfl ?_; refine SubE.c rfl rfl ?_; refine SubE.c rfl rfl ?_; refine SubE.c rfl rfl ?_; refine SubE.c rfl rfl ?_; refine SubE.c rfl rfl ?_; exact SubE.n)
      · rw [← r7, ← r8, ← r9]; ((refine Sb.c Tk.h ?_; refine Sb.c Tk.h ?_; refine Sb.c Tk.h ?_; refine Sb.c Tk.h ?_; refine Sb.c Tk.h ?_; refine Sb.c Tk.h ?_; refine Sb.c Tk.h ?_; refine Sb.c Tk.h ?_); (exact Sb.r))
  · have : j = 64 := by omega
    subst this
    rw [oP_end, aP_end, lP_end]
    (refine G.exit ?_; refine G.seq ?_)
    refine G.drawP 6 [pt b4 (row (cells zeroB) 25), pt b5 (row (cells zeroB) 25), pt b6 (row (cells zeroB) 25)]
      (pt b7 (row (cells (orB A B)) 25) :: pt b8 (row (cells (andB A B)) 25) :: pt b9 (row (cells (lessB A B)) 25) :: pt b2 (row (cells A) 25) :: pt b3 (row (cells B) 25) :: F) (by kernel_rfl) (List.perm_append_comm_assoc [_, _, _, _, _] [_, _, _] F) ?_
    apply GQ.step; focus (intro Z; refine GO.loadW rfl rfl rfl Tk.h (cells_len _) ?_; exact KQ.z)
    apply GQ.step; focus (intro Z; refine GO.loadW rfl rfl rfl (Tk.t Tk.h) (cells_len _) ?_; exact KQ.z)
    apply GQ.step; focus (intro Z; refine GO.loadW rfl rfl rfl (Tk.t (Tk.t Tk.h)) (cells_len _) ?_; exact KQ.z)
    refine GQ.turn (y := pt b4 (row (cells (orB A B)) 25)) ?_ ?_
    · intro Z; refine GO.storeW rfl rfl Tk.h ⟨cells_len _, cells_len _⟩ (cells_one _) ?_; exact KQ.z
    refine GQ.turn (y := pt b5 (row (cells (andB A B)) 25)) ?_ ?_
    · intro Z; refine GO.storeW rfl rfl Tk.h ⟨cells_len _, cells_len _⟩ (cells_one _) ?_; exact KQ.z
    refine GQ.turn (y := pt b6 (row (cells (lessB A B)) 25)) ?_ ?_
    · intro Z; refine GO.storeW rfl rfl Tk.h ⟨cells_len _, cells_len _⟩ (cells_one _) ?_; exact KQ.z
    refine GQ.nil ?_
    (refine GO.nil ?_; refine kthen_n ?_; refine G.ret ?_)
    refine KF.r3 rfl (RV.cW rfl rfl (by (exact (Tk.t (Tk.t Tk.h)))) (cells_len _)) (RV.cW rfl rfl (by (exact (Tk.t Tk.h))) (cells_len _)) (RV.cW rfl rfl (by (exact Tk.h)) (cells_len _)) ⟨rfl, rfl⟩ ?_
    (skip; (refine Sb.s ?_; refine Sb.s ?_; refine Sb.s ?_; refine Sb.s ?_; refine Sb.s ?_; refine Sb.s ?_; refine Sb.s ?_; refine Sb.s ?_; exact Sb.r))
end Go.Proofs.Yticnafofachleaa
