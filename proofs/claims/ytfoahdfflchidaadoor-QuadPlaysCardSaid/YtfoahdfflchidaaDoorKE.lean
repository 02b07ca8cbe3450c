/-
  Blocks bit by bit; the contracts of One, Or, And, Less, Corner and of the reference's.
-/
import Derived.Test.YtfoahdfflchidaaDoorKD
namespace Go.Proofs.YtfoahdfflchidaaDoor
open Go
attribute [local irreducible] G GO GQ Fn pt init exs pur sat

/-! ## Words and blocks out of bits -/
def wd (f : Nat → Bool) : Nat → BitVec 64
  | 0 => 0#64
  | n + 1 => wd f n ||| (if f n then 1#64 <<< n else 0#64)
theorem wd_bit (f : Nat → Bool) (i : Nat) (hi : i < 64) : ∀ n, (wd f n).getLsbD i = (decide (i < n) && f i)
  | 0 => by simp [wd]
  | n + 1 => by
    simp only [wd, BitVec.getLsbD_or, wd_bit f i hi n]
    have : (if f n then 1#64 <<< n else 0#64).getLsbD i = (decide (i = n) && f n) := by
      cases h : f n <;> simp [getLsbD_bit i n hi]
    rw [this]
    by_cases h : i = n
    · subst h; simp
    · have h1 : decide (i < n + 1) = decide (i < n) := by simp; omega
      rw [h1]; simp [h]
def blkOf (p : Nat → Nat → Bool) : Blk := fun r => wd (p r) 64
theorem blkOf_bit (p : Nat → Nat → Bool) (r c : Nat) (hc : c < 64) : (blkOf p r).getLsbD c = p r c := by
  unfold blkOf; rw [wd_bit _ _ hc]; simp [hc]
theorem eq_of_bits {x y : BitVec 64} (h : ∀ c, c < 64 → x.getLsbD c = y.getLsbD c) : x = y := BitVec.eq_of_getLsbD_eq fun i hi => h i hi
theorem eq_blkOf {X : Blk} {p : Nat → Nat → Bool} {r : Nat} (h : ∀ c, c < 64 → (X r).getLsbD c = p r c) : X r = blkOf p r := eq_of_bits fun c hc => by rw [h c hc, blkOf_bit p r c hc]
/-! ## One -/
/-! ## Or, And, Less -/
/-- Row by row up to n the one, then the other. -/
def mixB (X A : Blk) (n : Nat) : Blk := fun r => if r < n then X r else A r
theorem mixB_zero (X A : Blk) : cells A = cells (mixB X A 0) := cells_congr fun i _ => by simp [mixB]
theorem mixB_at (X A : Blk) (n : Nat) : mixB X A n n = A n := by simp [mixB]
theorem mixB_step (X A : Blk) (n : Nat) {x : BitVec 64} (h : x = X n) : updB (mixB X A n) n x = mixB X A (n + 1) := by
  funext r
  unfold updB mixB
  by_cases hr : r = n
  · subst hr; simp [h]
  · have : (r < n + 1) ↔ r < n := by omega
    simp [hr, this]
theorem mixB_end (X A : Blk) : cells (mixB X A 64) = cells X := cells_congr fun i hi => by simp [mixB, hi]
def orB (A B : Blk) : Blk := fun r => A r ||| B r
theorem or_spec (A B : Blk) : Fn Tryd.prog 76 #[blk A, blk B] [] (fun v Q => v = blk (orB A B) ∧ Q = []) := by
  refine Fn.mk Tryd.func76 rfl rfl fun w0 F => ?_
  (refine G.seq ?_; refine G.region ?_)
  refine GO.box rfl rfl rfl fun b2 => ?_
  refine GO.box rfl rfl rfl fun b3 => ?_
  refine GO.alloc rfl fun b4 => ?_
  rw [cells_zero, mixB_zero (orB A B) A]
  (refine GO.nil ?_; refine kthen_n ?_; refine G.seq ?_; refine G.seq ?_; refine G.region ?_; refine GO.move rfl rfl ?_; refine GO.nil ?_; refine kthen_n ?_; refine G.block ?_)
  refine G.loop (fun n : Nat => [(2, .pointer (some ⟨b2, 0, none⟩)), (3, .pointer (some ⟨b3, 0, none⟩)), (4, .pointer (some ⟨b4, 0, none⟩)), (6, i64 n)])
    (fun n => pt b2 (row (cells (mixB (orB A B) A n)) 77) :: pt b3 (row (cells B) 77) :: pt b4 (row (cells zeroB) 77) :: F) (fun n => n ≤ 64) (fun n => 64 - n) 0 (by omega) ?_ ?_ ?_
  · (refine SubE.c rfl rfl ?_; refine SubE.c rfl rfl ?_; refine SubE.c rfl rfl ?_; refine SubE.c rfl rfl ?_; exact SubE.n)
  · ((refine Sb.c (Tk.t (Tk.t Tk.h)) ?_; refine Sb.c (Tk.t Tk.h) ?_; refine Sb.c Tk.h ?_); (exact Sb.r))
  intro n hn
  (refine G.seq ?_; refine G.region ?_; refine GO.lti rfl rfl rfl ?_; refine GO.nil ?_; refine kthen_n ?_; refine G.seq ?_)
  refine G.condD rfl (fun hlt => ?_) (fun hge => ?_)
  · (refine G.skip ?_; refine kthen_n ?_; refine G.seq ?_; refine G.block ?_; refine G.seq ?_; refine G.region ?_; refine GO.move rfl rfl ?_; refine GO.assign rfl rfl ?_; refine GO.nil ?_; refine kthen_n ?_)
    refine G.draw 8 (by kernel_rfl) ?_
    ((apply GQ.step; focus (intro Z; refine GO.move rfl rfl ?_; exact KQ.z)); (apply GQ.step; focus (intro Z; refine GO.idxA rfl rfl rfl ⟨rfl, by omega⟩ ?_; exact KQ.z)))
    apply GQ.step; focus (intro Z; refine GO.load1 rfl rfl rfl Tk.h (cells_get _ (j := n) (by omega) (by omega)) ?_; exact KQ.z)
    ((apply GQ.step; focus (intro Z; refine GO.move rfl rfl ?_; exact KQ.z)); (apply GQ.step; focus (intro Z; refine GO.idxA rfl rfl rfl ⟨rfl, by omega⟩ ?_; exact KQ.z)))
    apply GQ.step; focus (intro Z; refine GO.load1 rfl rfl rfl (Tk.t Tk.h) (cells_get _ (j := n) (by omega) (by omega)) ?_; exact KQ.z)
    ((apply GQ.step; focus (intro Z; refine GO.oru rfl rfl rfl ?_; exact KQ.z)); (apply GQ.step; focus (intro Z; refine GO.idxA rfl rfl rfl ⟨rfl, by omega⟩ ?_; exact KQ.z)))
    refine GQ.nil ?_
    refine GO.store1 rfl rfl rfl Tk.h (by rw [cells_len]; omega) ?_
    rw [cells_set (mixB (orB A B) A n) _ (show 0 + n * 1 = n by omega), mixB_step (orB A B) A n (by rw [mixB_at]; rfl)]
    (refine GO.nil ?_; refine kblock_n ?_; refine kthen_n ?_; refine G.region ?_; refine GO.addi rfl rfl rfl (by omega) ?_; refine GO.move rfl rfl ?_; refine GO.nil ?_; refine kthen_n ?_)
    refine ⟨n + 1, by omega, by omega, ?_, ?_⟩
    · (refine SubE.c rfl rfl ?_; refine SubE.c rfl rfl ?_; refine SubE.c rfl rfl ?_; refine SubE.c rfl rfl ?_; exact SubE.n)
    · ((refine Sb.c Tk.h ?_; refine Sb.c Tk.h ?_; refine Sb.c Tk.h ?_); (exact Sb.r))
  · have : n = 64 := by omega
    subst this
    (refine G.exit ?_; refine G.seq ?_; refine G.region ?_)
    refine GO.loadW rfl rfl rfl Tk.h (cells_len _) ?_
    refine GO.storeW rfl rfl (Tk.t (Tk.t Tk.h)) ⟨cells_len _, cells_len _⟩ (cells_one _) ?_
    (refine GO.nil ?_; refine kthen_n ?_; refine G.ret ?_)
    refine KF.r1 rfl (RV.cW rfl rfl Tk.h (cells_len _)) ⟨?_, rfl⟩ ?_
    · rw [mixB_end]
    · (skip; (refine Sb.s ?_; refine Sb.s ?_; refine Sb.s ?_; exact Sb.r))
def lessB (A B : Blk) : Blk := fun r => A r &&& ~~~(B r)
theorem less_spec (A B : Blk) : Fn Tryd.prog 49 #[blk A, blk B] [] (fun v Q => v = blk (lessB A B) ∧ Q = []) := by
  refine Fn.mk Tryd.func49 rfl rfl fun w0 F => ?_
  (refine G.seq ?_; refine G.region ?_)
  refine GO.box rfl rfl rfl fun b2 => ?_
  refine GO.box rfl rfl rfl fun b3 => ?_
  refine GO.alloc rfl fun b4 => ?_
  rw [cells_zero, mixB_zero (lessB A B) A]
  (refine GO.nil ?_; refine kthen_n ?_; refine G.seq ?_; refine G.seq ?_; refine G.region ?_; refine GO.move rfl rfl ?_; refine GO.nil ?_; refine kthen_n ?_; refine G.block ?_)
  refine G.loop (fun n : Nat => [(2, .pointer (some ⟨b2, 0, none⟩)), (3, .pointer (some ⟨b3, 0, none⟩)), (4, .pointer (some ⟨b4, 0, none⟩)), (6, i64 n)])
    (fun n => pt b2 (row (cells (mixB (lessB A B) A n)) 77) :: pt b3 (row (cells B) 77) :: pt b4 (row (cells zeroB) 77) :: F) (fun n => n ≤ 64) (fun n => 64 - n) 0 (by omega) ?_ ?_ ?_
  · (refine SubE.c rfl rfl ?_; refine SubE.c rfl rfl ?_; refine SubE.c rfl rfl ?_; refine SubE.c rfl rfl ?_; exact SubE.n)
  · ((refine Sb.c (Tk.t (Tk.t Tk.h)) ?_; refine Sb.c (Tk.t Tk.h) ?_; refine Sb.c Tk.h ?_); (exact Sb.r))
  intro n hn
  (refine G.seq ?_; refine G.region ?_; refine GO.lti rfl rfl rfl ?_; refine GO.nil ?_; refine kthen_n ?_; refine G.seq ?_)
  refine G.condD rfl (fun hlt => ?_) (fun hge => ?_)
  · (refine G.skip ?_; refine kthen_n ?_; refine G.seq ?_; refine G.block ?_; refine G.seq ?_; refine G.region ?_; refine GO.move rfl rfl ?_; refine GO.assign rfl rfl ?_; refine GO.nil ?_; refine kthen_n ?_)
    refine G.draw 8 (by kernel_rfl) ?_
    ((apply GQ.step; focus (intro Z; refine GO.move rfl rfl ?_; exact KQ.z)); (apply GQ.step; focus (intro Z; refine GO.idxA rfl rfl rfl ⟨rfl, by omega⟩ ?_; exact KQ.z)))
    apply GQ.step; focus (intro Z; refine GO.load1 rfl rfl rfl Tk.h (cells_get _ (j := n) (by omega) (by omega)) ?_; exact KQ.z)
    ((apply GQ.step; focus (intro Z; refine GO.move rfl rfl ?_; exact KQ.z)); (apply GQ.step; focus (intro Z; refine GO.idxA rfl rfl rfl ⟨rfl, by omega⟩ ?_; exact KQ.z)))
    apply GQ.step; focus (intro Z; refine GO.load1 rfl rfl rfl (Tk.t Tk.h) (cells_get _ (j := n) (by omega) (by omega)) ?_; exact KQ.z)
    ((apply GQ.step; focus (intro Z; refine GO.andnu rfl rfl rfl ?_; exact KQ.z)); (apply GQ.step; focus (intro Z; refine GO.idxA rfl rfl rfl ⟨rfl, by omega⟩ ?_; exact KQ.z)))
    refine GQ.nil ?_
    refine GO.store1 rfl rfl rfl Tk.h (by rw [cells_len]; omega) ?_
    rw [cells_set (mixB (lessB A B) A n) _ (show 0 + n * 1 = n by omega), mixB_step (lessB A B) A n (by rw [mixB_at]; rfl)]
    (refine GO.nil ?_; refine kblock_n ?_; refine kthen_n ?_; refine G.region ?_; refine GO.addi rfl rfl rfl (by omega) ?_; refine GO.move rfl rfl ?_; refine GO.nil ?_; refine kthen_n ?_)
    refine ⟨n + 1, by omega, by omega, ?_, ?_⟩
    · (refine SubE.c rfl rfl ?_; refine SubE.c rfl rfl ?_; refine SubE.c rfl rfl ?_; refine SubE.c rfl rfl ?_; exact SubE.n)
    · ((refine Sb.c Tk.h ?_; refine Sb.c Tk.h ?_; refine Sb.c Tk.h ?_); (exact Sb.r))
  · have : n = 64 := by omega
    subst this
    (refine G.exit ?_; refine G.seq ?_; refine G.region ?_)
    refine GO.loadW rfl rfl rfl Tk.h (cells_len _) ?_
    refine GO.storeW rfl rfl (Tk.t (Tk.t Tk.h)) ⟨cells_len _, cells_len _⟩ (cells_one _) ?_
    (refine GO.nil ?_; refine kthen_n ?_; refine G.ret ?_)
    refine KF.r1 rfl (RV.cW rfl rfl Tk.h (cells_len _)) ⟨?_, rfl⟩ ?_
    · rw [mixB_end]
    · (skip; (refine Sb.s ?_; refine Sb.s ?_; refine Sb.s ?_; exact Sb.r))

end Go.Proofs.YtfoahdfflchidaaDoor
