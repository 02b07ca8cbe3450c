/-
  The contracts of Corner, and of the reference's Corner, Turn and Sets.
-/
import Derived.Test.YtfoahdfflchidaaDoorKE
namespace Go.Proofs.YtfoahdfflchidaaDoor
open Go
attribute [local irreducible] G GO GQ Fn pt init exs pur sat

def firstW (n : Nat) : BitVec 64 := if 64 ≤ n then BitVec.allOnes 64 else 1#64 <<< n - 1#64
theorem firstW_bit (n c : Nat) (hc : c < 64) : (firstW n).getLsbD c = decide (c < n) := by
  unfold firstW
  by_cases h : 64 ≤ n
  · have : c < n := by omega
    rw [if_pos h, BitVec.getLsbD_allOnes]; simp [hc, this]
  · simp only [h, if_false]
    have e : (1#64 <<< n - 1#64) = BitVec.ofNat 64 (2 ^ n - 1) := by
      apply BitVec.eq_of_toNat_eq
      have h1 : (2 : Nat) ^ n < 2 ^ 64 := Nat.pow_lt_pow_right (by omega) (by omega)
      have h2 : 0 < (2 : Nat) ^ n := Nat.pow_pos (by omega)
      have h3 : (1#64).toNat = 1 := rfl
      have h4 : (BitVec.ofNat 64 (2 ^ n - 1)).toNat = (2 ^ n - 1) % 2 ^ 64 := BitVec.toNat_ofNat _ _
      rw [BitVec.toNat_sub, BitVec.toNat_shiftLeft, Nat.shiftLeft_eq, h3, h4, Nat.one_mul, Nat.mod_eq_of_lt h1]
      generalize 2 ^ n = x at *
      omega
    rw [e, BitVec.getLsbD_ofNat, Nat.testBit_two_pow_sub_one]
    simp [hc]
theorem first_spec (n : Nat) (hn : n ≤ 64) : Fn Tryd.prog 89 #[i64 n] [] (fun v Q => v = u64 (firstW n) ∧ Q = []) := by
  refine Fn.mk Tryd.func89 rfl rfl fun w0 F => ?_
  (refine G.seq ?_; refine G.region ?_; refine GO.assign rfl rfl ?_; refine GO.nil ?_; refine kthen_n ?_; refine G.seq ?_; refine G.seq ?_; refine G.region ?_; refine GO.move rfl rfl ?_; refine GO.gei rfl rfl rfl ?_; refine GO.nil ?_; refine kthen_n ?_)
  refine G.condD rfl (fun h => ?_) (fun h => ?_)
  · have h' : 64 ≤ n := by omega
    (refine G.seq ?_; refine G.region ?_; refine GO.assign rfl rfl ?_; refine GO.nil ?_; refine kthen_n ?_; refine G.ret ?_; refine kthen_r ?_)
    refine KF.r1 rfl (RV.t rfl) ⟨?_, rfl⟩ ?_
    · unfold firstW; rw [if_pos h']; rfl
    · (skip; (exact Sb.r))
  · have h' : ¬ 64 ≤ n := by omega
    (refine G.skip ?_; refine kthen_n ?_; refine G.seq ?_; refine G.region ?_; refine GO.move rfl rfl ?_; refine GO.shlu rfl rfl rfl ?_; refine GO.subu rfl rfl rfl ?_; refine GO.assign rfl rfl ?_; refine GO.nil ?_; refine kthen_n ?_; refine G.ret ?_)
    refine KF.r1 rfl (RV.t rfl) ⟨?_, rfl⟩ ?_
    · unfold firstW; rw [if_neg h']
    · (skip; (exact Sb.r))

def cornP (A : Blk) (R C : Nat) : Nat → Nat → Bool := fun r c => decide (r < R) && (decide (c < C) && (A r).getLsbD c)
def inC (R C : Int) : Bool := decide ((0 ≤ R ∧ R ≤ 64) ∧ (0 ≤ C ∧ C ≤ 64))
def cornerV (A : Blk) (R C : Int) : Value := if inC R C then .tuple #[blk (blkOf (cornP A R.toNat C.toNat)), i64 0] else .tuple #[blk zeroB, i64 2]
theorem cornerV_t (A : Blk) {R C : Nat} (hR : R ≤ 64) (hC : C ≤ 64) : cornerV A R C = .tuple #[blk (blkOf (cornP A R C)), i64 0] := by
  unfold cornerV; rw [if_pos (by unfold inC; simp; omega)]; rfl
theorem cornerV_f (A : Blk) {R C : Int} (h : inC R C = false) : cornerV A R C = .tuple #[blk zeroB, i64 2] := by unfold cornerV; simp [h]
theorem inC_f {R C : Int} (h : R < 0 ∨ C < 0 ∨ 64 < R ∨ 64 < C) : inC R C = false := by unfold inC; simp; omega
def cornW (A : Blk) (R C : Nat) : Blk := fun r => if r < R then A r &&& firstW C else 0#64
theorem cornW_eq (A : Blk) (R C : Nat) : cells (cornW A R C) = cells (blkOf (cornP A R C)) := cells_congr fun i _ => by
  refine eq_blkOf (X := cornW A R C) fun c hc => ?_
  unfold cornW cornP
  by_cases h : i < R
  · simp only [h, if_true, decide_true, Bool.true_and, BitVec.getLsbD_and, firstW_bit C c hc]; exact Bool.and_comm _ _
  · simp [h]
set_option maxHeartbeats 2000000 in
theorem corner_spec (A : Blk) (R C : Int) : Fn Tryd.prog 81 #[blk A, i64 R, i64 C] [] (fun v Q => v = cornerV A R C ∧ Q = []) := by
  refine Fn.mk Tryd.func81 rfl rfl fun w0 F => ?_
  (refine G.seq ?_; refine G.region ?_)
  refine GO.box rfl rfl rfl fun b3 => ?_
  refine GO.alloc rfl fun b6 => ?_
  rw [cells_zero]
  (refine GO.assign rfl rfl ?_; refine GO.nil ?_; refine kthen_n ?_; refine G.seq ?_; refine G.seq ?_; refine G.region ?_; refine GO.move rfl rfl ?_; refine GO.lti rfl rfl rfl ?_; refine GO.move rfl rfl ?_)
  refine GO.splitD 11 rfl (fun h1 => ?_) (fun h1 => ?_)
  · (refine GO.gF rfl rfl rfl rfl ?_; refine GO.gF rfl rfl rfl rfl ?_; refine GO.pickT rfl rfl rfl ?_; refine GO.move rfl rfl ?_; refine GO.gF rfl rfl rfl rfl ?_; refine GO.gF rfl rfl rfl rfl ?_; refine GO.pickT rfl rfl rfl ?_; refine GO.move rfl rfl ?_; refine GO.gF rfl rfl rfl rfl ?_; refine GO.gF rfl rfl rfl rfl ?_; refine GO.pickT rfl rfl rfl ?_; refine GO.nil ?_; refine kthen_n ?_; refine G.condT rfl rfl ?_; refine G.seq ?_; refine G.region ?_)
    refine GO.build0 rfl ?_
    rw [cells_zero]
    refine GO.storeW rfl rfl Tk.h ⟨cells_len _, cells_len _⟩ (cells_one _) ?_
    (refine GO.assign rfl rfl ?_; refine GO.nil ?_; refine kthen_n ?_; refine G.ret ?_; refine kthen_r ?_)
    refine KF.r2 rfl (RV.cW rfl rfl Tk.h (cells_len _)) (RV.t rfl) ⟨?_, rfl⟩ ?_
    · rw [cornerV_f A (inC_f (by omega))]
    · (skip; (refine Sb.s ?_; refine Sb.s ?_; exact Sb.r))
  (refine GO.gT rfl rfl rfl ?_; refine GO.move rfl rfl ?_; refine GO.gT rfl rfl rfl ?_; refine GO.lti rfl rfl rfl ?_; refine GO.pickF rfl rfl rfl ?_; refine GO.move rfl rfl ?_)
  refine GO.splitD 15 rfl (fun h2 => ?_) (fun h2 => ?_)
  · (refine GO.gF rfl rfl rfl rfl ?_; refine GO.gF rfl rfl rfl rfl ?_; refine GO.pickT rfl rfl rfl ?_; refine GO.move rfl rfl ?_; refine GO.gF rfl rfl rfl rfl ?_; refine GO.gF rfl rfl rfl rfl ?_; refine GO.pickT rfl rfl rfl ?_; refine GO.nil ?_; refine kthen_n ?_; refine G.condT rfl rfl ?_; refine G.seq ?_; refine G.region ?_)
    refine GO.build0 rfl ?_
    rw [cells_zero]
    refine GO.storeW rfl rfl Tk.h ⟨cells_len _, cells_len _⟩ (cells_one _) ?_
    (refine GO.assign rfl rfl ?_; refine GO.nil ?_; refine kthen_n ?_; refine G.ret ?_; refine kthen_r ?_)
    refine KF.r2 rfl (RV.cW rfl rfl Tk.h (cells_len _)) (RV.t rfl) ⟨?_, rfl⟩ ?_
    · rw [cornerV_f A (inC_f (by omega))]
    · (skip; (refine Sb.s ?_; refine Sb.s ?_; exact Sb.r))
  (refine GO.gT rfl rfl rfl ?_; refine GO.move rfl rfl ?_; refine GO.gT rfl rfl rfl ?_; refine GO.gti rfl rfl rfl ?_; refine GO.pickF rfl rfl rfl ?_; refine GO.move rfl rfl ?_)
  refine GO.splitD 19 rfl (fun h3 => ?_) (fun h3 => ?_)
  · (refine GO.gF rfl rfl rfl rfl ?_; refine GO.gF rfl rfl rfl rfl ?_; refine GO.pickT rfl rfl rfl ?_; refine GO.nil ?_; refine kthen_n ?_; refine G.condT rfl rfl ?_; refine G.seq ?_; refine G.region ?_)
    refine GO.build0 rfl ?_
    rw [cells_zero]
    refine GO.storeW rfl rfl Tk.h ⟨cells_len _, cells_len _⟩ (cells_one _) ?_
    (refine GO.assign rfl rfl ?_; refine GO.nil ?_; refine kthen_n ?_; refine G.ret ?_; refine kthen_r ?_)
    refine KF.r2 rfl (RV.cW rfl rfl Tk.h (cells_len _)) (RV.t rfl) ⟨?_, rfl⟩ ?_
    · rw [cornerV_f A (inC_f (by omega))]
    · (skip; (refine Sb.s ?_; refine Sb.s ?_; exact Sb.r))
  (refine GO.gT rfl rfl rfl ?_; refine GO.move rfl rfl ?_; refine GO.gT rfl rfl rfl ?_; refine GO.gti rfl rfl rfl ?_; refine GO.pickF rfl rfl rfl ?_; refine GO.nil ?_; refine kthen_n ?_)
  refine G.condD rfl (fun h4 => ?_) (fun h4 => ?_)
  · (refine G.seq ?_; refine G.region ?_)
    refine GO.build0 rfl ?_
    rw [cells_zero]
    refine GO.storeW rfl rfl Tk.h ⟨cells_len _, cells_len _⟩ (cells_one _) ?_
    (refine GO.assign rfl rfl ?_; refine GO.nil ?_; refine kthen_n ?_; refine G.ret ?_; refine kthen_r ?_)
    refine KF.r2 rfl (RV.cW rfl rfl Tk.h (cells_len _)) (RV.t rfl) ⟨?_, rfl⟩ ?_
    · rw [cornerV_f A (inC_f (by omega))]
    · (skip; (refine Sb.s ?_; refine Sb.s ?_; exact Sb.r))
  obtain ⟨m, rfl⟩ := Int.eq_ofNat_of_zero_le (show 0 ≤ R by omega)
  obtain ⟨n, rfl⟩ := Int.eq_ofNat_of_zero_le (show 0 ≤ C by omega)
  (refine G.skip ?_; refine kthen_n ?_; refine G.seq ?_; refine G.seq ?_; refine G.region ?_; refine GO.move rfl rfl ?_; refine GO.nil ?_; refine kthen_n ?_; refine G.block ?_)
  rw [mixB_zero (cornW A m n) A]
  refine G.loop (fun j : Nat => [(1, i64 m), (2, i64 n), (3, .pointer (some ⟨b3, 0, none⟩)), (6, .pointer (some ⟨b6, 0, none⟩)), (24, i64 j)])
    (fun j => pt b3 (row (cells (mixB (cornW A m n) A j)) 77) :: pt b6 (row (cells zeroB) 77) :: F) (fun j => j ≤ 64) (fun j => 64 - j) 0 (by omega) ?_ ?_ ?_
  · (refine SubE.c rfl rfl ?_; refine SubE.c rfl rfl ?_; refine SubE.c rfl rfl ?_; refine SubE.c rfl rfl ?_; refine SubE.c rfl rfl ?_; exact SubE.n)
  · ((refine Sb.c (Tk.t Tk.h) ?_; refine Sb.c Tk.h ?_); (exact Sb.r))
  intro j hj
  (refine G.seq ?_; refine G.region ?_; refine GO.lti rfl rfl rfl ?_; refine GO.nil ?_; refine kthen_n ?_; refine G.seq ?_)
  refine G.condD rfl (fun hlt => ?_) (fun hge => ?_)
  · (refine G.skip ?_; refine kthen_n ?_; refine G.seq ?_; refine G.block ?_; refine G.seq ?_; refine G.region ?_; refine GO.move rfl rfl ?_; refine GO.assign rfl rfl ?_; refine GO.nil ?_; refine kthen_n ?_; refine G.seq ?_; refine G.region ?_; refine GO.move rfl rfl ?_; refine GO.move rfl rfl ?_; refine GO.lti rfl rfl rfl ?_; refine GO.nil ?_; refine kthen_n ?_)
    refine G.condD rfl (fun hlt2 => ?_) (fun hge2 => ?_)
    · have hjm : j < m := by omega
      skip
      refine G.draw 7 (by kernel_rfl) ?_
      ((apply GQ.step; focus (intro Z; refine GO.move rfl rfl ?_; exact KQ.z)); (apply GQ.step; focus (intro Z; refine GO.idxA rfl rfl rfl ⟨rfl, by omega⟩ ?_; exact KQ.z)))
      apply GQ.step; focus (intro Z; refine GO.load1 rfl rfl rfl Tk.h (cells_get _ (j := j) (by omega) (by omega)) ?_; exact KQ.z)
      ((apply GQ.step; focus (intro Z; refine GO.move rfl rfl ?_; exact KQ.z)))
      apply GQ.step; focus (intro Z; refine GO.call1 rfl rfl (first_spec n (by omega)) Tks.n ?_; rintro _ _ ⟨rfl, rfl⟩; exact KQ.z)
      ((apply GQ.step; focus (intro Z; refine GO.andu rfl rfl rfl ?_; exact KQ.z)); (apply GQ.step; focus (intro Z; refine GO.idxA rfl rfl rfl ⟨rfl, by omega⟩ ?_; exact KQ.z)))
      refine GQ.nil ?_
      refine GO.store1 rfl rfl rfl Tk.h (by rw [cells_len]; omega) ?_
      rw [cells_set (mixB (cornW A m n) A j) _ (show 0 + j * 1 = j by omega), mixB_step (cornW A m n) A j (by rw [mixB_at]; unfold cornW; rw [if_pos hjm])]
      (refine GO.nil ?_; refine kblock_n ?_; refine kthen_n ?_; refine G.region ?_; refine GO.addi rfl rfl rfl (by omega) ?_; refine GO.move rfl rfl ?_; refine GO.nil ?_; refine kthen_n ?_)
      refine ⟨j + 1, by omega, by omega, ?_, ?_⟩
      · (refine SubE.c rfl rfl ?_; refine SubE.c rfl rfl ?_; refine SubE.c rfl rfl ?_; refine SubE.c rfl rfl ?_; refine SubE.c rfl rfl ?_; exact SubE.n)
      · ((refine Sb.c Tk.h ?_; refine Sb.c Tk.h ?_); (exact Sb.r))
    · have hjm : ¬ j < m := by omega
      (refine G.region ?_; refine GO.move rfl rfl ?_; refine GO.idxA rfl rfl rfl ⟨rfl, by omega⟩ ?_)
      refine GO.store1 rfl rfl rfl Tk.h (by rw [cells_len]; omega) ?_
      have e0 : Value.int IntKind.u64 0 = u64 0#64 := rfl
      rw [e0, cells_set (mixB (cornW A m n) A j) _ (show 0 + j * 1 = j by omega), mixB_step (cornW A m n) A j (by unfold cornW; rw [if_neg hjm])]
      (refine GO.nil ?_; refine kblock_n ?_; refine kthen_n ?_; refine G.region ?_; refine GO.addi rfl rfl rfl (by omega) ?_; refine GO.move rfl rfl ?_; refine GO.nil ?_; refine kthen_n ?_)
      refine ⟨j + 1, by omega, by omega, ?_, ?_⟩
      · (refine SubE.c rfl rfl ?_; refine SubE.c rfl rfl ?_; refine SubE.c rfl rfl ?_; refine SubE.c rfl rfl ?_; refine SubE.c rfl rfl ?_; exact SubE.n)
      · ((refine Sb.c Tk.h ?_; refine Sb.c Tk.h ?_); (exact Sb.r))
  · have : j = 64 := by omega
    subst this
    (refine G.exit ?_; refine G.seq ?_; refine G.region ?_)
    refine GO.loadW rfl rfl rfl Tk.h (cells_len _) ?_
    refine GO.storeW rfl rfl (Tk.t Tk.h) ⟨cells_len _, cells_len _⟩ (cells_one _) ?_
    (refine GO.assign rfl rfl ?_; refine GO.nil ?_; refine kthen_n ?_; refine G.ret ?_)
    refine KF.r2 rfl (RV.cW rfl rfl Tk.h (cells_len _)) (RV.t rfl) ⟨?_, rfl⟩ ?_
    · rw [cornerV_t A (by omega) (by omega), mixB_end, cornW_eq]
    · (skip; (refine Sb.s ?_; refine Sb.s ?_; exact Sb.r))

/-! ## The reference's Turn -/
def turnP (B : Blk) : Nat → Nat → Bool := fun r c => (B c).getLsbD r
def turnB (B : Blk) : Blk := blkOf (turnP B)
end Go.Proofs.YtfoahdfflchidaaDoor
