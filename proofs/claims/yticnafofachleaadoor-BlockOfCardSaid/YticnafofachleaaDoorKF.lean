/-
  The contracts of Corner, and of the reference's Corner, Turn and Sets.
-/
import Derived.Test.YticnafofachleaaDoorKE
namespace Go.Proofs.YticnafofachleaaDoor
open Go
attribute [local irreducible] G GO GQ Fn pt init exs pur sat

def firstW (n : Nat) : BitVec 64 := if 64 ≤ n then BitVec.allOnes 64 else 1#64 <<< n - 1#64
theorem firstW_bit (n c : Nat) (hc : c < 64) : (firstW n).getLsbD c = decide (c < n) := by
  unfold firstW
  by_cases h : 64 ≤ n
  · have : c < n := by omega
    rw [if_pos h, BitVec.getLsbD_allOnes]; simp [hc, this]
  · simp only [h, if_false]
    have e : (1#64 <<< n - 1#64) = BitVec.ofNat 64 (2 ^ n - 1) := by
      apply BitVec.eq_of_toNat_eq
      have h1 : (2 : Nat) ^ n < 2 ^ 64 := Nat.pow_lt_pow_right (by omega) (by omega)
      have h2 : 0 < (2 : Nat) ^ n := Nat.pow_pos (by omega)
      have h3 : (1#64).toNat = 1 := rfl
      have h4 : (BitVec.ofNat 64 (2 ^ n - 1)).toNat = (2 ^ n - 1) % 2 ^ 64 := BitVec.toNat_ofNat _ _
      rw [BitVec.toNat_sub, BitVec.toNat_shiftLeft, Nat.shiftLeft_eq, h3, h4, Nat.one_mul, Nat.mod_eq_of_lt h1]
      generalize 2 ^ n = x at *
      omega
    rw [e, BitVec.getLsbD_ofNat, Nat.testBit_two_pow_sub_one]
    simp [hc]
def cornP (A : Blk) (R C : Nat) : Nat → Nat → Bool := fun r c => decide (r < R) && (decide (c < C) && (A r).getLsbD c)
def inC (R C : Int) : Bool := decide ((0 ≤ R ∧ R ≤ 64) ∧ (0 ≤ C ∧ C ≤ 64))
def cornerV (A : Blk) (R C : Int) : Value := if inC R C then .tuple #[blk (blkOf (cornP A R.toNat C.toNat)), i64 0] else .tuple #[blk zeroB, i64 2]
theorem cornerV_t (A : Blk) {R C : Nat} (hR : R ≤ 64) (hC : C ≤ 64) : cornerV A R C = .tuple #[blk (blkOf (cornP A R C)), i64 0] := by
  unfold cornerV; rw [if_pos (by unfold inC; simp; omega)]; rfl
theorem cornerV_f (A : Blk) {R C : Int} (h : inC R C = false) : cornerV A R C = .tuple #[blk zeroB, i64 2] := by unfold cornerV; simp [h]
theorem inC_f {R C : Int} (h : R < 0 ∨ C < 0 ∨ 64 < R ∨ 64 < C) : inC R C = false := by unfold inC; simp; omega
def cornW (A : Blk) (R C : Nat) : Blk := fun r => if r < R then A r &&& firstW C else 0#64
theorem cornW_eq (A : Blk) (R C : Nat) : cells (cornW A R C) = cells (blkOf (cornP A R C)) := cells_congr fun i _ => by
  refine eq_blkOf (X := cornW A R C) fun c hc => ?_
  unfold cornW cornP
  by_cases h : i < R
  · simp only [h, if_true, decide_true, Bool.true_and, BitVec.getLsbD_and, firstW_bit C c hc]; exact Bool.and_comm _ _
  · simp [h]
/-! ## The reference's Turn -/
def turnP (B : Blk) : Nat → Nat → Bool := fun r c => (B c).getLsbD r
def turnB (B : Blk) : Blk := blkOf (turnP B)
end Go.Proofs.YticnafofachleaaDoor
