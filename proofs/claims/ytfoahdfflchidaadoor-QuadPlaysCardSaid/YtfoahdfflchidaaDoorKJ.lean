/-
  TrailingZeros64 over the library's own table, and the engine's Mul.
-/
import Derived.Test.YtfoahdfflchidaaDoorKG
import Derived.Test.YtfoahdfflchidaaDoorJ
import Derived.Lib.TrailingZeros
namespace Go.Proofs.YtfoahdfflchidaaDoor
open Go
attribute [local irreducible] G GO GQ Fn pt init exs pur sat

/-! ## The lowest bit -/
def ctzW (x : BitVec 64) : Nat := Lib.ctz 64 x.toNat
theorem ctz_form {x : BitVec 64} (h : x ≠ 0#64) : ∃ m, x.toNat = 2 ^ ctzW x * (2 * m + 1) ∧ ctzW x < 64 := by
  have h0 : x.toNat ≠ 0 := fun e => h (BitVec.eq_of_toNat_eq (by simpa using e))
  obtain ⟨m, hm, hk⟩ := Lib.ctzFrom_spec 64 x.toNat (by omega) x.isLt
  have e : ctzW x = Lib.ctzFrom 64 x.toNat := by simp [ctzW, Lib.ctz, h0]
  rw [e]; exact ⟨m, hm, hk⟩
theorem ctz_lt {x : BitVec 64} (h : x ≠ 0#64) : ctzW x < 64 := let ⟨_, _, hk⟩ := ctz_form h; hk
theorem ctz_bits {x : BitVec 64} (h : x ≠ 0#64) (j : Nat) : x.getLsbD j = (if j < ctzW x then false else if j = ctzW x then true else (x &&& (x - 1#64)).getLsbD j) ∧ (x &&& (x - 1#64)).getLsbD j = (x.getLsbD j && !decide (j = ctzW x)) := by
  obtain ⟨m, hm, hk⟩ := ctz_form h
  generalize ctzW x = k at *
  have hx := x.isLt
  have hp : 0 < 2 ^ k := Nat.pow_pos (by omega)
  have e1 : x.toNat = 2 ^ k * (2 * m + 1) + 0 := by omega
  have e2 : (x - 1#64).toNat = 2 ^ k * (2 * m) + (2 ^ k - 1) := by
    have h1 : (1#64).toNat = 1 := rfl
    have h3 : 2 ^ k * (2 * m + 1) = 2 ^ k * (2 * m) + 2 ^ k := by rw [Nat.mul_add, Nat.mul_one]
    rw [BitVec.toNat_sub, h1]
    omega
  have b1 : x.getLsbD j = if j < k then false else (2 * m + 1).testBit (j - k) := by
    rw [BitVec.getLsbD, e1, Nat.testBit_two_pow_mul_add _ hp]; simp
  have b2 : (x - 1#64).getLsbD j = if j < k then (2 ^ k - 1).testBit j else (2 * m).testBit (j - k) := by
    rw [BitVec.getLsbD, e2, Nat.testBit_two_pow_mul_add _ (by omega)]
  rw [BitVec.getLsbD_and, b1, b2]
  by_cases hj : j < k
  · simp [hj]
  · by_cases hj2 : j = k
    · subst hj2; simp
    · obtain ⟨i, hi⟩ : ∃ i, j - k = i + 1 := ⟨j - k - 1, by omega⟩
      have d1 : (2 * m + 1) / 2 = m := by omega
      have d2 : (2 * m) / 2 = m := by omega
      simp [hj, hj2, hi, Nat.testBit_succ, d1, d2]
theorem ctz_on {x : BitVec 64} (h : x ≠ 0#64) : x.getLsbD (ctzW x) = true := by rw [(ctz_bits h _).1]; simp
theorem drop_low {x : BitVec 64} (h : x ≠ 0#64) (j : Nat) : (x &&& (x - 1#64)).getLsbD j = (x.getLsbD j && !decide (j = ctzW x)) := (ctz_bits h j).2
theorem drop_lt {x : BitVec 64} (h : x ≠ 0#64) : (x &&& (x - 1#64)).toNat < x.toNat := by
  have h0 : x.toNat ≠ 0 := fun e => h (BitVec.eq_of_toNat_eq (by simpa using e))
  have h1 : (1#64).toNat = 1 := rfl
  have h2 : (x - 1#64).toNat = x.toNat - 1 := by rw [BitVec.toNat_sub, h1]; have := x.isLt; omega
  rw [BitVec.toNat_and, h2]
  have : x.toNat &&& (x.toNat - 1) ≤ x.toNat - 1 := Nat.and_le_right
  omega
/-! ## The table -/
def dbIdx (k : Nat) : Nat := 2 ^ k * 285870213051353865 % 18446744073709551616 / 288230376151711744
def Tab (q : HP) : Prop := ∀ j, j < 64 → Rd q ⟨0, j, none⟩ (.int .u8 (Lib.deBruijn64tab.getD j 0))
theorem db_at {x : BitVec 64} (h : x ≠ 0#64) : (((x &&& -x) * 285870213051353865#64) >>> 58).toNat = dbIdx (ctzW x) := by
  have h0 : x.toNat ≠ 0 := fun e => h (BitVec.eq_of_toNat_eq (by simpa using e))
  have h1 : (x &&& -x).toNat = 2 ^ ctzW x := by
    rw [BitVec.toNat_and, BitVec.toNat_neg, Nat.mod_eq_of_lt (by omega)]
    exact (Lib.lowest_bit 64 x.toNat h0 x.isLt).1
  have h2 : (285870213051353865#64).toNat = 285870213051353865 := rfl
  rw [BitVec.toNat_ushiftRight, BitVec.toNat_mul, h1, h2, Nat.shiftRight_eq_div_pow]; rfl
theorem tz_spec (q : HP) (hq : Tab q) (x : BitVec 64) : Fn Tryd.prog 70 #[u64 x] [q] (fun v Q => v = i64 (ctzW x) ∧ Q = [q]) := by
  refine Fn.mk Tryd.func70 rfl rfl fun w0 F => ?_
  (refine G.seq ?_; refine G.region ?_; refine GO.assign rfl rfl ?_; refine GO.nil ?_; refine kthen_n ?_; refine G.seq ?_; refine G.seq ?_; refine G.region ?_; refine GO.move rfl rfl ?_; refine GO.equ rfl rfl rfl ?_; refine GO.nil ?_; refine kthen_n ?_)
  refine G.condD rfl (fun h => ?_) (fun h => ?_)
  · subst h
    (refine G.seq ?_; refine G.region ?_; refine GO.assign rfl rfl ?_; refine GO.nil ?_; refine kthen_n ?_; refine G.ret ?_; refine kthen_r ?_)
    refine KF.r1 rfl (RV.t rfl) ⟨rfl, rfl⟩ ?_
    ((refine Sb.c Tk.h ?_); (exact Sb.r))
  · obtain ⟨hi, ht⟩ := Lib.deBruijn64_at (ctzW x) (ctz_lt h)
    have hb := db_at h
    have hc := hq _ hi
    rw [ht] at hc
    (refine G.skip ?_; refine kthen_n ?_; refine G.seq ?_; refine G.region ?_; refine GO.move rfl rfl ?_; refine GO.move rfl rfl ?_; refine GO.negu rfl rfl ?_; refine GO.andu rfl rfl rfl ?_; refine GO.mulu rfl rfl rfl ?_; refine GO.shru rfl rfl rfl ?_)
    refine GO.idxA (j := dbIdx (ctzW x)) rfl rfl rfl ⟨by rw [hb], hi⟩ ?_
    refine GO.loadQ (v := .int .u8 (ctzW x)) rfl rfl rfl Tk.h (by rw [Nat.zero_add, Nat.mul_one]; exact hc) ?_
    refine GO.conv rfl rfl (IntWalk.i64_in _ (by have := ctz_lt h; omega)) ?_
    (refine GO.assign rfl rfl ?_; refine GO.nil ?_; refine kthen_n ?_; refine G.ret ?_)
    refine KF.r1 rfl (RV.t rfl) ⟨rfl, rfl⟩ ?_
    ((refine Sb.c Tk.h ?_); (exact Sb.r))
end Go.Proofs.YtfoahdfflchidaaDoor
