/-
  The rules for the single operations, continued: numbers, memory, calls. Any program.
-/
import Derived.Test.YtfoahdfflchidaaDoorC
namespace Go.Proofs.YtfoahdfflchidaaDoor
open Go

class OfU (m : Int) (x : outParam (BitVec 64)) : Prop where out : m = (x.toNat : Int)
instance (x : BitVec 64) : OfU (x.toNat : Int) x := ⟨rfl⟩
instance : OfU 0 0#64 := ⟨rfl⟩
instance : OfU 1 1#64 := ⟨rfl⟩
instance : OfU 2 2#64 := ⟨rfl⟩
instance : OfU 18446744073709551615 (BitVec.allOnes 64) := ⟨rfl⟩
/-- A word as a value. -/
abbrev u64 (x : BitVec 64) : Value := .int .u64 (x.toNat : Int)
/-- A number as a value. -/
abbrev i64 (n : Int) : Value := .int .i64 n

theorem wrap_u64 (n : Int) : IntKind.u64.wrap n = n % 18446744073709551616 := by
  simp [IntKind.wrap, IntKind.bits, IntKind.signed]
theorem wrap_u64_nat (x : BitVec 64) : IntKind.u64.wrap (x.toNat : Int) = (x.toNat : Int) := by
  rw [wrap_u64]; have := x.isLt; omega
theorem ofInt_nat (x : BitVec 64) : BitVec.ofInt 64 (x.toNat : Int) = x := by simp

theorem ofInt_toNat_nat (a : Nat) (h : a < 18446744073709551616) : (BitVec.ofInt 64 (a : Int)).toNat = a := by
  rw [BitVec.ofInt_natCast, BitVec.toNat_ofNat]; exact Nat.mod_eq_of_lt h
theorem and_mask (m : Int) (j : Nat) (hj : j ≤ 62) : (BitVec.ofInt 64 m &&& BitVec.ofInt 64 ((2 ^ j - 1 : Nat) : Int)).toNat = (m % (2 ^ j : Nat)).toNat := by
  have h2 : (2 ^ j : Nat) ≤ 2 ^ 62 := Nat.pow_le_pow_right (by omega) hj
  rw [BitVec.toNat_and, ofInt_toNat_nat (2 ^ j - 1) (by omega), Nat.and_two_pow_sub_one_eq_mod, BitVec.toNat_ofInt]
  have hd : ((2 ^ j : Nat) : Int) ∣ ((2 ^ 64 : Nat) : Int) := by
    refine ⟨((2 ^ (64 - j) : Nat) : Int), ?_⟩
    rw [← Int.natCast_mul, ← Nat.pow_add]; congr 2; omega
  have e1 : (m % ((2 ^ 64 : Nat) : Int)) % ((2 ^ j : Nat) : Int) = m % ((2 ^ j : Nat) : Int) := Int.emod_emod_of_dvd m hd
  have h0 : 0 ≤ m % ((2 ^ 64 : Nat) : Int) := Int.emod_nonneg _ (by decide)
  rw [← e1]
  obtain ⟨q, hq⟩ := Int.eq_ofNat_of_zero_le h0
  rw [hq]; rfl
section rules
variable {P : Program} {c : Cx} {A : Array Oper} {rest : List Oper} {K : Kont} {L : Env} {H : List HP} {t : TypeId} {p : String} {e : Array Edge}

/-! ### Numbers -/
section
variable {d : Nat} {x y : Operand} {m n : Int} {ty ty' : TypeId} (hN : Nat.blt d c.N = true)
include hN
theorem GO.addi (hx : evl L x = some (.int .i64 m)) (hy : evl L y = some (.int .i64 n)) (h : -9223372036854775808 ≤ m + n ∧ m + n ≤ 9223372036854775807)
    (k : GO P c A rest K ((d, .int .i64 (m + n)) :: L) H) : GO P c A (⟨some d, .binOp .add ty x y ty', t, p, e, none⟩ :: rest) K L H :=
  GO.bin hN hx hy (by simp only [binI]; rw [IntWalk.i64_in _ h]) k
theorem GO.subi (hx : evl L x = some (.int .i64 m)) (hy : evl L y = some (.int .i64 n)) (h : -9223372036854775808 ≤ m - n ∧ m - n ≤ 9223372036854775807)
    (k : GO P c A rest K ((d, .int .i64 (m - n)) :: L) H) : GO P c A (⟨some d, .binOp .sub ty x y ty', t, p, e, none⟩ :: rest) K L H :=
  GO.bin hN hx hy (by simp only [binI]; rw [IntWalk.i64_in _ h]) k
theorem GO.muli (hx : evl L x = some (.int .i64 m)) (hy : evl L y = some (.int .i64 n)) (h : -9223372036854775808 ≤ m * n ∧ m * n ≤ 9223372036854775807)
    (k : GO P c A rest K ((d, .int .i64 (m * n)) :: L) H) : GO P c A (⟨some d, .binOp .mul ty x y ty', t, p, e, none⟩ :: rest) K L H :=
  GO.bin hN hx hy (by simp only [binI]; rw [IntWalk.i64_in _ h]) k
theorem GO.quoi (hx : evl L x = some (.int .i64 m)) (hy : evl L y = some (.int .i64 n)) (h : 0 ≤ m ∧ m ≤ 9223372036854775807 ∧ 1 ≤ n)
    (k : GO P c A rest K ((d, .int .i64 (m / n)) :: L) H) : GO P c A (⟨some d, .binOp .quo ty x y ty', t, p, e, none⟩ :: rest) K L H :=
  GO.bin hN hx hy (by simp only [binI]; rw [if_neg (by omega), IntWalk.i64_quo _ _ h]) k
theorem GO.remi (hx : evl L x = some (.int .i64 m)) (hy : evl L y = some (.int .i64 n)) (h : 0 ≤ m ∧ 1 ≤ n)
    (k : GO P c A rest K ((d, .int .i64 (m % n)) :: L) H) : GO P c A (⟨some d, .binOp .rem ty x y ty', t, p, e, none⟩ :: rest) K L H :=
  GO.bin hN hx hy (by simp only [binI]; rw [if_neg (by omega), Int.tmod_eq_emod_of_nonneg h.1]) k
theorem GO.andi {m n : Nat} (hx : evl L x = some (.int .i64 (m : Int))) (hy : evl L y = some (.int .i64 (n : Int))) (h : m < 4611686018427387904 ∧ n < 4611686018427387904)
    (k : GO P c A rest K ((d, .int .i64 ((m &&& n : Nat) : Int)) :: L) H) : GO P c A (⟨some d, .binOp .and ty x y ty', t, p, e, none⟩ :: rest) K L H :=
  GO.bin hN hx hy (by
    show some (Value.int .i64 (IntKind.i64.wrap ((BitVec.ofInt 64 (m : Int) &&& BitVec.ofInt 64 (n : Int) : BitVec 64).toNat : Int))) = _
    rw [BitVec.toNat_and, ofInt_toNat_nat m (by omega), ofInt_toNat_nat n (by omega), IntWalk.i64_in _ (by have : m &&& n ≤ m := Nat.and_le_left; omega)]) k
theorem GO.ori {m n : Nat} (hx : evl L x = some (.int .i64 (m : Int))) (hy : evl L y = some (.int .i64 (n : Int))) (h : m < 4611686018427387904 ∧ n < 4611686018427387904)
    (k : GO P c A rest K ((d, .int .i64 ((m ||| n : Nat) : Int)) :: L) H) : GO P c A (⟨some d, .binOp .or ty x y ty', t, p, e, none⟩ :: rest) K L H :=
  GO.bin hN hx hy (by
    show some (Value.int .i64 (IntKind.i64.wrap ((BitVec.ofInt 64 (m : Int) ||| BitVec.ofInt 64 (n : Int) : BitVec 64).toNat : Int))) = _
    rw [BitVec.toNat_or, ofInt_toNat_nat m (by omega), ofInt_toNat_nat n (by omega), IntWalk.i64_in _ (by
      have : m ||| n < 2 ^ 62 := Nat.or_lt_two_pow (by omega) (by omega)
      omega)]) k
/-- n is a mask of j bits. -/
theorem GO.mask (j : Nat) (hx : evl L x = some (.int .i64 m)) (hy : evl L y = some (.int .i64 n)) (hj : j ≤ 62 ∧ n = ((2 ^ j - 1 : Nat) : Int))
    (k : GO P c A rest K ((d, .int .i64 (m % ((2 ^ j : Nat) : Int))) :: L) H) : GO P c A (⟨some d, .binOp .and ty x y ty', t, p, e, none⟩ :: rest) K L H :=
  GO.bin hN hx hy (by
    obtain ⟨hj, rfl⟩ := hj
    have h2 : (2 ^ j : Nat) ≤ 2 ^ 62 := Nat.pow_le_pow_right (by omega) hj
    have h3 : 0 < (2 ^ j : Nat) := Nat.pow_pos (by omega)
    have h0 : 0 ≤ m % ((2 ^ j : Nat) : Int) := Int.emod_nonneg _ (by omega)
    have h1 : m % ((2 ^ j : Nat) : Int) < ((2 ^ j : Nat) : Int) := Int.emod_lt_of_pos _ (by omega)
    show some (Value.int .i64 (IntKind.i64.wrap ((BitVec.ofInt 64 m &&& BitVec.ofInt 64 ((2 ^ j - 1 : Nat) : Int) : BitVec 64).toNat : Int))) = _
    rw [and_mask m j hj, Int.toNat_of_nonneg h0, IntWalk.i64_in _ (by omega)]) k

variable {a b : BitVec 64}
theorem GO.andu [ha : OfU m a] [hb : OfU n b] (hx : evl L x = some (.int .u64 m)) (hy : evl L y = some (.int .u64 n))
    (k : GO P c A rest K ((d, u64 (a &&& b)) :: L) H) : GO P c A (⟨some d, .binOp .and ty x y ty', t, p, e, none⟩ :: rest) K L H :=
  GO.bin hN hx hy (by rw [ha.out, hb.out]; simp only [binI, IntKind.bits]; rw [ofInt_nat, ofInt_nat]; exact congrArg (fun z => some (Value.int .u64 z)) (wrap_u64_nat _)) k
theorem GO.oru [ha : OfU m a] [hb : OfU n b] (hx : evl L x = some (.int .u64 m)) (hy : evl L y = some (.int .u64 n))
    (k : GO P c A rest K ((d, u64 (a ||| b)) :: L) H) : GO P c A (⟨some d, .binOp .or ty x y ty', t, p, e, none⟩ :: rest) K L H :=
  GO.bin hN hx hy (by rw [ha.out, hb.out]; simp only [binI, IntKind.bits]; rw [ofInt_nat, ofInt_nat]; exact congrArg (fun z => some (Value.int .u64 z)) (wrap_u64_nat _)) k
theorem GO.xoru [ha : OfU m a] [hb : OfU n b] (hx : evl L x = some (.int .u64 m)) (hy : evl L y = some (.int .u64 n))
    (k : GO P c A rest K ((d, u64 (a ^^^ b)) :: L) H) : GO P c A (⟨some d, .binOp .xor ty x y ty', t, p, e, none⟩ :: rest) K L H :=
  GO.bin hN hx hy (by rw [ha.out, hb.out]; simp only [binI, IntKind.bits]; rw [ofInt_nat, ofInt_nat]; exact congrArg (fun z => some (Value.int .u64 z)) (wrap_u64_nat _)) k
theorem GO.andnu [ha : OfU m a] [hb : OfU n b] (hx : evl L x = some (.int .u64 m)) (hy : evl L y = some (.int .u64 n))
    (k : GO P c A rest K ((d, u64 (a &&& ~~~b)) :: L) H) : GO P c A (⟨some d, .binOp .andNot ty x y ty', t, p, e, none⟩ :: rest) K L H :=
  GO.bin hN hx hy (by rw [ha.out, hb.out]; simp only [binI, IntKind.bits]; rw [ofInt_nat, ofInt_nat]; exact congrArg (fun z => some (Value.int .u64 z)) (wrap_u64_nat _)) k
theorem GO.addu [ha : OfU m a] [hb : OfU n b] (hx : evl L x = some (.int .u64 m)) (hy : evl L y = some (.int .u64 n))
    (k : GO P c A rest K ((d, u64 (a + b)) :: L) H) : GO P c A (⟨some d, .binOp .add ty x y ty', t, p, e, none⟩ :: rest) K L H :=
  GO.bin hN hx hy (by rw [ha.out, hb.out]; simp only [binI]; refine congrArg (fun z => some (Value.int .u64 z)) ?_; rw [wrap_u64, BitVec.toNat_add]; omega) k
theorem GO.subu [ha : OfU m a] [hb : OfU n b] (hx : evl L x = some (.int .u64 m)) (hy : evl L y = some (.int .u64 n))
    (k : GO P c A rest K ((d, u64 (a - b)) :: L) H) : GO P c A (⟨some d, .binOp .sub ty x y ty', t, p, e, none⟩ :: rest) K L H :=
  GO.bin hN hx hy (by rw [ha.out, hb.out]; simp only [binI]; refine congrArg (fun z => some (Value.int .u64 z)) ?_; rw [wrap_u64, BitVec.toNat_sub]; have := a.isLt; have := b.isLt; omega) k
theorem GO.remu [ha : OfU m a] [hb : OfU n b] (hx : evl L x = some (.int .u64 m)) (hy : evl L y = some (.int .u64 n)) (h0 : b ≠ 0#64)
    (k : GO P c A rest K ((d, u64 (a % b)) :: L) H) : GO P c A (⟨some d, .binOp .rem ty x y ty', t, p, e, none⟩ :: rest) K L H :=
  GO.bin hN hx hy (by
    have hb0 : ¬ (b.toNat : Int) = 0 := by intro h; apply h0; apply BitVec.eq_of_toNat_eq; simpa using h
    rw [ha.out, hb.out]; simp only [binI]; rw [if_neg hb0, Int.tmod_eq_emod_of_nonneg (by omega)]; refine congrArg (fun z => some (Value.int .u64 z)) ?_; rw [BitVec.toNat_umod]; rfl) k
theorem GO.equ [ha : OfU m a] [hb : OfU n b] (hx : evl L x = some (.int .u64 m)) (hy : evl L y = some (.int .u64 n))
    (k : GO P c A rest K ((d, .bool (decide (a = b))) :: L) H) : GO P c A (⟨some d, .binOp .eql ty x y ty', t, p, e, none⟩ :: rest) K L H :=
  GO.bin hN hx hy (by
    rw [ha.out, hb.out]; simp only [binI]
    have : ((a.toNat : Int) = (b.toNat : Int)) ↔ a = b := ⟨fun h => BitVec.eq_of_toNat_eq (by omega), fun h => by rw [h]⟩
    simp only [this]) k
theorem GO.neu [ha : OfU m a] [hb : OfU n b] (hx : evl L x = some (.int .u64 m)) (hy : evl L y = some (.int .u64 n))
    (k : GO P c A rest K ((d, .bool (decide (a ≠ b))) :: L) H) : GO P c A (⟨some d, .binOp .neq ty x y ty', t, p, e, none⟩ :: rest) K L H :=
  GO.bin hN hx hy (by
    rw [ha.out, hb.out]; simp only [binI]
    have : ((a.toNat : Int) ≠ (b.toNat : Int)) ↔ a ≠ b := ⟨fun h h' => h (by rw [h']), fun h h' => h (BitVec.eq_of_toNat_eq (by omega))⟩
    simp only [this]) k
theorem GO.eqi {kk : IntKind} (hx : evl L x = some (.int kk m)) (hy : evl L y = some (.int kk n))
    (k : GO P c A rest K ((d, .bool (decide (m = n))) :: L) H) : GO P c A (⟨some d, .binOp .eql ty x y ty', t, p, e, none⟩ :: rest) K L H :=
  GO.bin hN hx hy rfl k
theorem GO.nei {kk : IntKind} (hx : evl L x = some (.int kk m)) (hy : evl L y = some (.int kk n))
    (k : GO P c A rest K ((d, .bool (decide (m ≠ n))) :: L) H) : GO P c A (⟨some d, .binOp .neq ty x y ty', t, p, e, none⟩ :: rest) K L H :=
  GO.bin hN hx hy rfl k
theorem GO.lti {kk : IntKind} (hx : evl L x = some (.int kk m)) (hy : evl L y = some (.int kk n))
    (k : GO P c A rest K ((d, .bool (decide (m < n))) :: L) H) : GO P c A (⟨some d, .binOp .lss ty x y ty', t, p, e, none⟩ :: rest) K L H :=
  GO.bin hN hx hy rfl k
theorem GO.lei {kk : IntKind} (hx : evl L x = some (.int kk m)) (hy : evl L y = some (.int kk n))
    (k : GO P c A rest K ((d, .bool (decide (m ≤ n))) :: L) H) : GO P c A (⟨some d, .binOp .leq ty x y ty', t, p, e, none⟩ :: rest) K L H :=
  GO.bin hN hx hy rfl k
theorem GO.gti {kk : IntKind} (hx : evl L x = some (.int kk m)) (hy : evl L y = some (.int kk n))
    (k : GO P c A rest K ((d, .bool (decide (n < m))) :: L) H) : GO P c A (⟨some d, .binOp .gtr ty x y ty', t, p, e, none⟩ :: rest) K L H :=
  GO.bin hN hx hy rfl k
theorem GO.gei {kk : IntKind} (hx : evl L x = some (.int kk m)) (hy : evl L y = some (.int kk n))
    (k : GO P c A rest K ((d, .bool (decide (n ≤ m))) :: L) H) : GO P c A (⟨some d, .binOp .geq ty x y ty', t, p, e, none⟩ :: rest) K L H :=
  GO.bin hN hx hy rfl k
theorem GO.shlu [ha : OfU m a] {kk : IntKind} {j : Nat} (hx : evl L x = some (.int .u64 m)) (hy : evl L y = some (.int kk (j : Int)))
    (k : GO P c A rest K ((d, u64 (a <<< j)) :: L) H) : GO P c A (⟨some d, .binOp .shl ty x y ty', t, p, e, none⟩ :: rest) K L H :=
  GO.val hN rfl (fun s w Y h _ => by
    simp only [execOp, h.eval hx, h.eval hy]
    have e1 : (Op.shift .shl .u64 m kk (j : Int)).run P w = .ok (u64 (a <<< j)) w := by
      rw [ha.out]
      simp only [Op.shift]
      rw [if_neg (by omega)]
      simp only [Int.toNat_natCast, IntKind.bits, Sem.run_pure]
      rw [wrap_u64]
      have : ((a <<< j).toNat : Int) = (a.toNat : Int) * 2 ^ (min j 64) % 18446744073709551616 := by
        rw [BitVec.toNat_shiftLeft, Nat.shiftLeft_eq]
        by_cases hj : j ≤ 64
        · rw [Nat.min_eq_left hj, Int.natCast_emod, Int.natCast_mul, Int.natCast_pow]; rfl
        · rw [Nat.min_eq_right (by omega)]
          have h1 : a.toNat * 2 ^ j % 2 ^ 64 = 0 := by
            apply Nat.mod_eq_zero_of_dvd
            exact Nat.dvd_trans (Nat.pow_dvd_pow 2 (by omega)) (Nat.dvd_mul_left _ _)
          have h2 : (a.toNat : Int) * 2 ^ 64 % 18446744073709551616 = 0 := by omega
          rw [h1, h2]; rfl
      exact congrArg (fun z => Result.ok (Value.int .u64 z) w) this.symm
    simp [Sem.run_bind, run_eqGuard_int, binOp, e1, Result.andThen]) k
theorem GO.shru [ha : OfU m a] {kk : IntKind} {j : Nat} (hx : evl L x = some (.int .u64 m)) (hy : evl L y = some (.int kk (j : Int)))
    (k : GO P c A rest K ((d, u64 (a >>> j)) :: L) H) : GO P c A (⟨some d, .binOp .shr ty x y ty', t, p, e, none⟩ :: rest) K L H :=
  GO.val hN rfl (fun s w Y h _ => by
    simp only [execOp, h.eval hx, h.eval hy]
    have e1 : (Op.shift .shr .u64 m kk (j : Int)).run P w = .ok (u64 (a >>> j)) w := by
      rw [ha.out]
      simp only [Op.shift]
      rw [if_neg (by omega)]
      simp only [Int.toNat_natCast, IntKind.bits, Sem.run_pure]
      have : ((a >>> j).toNat : Int) = Int.fdiv (a.toNat : Int) (2 ^ (min j 64)) := by
        rw [BitVec.toNat_ushiftRight, Nat.shiftRight_eq_div_pow, Int.fdiv_eq_ediv_of_nonneg _ (by exact Int.le_of_lt (Int.pow_pos (by decide)))]
        by_cases hj : j ≤ 64
        · rw [Nat.min_eq_left hj, Int.natCast_ediv, Int.natCast_pow]; rfl
        · rw [Nat.min_eq_right (by omega)]
          have h1 : a.toNat / 2 ^ j = 0 := Nat.div_eq_of_lt (Nat.lt_of_lt_of_le a.isLt (Nat.pow_le_pow_right (by omega) (by omega)))
          have := a.isLt
          have h2 : (a.toNat : Int) / 2 ^ 64 = 0 := by omega
          rw [h1, h2]; rfl
      exact congrArg (fun z => Result.ok (Value.int .u64 z) w) this.symm
    simp [Sem.run_bind, run_eqGuard_int, binOp, e1, Result.andThen]) k
theorem GO.shli {kk : IntKind} {j : Nat} (hx : evl L x = some (.int .i64 m)) (hy : evl L y = some (.int kk (j : Int))) (h : j ≤ 63 ∧ -9223372036854775808 ≤ m * 2 ^ j ∧ m * 2 ^ j ≤ 9223372036854775807)
    (k : GO P c A rest K ((d, .int .i64 (m * 2 ^ j)) :: L) H) : GO P c A (⟨some d, .binOp .shl ty x y ty', t, p, e, none⟩ :: rest) K L H :=
  GO.val hN rfl (fun s w Y hs _ => by
    simp only [execOp, hs.eval hx, hs.eval hy]
    have e1 : (Op.shift .shl .i64 m kk (j : Int)).run P w = .ok (.int .i64 (m * 2 ^ j)) w := by
      simp only [Op.shift]
      rw [if_neg (by omega)]
      simp only [Int.toNat_natCast, IntKind.bits, Sem.run_pure, Nat.min_eq_left (show j ≤ 64 by omega)]
      rw [IntWalk.i64_in _ h.2]
    simp [Sem.run_bind, run_eqGuard_int, binOp, e1, Result.andThen]) k
theorem GO.shri {kk : IntKind} {j : Nat} (hx : evl L x = some (.int .i64 m)) (hy : evl L y = some (.int kk (j : Int))) (h : j ≤ 64)
    (k : GO P c A rest K ((d, .int .i64 (m / 2 ^ j)) :: L) H) : GO P c A (⟨some d, .binOp .shr ty x y ty', t, p, e, none⟩ :: rest) K L H :=
  GO.val hN rfl (fun s w Y hs _ => by
    simp only [execOp, hs.eval hx, hs.eval hy]
    have e1 : (Op.shift .shr .i64 m kk (j : Int)).run P w = .ok (.int .i64 (m / 2 ^ j)) w := by
      simp only [Op.shift]
      rw [if_neg (by omega)]
      simp only [Int.toNat_natCast, IntKind.bits, Sem.run_pure, Nat.min_eq_left h]
      rw [Int.fdiv_eq_ediv_of_nonneg _ (by exact Int.le_of_lt (Int.pow_pos (by decide)))]
    simp [Sem.run_bind, run_eqGuard_int, binOp, e1, Result.andThen]) k
theorem GO.shluK [ha : OfU m a] {kk : IntKind} (j : Nat) (hx : evl L x = some (.int .u64 m)) (hy : evl L y = some (.int kk n)) (hj : n = (j : Int))
    (k : GO P c A rest K ((d, u64 (a <<< j)) :: L) H) : GO P c A (⟨some d, .binOp .shl ty x y ty', t, p, e, none⟩ :: rest) K L H :=
  GO.shlu hN hx (by rw [hy, hj]) k
/-- A conversion of a number that fits. -/
theorem GO.conv {ts td : TypeId} {kk kd : IntKind} {ds : TypeDesc} [hs : UL P ts ds] [hd : UL P td (.int kd)] (hx : evl L x = some (.int kk m)) (hi : kd.wrap m = m)
    (k : GO P c A rest K ((d, .int kd m) :: L) H) : GO P c A (⟨some d, .convert ts td x, t, p, e, none⟩ :: rest) K L H :=
  GO.val hN rfl (fun s w Y h _ => by
    simp only [execOp, h.eval hx, convert]
    simp [Sem.run_bind, run_underlying hs.out, run_underlying hd.out, Result.andThen, Conv.intToInt, hi]) k
end
end rules
end Go.Proofs.YtfoahdfflchidaaDoor
