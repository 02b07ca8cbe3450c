/-
  The count of a word's bits, as math/bits reckons it: it is the number of bits.
-/
import Derived.Test.YtfoahdfflchidaaDoorKC
import Derived.Test.YtfoahdfflchidaaDoorKN
namespace Go.Proofs.YtfoahdfflchidaaDoor
open Go
/-- A number out of its bytes, the lowest first. -/
def byv : List Nat → Nat
  | [] => 0
  | b :: l => b + 256 * byv l
def rep (m : Nat) : Nat → Nat
  | 0 => 0
  | n + 1 => m + 256 * rep m n
theorem land_split (r q a b : Nat) (hr : r < 256) (ha : a < 256) : (r + 256 * q) &&& (a + 256 * b) = (r &&& a) + 256 * (q &&& b) := by
  have h1 : (r &&& a) < 2 ^ 8 := Nat.lt_of_le_of_lt Nat.and_le_left (by omega)
  have e : ∀ x y : Nat, x < 2 ^ 8 → x + 256 * y = 2 ^ 8 * y ||| x := fun x y hx => by
    rw [← Nat.two_pow_add_eq_or_of_lt hx]; omega
  apply Nat.eq_of_testBit_eq
  intro i
  rw [e r q (by omega), e a b (by omega), e _ _ h1]
  simp only [Nat.testBit_and, Nat.testBit_or, Nat.testBit_two_pow_mul]
  by_cases hi : 8 ≤ i
  · have hz : ∀ x, x < 2 ^ 8 → x.testBit i = false := fun x hx => Nat.testBit_lt_two_pow (Nat.lt_of_lt_of_le hx (Nat.pow_le_pow_right (by omega) hi))
    simp [hi, hz r (by omega), hz a (by omega)]
  · simp [hi]
def stA (n m : Nat) : Nat := (n / 2 &&& m) + (n &&& m)
def stB (n m : Nat) : Nat := (n / 4 &&& m) + (n &&& m)
def stC (n m : Nat) : Nat := (n / 16 + n) &&& m
set_option maxRecDepth 100000 in
theorem stA_low : ∀ r, r < 256 → ((r / 2 + 128) &&& 85) = (r / 2 &&& 85) := by decide +kernel
set_option maxRecDepth 100000 in
theorem stB_low : ∀ k, k < 4 → ∀ r, r < 256 → ((r / 4 + 64 * k) &&& 51) = (r / 4 &&& 51) := by decide +kernel
set_option maxRecDepth 100000 in
theorem stC_low : ∀ k, k < 5 → ∀ r, r < 256 → r % 16 ≤ 4 → r / 16 ≤ 4 → (r / 16 + 16 * k + r) < 256 ∧ ((r / 16 + 16 * k + r) &&& 15) = ((r / 16 + r) &&& 15) := by decide +kernel
theorem stA_byv : ∀ l : List Nat, (∀ b ∈ l, b < 256) → stA (byv l) (rep 85 l.length) = byv (l.map fun r => stA r 85)
  | [], _ => by simp [byv, stA, rep]
  | r :: l, h => by
    have hr : r < 256 := h r (by simp)
    have ih := stA_byv l (fun b hb => h b (by simp [hb]))
    simp only [byv, List.map_cons, List.length_cons, rep]
    rw [← ih]
    generalize byv l = q at *
    unfold stA
    rw [land_split r q 85 _ hr (by omega), show (r + 256 * q) / 2 = (r / 2 + 128 * (q % 2)) + 256 * (q / 2) by omega, land_split _ (q / 2) 85 _ (by omega) (by omega)]
    have : (r / 2 + 128 * (q % 2)) &&& 85 = r / 2 &&& 85 := by
      rcases Nat.mod_two_eq_zero_or_one q with e | e <;> rw [e]
      · rfl
      · exact stA_low r hr
    rw [this]; omega
theorem stB_byv : ∀ l : List Nat, (∀ b ∈ l, b < 256) → stB (byv l) (rep 51 l.length) = byv (l.map fun r => stB r 51)
  | [], _ => by simp [byv, stB, rep]
  | r :: l, h => by
    have hr : r < 256 := h r (by simp)
    have ih := stB_byv l (fun b hb => h b (by simp [hb]))
    simp only [byv, List.map_cons, List.length_cons, rep]
    rw [← ih]
    generalize byv l = q at *
    unfold stB
    rw [land_split r q 51 _ hr (by omega), show (r + 256 * q) / 4 = (r / 4 + 64 * (q % 4)) + 256 * (q / 4) by omega, land_split _ (q / 4) 51 _ (by omega) (by omega), stB_low (q % 4) (by omega) r hr]
    omega
theorem stC_byv : ∀ l : List Nat, (∀ b ∈ l, b < 256 ∧ b % 16 ≤ 4 ∧ b / 16 ≤ 4) → stC (byv l) (rep 15 l.length) = byv (l.map fun r => stC r 15)
  | [], _ => by simp [byv, stC, rep]
  | r :: l, h => by
    obtain ⟨hr, hr1, hr2⟩ := h r (by simp)
    have ih := stC_byv l (fun b hb => h b (by simp [hb]))
    have hq : byv l % 16 ≤ 4 := by
      cases l with
      | nil => simp [byv]
      | cons b l => have := h b (by simp); simp only [byv]; omega
    simp only [byv, List.map_cons, List.length_cons, rep]
    rw [← ih]
    generalize byv l = q at *
    unfold stC
    obtain ⟨h1, h2⟩ := stC_low (q % 16) (by omega) r hr hr1 hr2
    rw [show (r + 256 * q) / 16 + (r + 256 * q) = (r / 16 + 16 * (q % 16) + r) + 256 * (q / 16 + q) by omega, land_split _ _ 15 _ h1 (by omega), h2]
def popN (r : Nat) : Nat := r % 2 + r / 2 % 2 + r / 4 % 2 + r / 8 % 2 + r / 16 % 2 + r / 32 % 2 + r / 64 % 2 + r / 128 % 2
set_option maxRecDepth 100000 in
theorem byte_facts : ∀ r, r < 256 → stA r 85 < 256 ∧ stB (stA r 85) 51 < 256 ∧ stB (stA r 85) 51 % 16 ≤ 4 ∧ stB (stA r 85) 51 / 16 ≤ 4 ∧ stC (stB (stA r 85) 51) 15 = popN r := by decide +kernel
theorem byte_all (l : List Nat) (h : ∀ b ∈ l, b < 256) : stC (stB (stA (byv l) (rep 85 l.length)) (rep 51 l.length)) (rep 15 l.length) = byv (l.map popN) := by
  have e1 := stA_byv l h
  have e2 := stB_byv (l.map fun r => stA r 85) (fun b hb => by
    obtain ⟨r, hr, rfl⟩ := List.mem_map.1 hb; exact (byte_facts r (h r hr)).1)
  rw [List.length_map, List.map_map] at e2
  have e3 := stC_byv (l.map ((fun r => stB r 51) ∘ fun r => stA r 85)) (fun b hb => by
    obtain ⟨r, hr, rfl⟩ := List.mem_map.1 hb
    have := byte_facts r (h r hr)
    exact ⟨this.2.1, this.2.2.1, this.2.2.2.1⟩)
  rw [List.length_map, List.map_map] at e3
  rw [e1, e2, e3]
  congr 1
  apply List.map_congr_left
  intro r hr
  exact (byte_facts r (h r hr)).2.2.2.2
def byts (x : Nat) : List Nat := (List.range 8).map fun k => x / 256 ^ k % 256
theorem byv_byts (x : Nat) (h : x < 18446744073709551616) : byv (byts x) = x := by
  simp [byts, List.range_succ, byv]; omega
theorem popN_le (r : Nat) : popN r ≤ 8 := by unfold popN; omega
theorem popN_at (n k : Nat) : popN (n / 256 ^ k % 256) = n / 2 ^ (8 * k + 0) % 2 + n / 2 ^ (8 * k + 1) % 2 + n / 2 ^ (8 * k + 2) % 2 + n / 2 ^ (8 * k + 3) % 2 + n / 2 ^ (8 * k + 4) % 2 + n / 2 ^ (8 * k + 5) % 2 + n / 2 ^ (8 * k + 6) % 2 + n / 2 ^ (8 * k + 7) % 2 := by
  have e : ∀ j, n / 2 ^ (8 * k + j) = n / 256 ^ k / 2 ^ j := fun j => by rw [Nat.div_div_eq_div_mul, show 256 = 2 ^ 8 from rfl, ← Nat.pow_mul, ← Nat.pow_add]
  rw [e 0, e 1, e 2, e 3, e 4, e 5, e 6, e 7]
  unfold popN
  generalize n / 256 ^ k = m
  omega
theorem cnt_bytes (x : BitVec 64) : cnt x 64 = ((byts x.toNat).map popN).sum := by
  have hb : ∀ i, (if x.getLsbD i then 1 else 0) = x.toNat / 2 ^ i % 2 := fun i => by
    rw [← BitVec.testBit_toNat, Nat.testBit_eq_decide_div_mod_eq]
    rcases Nat.mod_two_eq_zero_or_one (x.toNat / 2 ^ i) with e | e <;> simp [e]
  have h := x.isLt
  simp only [cnt, hb, byts, List.range_succ, List.range_zero, List.nil_append, List.cons_append, List.map_cons, List.map_nil, popN_at, List.sum_cons, List.sum_nil, Nat.reduceMul, Nat.reduceAdd, Nat.add_assoc, Nat.zero_add, Nat.add_zero]
theorem stp (a q N : Nat) (h : a < N) (h0 : 0 < N) (hs : a + N * q + q < 18446744073709551616) : (a + N * q + (a + N * q) / N) % 18446744073709551616 = a + N * q + q := by
  rw [Nat.add_mul_div_left _ _ h0, Nat.div_eq_of_lt h, Nat.zero_add, Nat.mod_eq_of_lt hs]
set_option maxHeartbeats 1000000 in
theorem on_sum (y : BitVec 64) (c0 c1 c2 c3 c4 c5 c6 c7 : Nat) (h10 : c0 ≤ 8) (h11 : c1 ≤ 8) (h12 : c2 ≤ 8) (h13 : c3 ≤ 8) (h14 : c4 ≤ 8) (h15 : c5 ≤ 8) (h16 : c6 ≤ 8) (h17 : c7 ≤ 8) (t3 : y.toNat = c0 + 256 * (c1 + 256 * (c2 + 256 * (c3 + 256 * (c4 + 256 * (c5 + 256 * (c6 + 256 * (c7 + 256 * 0)))))))) : (on6 (on5 (on4 y))).toNat % 128 = c0 + (c1 + (c2 + (c3 + (c4 + (c5 + (c6 + (c7 + 0))))))) := by
  have h4 : (on4 y).toNat = ((c0 + c1) + 256 * (c1 + c2)) + 65536 * ((c2 + c3) + 256 * ((c3 + c4) + 256 * ((c4 + c5) + 256 * ((c5 + c6) + 256 * ((c6 + c7) + 256 * ((c7))))))) := by
    unfold on4
    simp only [BitVec.toNat_add, BitVec.toNat_ushiftRight, Nat.shiftRight_eq_div_pow, Nat.reducePow]
    rw [show y.toNat = c0 + 256 * (c1 + 256 * (c2 + 256 * (c3 + 256 * (c4 + 256 * (c5 + 256 * (c6 + 256 * (c7))))))) by omega, stp c0 _ 256 (by omega) (by omega) (by omega)]
    omega
  have h5 : (on5 (on4 y)).toNat = ((c0 + c1 + c2 + c3) + 256 * (c1 + c2 + c3 + c4) + 65536 * (c2 + c3 + c4 + c5) + 16777216 * (c3 + c4 + c5 + c6)) + 4294967296 * ((c4 + c5 + c6 + c7) + 256 * ((c5 + c6 + c7) + 256 * ((c6 + c7) + 256 * ((c7))))) := by
    unfold on5
    simp only [BitVec.toNat_add, BitVec.toNat_ushiftRight, Nat.shiftRight_eq_div_pow, Nat.reducePow]
    rw [h4, stp _ _ 65536 (by omega) (by omega) (by omega)]
    omega
  unfold on6
  simp only [BitVec.toNat_add, BitVec.toNat_ushiftRight, Nat.shiftRight_eq_div_pow, Nat.reducePow]
  rw [h5]
  clear h5 h4 t3
  rw [stp _ _ 4294967296 (by omega) (by omega) (by omega)]
  have e : ∀ a b c q0 q1 s : Nat, s + 256 * a + 65536 * b + 16777216 * c + 4294967296 * (q0 + 256 * q1) + (q0 + 256 * q1) = (s + q0) + 128 * (2 * a + 512 * b + 131072 * c + 33554432 * (q0 + 256 * q1) + 2 * q1) := by intros; omega
  rw [e, Nat.add_mul_mod_self_left, Nat.mod_eq_of_lt (by omega)]
  omega
theorem ones_cnt (x : BitVec 64) : ones x = cnt x 64 := by
  have hx := x.isLt
  have hb : ∀ b ∈ byts x.toNat, b < 256 := fun b hb => by
    obtain ⟨k, _, rfl⟩ := List.mem_map.1 hb; exact Nat.mod_lt _ (by omega)
  have key := byte_all (byts x.toNat) hb
  rw [byv_byts x.toNat hx] at key
  have hl : (byts x.toNat).length = 8 := by simp [byts]
  rw [hl] at key
  have m1 : rep 85 8 = 6148914691236517205 := rfl
  have m2 : rep 51 8 = 3689348814741910323 := rfl
  have m3 : rep 15 8 = 1085102592571150095 := rfl
  rw [m1, m2, m3] at key
  have t1 : (on1 x).toNat = stA x.toNat 6148914691236517205 := by
    unfold on1 stA
    have := Nat.and_le_right (n := x.toNat / 2) (m := 6148914691236517205)
    have := Nat.and_le_right (n := x.toNat) (m := 6148914691236517205)
    simp only [BitVec.toNat_add, BitVec.toNat_and, BitVec.toNat_ushiftRight, Nat.shiftRight_eq_div_pow]
    exact Nat.mod_eq_of_lt (by show (x.toNat / 2 &&& 6148914691236517205) + (x.toNat &&& 6148914691236517205) < _; omega)
  have t2 : (on2 (on1 x)).toNat = stB (stA x.toNat 6148914691236517205) 3689348814741910323 := by
    rw [← t1]
    generalize on1 x = y
    unfold on2 stB
    have := Nat.and_le_right (n := y.toNat / 4) (m := 3689348814741910323)
    have := Nat.and_le_right (n := y.toNat) (m := 3689348814741910323)
    simp only [BitVec.toNat_add, BitVec.toNat_and, BitVec.toNat_ushiftRight, Nat.shiftRight_eq_div_pow]
    exact Nat.mod_eq_of_lt (by show (y.toNat / 4 &&& 3689348814741910323) + (y.toNat &&& 3689348814741910323) < _; omega)
  have hle : (on2 (on1 x)).toNat ≤ 2 * 3689348814741910323 := by
    rw [t2]; unfold stB
    have := Nat.and_le_right (n := (stA x.toNat 6148914691236517205) / 4) (m := 3689348814741910323)
    have := Nat.and_le_right (n := stA x.toNat 6148914691236517205) (m := 3689348814741910323)
    omega
  have t3 : (on3 (on2 (on1 x))).toNat = byv ((byts x.toNat).map popN) := by
    rw [← key, ← t2]
    generalize on2 (on1 x) = y at *
    unfold on3 stC
    simp only [BitVec.toNat_add, BitVec.toNat_and, BitVec.toNat_ushiftRight, Nat.shiftRight_eq_div_pow]
    rw [Nat.mod_eq_of_lt (by show y.toNat / 16 + y.toNat < _; omega)]
    rfl
  unfold ones
  generalize on3 (on2 (on1 x)) = y at *
  rw [cnt_bytes]
  have hc : ∀ k, popN (x.toNat / 256 ^ k % 256) ≤ 8 := fun k => popN_le _
  simp only [byts, List.range_succ, List.range_zero, List.nil_append, List.cons_append, List.map_cons, List.map_nil, byv, List.sum_cons, List.sum_nil] at t3 ⊢
  have := hc 0; have := hc 1; have := hc 2; have := hc 3; have := hc 4; have := hc 5; have := hc 6; have := hc 7
  generalize popN (x.toNat / 256 ^ 0 % 256) = c0 at *
  generalize popN (x.toNat / 256 ^ 1 % 256) = c1 at *
  generalize popN (x.toNat / 256 ^ 2 % 256) = c2 at *
  generalize popN (x.toNat / 256 ^ 3 % 256) = c3 at *
  generalize popN (x.toNat / 256 ^ 4 % 256) = c4 at *
  generalize popN (x.toNat / 256 ^ 5 % 256) = c5 at *
  generalize popN (x.toNat / 256 ^ 6 % 256) = c6 at *
  generalize popN (x.toNat / 256 ^ 7 % 256) = c7 at *
  exact on_sum y c0 c1 c2 c3 c4 c5 c6 c7 (by assumption) (by assumption) (by assumption) (by assumption) (by assumption) (by assumption) (by assumption) (by assumption) t3
end Go.Proofs.YtfoahdfflchidaaDoor
