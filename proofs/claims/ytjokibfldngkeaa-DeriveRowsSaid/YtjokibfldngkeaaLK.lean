/-
  slices.Repeat of one number.
-/
import Derived.Test.YtjokibfldngkeaaLJ
namespace Go.Proofs.Ytjokibfldngkeaa
open Go
attribute [local irreducible] G GO GR GT Fn FnV pt init exs pur sat own ImpS
instance : OfU 4294967295 4294967295#64 := ⟨rfl⟩
theorem small_mask {y : BitVec 64} (h : y.toNat < 4294967296) : y &&& 4294967295#64 = y := by
  apply BitVec.eq_of_toNat_eq
  rw [BitVec.toNat_and]
  show y.toNat &&& (2 ^ 32 - 1) = _
  rw [Nat.and_two_pow_sub_one_eq_mod, Nat.mod_eq_of_lt (by omega)]
theorem small_shr {y : BitVec 64} (h : y.toNat < 4294967296) : y >>> 32 = 0#64 := by
  apply BitVec.eq_of_toNat_eq
  rw [BitVec.toNat_ushiftRight, Nat.shiftRight_eq_div_pow]
  show y.toNat / 4294967296 = 0
  exact Nat.div_eq_of_lt h
theorem mul64_one (y : BitVec 64) (h : y.toNat < 4294967296) : Fn Try.prog 60 #[u64 1#64, u64 y] [] (fun r Q => r = .tuple [u64 0#64, u64 y].toArray ∧ Q = []) := by
  refine Fn.mk Try.func60 rfl rfl fun w0 F => ?_
  have hm := small_mask h
  have hs := small_shr h
  have m1 : 1#64 &&& 4294967295#64 = 1#64 := rfl
  have m0 : 0#64 &&& 4294967295#64 = 0#64 := rfl
  have s1 : 1#64 >>> 32 = 0#64 := rfl
  have s0 : 0#64 >>> 32 = 0#64 := rfl
  (refine G.seq ?_; refine G.region ?_; refine GO.assign rfl rfl ?_; refine GO.assign rfl rfl ?_; refine GO.nil ?_; refine kthen_n ?_; refine G.seq ?_; refine G.region ?_; refine GO.move rfl rfl ?_; refine GO.andu rfl rfl rfl ?_; refine GO.assign rfl rfl ?_; refine GO.nil ?_; refine kthen_n ?_; refine G.seq ?_; refine G.region ?_; refine GO.move rfl rfl ?_; refine GO.shru rfl rfl rfl ?_; refine GO.assign rfl rfl ?_; refine GO.nil ?_; refine kthen_n ?_; refine G.seq ?_; refine G.region ?_; refine GO.move rfl rfl ?_; refine GO.andu rfl rfl rfl ?_; refine GO.assign rfl rfl ?_; refine GO.nil ?_; refine kthen_n ?_; refine G.seq ?_; refine G.region ?_; refine GO.move rfl rfl ?_; refine GO.shru rfl rfl rfl ?_; refine GO.assign rfl rfl ?_; refine GO.nil ?_; refine kthen_n ?_; refine G.seq ?_; refine G.region ?_; refine GO.move rfl rfl ?_; refine GO.move rfl rfl ?_; refine GO.mulu rfl rfl rfl ?_; refine GO.assign rfl rfl ?_; refine GO.nil ?_; refine kthen_n ?_; refine G.seq ?_; refine G.region ?_; refine GO.move rfl rfl ?_; refine GO.move rfl rfl ?_; refine GO.mulu rfl rfl rfl ?_; refine GO.move rfl rfl ?_; refine GO.shru rfl rfl rfl ?_; refine GO.addu rfl rfl rfl ?_; refine GO.assign rfl rfl ?_; refine GO.nil ?_; refine kthen_n ?_; refine G.seq ?_; refine G.region ?_; refine GO.move rfl rfl ?_; refine GO.andu rfl rfl rfl ?_; refine GO.assign rfl rfl ?_; refine GO.nil ?_; refine kthen_n ?_; refine G.seq ?_; refine G.region ?_; refine GO.move rfl rfl ?_; refine GO.shru rfl rfl rfl ?_; refine GO.assign rfl rfl ?_; refine GO.nil ?_; refine kthen_n ?_; refine G.seq ?_; refine G.region ?_; refine GO.move rfl rfl ?_; refine GO.move rfl rfl ?_; refine GO.move rfl rfl ?_; refine GO.mulu rfl rfl rfl ?_; refine GO.addu rfl rfl rfl ?_; refine GO.assign rfl rfl ?_; refine GO.nil ?_; refine kthen_n ?_; refine G.seq ?_; refine G.region ?_; refine GO.move rfl rfl ?_; refine GO.move rfl rfl ?_; refine GO.mulu rfl rfl rfl ?_; refine GO.move rfl rfl ?_; refine GO.addu rfl rfl rfl ?_; refine GO.move rfl rfl ?_; refine GO.shru rfl rfl rfl ?_; refine GO.addu rfl rfl rfl ?_; refine GO.assign rfl rfl ?_; refine GO.nil ?_; refine kthen_n ?_; refine G.seq ?_; refine G.region ?_; refine GO.move rfl rfl ?_; refine GO.move rfl rfl ?_; refine GO.mulu rfl rfl rfl ?_; refine GO.assign rfl rfl ?_; refine GO.nil ?_; refine kthen_n ?_; refine G.ret ?_)
  refine KF.r2 rfl (RV.t rfl) (RV.t rfl) ⟨?_, rfl⟩ ?_
  · have e1 : (1#64 * y) = y := BitVec.one_mul y
    simp only [hm, hs, m1, s1, e1, BitVec.zero_mul, BitVec.mul_zero, BitVec.zero_add, BitVec.add_zero, m0, s0]
  · (skip; (exact Sb.r))
theorem nat_u64 {n : Nat} (h : n < 4294967296) : u64 (BitVec.ofNat 64 n) = .int .u64 (n : Int) := by
  have : (BitVec.ofNat 64 n).toNat = n := by rw [BitVec.toNat_ofNat]; exact Nat.mod_eq_of_lt (by omega)
  show Value.int .u64 ((BitVec.ofNat 64 n).toNat : Int) = _
  rw [this]
theorem mul_one_spec (n : Nat) (h : n < 4294967296) : Fn Try.prog 52 #[.int .u64 1, .int .u64 (n : Int)] [] (fun r Q => r = .tuple [.int .u64 0, .int .u64 (n : Int)].toArray ∧ Q = []) := by
  have hsp := mul64_one (BitVec.ofNat 64 n) (by rw [BitVec.toNat_ofNat]; rw [Nat.mod_eq_of_lt (by omega)]; exact h)
  rw [nat_u64 h] at hsp
  refine Fn.mk Try.func52 rfl rfl fun w0 F => ?_
  (refine G.seq ?_; refine G.region ?_; refine GO.assign rfl rfl ?_; refine GO.assign rfl rfl ?_; refine GO.nil ?_; refine kthen_n ?_; refine G.seq ?_; refine G.condF rfl rfl ?_; refine G.skip ?_; refine kthen_n ?_; refine G.seq ?_; refine G.region ?_; refine GO.move rfl rfl ?_; refine GO.move rfl rfl ?_)
  refine GO.call2 rfl rfl rfl hsp Tks.n ?_
  rintro _ _ ⟨rfl, rfl⟩
  (refine GO.move rfl rfl ?_; refine GO.extract rfl rfl rfl ?_; refine GO.extract rfl rfl rfl ?_; refine GO.assign rfl rfl ?_; refine GO.assign rfl rfl ?_; refine GO.nil ?_; refine kthen_n ?_; refine G.seq ?_; refine G.region ?_; refine GO.move rfl rfl ?_; refine GO.move rfl rfl ?_; refine GO.assign rfl rfl ?_; refine GO.assign rfl rfl ?_; refine GO.nil ?_; refine kthen_n ?_; refine G.ret ?_)
  refine KF.r2 rfl (RV.t rfl) (RV.t rfl) ⟨rfl, rfl⟩ ?_
  (skip; (exact Sb.r))
def repV (x : Int) (n m : Nat) : List Value := List.replicate m (i64 x) ++ List.replicate (n - m) (i64 0)
theorem repV_len {x : Int} {n m : Nat} (h : m ≤ n) : (repV x n m).length = n := by simp [repV]; omega
theorem repV_copy {x : Int} {n m k : Nat} (h : m + k ≤ n) (hk : k ≤ m) : (repV x n m).take m ++ List.replicate k (i64 x) ++ (repV x n m).drop (m + k) = repV x n (m + k) := by
  unfold repV
  rw [List.take_left' (by simp), List.drop_append, List.drop_of_length_le (by simp)]
  simp only [List.length_replicate, List.nil_append, List.drop_replicate, List.append_assoc]
  rw [← List.append_assoc, List.replicate_append_replicate]
  congr 2; omega
theorem repV_get {x : Int} {n m j : Nat} (h : j < m) : (repV x n m)[j]? = some (i64 x) := by
  unfold repV; rw [List.getElem?_append_left (by simpa using h), List.getElem?_replicate]; simp [h]
set_option maxHeartbeats 4000000 in
set_option maxRecDepth 20000 in
theorem repeat_spec (x : Int) (n bx : Nat) (h : 1 ≤ n ∧ n ≤ 1048576) : Fn Try.prog 36 #[.slice (some ⟨bx, 0, none⟩) 1 1, i64 n] [pt bx (row [i64 x] 3)]
    (fun r Q => ∃ b, r = .slice (some ⟨b, 0, none⟩) n n ∧ Q = [pt b (row (List.replicate n (i64 x)) 3)]) := by
  refine Fn.mk Try.func36 rfl rfl fun w0 F => ?_
  (refine G.seq ?_; refine G.region ?_; refine GO.assign rfl rfl ?_; refine GO.nil ?_; refine kthen_n ?_; refine G.seq ?_; refine G.seq ?_; refine G.region ?_; refine GO.move rfl rfl ?_; refine GO.lti rfl rfl rfl ?_; refine GO.nil ?_; refine kthen_n ?_; refine G.condF rfl rfl ?_; refine G.skip ?_; refine kthen_n ?_; refine G.seq ?_; refine G.region ?_; refine GO.move rfl rfl ?_; refine GO.lenS rfl rfl ?_)
  refine GO.conv rfl rfl (by rw [wrap_u64]; rfl) ?_
  (refine GO.move rfl rfl ?_)
  refine GO.conv rfl rfl (by rw [wrap_u64]; omega) ?_
  refine GO.call2 rfl rfl rfl (mul_one_spec n (by omega)) Tks.n ?_
  rintro _ _ ⟨rfl, rfl⟩
  (refine GO.move rfl rfl ?_; refine GO.extract rfl rfl rfl ?_; refine GO.extract rfl rfl rfl ?_; refine GO.assign rfl rfl ?_; refine GO.assign rfl rfl ?_; refine GO.nil ?_; refine kthen_n ?_; refine G.seq ?_; refine G.seq ?_; refine G.region ?_; refine GO.move rfl rfl ?_; refine GO.gti rfl rfl rfl ?_; refine GO.move rfl rfl ?_; refine GO.gT rfl rfl rfl ?_; refine GO.move rfl rfl ?_; refine GO.gT rfl rfl rfl ?_; refine GO.gti rfl rfl rfl ?_; refine GO.pickF rfl rfl rfl ?_; refine GO.nil ?_; refine kthen_n ?_)
  refine G.condD rfl (fun hlt => ?_) (fun _ => ?_)
  · exfalso; omega
  (refine G.skip ?_; refine kthen_n ?_; refine G.seq ?_; refine G.region ?_; refine GO.move rfl rfl ?_)
  refine GO.conv rfl rfl (IntWalk.i64_in _ (by omega)) ?_
  refine GO.make1 (n := n) rfl rfl rfl ⟨rfl, rfl⟩ ⟨by omega, by omega⟩ fun b => ?_
  (refine GO.assign rfl rfl ?_; refine GO.nil ?_; refine kthen_n ?_; refine G.seq ?_; refine G.region ?_; refine GO.move rfl rfl ?_; refine GO.move rfl rfl ?_)
  refine GO.copy1 (cs := [i64 x]) (q := pt bx (row [i64 x] 3)) rfl rfl rfl Tk.h (Tk.t Tk.h) (by simp; omega) (fun j u hj => by rw [Nat.zero_add]; exact Rd.row hj) (by simp; omega) (by simp [Value.oneCell']) ?_
  have e0 : (List.replicate n (i64 0)).take 0 ++ [i64 x] ++ (List.replicate n (i64 0)).drop (0 + [i64 x].length) = repV x n 1 := by
    simp [repV]
  rw [e0]
  (refine GO.assign rfl rfl ?_; refine GO.nil ?_; refine kthen_n ?_; refine G.seq ?_; refine G.block ?_)
  refine G.loop (fun m : Nat => [(7, .slice (some ⟨b, 0, none⟩) n n), (8, i64 m)]) (fun m => pt b (row (repV x n m) 3) :: F) (fun m => 1 ≤ m ∧ m ≤ n) (fun m => n - m) 1 ⟨by omega, h.1⟩ ?_ ?_ ?_
  · (refine SubE.c rfl rfl ?_; refine SubE.c rfl rfl ?_; exact SubE.n)
  · ((refine Sb.c Tk.h ?_); (refine Sb.s ?_; exact Sb.r))
  rintro m ⟨hm1, hm2⟩
  (refine G.seq ?_; refine G.seq ?_; refine G.region ?_; refine GO.move rfl rfl ?_; refine GO.move rfl rfl ?_; refine GO.lenS rfl rfl ?_; refine GO.lti rfl rfl rfl ?_; refine GO.nil ?_; refine kthen_n ?_)
  refine G.condD rfl (fun hlt => ?_) (fun hge => ?_)
  · have hmn : m < n := by omega
    (refine G.skip ?_; refine kthen_n ?_; refine G.block ?_)
    refine G.drawT 9 384 [] (pt b (row (repV x n m) 3) :: F) (by kernel_rfl) (keys_of rfl) (ImpS.sb (by ((refine Sb.c Tk.h ?_); (exact Sb.r)))) ?_
    ((apply GR.step rfl; focus (intro Z; refine GO.move rfl rfl ?_; exact KQ.z)); (apply GR.step rfl; focus (intro Z; refine GO.move rfl rfl ?_; exact KQ.z)); (apply GR.step rfl; focus (intro Z; refine GO.move rfl rfl ?_; exact KQ.z)))
    apply GR.step rfl; focus (intro Z; refine GO.sliceLo (l := m) rfl rfl rfl ⟨rfl, by omega, by omega⟩ ?_; exact KQ.z)
    ((apply GR.step rfl; focus (intro Z; refine GO.move rfl rfl ?_; exact KQ.z)); (apply GR.step rfl; focus (intro Z; refine GO.move rfl rfl ?_; exact KQ.z)))
    apply GR.step rfl; focus (intro Z; refine GO.sliceHi (l := m) rfl rfl rfl ⟨rfl, by omega⟩ ?_; exact KQ.z)
    skip
    (repeat refine GR.skip rfl ?_)
    refine GR.nil ?_
    (repeat refine GT.skip rfl ?_)
    refine GT.step rfl ?_
    refine GO.copy1 (cs := List.replicate (min m (n - m)) (i64 x)) (q := pt b (row (repV x n m) 3)) rfl rfl rfl Tk.h Tk.h (by simp) (fun j u hj => ?_) (by simp [repV]; omega) (by intro u hu; rw [List.eq_of_mem_replicate hu]; rfl) ?_
    · rw [List.getElem?_replicate] at hj
      split at hj
      · rename_i hjm
        simp only [Option.some.injEq] at hj
        subst hj
        rw [Nat.zero_add]
        exact Rd.row (repV_get (by omega))
      · cases hj
    simp only [List.length_replicate, Nat.zero_add, Nat.mul_one]
    rw [repV_copy (by omega) (by omega)]
    refine GO.nil ⟨rfl, _, pt b (row (repV x n (m + min m (n - m))) 3) :: F, rfl, ImpS.sb (by ((refine Sb.c Tk.h ?_); (exact Sb.r))), ?_⟩
    refine GT.step rfl ?_
    refine GO.addi rfl rfl rfl (by omega) ?_
    refine GO.nil ⟨rfl, _, pt b (row (repV x n (m + min m (n - m))) 3) :: F, rfl, ImpS.sb (by ((refine Sb.c Tk.h ?_); (exact Sb.r))), ?_⟩
    refine GT.nil ?_
    (refine GO.assign rfl rfl ?_; refine GO.nil ?_; refine kblock_n ?_; refine kthen_n ?_)
    refine ⟨m + min m (n - m), ⟨by omega, by omega⟩, by omega, ?_, ?_⟩
    · (refine SubE.c rfl rfl ?_; refine SubE.c rfl rfl ?_; exact SubE.n)
    · ((refine Sb.c Tk.h ?_); (exact Sb.r))
  · have : m = n := by omega
    subst this
    (refine G.exit ?_; refine G.seq ?_; refine G.region ?_; refine GO.move rfl rfl ?_; refine GO.assign rfl rfl ?_; refine GO.nil ?_; refine kthen_n ?_; refine G.ret ?_)
    have e1 : repV x m m = List.replicate m (i64 x) := by simp [repV]
    rw [e1]
    refine KF.r1 rfl (RV.t rfl) ⟨b, rfl, rfl⟩ ?_
    ((refine Sb.c Tk.h ?_); (exact Sb.r))
end Go.Proofs.Ytjokibfldngkeaa
