/-
  The reference's Mul.
-/
import Derived.Test.YticnafofachleaaDoorKK
namespace Go.Proofs.YticnafofachleaaDoor
open Go
attribute [local irreducible] G GO GQ Fn pt init exs pur sat
/-- What a row has when the loop over k has come to k. -/
def accW (x : BitVec 64) (B : Blk) (k : Nat) : BitVec 64 := orW (fun k => if x.getLsbD k then B k else 0#64) k
theorem accW_end (A B : Blk) (r : Nat) : accW (A r) B 64 = mulB A B r := rfl
theorem accW_skip {x : BitVec 64} {B : Blk} {k : Nat} (h : x.getLsbD k = false) : accW x B k = accW x B (k + 1) := by
  unfold accW; simp only [orW, h, Bool.false_eq_true, if_false, BitVec.or_zero]
theorem accW_step {x : BitVec 64} {B : Blk} {k : Nat} (h : x.getLsbD k = true) : accW x B k ||| (B k &&& firstW 64) = accW x B (k + 1) := by
  have : B k &&& firstW 64 = B k := eq_of_bits fun c hc => by rw [BitVec.getLsbD_and, firstW_bit 64 c hc]; simp [hc]
  rw [this]; unfold accW; simp only [orW, h, if_true]
theorem firstW_zero (x y : BitVec 64) : x ||| (y &&& firstW 0) = x := eq_of_bits fun c hc => by
  rw [BitVec.getLsbD_or, BitVec.getLsbD_and, firstW_bit 0 c hc]; simp
theorem firstW_on {x y : BitVec 64} {c : Nat} (hc : c < 64) (h : y.getLsbD c = true) : x ||| (y &&& firstW c) ||| 1#64 <<< c = x ||| (y &&& firstW (c + 1)) := eq_of_bits_iff fun i hi => by
  rw [BitVec.getLsbD_or, BitVec.getLsbD_or, BitVec.getLsbD_and, BitVec.getLsbD_or, BitVec.getLsbD_and, firstW_bit c i hi, firstW_bit (c + 1) i hi, getLsbD_bit i c hi]
  simp only [Bool.or_eq_true, Bool.and_eq_true, decide_eq_true_eq]
  constructor
  · rintro ((h1 | ⟨h1, h2⟩) | h1)
    · exact .inl h1
    · exact .inr ⟨h1, by omega⟩
    · subst h1; exact .inr ⟨h, by omega⟩
  · rintro (h1 | ⟨h1, h2⟩)
    · exact .inl (.inl h1)
    · by_cases e : i = c
      · exact .inr e
      · exact .inl (.inr ⟨h1, by omega⟩)
theorem firstW_off {x y : BitVec 64} {c : Nat} (hc : c < 64) (h : y.getLsbD c = false) : x ||| (y &&& firstW c) = x ||| (y &&& firstW (c + 1)) := eq_of_bits_iff fun i hi => by
  rw [BitVec.getLsbD_or, BitVec.getLsbD_and, BitVec.getLsbD_or, BitVec.getLsbD_and, firstW_bit c i hi, firstW_bit (c + 1) i hi]
  simp only [Bool.or_eq_true, Bool.and_eq_true, decide_eq_true_eq]
  constructor
  · rintro (h1 | ⟨h1, h2⟩)
    · exact .inl h1
    · exact .inr ⟨h1, by omega⟩
  · rintro (h1 | ⟨h1, h2⟩)
    · exact .inl h1
    · by_cases e : i = c
      · subst e; rw [h] at h1; cases h1
      · exact .inr ⟨h1, by omega⟩
theorem bitB_upd (X : Blk) (r c : Nat) (x : BitVec 64) : bitB (updB X r x) r c = updB X r (x ||| 1#64 <<< c) := by
  unfold bitB; rw [updB_updB, updB_at]
set_option maxHeartbeats 2000000 in
theorem rmul_spec (A B : Blk) : Fn Tryd.prog 16 #[blk A, blk B] [] (fun v Q => v = blk (mulB A B) ∧ Q = []) := by
  refine Fn.mk Tryd.func16 rfl rfl fun w0 F => ?_
  (refine G.seq ?_; refine G.region ?_)
  refine GO.box rfl rfl rfl fun b2 => ?_
  refine GO.box rfl rfl rfl fun b3 => ?_
  refine GO.alloc rfl fun b4 => ?_
  (refine GO.nil ?_; refine kthen_n ?_; refine G.seq ?_; refine G.region ?_)
  refine GO.alloc rfl fun b5 => ?_
  rw [cells_zero]
  have e0 : cells zeroB = cells (mixB (mulB A B) zeroB 0) := mixB_zero _ _
  (refine GO.nil ?_; refine kthen_n ?_; refine G.seq ?_; refine G.seq ?_; refine G.region ?_; refine GO.assign rfl rfl ?_; refine GO.nil ?_; refine kthen_n ?_; refine G.block ?_)
  refine G.loop (fun r : Nat => [(2, .pointer (some ⟨b2, 0, none⟩)), (3, .pointer (some ⟨b3, 0, none⟩)), (4, .pointer (some ⟨b4, 0, none⟩)), (5, .pointer (some ⟨b5, 0, none⟩)), (6, i64 r)])
    (fun r => pt b5 (row (cells (mixB (mulB A B) zeroB r)) 25) :: pt b2 (row (cells A) 25) :: pt b3 (row (cells B) 25) :: pt b4 (row (cells zeroB) 25) :: F) (fun r => r ≤ 64) (fun r => 64 - r) 0 (by omega) ?_ ?_ ?_
  · (refine SubE.c rfl rfl ?_; refine SubE.c rfl rfl ?_; refine SubE.c rfl rfl ?_; refine SubE.c rfl rfl ?_; refine SubE.c rfl rfl ?_; exact SubE.n)
  · rw [← e0]; ((refine Sb.c Tk.h ?_; refine Sb.c (Tk.t (Tk.t Tk.h)) ?_; refine Sb.c (Tk.t Tk.h) ?_; refine Sb.c Tk.h ?_); (exact Sb.r))
  intro r hr
  (refine G.seq ?_; refine G.seq ?_; refine G.region ?_; refine GO.move rfl rfl ?_; refine GO.lti rfl rfl rfl ?_; refine GO.nil ?_; refine kthen_n ?_)
  refine G.condD rfl (fun hlt => ?_) (fun hge => ?_)
  · have hr64 : r < 64 := by omega
    have ha0 : accW (A r) B 0 = 0#64 := rfl
    have hst := mixB_step (mulB A B) zeroB r (accW_end A B r)
    (refine G.skip ?_; refine kthen_n ?_; refine G.seq ?_; refine G.block ?_; refine G.seq ?_; refine G.region ?_; refine GO.assign rfl rfl ?_; refine GO.nil ?_; refine kthen_n ?_; refine G.block ?_)
    rw [← updB_zero (mulB A B) r, ← ha0]
    refine G.loop (fun k : Nat => [(2, .pointer (some ⟨b2, 0, none⟩)), (3, .pointer (some ⟨b3, 0, none⟩)), (4, .pointer (some ⟨b4, 0, none⟩)), (5, .pointer (some ⟨b5, 0, none⟩)), (6, i64 r), (7, i64 k)])
      (fun k => pt b5 (row (cells (updB (mixB (mulB A B) zeroB r) r (accW (A r) B k))) 25) :: pt b2 (row (cells A) 25) :: pt b3 (row (cells B) 25) :: pt b4 (row (cells zeroB) 25) :: F) (fun k => k ≤ 64) (fun k => 64 - k) 0 (by omega) ?_ ?_ ?_
    · (refine SubE.c rfl rfl ?_; refine SubE.c rfl rfl ?_; refine SubE.c rfl rfl ?_; refine SubE.c rfl rfl ?_; refine SubE.c rfl rfl ?_; refine SubE.c rfl rfl ?_; exact SubE.n)
    · ((refine Sb.c Tk.h ?_; refine Sb.c Tk.h ?_; refine Sb.c Tk.h ?_; refine Sb.c Tk.h ?_); (exact Sb.r))
    intro k hk
    (refine G.seq ?_; refine G.seq ?_; refine G.region ?_; refine GO.move rfl rfl ?_; refine GO.lti rfl rfl rfl ?_; refine GO.nil ?_; refine kthen_n ?_)
    refine G.condD rfl (fun hlt2 => ?_) (fun hge2 => ?_)
    · have hk64 : k < 64 := by omega
      (refine G.skip ?_; refine kthen_n ?_; refine G.seq ?_; refine G.block ?_; refine G.seq ?_; refine G.region ?_; refine GO.assign rfl rfl ?_; refine GO.nil ?_; refine kthen_n ?_; refine G.block ?_)
      by_cases hb : (A r).getLsbD k = true
      · rw [← firstW_zero (accW (A r) B k) (B k)]
        refine G.loop (fun c : Nat => [(2, .pointer (some ⟨b2, 0, none⟩)), (3, .pointer (some ⟨b3, 0, none⟩)), (4, .pointer (some ⟨b4, 0, none⟩)), (5, .pointer (some ⟨b5, 0, none⟩)), (6, i64 r), (7, i64 k), (8, i64 c)])
          (fun c => pt b5 (row (cells (updB (mixB (mulB A B) zeroB r) r (accW (A r) B k ||| (B k &&& firstW c)))) 25) :: pt b2 (row (cells A) 25) :: pt b3 (row (cells B) 25) :: pt b4 (row (cells zeroB) 25) :: F) (fun c => c ≤ 64) (fun c => 64 - c) 0 (by omega) ?_ ?_ ?_
        · (refine SubE.c rfl rfl ?_; refine SubE.c rfl rfl ?_; refine SubE.c rfl rfl ?_; refine SubE.c rfl rfl ?_; refine SubE.c rfl rfl ?_; refine SubE.c rfl rfl ?_; refine SubE.c rfl rfl ?_; exact SubE.n)
        · ((refine Sb.c Tk.h ?_; refine Sb.c Tk.h ?_; refine Sb.c Tk.h ?_; refine Sb.c Tk.h ?_); (exact Sb.r))
        intro c hc
        (refine G.seq ?_; refine G.seq ?_; refine G.region ?_; refine GO.move rfl rfl ?_; refine GO.lti rfl rfl rfl ?_; refine GO.move rfl rfl ?_)
        refine GO.splitD 19 rfl (fun hlt3 => ?_) (fun hge3 => ?_)
        · have hc64 : c < 64 := by omega
          (refine GO.gT rfl rfl rfl ?_)
          refine GO.loadW rfl rfl rfl (Tk.t Tk.h) (cells_len _) ?_
          (refine GO.gT rfl rfl rfl ?_; refine GO.move rfl rfl ?_; refine GO.gT rfl rfl rfl ?_; refine GO.move rfl rfl ?_; refine GO.gT rfl rfl rfl ?_)
          refine GO.call3 rfl rfl rfl rfl (has_spec A r k (by omega) (by omega)) Tks.n ?_
          rintro _ _ ⟨rfl, rfl⟩
          rw [hb]
          (refine GO.pickT rfl rfl rfl ?_; refine GO.nil ?_; refine kthen_n ?_; refine G.condT rfl rfl ?_; refine G.skip ?_; refine kthen_n ?_; refine G.seq ?_; refine G.block ?_; refine G.seq ?_; refine G.region ?_)
          refine GO.loadW rfl rfl rfl (Tk.t (Tk.t Tk.h)) (cells_len _) ?_
          (refine GO.move rfl rfl ?_; refine GO.move rfl rfl ?_)
          refine GO.call3 rfl rfl rfl rfl (has_spec B k c (by omega) (by omega)) Tks.n ?_
          rintro _ _ ⟨rfl, rfl⟩
          (refine GO.nil ?_; refine kthen_n ?_)
          refine G.cond rfl (fun hx => ?_) (fun hx => ?_)
          · (refine G.region ?_)
            refine GO.loadW rfl rfl rfl Tk.h (cells_len _) ?_
            (refine GO.move rfl rfl ?_; refine GO.move rfl rfl ?_)
            refine GO.call3 rfl rfl rfl rfl (put_spec _ r c (by omega) (by omega)) Tks.n ?_
            rintro _ _ ⟨rfl, rfl⟩
            rw [bitB_upd, firstW_on hc64 hx]
            refine GO.storeW rfl rfl Tk.h ⟨cells_len _, cells_len _⟩ (cells_one _) ?_
            (refine GO.nil ?_; refine kblock_n ?_; refine kthen_n ?_; refine G.region ?_; refine GO.move rfl rfl ?_; refine GO.addi rfl rfl rfl (by omega) ?_; refine GO.assign rfl rfl ?_; refine GO.nil ?_; refine kthen_n ?_)
            refine ⟨c + 1, by omega, by omega, ?_, ?_⟩
            · (refine SubE.c rfl rfl ?_; refine SubE.c rfl rfl ?_; refine SubE.c rfl rfl ?_; refine SubE.c rfl rfl ?_; refine SubE.c rfl rfl ?_; refine SubE.c rfl rfl ?_; refine SubE.c rfl rfl ?_; exact SubE.n)
            · ((refine Sb.c Tk.h ?_; refine Sb.c Tk.h ?_; refine Sb.c Tk.h ?_; refine Sb.c Tk.h ?_); (exact Sb.r))
          · rw [firstW_off hc64 hx]
            (refine G.skip ?_; refine kblock_n ?_; refine kthen_n ?_; refine G.region ?_; refine GO.move rfl rfl ?_; refine GO.addi rfl rfl rfl (by omega) ?_; refine GO.assign rfl rfl ?_; refine GO.nil ?_; refine kthen_n ?_)
            refine ⟨c + 1, by omega, by omega, ?_, ?_⟩
            · (refine SubE.c rfl rfl ?_; refine SubE.c rfl rfl ?_; refine SubE.c rfl rfl ?_; refine SubE.c rfl rfl ?_; refine SubE.c rfl rfl ?_; refine SubE.c rfl rfl ?_; refine SubE.c rfl rfl ?_; exact SubE.n)
            · ((refine Sb.c Tk.h ?_; refine Sb.c Tk.h ?_; refine Sb.c Tk.h ?_; refine Sb.c Tk.h ?_); (exact Sb.r))
        · have : c = 64 := by omega
          subst this
          rw [accW_step hb]
          (refine GO.gF rfl rfl rfl rfl ?_; refine GO.gF rfl rfl rfl rfl ?_; refine GO.gF rfl rfl rfl rfl ?_; refine GO.gF rfl rfl rfl rfl ?_; refine GO.pickF rfl rfl rfl ?_; refine GO.nil ?_; refine kthen_n ?_; refine G.condF rfl rfl ?_; refine G.exit ?_; refine G.region ?_; refine GO.move rfl rfl ?_; refine GO.addi rfl rfl rfl (by omega) ?_; refine GO.assign rfl rfl ?_; refine GO.nil ?_; refine kthen_n ?_)
          refine ⟨k + 1, by omega, by omega, ?_, ?_⟩
          · (refine SubE.c rfl rfl ?_; refine SubE.c rfl rfl ?_; refine SubE.c rfl rfl ?_; refine SubE.c rfl rfl ?_; refine SubE.c rfl rfl ?_; refine SubE.c rfl rfl ?_; exact SubE.n)
          · ((refine Sb.c Tk.h ?_; refine Sb.c Tk.h ?_; refine Sb.c Tk.h ?_; refine Sb.c Tk.h ?_); (exact Sb.r))
      · have hb' : (A r).getLsbD k = false := by simpa using hb
        rw [accW_skip hb']
        refine G.loop (fun _ : Unit => [(2, .pointer (some ⟨b2, 0, none⟩)), (3, .pointer (some ⟨b3, 0, none⟩)), (4, .pointer (some ⟨b4, 0, none⟩)), (5, .pointer (some ⟨b5, 0, none⟩)), (6, i64 r), (7, i64 k), (8, i64 (0 : Nat))])
          (fun _ => pt b5 (row (cells (updB (mixB (mulB A B) zeroB r) r (accW (A r) B (k + 1)))) 25) :: pt b2 (row (cells A) 25) :: pt b3 (row (cells B) 25) :: pt b4 (row (cells zeroB) 25) :: F) (fun _ => True) (fun _ => 0) () trivial ?_ ?_ ?_
        · (refine SubE.c rfl rfl ?_; refine SubE.c rfl rfl ?_; refine SubE.c rfl rfl ?_; refine SubE.c rfl rfl ?_; refine SubE.c rfl rfl ?_; refine SubE.c rfl rfl ?_; refine SubE.c rfl rfl ?_; exact SubE.n)
        · ((refine Sb.c Tk.h ?_; refine Sb.c Tk.h ?_; refine Sb.c Tk.h ?_; refine Sb.c Tk.h ?_); (exact Sb.r))
        intro _ _
        (refine G.seq ?_; refine G.seq ?_; refine G.region ?_; refine GO.move rfl rfl ?_; refine GO.lti rfl rfl rfl ?_; refine GO.move rfl rfl ?_; refine GO.gT rfl rfl rfl ?_)
        refine GO.splitD 19 rfl (fun hlt3 => ?_) (fun hge3 => absurd (show ((0 : Nat) : Int) < 64 by omega) hge3)
        skip
        refine GO.loadW rfl rfl rfl (Tk.t Tk.h) (cells_len _) ?_
        (refine GO.gT rfl rfl rfl ?_; refine GO.move rfl rfl ?_; refine GO.gT rfl rfl rfl ?_; refine GO.move rfl rfl ?_; refine GO.gT rfl rfl rfl ?_)
        refine GO.call3 rfl rfl rfl rfl (has_spec A r k (by omega) (by omega)) Tks.n ?_
        rintro _ _ ⟨rfl, rfl⟩
        rw [hb']
        (refine GO.pickT rfl rfl rfl ?_; refine GO.nil ?_; refine kthen_n ?_; refine G.condF rfl rfl ?_; refine G.exit ?_; refine G.region ?_; refine GO.move rfl rfl ?_; refine GO.addi rfl rfl rfl (by omega) ?_; refine GO.assign rfl rfl ?_; refine GO.nil ?_; refine kthen_n ?_)
        refine ⟨k + 1, by omega, by omega, ?_, ?_⟩
        · (refine SubE.c rfl rfl ?_; refine SubE.c rfl rfl ?_; refine SubE.c rfl rfl ?_; refine SubE.c rfl rfl ?_; refine SubE.c rfl rfl ?_; refine SubE.c rfl rfl ?_; exact SubE.n)
        · ((refine Sb.c Tk.h ?_; refine Sb.c Tk.h ?_; refine Sb.c Tk.h ?_; refine Sb.c Tk.h ?_); (exact Sb.r))
    · have : k = 64 := by omega
      subst this
      rw [hst]
      (refine G.exit ?_; refine G.region ?_; refine GO.move rfl rfl ?_; refine GO.addi rfl rfl rfl (by omega) ?_; refine GO.assign rfl rfl ?_; refine GO.nil ?_; refine kthen_n ?_)
      refine ⟨r + 1, by omega, by omega, ?_, ?_⟩
      · (refine SubE.c rfl rfl ?_; refine SubE.c rfl rfl ?_; refine SubE.c rfl rfl ?_; refine SubE.c rfl rfl ?_; refine SubE.c rfl rfl ?_; exact SubE.n)
      · ((refine Sb.c Tk.h ?_; refine Sb.c Tk.h ?_; refine Sb.c Tk.h ?_; refine Sb.c Tk.h ?_); (exact Sb.r))
  · have : r = 64 := by omega
    subst this
    (refine G.exit ?_; refine G.seq ?_; refine G.region ?_)
    refine GO.loadW rfl rfl rfl Tk.h (cells_len _) ?_
    refine GO.storeW rfl rfl (by (exact (Tk.t (Tk.t (Tk.t Tk.h))))) ⟨cells_len _, cells_len _⟩ (cells_one _) ?_
    (refine GO.nil ?_; refine kthen_n ?_; refine G.ret ?_)
    refine KF.r1 rfl (RV.cW rfl rfl (by (exact Tk.h)) (cells_len _)) ⟨?_, rfl⟩ ?_
    · rw [mixB_end]
    · (skip; (refine Sb.s ?_; refine Sb.s ?_; refine Sb.s ?_; refine Sb.s ?_; exact Sb.r))
end Go.Proofs.YticnafofachleaaDoor
