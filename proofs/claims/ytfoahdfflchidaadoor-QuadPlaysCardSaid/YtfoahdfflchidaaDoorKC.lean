/-
  The contracts of Len, Of and of the examples that the laws hold at their end.
-/
import Derived.Test.YtfoahdfflchidaaDoorKB
namespace Go.Proofs.YtfoahdfflchidaaDoor
open Go
attribute [local irreducible] G GO GQ Fn pt init exs pur sat

def on1 (x : BitVec 64) : BitVec 64 := (x >>> 1 &&& 6148914691236517205#64) + (x &&& 6148914691236517205#64)
def on2 (x : BitVec 64) : BitVec 64 := (x >>> 2 &&& 3689348814741910323#64) + (x &&& 3689348814741910323#64)
def on3 (x : BitVec 64) : BitVec 64 := (x >>> 4 + x) &&& 1085102592571150095#64
def on4 (x : BitVec 64) : BitVec 64 := x + x >>> 8
def on5 (x : BitVec 64) : BitVec 64 := x + x >>> 16
def on6 (x : BitVec 64) : BitVec 64 := x + x >>> 32
/-- How many bits: as OnesCount64 reckons it. -/
def ones (x : BitVec 64) : Nat := (on6 (on5 (on4 (on3 (on2 (on1 x)))))).toNat % 128
instance : OfU 6148914691236517205 6148914691236517205#64 := ⟨rfl⟩
instance : OfU 3689348814741910323 3689348814741910323#64 := ⟨rfl⟩
instance : OfU 1085102592571150095 1085102592571150095#64 := ⟨rfl⟩
theorem wrap_mod (m : Int) : IntKind.i64.wrap m % 128 = m % 128 := by rw [IntKind.wrap_i64]; omega
theorem ones_spec (x : BitVec 64) : Fn Tryd.prog 87 #[u64 x] [] (fun v Q => v = i64 (ones x) ∧ Q = []) := by
  refine Fn.mk Tryd.func87 rfl rfl fun w0 F => ?_
  (refine G.seq ?_; refine G.region ?_; refine GO.assign rfl rfl ?_; refine GO.nil ?_; refine kthen_n ?_; refine G.seq ?_; refine G.region ?_; refine GO.move rfl rfl ?_; refine GO.shru rfl rfl rfl ?_; refine GO.andu rfl rfl rfl ?_; refine GO.move rfl rfl ?_; refine GO.andu rfl rfl rfl ?_; refine GO.addu rfl rfl rfl ?_; refine GO.assign rfl rfl ?_; refine GO.nil ?_; refine kthen_n ?_; refine G.seq ?_; refine G.region ?_; refine GO.move rfl rfl ?_; refine GO.shru rfl rfl rfl ?_; refine GO.andu rfl rfl rfl ?_; refine GO.move rfl rfl ?_; refine GO.andu rfl rfl rfl ?_; refine GO.addu rfl rfl rfl ?_; refine GO.assign rfl rfl ?_; refine GO.nil ?_; refine kthen_n ?_; refine G.seq ?_; refine G.region ?_; refine GO.move rfl rfl ?_; refine GO.shru rfl rfl rfl ?_; refine GO.move rfl rfl ?_; refine GO.addu rfl rfl rfl ?_; refine GO.andu rfl rfl rfl ?_; refine GO.assign rfl rfl ?_; refine GO.nil ?_; refine kthen_n ?_; refine G.seq ?_; refine G.region ?_; refine GO.move rfl rfl ?_; refine GO.move rfl rfl ?_; refine GO.shru rfl rfl rfl ?_; refine GO.addu rfl rfl rfl ?_; refine GO.assign rfl rfl ?_; refine GO.nil ?_; refine kthen_n ?_; refine G.seq ?_; refine G.region ?_; refine GO.move rfl rfl ?_; refine GO.move rfl rfl ?_; refine GO.shru rfl rfl rfl ?_; refine GO.addu rfl rfl rfl ?_; refine GO.assign rfl rfl ?_; refine GO.nil ?_; refine kthen_n ?_; refine G.seq ?_; refine G.region ?_; refine GO.move rfl rfl ?_; refine GO.move rfl rfl ?_; refine GO.shru rfl rfl rfl ?_; refine GO.addu rfl rfl rfl ?_; refine GO.assign rfl rfl ?_; refine GO.nil ?_; refine kthen_n ?_; refine G.seq ?_; refine G.region ?_; refine GO.move rfl rfl ?_)
  refine GO.convW rfl rfl ?_
  skip
  refine GO.mask rfl 7 rfl rfl ⟨by omega, rfl⟩ ?_
  (refine GO.assign rfl rfl ?_; refine GO.nil ?_; refine kthen_n ?_; refine G.ret ?_)
  refine KF.r1 rfl (RV.t rfl) ⟨?_, rfl⟩ ?_
  · have : ((2 ^ 7 : Nat) : Int) = 128 := rfl
    rw [this, wrap_mod]; rfl
  · (skip; (exact Sb.r))

def lenB (B : Blk) : Nat → Nat
  | 0 => 0
  | n + 1 => lenB B n + ones (B n)
theorem lenB_le (B : Blk) : ∀ n, lenB B n ≤ n * 127
  | 0 => by simp [lenB]
  | n + 1 => by have := lenB_le B n; simp only [lenB, ones]; omega
theorem len_spec (B : Blk) : Fn Tryd.prog 75 #[blk B] [] (fun v Q => v = i64 (lenB B 64) ∧ Q = []) := by
  refine Fn.mk Tryd.func75 rfl rfl fun w0 F => ?_
  (refine G.seq ?_; refine G.region ?_)
  refine GO.box rfl rfl rfl fun b => ?_
  (refine GO.assign rfl rfl ?_; refine GO.nil ?_; refine kthen_n ?_; refine G.seq ?_; refine G.region ?_; refine GO.assign rfl rfl ?_; refine GO.nil ?_; refine kthen_n ?_; refine G.seq ?_; refine G.seq ?_; refine G.region ?_)
  refine GO.loadW rfl rfl rfl Tk.h (cells_len B) ?_
  (refine GO.move rfl rfl ?_; refine GO.nil ?_; refine kthen_n ?_; refine G.block ?_)
  refine G.loop (fun n : Nat => [(3, i64 (lenB B n)), (6, blk B), (7, i64 n)]) (fun _ => F) (fun n => n ≤ 64) (fun n => 64 - n) 0 (by omega) ?_ ?_ ?_
  · (refine SubE.c rfl rfl ?_; refine SubE.c rfl rfl ?_; refine SubE.c rfl rfl ?_; exact SubE.n)
  · (skip; (refine Sb.s ?_; exact Sb.r))
  intro n hn
  have hle := lenB_le B n
  (refine G.seq ?_; refine G.region ?_; refine GO.lti rfl rfl rfl ?_; refine GO.nil ?_; refine kthen_n ?_; refine G.seq ?_)
  refine G.condD rfl (fun hlt => ?_) (fun hge => ?_)
  · (refine G.skip ?_; refine kthen_n ?_; refine G.seq ?_; refine G.block ?_; refine G.seq ?_; refine G.region ?_)
    refine GO.idxV (j := n) rfl rfl rfl rfl ⟨rfl, by omega⟩ (cells_get B (j := n) (by omega) rfl) ?_
    (refine GO.assign rfl rfl ?_; refine GO.nil ?_; refine kthen_n ?_; refine G.region ?_; refine GO.move rfl rfl ?_; refine GO.move rfl rfl ?_)
    refine GO.call1 rfl rfl (ones_spec _) Tks.n ?_
    rintro _ _ ⟨rfl, rfl⟩
    have ho : ones (B n) < 128 := by unfold ones; omega
    (refine GO.addi rfl rfl rfl (by omega) ?_; refine GO.assign rfl rfl ?_; refine GO.nil ?_; refine kblock_n ?_; refine kthen_n ?_; refine G.region ?_; refine GO.addi rfl rfl rfl (by omega) ?_; refine GO.move rfl rfl ?_; refine GO.nil ?_; refine kthen_n ?_)
    refine ⟨n + 1, by omega, by omega, ?_, ?_⟩
    · (refine SubE.c rfl rfl ?_; refine SubE.c rfl rfl ?_; refine SubE.c rfl rfl ?_; exact SubE.n)
    · (skip; (exact Sb.r))
  · have : n = 64 := by omega
    subst this
    (refine G.exit ?_; refine G.seq ?_; refine G.region ?_; refine GO.move rfl rfl ?_; refine GO.assign rfl rfl ?_; refine GO.nil ?_; refine kthen_n ?_; refine G.ret ?_)
    refine KF.r1 rfl (RV.t rfl) ⟨rfl, rfl⟩ ?_
    (skip; (exact Sb.r))

/-! ## Of -/
def allIn (cs : List (Int × Int)) : Bool := cs.all fun p => inB p.1 p.2
def ofV (cs : List (Int × Int)) : Value := if allIn cs then .tuple #[blk (foldB cs), i64 0] else .tuple #[blk zeroB, i64 2]
theorem allIn_succ {cs : List (Int × Int)} {k : Nat} {p : Int × Int} (h : cs[k]? = some p) : allIn (cs.take (k + 1)) = (allIn (cs.take k) && inB p.1 p.2) := by
  unfold allIn; rw [List.take_add_one, h]; simp
theorem allIn_not {cs : List (Int × Int)} {k : Nat} {p : Int × Int} (h : cs[k]? = some p) (hp : inB p.1 p.2 = false) : allIn cs = false := by
  unfold allIn
  rw [List.all_eq_false]
  exact ⟨p, List.mem_of_getElem? h, by simp [hp]⟩
set_option maxHeartbeats 1000000 in
theorem of_spec (q : HP) (v : Value) (cs : List (Int × Int)) (hv : SlR q v cs.length 2 (cellsV cs)) (hn : cs.length ≤ 9223372036854775807) : Fn Tryd.prog 66 #[v] [q] (fun r Q => r = ofV cs ∧ Q = [q]) := by
  obtain ⟨a, cap, rfl, hl, hrd⟩ := hv
  refine Fn.mk Tryd.func66 rfl rfl fun w0 F => ?_
  (refine G.seq ?_; refine G.region ?_)
  refine GO.alloc rfl fun b2 => ?_
  rw [cells_zero]
  (refine GO.assign rfl rfl ?_; refine GO.nil ?_; refine kthen_n ?_; refine G.seq ?_; refine G.region ?_)
  refine GO.alloc rfl fun b4 => ?_
  rw [cells_zero]
  (refine GO.nil ?_; refine kthen_n ?_; refine G.seq ?_; refine G.seq ?_; refine G.region ?_; refine GO.move rfl rfl ?_; refine GO.lenS rfl rfl ?_; refine GO.move rfl rfl ?_; refine GO.nil ?_; refine kthen_n ?_; refine G.block ?_)
  refine G.loop (fun k : Nat => [(2, .pointer (some ⟨b2, 0, none⟩)), (4, .pointer (some ⟨b4, 0, none⟩)), (7, .slice a cs.length cap), (8, i64 cs.length), (9, i64 k)])
    (fun k => pt b4 (row (cells (foldB (cs.take k))) 77) :: pt b2 (row (cells zeroB) 77) :: q :: F) (fun k => k ≤ cs.length ∧ allIn (cs.take k) = true) (fun k => cs.length - k) 0 ⟨by omega, by simp [allIn]⟩ ?_ ?_ ?_
  · (refine SubE.c rfl rfl ?_; refine SubE.c rfl rfl ?_; refine SubE.c rfl rfl ?_; refine SubE.c rfl rfl ?_; refine SubE.c rfl rfl ?_; exact SubE.n)
  · ((refine Sb.c Tk.h ?_; refine Sb.c Tk.h ?_; refine Sb.c Tk.h ?_); (exact Sb.r))
  rintro k ⟨hk, hall⟩
  (refine G.seq ?_; refine G.region ?_; refine GO.lti rfl rfl rfl ?_; refine GO.nil ?_; refine kthen_n ?_; refine G.seq ?_)
  refine G.condD rfl (fun hlt => ?_) (fun hge => ?_)
  · have hlt' : k < cs.length := by omega
    obtain ⟨b, o, rfl, hr⟩ := hrd (by omega)
    obtain ⟨p, hp⟩ : ∃ p, cs[k]? = some p := ⟨cs[k], by simp [hlt']⟩
    obtain ⟨h1, h2⟩ := cellsV_get hp
    (refine G.skip ?_; refine kthen_n ?_; refine G.seq ?_; refine G.block ?_; refine G.seq ?_; refine G.region ?_; refine GO.idxS rfl rfl rfl ⟨rfl, by omega⟩ ?_)
    refine GO.loadM (vs := [i64 p.1, i64 p.2]) rfl rfl rfl (Tk.t (Tk.t Tk.h)) rfl (fun j u hj => ?_) ?_
    · match j, hj with
      | 0, hj => simp at hj; subst hj; exact hr _ _ h1
      | 1, hj => simp at hj; subst hj; exact hr _ _ h2
    refine GO.alloc rfl fun b6 => ?_
    refine GO.storeW rfl rfl Tk.h ⟨rfl, rfl⟩ (by simp [Value.oneCell']) ?_
    (refine GO.nil ?_; refine kthen_n ?_; refine G.seq ?_; refine G.seq ?_; refine G.region ?_; refine GO.fieldAddr rfl rfl ?_; refine GO.load1 rfl rfl rfl Tk.h rfl ?_)
    refine GO.call1 rfl rfl (in_spec _) Tks.n ?_
    rintro _ _ ⟨rfl, rfl⟩
    (refine GO.not rfl rfl ?_; refine GO.move rfl rfl ?_)
    refine cases_in p.1 p.2 (fun m n hm hn' er ek => ?_) (fun h => ?_) (fun h h' => ?_)
    · refine GO.gT rfl rfl (by simp; omega) ?_
      (refine GO.fieldAddr rfl rfl ?_)
      refine GO.gT rfl rfl (by simp; omega) ?_
      (refine GO.load1 rfl rfl rfl Tk.h rfl ?_)
      refine GO.gT rfl rfl (by simp; omega) ?_
      refine GO.call1 rfl rfl (in_spec _) Tks.n ?_
      rintro _ _ ⟨rfl, rfl⟩
      refine GO.gT rfl rfl (by simp; omega) ?_
      (refine GO.not rfl rfl ?_)
      refine GO.split 17 rfl (fun hb => by simp at hb; omega) (fun _ => ?_)
      (refine GO.pickF rfl rfl rfl ?_; refine GO.nil ?_; refine kthen_n ?_)
      refine G.condF rfl (by simp; omega) ?_
      (refine G.skip ?_; refine kthen_n ?_)
      obtain ⟨p1, p2⟩ := p
      simp only at er ek
      subst er ek
      refine G.draw 9 (by kernel_rfl) ?_
      ((apply GQ.step; focus (intro Z; refine GO.fieldAddr rfl rfl ?_; exact KQ.z)); (apply GQ.step; focus (intro Z; refine GO.load1 rfl rfl rfl Tk.h rfl ?_; exact KQ.z)); (apply GQ.step; focus (intro Z; refine GO.idxA rfl rfl rfl ⟨rfl, by omega⟩ ?_; exact KQ.z)))
      apply GQ.step; focus (intro Z; refine GO.load1 rfl rfl rfl (Tk.t Tk.h) (cells_get _ hm (by omega)) ?_; exact KQ.z)
      ((apply GQ.step; focus (intro Z; refine GO.fieldAddr rfl rfl ?_; exact KQ.z)); (apply GQ.step; focus (intro Z; refine GO.load1 rfl rfl rfl Tk.h rfl ?_; exact KQ.z)); (apply GQ.step; focus (intro Z; refine GO.shlu rfl rfl rfl ?_; exact KQ.z)); (apply GQ.step; focus (intro Z; refine GO.oru rfl rfl rfl ?_; exact KQ.z)); (apply GQ.step; focus (intro Z; refine GO.idxA rfl rfl rfl ⟨rfl, by omega⟩ ?_; exact KQ.z)))
      refine GQ.nil ?_
      refine GO.store1 rfl rfl rfl (Tk.t Tk.h) (by rw [cells_len]; omega) ?_
      rw [cells_set _ _ (show 0 + m * 1 = m by omega)]
      (refine GO.nil ?_; refine kblock_n ?_; refine kthen_n ?_; refine G.region ?_; refine GO.addi rfl rfl rfl (by omega) ?_; refine GO.move rfl rfl ?_; refine GO.nil ?_; refine kthen_n ?_)
      refine ⟨k + 1, ⟨by omega, ?_⟩, by omega, ?_, ?_⟩
      · rw [allIn_succ hp, hall]; exact inB_t hm hn'
      · (refine SubE.c rfl rfl ?_; refine SubE.c rfl rfl ?_; refine SubE.c rfl rfl ?_; refine SubE.c rfl rfl ?_; refine SubE.c rfl rfl ?_; exact SubE.n)
      · rw [foldB_succ hp]
        have e1 : (((m : Int), (n : Int)).1 % 64).toNat = m := by simp only; omega
        have e2 : (((m : Int), (n : Int)).2 % 64).toNat = n := by simp only; omega
        rw [e1, e2]; unfold bitB; ((refine Sb.c Tk.h ?_; refine Sb.c (Tk.t Tk.h) ?_; refine Sb.c (Tk.t Tk.h) ?_); (refine Sb.s ?_; exact Sb.r))
    · refine GO.gF rfl rfl rfl (by simp; omega) ?_
      refine GO.gF rfl rfl rfl (by simp; omega) ?_
      refine GO.gF rfl rfl rfl (by simp; omega) ?_
      refine GO.gF rfl rfl rfl (by simp; omega) ?_
      refine GO.split 17 rfl (fun _ => ?_) (fun hb => by simp at hb; omega)
      (refine GO.pickT rfl rfl rfl ?_; refine GO.nil ?_; refine kthen_n ?_; refine G.condT rfl rfl ?_; refine G.seq ?_; refine G.region ?_)
      refine GO.build0 rfl ?_
      rw [cells_zero]
      refine GO.storeW rfl rfl (Tk.t (Tk.t Tk.h)) ⟨cells_len _, cells_len _⟩ (cells_one _) ?_
      (refine GO.assign rfl rfl ?_; refine GO.nil ?_; refine kthen_n ?_; refine G.ret ?_; refine kthen_r ?_; refine kblock_r ?_; refine kthen_r ?_; refine kthen_r ?_; refine kblock_r ?_; refine kthen_r ?_)
      refine KF.r2 rfl (RV.cW rfl rfl Tk.h (cells_len _)) (RV.t rfl) ⟨?_, rfl⟩ ?_
      · unfold ofV; rw [allIn_not hp (by unfold inB; simp; omega)]; rfl
      · ((refine Sb.c (Tk.t (Tk.t (Tk.t Tk.h))) ?_); (refine Sb.s ?_; refine Sb.s ?_; refine Sb.s ?_; exact Sb.r))
    · refine GO.gT rfl rfl (by simp; omega) ?_
      (refine GO.fieldAddr rfl rfl ?_)
      refine GO.gT rfl rfl (by simp; omega) ?_
      (refine GO.load1 rfl rfl rfl Tk.h rfl ?_)
      refine GO.gT rfl rfl (by simp; omega) ?_
      refine GO.call1 rfl rfl (in_spec _) Tks.n ?_
      rintro _ _ ⟨rfl, rfl⟩
      refine GO.gT rfl rfl (by simp; omega) ?_
      (refine GO.not rfl rfl ?_)
      refine GO.split 17 rfl (fun hb => by simp at hb; omega) (fun _ => ?_)
      (refine GO.pickF rfl rfl rfl ?_; refine GO.nil ?_; refine kthen_n ?_)
      refine G.condT rfl (by simp; omega) ?_
      (refine G.seq ?_; refine G.region ?_)
      refine GO.build0 rfl ?_
      rw [cells_zero]
      refine GO.storeW rfl rfl (Tk.t (Tk.t Tk.h)) ⟨cells_len _, cells_len _⟩ (cells_one _) ?_
      (refine GO.assign rfl rfl ?_; refine GO.nil ?_; refine kthen_n ?_; refine G.ret ?_; refine kthen_r ?_; refine kblock_r ?_; refine kthen_r ?_; refine kthen_r ?_; refine kblock_r ?_; refine kthen_r ?_)
      refine KF.r2 rfl (RV.cW rfl rfl Tk.h (cells_len _)) (RV.t rfl) ⟨?_, rfl⟩ ?_
      · unfold ofV; rw [allIn_not hp (by unfold inB; simp; omega)]; rfl
      · ((refine Sb.c (Tk.t (Tk.t (Tk.t Tk.h))) ?_); (refine Sb.s ?_; refine Sb.s ?_; refine Sb.s ?_; exact Sb.r))
  · have : k = cs.length := by omega
    subst this
    rw [List.take_length] at hall
    (refine G.exit ?_; refine G.seq ?_; refine G.region ?_)
    refine GO.loadW rfl rfl rfl Tk.h (cells_len _) ?_
    refine GO.storeW rfl rfl (Tk.t Tk.h) ⟨cells_len _, cells_len _⟩ (cells_one _) ?_
    (refine GO.assign rfl rfl ?_; refine GO.nil ?_; refine kthen_n ?_; refine G.ret ?_)
    refine KF.r2 rfl (RV.cW rfl rfl Tk.h (cells_len _)) (RV.t rfl) ⟨?_, rfl⟩ ?_
    · unfold ofV; rw [hall, List.take_length]; rfl
    · ((refine Sb.c (Tk.t (Tk.t Tk.h)) ?_); (refine Sb.s ?_; refine Sb.s ?_; exact Sb.r))
end Go.Proofs.YtfoahdfflchidaaDoor
