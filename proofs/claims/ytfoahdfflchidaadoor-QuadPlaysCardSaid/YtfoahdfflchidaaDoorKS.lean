/-
  A block's cells in rising order: the engine's iterator, the reference's list; the reference's Of.
-/
import Derived.Test.YtfoahdfflchidaaDoorU
import Derived.Test.YtfoahdfflchidaaDoorKR
namespace Go.Proofs.YtfoahdfflchidaaDoor
open Go
attribute [local irreducible] G GO GQ Fn pt init exs pur sat own
def rowL (r : Nat) (x : BitVec 64) : List (Nat × Nat) := ((List.range 64).filter fun c => x.getLsbD c).map fun c => (r, c)
def rowsL (B : Blk) (r : Nat) : List (Nat × Nat) := (List.range' r (64 - r)).flatMap fun i => rowL i (B i)
def cellsL (B : Blk) : List (Nat × Nat) := rowsL B 0
theorem rowsL_step (B : Blk) {r : Nat} (h : r < 64) : rowsL B r = rowL r (B r) ++ rowsL B (r + 1) := by
  unfold rowsL
  rw [show 64 - r = (64 - (r + 1)) + 1 by omega, List.range'_succ, List.flatMap_cons]
theorem rowsL_end (B : Blk) : rowsL B 64 = [] := rfl
theorem rowL_zero (r : Nat) : rowL r 0#64 = [] := by
  unfold rowL; rw [List.filter_eq_nil_iff.2 (by intro c _; simp)]; rfl
theorem filter_at {k : Nat} {f g : Nat → Bool} (hk : k < 64) (h1 : ∀ i, i < k → f i = false) (h2 : f k = true) (h3 : ∀ i, k < i → f i = g i) (h4 : ∀ i, i ≤ k → g i = false) : (List.range 64).filter f = k :: (List.range 64).filter g := by
  have e : List.range 64 = List.range' 0 k ++ (k :: List.range' (k + 1) (63 - k)) := by
    rw [← List.range'_succ, show 63 - k + 1 = 64 - k by omega, List.range_eq_range']
    have := List.range'_append_1 (s := 0) (m := k) (n := 64 - k)
    rw [Nat.zero_add] at this
    rw [this]; congr 1; omega
  rw [e, List.filter_append, List.filter_append, List.filter_cons, List.filter_cons, h2, h4 k (Nat.le_refl _)]
  have n1 : (List.range' 0 k).filter f = [] := List.filter_eq_nil_iff.2 (by intro i hi; have := (List.mem_range'_1.1 hi).2; rw [h1 i (by omega)]; simp)
  have n2 : (List.range' 0 k).filter g = [] := List.filter_eq_nil_iff.2 (by intro i hi; have := (List.mem_range'_1.1 hi).2; rw [h4 i (by omega)]; simp)
  have n3 : (List.range' (k + 1) (63 - k)).filter f = (List.range' (k + 1) (63 - k)).filter g := List.filter_congr (by intro i hi; exact h3 i (by have := (List.mem_range'_1.1 hi).1; omega))
  rw [n1, n2, n3]; simp
theorem rowL_low (r : Nat) {x : BitVec 64} (h : x ≠ 0#64) : rowL r x = (r, ctzW x) :: rowL r (x &&& (x - 1#64)) := by
  unfold rowL
  rw [filter_at (k := ctzW x) (g := fun c => (x &&& (x - 1#64)).getLsbD c) (ctz_lt h) (fun i hi => by rw [(ctz_bits h i).1, if_pos hi]) (ctz_on h) (fun i hi => by rw [(ctz_bits h i).1, if_neg (by omega), if_neg (by omega)]) (fun i hi => by
    rw [drop_low h i]
    by_cases e : i = ctzW x
    · simp [e]
    · rw [(ctz_bits h i).1, if_pos (by omega)]; rfl)]
  rfl
theorem filter_cnt (x : BitVec 64) : ∀ n, ((List.range n).filter fun c => x.getLsbD c).length = cnt x n
  | 0 => rfl
  | n + 1 => by
    rw [List.range_succ, List.filter_append, List.length_append, filter_cnt x n]
    simp only [cnt, List.filter_cons, List.filter_nil]
    split <;> simp
theorem rowL_len (r : Nat) (x : BitVec 64) : (rowL r x).length = cnt x 64 := by unfold rowL; rw [List.length_map, filter_cnt]
/-! ## The iterator -/
def cellV (p : Nat × Nat) : Value := .agg #[i64 p.1, i64 p.2]
theorem perm_jq {q b : HP} {J F : List HP} : (q :: b :: (J ++ F)).Perm ((J ++ [q]) ++ (b :: F)) := by
  rw [List.append_assoc]
  refine List.Perm.trans ?_ (List.perm_append_comm_assoc ([q]) J (b :: F))
  exact List.Perm.cons _ List.perm_middle.symm
theorem perm_jq2 {q b : HP} {J F : List HP} : (q :: b :: (J ++ F)).Perm (J ++ ([q] ++ [b]) ++ F) := by
  have := perm_jq (q := q) (b := b) (J := J) (F := F)
  simpa using this
theorem head_drop {α : Type} {l l' : List α} {i : Nat} {a : α} (h : l.drop i = a :: l') : l[i]? = some a ∧ l.drop (i + 1) = l' ∧ i < l.length := by
  have h1 : l[i]? = some a := by
    have := congrArg (fun m => m[0]?) h
    simpa using this
  refine ⟨h1, ?_, (List.getElem?_eq_some_iff.1 h1).1⟩
  have := congrArg List.tail h
  simpa using this
set_option maxHeartbeats 2000000 in
theorem seq_spec (q : HP) (hq : Tab q) (B : Blk) (b1 : Nat) (y : Value) (J X : Nat → List HP)
    (hy : ∀ i u, ((cellsL B).map fun p => [cellV p])[i]? = some u → FnV Tryd.prog y u (J i ++ [q]) (fun v Q => (v = .bool true ∧ Q = J (i + 1) ++ [q]) ∨ (v = .bool false ∧ Q = X i ++ [q]))) :
    Fn Tryd.prog 69 #[y, .pointer (some ⟨b1, 0, none⟩)] (J 0 ++ ([q] ++ [pt b1 (row (cells B) 77)])) (fun _ Q => Q = J (cellsL B).length ++ ([q] ++ [pt b1 (row (cells B) 77)]) ∨ ∃ i, i < (cellsL B).length ∧ Q = X i ++ ([q] ++ [pt b1 (row (cells B) 77)])) := by
  refine Fn.mk Tryd.func69 rfl rfl fun w0 F => ?_
  refine G.mem (H' := q :: pt b1 (row (cells B) 77) :: (J 0 ++ F)) ⟨[], by simpa using perm_jq2.symm⟩ ?_
  (refine G.seq ?_; refine G.region ?_)
  refine GO.loadW rfl rfl rfl (by (exact (Tk.t Tk.h))) (cells_len _) ?_
  (refine GO.move rfl rfl ?_; refine GO.nil ?_; refine kthen_n ?_; refine G.block ?_)
  refine G.loop2 (fun (r : Nat) (i : Nat) => [(0, y), (5, blk B), (6, i64 r)]) (fun _ i => q :: pt b1 (row (cells B) 77) :: (J i ++ F))
    (fun r i => r ≤ 64 ∧ (cellsL B).drop i = rowsL B r ∧ i ≤ (cellsL B).length) (fun r _ => 64 - r) 0 0 ⟨by omega, rfl, by omega⟩ ?_ ?_ ?_
  · (refine SubE.c rfl rfl ?_; refine SubE.c rfl rfl ?_; refine SubE.c rfl rfl ?_; exact SubE.n)
  · ((refine Sb.c Tk.h ?_; refine Sb.c Tk.h ?_); (exact Sb.r))
  rintro r i ⟨hr, hd, hi⟩
  (refine G.seq ?_; refine G.region ?_; refine GO.lti rfl rfl rfl ?_; refine GO.nil ?_; refine kthen_n ?_; refine G.seq ?_)
  refine G.condD rfl (fun hlt => ?_) (fun hge => ?_)
  · have hr64 : r < 64 := by omega
    (refine G.skip ?_; refine kthen_n ?_; refine G.seq ?_; refine G.block ?_; refine G.seq ?_; refine G.region ?_; refine GO.move rfl rfl ?_)
    refine GO.idxV (j := r) rfl rfl rfl rfl ⟨rfl, by omega⟩ (cells_get B (j := r) (by omega) rfl) ?_
    (refine GO.assign rfl rfl ?_; refine GO.assign rfl rfl ?_; refine GO.nil ?_; refine kthen_n ?_; refine G.block ?_)
    refine G.loop2 (fun (x : BitVec 64) (i : Nat) => [(0, y), (3, i64 r), (4, u64 x), (5, blk B), (6, i64 r)]) (fun _ i => q :: pt b1 (row (cells B) 77) :: (J i ++ F))
      (fun x i => (cellsL B).drop i = rowL r x ++ rowsL B (r + 1) ∧ i ≤ (cellsL B).length) (fun x _ => x.toNat) (B r) i ⟨by rw [hd, rowsL_step B hr64], hi⟩ ?_ ?_ ?_
    · (refine SubE.c rfl rfl ?_; refine SubE.c rfl rfl ?_; refine SubE.c rfl rfl ?_; refine SubE.c rfl rfl ?_; refine SubE.c rfl rfl ?_; exact SubE.n)
    · ((refine Sb.c Tk.h ?_; refine Sb.c Tk.h ?_); (exact Sb.r))
    rintro x i ⟨hd, hi⟩
    (refine G.seq ?_; refine G.seq ?_; refine G.region ?_; refine GO.move rfl rfl ?_; refine GO.neu rfl rfl rfl ?_; refine GO.nil ?_; refine kthen_n ?_)
    refine G.condD rfl (fun hne => ?_) (fun he => ?_)
    · have hk := ctz_lt hne
      rw [rowL_low r hne, List.cons_append] at hd
      obtain ⟨h1, h2, h3⟩ := head_drop hd
      (refine G.skip ?_; refine kthen_n ?_; refine G.seq ?_; refine G.block ?_; refine G.seq ?_; refine G.region ?_; refine GO.move rfl rfl ?_; refine GO.move rfl rfl ?_; refine GO.move rfl rfl ?_)
      refine GO.call1 rfl rfl (tz_spec q hq x) (Tks.c Tk.h Tks.n) ?_
      rintro _ _ ⟨rfl, rfl⟩
      (refine GO.build2 rfl rfl rfl rfl ?_)
      refine GO.callV1 rfl rfl rfl (hy i [cellV (r, ctzW x)] (by rw [List.getElem?_map, h1]; rfl)) (F := pt b1 (row (cells B) 77) :: F) perm_jq ?_
      rintro v Q (⟨rfl, rfl⟩ | ⟨rfl, rfl⟩)
      · (refine GO.not rfl rfl ?_; refine GO.nil ?_; refine kthen_n ?_; refine G.condF rfl rfl ?_; refine G.skip ?_; refine kblock_n ?_; refine kthen_n ?_; refine G.region ?_; refine GO.move rfl rfl ?_; refine GO.move rfl rfl ?_; refine GO.subu rfl rfl rfl ?_; refine GO.andu rfl rfl rfl ?_; refine GO.assign rfl rfl ?_; refine GO.nil ?_; refine kthen_n ?_)
        refine ⟨x &&& (x - 1#64), i + 1, ⟨h2, by omega⟩, drop_lt hne, ?_, ?_⟩
        · (refine SubE.c rfl rfl ?_; refine SubE.c rfl rfl ?_; refine SubE.c rfl rfl ?_; refine SubE.c rfl rfl ?_; refine SubE.c rfl rfl ?_; exact SubE.n)
        · exact ⟨[], by simpa using perm_jq.symm⟩
      · (refine GO.not rfl rfl ?_; refine GO.nil ?_; refine kthen_n ?_; refine G.condT rfl rfl ?_; refine G.ret ?_; refine kblock_r ?_; refine kthen_r ?_; refine kthen_r ?_; refine kblock_r ?_; refine kblock_r ?_; refine kthen_r ?_; refine kthen_r ?_; refine kblock_r ?_)
        refine KF.r0 rfl (Q := X i ++ ([q] ++ [pt b1 (row (cells B) 77)])) (.inr ⟨i, h3, rfl⟩) ⟨[], by simp⟩
    · have hx : x = 0#64 := by simpa using he
      subst hx
      rw [rowL_zero, List.nil_append] at hd
      (refine G.exit ?_; refine G.region ?_; refine GO.addi rfl rfl rfl (by omega) ?_; refine GO.move rfl rfl ?_; refine GO.nil ?_; refine kthen_n ?_)
      refine ⟨r + 1, i, ⟨by omega, hd, hi⟩, by omega, ?_, ?_⟩
      · (refine SubE.c rfl rfl ?_; refine SubE.c rfl rfl ?_; refine SubE.c rfl rfl ?_; exact SubE.n)
      · ((refine Sb.c Tk.h ?_; refine Sb.c Tk.h ?_); (exact Sb.r))
  · have : r = 64 := by omega
    subst this
    have hl : i = (cellsL B).length := by
      have := congrArg List.length hd
      rw [rowsL_end, List.length_drop, List.length_nil] at this
      omega
    subst hl
    (refine G.exit ?_; refine kthen_x ?_; refine kthen_x ?_; refine kblock_x ?_)
    refine KF.n0 rfl (Q := J (cellsL B).length ++ ([q] ++ [pt b1 (row (cells B) 77)])) (.inl rfl) ⟨[], by simpa using perm_jq2⟩
theorem cells_seq (q : HP) (hq : Tab q) (B : Blk) (b1 : Nat) : SeqOK Tryd.prog (.func (.func 69) #[] #[.pointer (some ⟨b1, 0, none⟩)]) ((cellsL B).map fun p => [cellV p]) [q] [pt b1 (row (cells B) 77)] :=
  ⟨_, _, rfl, inferInstance, fun y J X hy => by rw [List.length_map]; exact seq_spec q hq B b1 y J X hy⟩
theorem bcells_spec (B : Blk) : Fn Tryd.prog 35 #[blk B] [] (fun v Q => ∃ b1, v = .func (.func 69) #[] #[.pointer (some ⟨b1, 0, none⟩)] ∧ Q = [pt b1 (row (cells B) 77)]) := by
  refine Fn.mk Tryd.func35 rfl rfl fun w0 F => ?_
  (refine G.seq ?_; refine G.region ?_)
  refine GO.box rfl rfl rfl fun b1 => ?_
  (refine GO.assign rfl rfl ?_; refine GO.nil ?_; refine kthen_n ?_; refine G.seq ?_; refine G.region ?_)
  refine GO.makeFunc1 rfl rfl ?_
  (refine GO.assign rfl rfl ?_; refine GO.nil ?_; refine kthen_n ?_; refine G.ret ?_)
  refine KF.r1 rfl (RV.t rfl) ⟨b1, rfl, rfl⟩ ?_
  ((refine Sb.c Tk.h ?_); (exact Sb.r))
end Go.Proofs.YtfoahdfflchidaaDoor
