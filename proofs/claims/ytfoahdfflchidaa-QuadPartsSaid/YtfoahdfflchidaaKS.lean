/-
  A block's cells in rising order: the engine's iterator, the reference's list; the reference's Of.
-/
import Derived.Test.YtfoahdfflchidaaU
import Derived.Test.YtfoahdfflchidaaKR
namespace Go.Proofs.Ytfoahdfflchidaa
open Go
attribute [local irreducible] G GO GQ Fn pt init exs pur sat own
def rowL (r : Nat) (x : BitVec 64) : List (Nat × Nat) := ((List.range 64).filter fun c => x.getLsbD c).map fun c => (r, c)
def rowsL (B : Blk) (r : Nat) : List (Nat × Nat) := (List.range' r (64 - r)).flatMap fun i => rowL i (B i)
def cellsL (B : Blk) : List (Nat × Nat) := rowsL B 0
theorem rowsL_step (B : Blk) {r : Nat} (h : r < 64) : rowsL B r = rowL r (B r) ++ rowsL B (r + 1) := by
  unfold rowsL
  rw [show 64 - r = (64 - (r + 1)) + 1 by omega, List.range'_succ, List.flatMap_cons]
theorem rowsL_end (B : Blk) : rowsL B 64 = [] := rfl
theorem rowL_zero (r : Nat) : rowL r 0#64 = [] := by
  unfold rowL; rw [List.filter_eq_nil_iff.2 (by intro c _; simp)]; rfl
theorem filter_at {k : Nat} {f g : Nat → Bool} (hk : k < 64) (h1 : ∀ i, i < k → f i = false) (h2 : f k = true) (h3 : ∀ i, k < i → f i = g i) (h4 : ∀ i, i ≤ k → g i = false) : (List.range 64).filter f = k :: (List.range 64).filter g := by
  have e : List.range 64 = List.range' 0 k ++ (k :: List.range' (k + 1) (63 - k)) := by
    rw [← List.range'_succ, show 63 - k + 1 = 64 - k by omega, List.range_eq_range']
    have := List.range'_append_1 (s := 0) (m := k) (n := 64 - k)
    rw [Nat.zero_add] at this
    rw [this]; congr 1; omega
  rw [e, List.filter_append, List.filter_append, List.filter_cons, List.filter_cons, h2, h4 k (Nat.le_refl _)]
  have n1 : (List.range' 0 k).filter f = [] := List.filter_eq_nil_iff.2 (by intro i hi; have := (List.mem_range'_1.1 hi).2; rw [h1 i (by omega)]; simp)
  have n2 : (List.range' 0 k).filter g = [] := List.filter_eq_nil_iff.2 (by intro i hi; have := (List.mem_range'_1.1 hi).2; rw [h4 i (by omega)]; simp)
  have n3 : (List.range' (k + 1) (63 - k)).filter f = (List.range' (k + 1) (63 - k)).filter g := List.filter_congr (by intro i hi; exact h3 i (by have := (List.mem_range'_1.1 hi).1; omega))
  rw [n1, n2, n3]; simp
theorem rowL_low (r : Nat) {x : BitVec 64} (h : x ≠ 0#64) : rowL r x = (r, ctzW x) :: rowL r (x &&& (x - 1#64)) := by
  unfold rowL
  rw [filter_at (k := ctzW x) (g := fun c => (x &&& (x - 1#64)).getLsbD c) (ctz_lt h) (fun i hi => by rw [(ctz_bits h i).1, if_pos hi]) (ctz_on h) (fun i hi => by rw [(ctz_bits h i).1, if_neg (by omega), if_neg (by omega)]) (fun i hi => by
    rw [drop_low h i]
    by_cases e : i = ctzW x
    · simp [e]
    · rw [(ctz_bits h i).1, if_pos (by omega)]; rfl)]
  rfl
theorem filter_cnt (x : BitVec 64) : ∀ n, ((List.range n).filter fun c => x.getLsbD c).length = cnt x n
  | 0 => rfl
  | n + 1 => by
    rw [List.range_succ, List.filter_append, List.length_append, filter_cnt x n]
    simp only [cnt, List.filter_cons, List.filter_nil]
    split <;> simp
theorem rowL_len (r : Nat) (x : BitVec 64) : (rowL r x).length = cnt x 64 := by unfold rowL; rw [List.length_map, filter_cnt]
theorem cellsL_len (B : Blk) : (cellsL B).length = lenB B 64 := by
  have key : ∀ n, ((List.range' 0 n).flatMap fun i => rowL i (B i)).length = lenB B n := by
    intro n
    induction n with
    | zero => rfl
    | succ n ih =>
      rw [List.range'_1_concat, List.flatMap_append, List.length_append, ih, Nat.zero_add]
      simp [lenB, rowL_len, ones_cnt]
  exact key 64
/-! ## The iterator -/
def cellV (p : Nat × Nat) : Value := .agg #[i64 p.1, i64 p.2]
theorem perm_jq {q b : HP} {J F : List HP} : (q :: b :: (J ++ F)).Perm ((J ++ [q]) ++ (b :: F)) := by
  rw [List.append_assoc]
  refine List.Perm.trans ?_ (List.perm_append_comm_assoc ([q]) J (b :: F))
  exact List.Perm.cons _ List.perm_middle.symm
theorem perm_jq2 {q b : HP} {J F : List HP} : (q :: b :: (J ++ F)).Perm (J ++ ([q] ++ [b]) ++ F) := by
  have := perm_jq (q := q) (b := b) (J := J) (F := F)
  simpa using this
theorem head_drop {α : Type} {l l' : List α} {i : Nat} {a : α} (h : l.drop i = a :: l') : l[i]? = some a ∧ l.drop (i + 1) = l' ∧ i < l.length := by
  have h1 : l[i]? = some a := by
    have := congrArg (fun m => m[0]?) h
    simpa using this
  refine ⟨h1, ?_, (List.getElem?_eq_some_iff.1 h1).1⟩
  have := congrArg List.tail h
  simpa using this
end Go.Proofs.Ytfoahdfflchidaa
