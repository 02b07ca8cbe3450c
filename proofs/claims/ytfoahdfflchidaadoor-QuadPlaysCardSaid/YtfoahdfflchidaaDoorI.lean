/-
  The rules for the single operations, continued: values held against each other. Any program.
-/
import Derived.Test.YtfoahdfflchidaaDoorH
import Derived.ChangeKeysEq
import Derived.Laws.StructEq
namespace Go.Proofs.YtfoahdfflchidaaDoor
open Go

/-- The comparison of two values of the type t tells r. -/
def EqR (P : Program) (d : Nat) (t : TypeId) (x y : Value) (r : Bool) : Prop := ∀ w, (Op.equalIn d t x y).run P w = .ok r w
class EG (P : Program) (t : TypeId) : Prop where out : P.eqGuardType P.depth t = false
class SH (P : Program) (t : TypeId) : Prop where out : P.stoodInHeld t = false
theorem EqR.int {P : Program} {d : Nat} {t : TypeId} {k k' : IntKind} {a b : Int} [h : UL P t (.int k')] : EqR P (d + 1) t (.int k a) (.int k b) (decide (a = b)) := fun w => by
  rw [run_equalIn_int w d t k k' a b h.out]; rfl
theorem EqR.bool {P : Program} {d : Nat} {t : TypeId} {a b : Bool} [h : UL P t .bool] : EqR P (d + 1) t (.bool a) (.bool b) (a == b) := fun w => run_equalIn_bool' w d t a b h.out
def allB : Nat → (Nat → Bool) → Bool
  | 0, _ => true
  | n + 1, f => f 0 && allB n (fun i => f (i + 1))
theorem allB_iff : ∀ (n : Nat) (f : Nat → Bool), allB n f = true ↔ ∀ i, i < n → f i = true
  | 0, f => by simp [allB]
  | n + 1, f => by
    simp only [allB, Bool.and_eq_true, allB_iff n]
    constructor
    · rintro ⟨h0, h1⟩ i hi
      cases i with
      | zero => exact h0
      | succ i => exact h1 i (by omega)
    · intro h; exact ⟨h 0 (by omega), fun i hi => h (i + 1) (by omega)⟩
theorem run_part1 {P : Program} {t : TypeId} {ds : TypeDesc} [hu : UL P t ds] (hd : ds.isRow = false) {l : List Value} {j : Nat} {v : Value} (h : l[j]? = some v) (w : World) : (part t l.toArray j).run P w = .ok v w := by
  simp [part, Sem.run_bind, run_isAgg_UL, hd, Result.andThen, h]
theorem eqItems_run {P : Program} {d n : Nat} {el : TypeId} {l l' : List Value} {f : Nat → Bool} {ds : TypeDesc} [hu : UL P el ds] (hd : ds.isRow = false) (w : World) : ∀ (k m : Nat), m + k ≤ n →
    (∀ i, i < n → ∃ x y, l[i]? = some x ∧ l'[i]? = some y ∧ EqR P d el x y (f i)) → (Op.eqItems d el 1 l.toArray l'.toArray (List.range' m k)).run P w = .ok (allB k (fun i => f (m + i))) w
  | 0, m, _, _ => by simp [Op.eqItems, allB]
  | k + 1, m, hmk, h => by
    obtain ⟨x, y, hx, hy, he⟩ := h m (by omega)
    simp only [List.range'_succ, Op.eqItems, Sem.run_bind]
    rw [run_part1 hd (show l[m * 1]? = some x by rw [Nat.mul_one]; exact hx), Result.andThen_ok, run_part1 hd (show l'[m * 1]? = some y by rw [Nat.mul_one]; exact hy), Result.andThen_ok, he w, Result.andThen_ok]
    have ih := eqItems_run (f := f) hd w k (m + 1) (by omega) h
    cases hf : f m with
    | false => simp [allB, hf]
    | true =>
      simp only [Bool.not_true, Bool.false_eq_true, if_false, allB, Nat.add_zero, hf, Bool.true_and]
      rw [ih]
      congr 1
      congr 1
      funext i
      congr 1; omega
/-- Two arrays of single cells. -/
theorem EqR.arr {P : Program} {d n : Nat} {t el : TypeId} {l l' : List Value} {f : Nat → Bool} {ds : TypeDesc} [ht : UL P t (.array n el)] [hu : UL P el ds] [hs : SZ P el 1] (hd : ds.isRow = false)
    (h : ∀ i, i < n → ∃ x y, l[i]? = some x ∧ l'[i]? = some y ∧ EqR P d el x y (f i)) : EqR P (d + 1) t (.agg l.toArray) (.agg l'.toArray) (allB n f) := fun w => by
  have hso := hs.out
  cases hq : P.info? el with
  | none => simp [hq] at hso
  | some i =>
    have hc : P.cellsOf el = 1 := by simp [Program.cellsOf, hq] at hso ⊢; exact hso
    rw [run_equalIn_array w d _ _ ht.out hq, hc, List.range_eq_range', eqItems_run hd w n 0 (by omega) h]
    simp

section rules
variable {P : Program} {c : Cx} {A : Array Oper} {rest : List Oper} {K : Kont} {L : Env} {H : List HP} {t : TypeId} {p : String} {e : Array Edge}
variable {d : Nat} {ty ty' : TypeId} {x y : Operand}
theorem GO.eqlA {l l' : Array Value} {r : Bool} [hg : EG P ty] (h : EqR P 10000 ty (.agg l) (.agg l') r) (hN : Nat.blt d c.N = true) (hx : evl L x = some (.agg l)) (hy : evl L y = some (.agg l'))
    (k : GO P c A rest K ((d, .bool r) :: L) H) : GO P c A (⟨some d, .binOp .eql ty x y ty', t, p, e, none⟩ :: rest) K L H :=
  GO.val hN rfl (fun a w Y hh _ => by
    simp only [execOp, hh.eval hx, hh.eval hy]
    simp only [Sem.run_bind, run_eqGuard_agg w .eql ty x y l l' hg.out, Result.andThen_ok, run_eql_struct, h w, Sem.run_pure]) k
theorem GO.neqA {l l' : Array Value} {r : Bool} [hg : EG P ty] (h : EqR P 10000 ty (.agg l) (.agg l') r) (hN : Nat.blt d c.N = true) (hx : evl L x = some (.agg l)) (hy : evl L y = some (.agg l'))
    (k : GO P c A rest K ((d, .bool (!r)) :: L) H) : GO P c A (⟨some d, .binOp .neq ty x y ty', t, p, e, none⟩ :: rest) K L H :=
  GO.val hN rfl (fun a w Y hh _ => by
    simp only [execOp, hh.eval hx, hh.eval hy]
    simp only [Sem.run_bind, run_eqGuard_agg w .neq ty x y l l' hg.out, Result.andThen_ok, run_neq_struct, h w, Sem.run_pure]) k
theorem GO.eqlB {b b' : Bool} [hu : UL P ty .bool] (hN : Nat.blt d c.N = true) (hx : evl L x = some (.bool b)) (hy : evl L y = some (.bool b'))
    (k : GO P c A rest K ((d, .bool (b == b')) :: L) H) : GO P c A (⟨some d, .binOp .eql ty x y ty', t, p, e, none⟩ :: rest) K L H :=
  GO.val hN rfl (fun a w Y hh _ => by
    simp only [execOp, hh.eval hx, hh.eval hy]
    have := (EqR.bool : EqR P 10000 ty (.bool b) (.bool b') _) w
    simp [Sem.run_bind, eqGuard, binOp, Op.equal, Op.maxDepth, this, Result.andThen]) k
theorem GO.neqB {b b' : Bool} [hu : UL P ty .bool] (hN : Nat.blt d c.N = true) (hx : evl L x = some (.bool b)) (hy : evl L y = some (.bool b'))
    (k : GO P c A rest K ((d, .bool (!(b == b'))) :: L) H) : GO P c A (⟨some d, .binOp .neq ty x y ty', t, p, e, none⟩ :: rest) K L H :=
  GO.val hN rfl (fun a w Y hh _ => by
    simp only [execOp, hh.eval hx, hh.eval hy]
    have := (EqR.bool : EqR P 10000 ty (.bool b) (.bool b') _) w
    simp [Sem.run_bind, eqGuard, binOp, Op.equal, Op.maxDepth, this, Result.andThen]) k
theorem GO.eqT {k1 : IntKind} {m n : Int} (hN : Nat.blt d c.N = true) (hx : evl L x = some (.int k1 m)) (hy : evl L y = some (.int k1 n)) (h : m = n)
    (k : GO P c A rest K ((d, .bool true) :: L) H) : GO P c A (⟨some d, .binOp .eql ty x y ty', t, p, e, none⟩ :: rest) K L H :=
  GO.bin hN hx hy (by simp [binI, h]) k
theorem GO.neF {k1 : IntKind} {m n : Int} (hN : Nat.blt d c.N = true) (hx : evl L x = some (.int k1 m)) (hy : evl L y = some (.int k1 n)) (h : m = n)
    (k : GO P c A rest K ((d, .bool false) :: L) H) : GO P c A (⟨some d, .binOp .neq ty x y ty', t, p, e, none⟩ :: rest) K L H :=
  GO.bin hN hx hy (by simp [binI, h]) k
theorem GO.eqlT {b b' : Bool} [hu : UL P ty .bool] (hN : Nat.blt d c.N = true) (hx : evl L x = some (.bool b)) (hy : evl L y = some (.bool b')) (h : b = b')
    (k : GO P c A rest K ((d, .bool true) :: L) H) : GO P c A (⟨some d, .binOp .eql ty x y ty', t, p, e, none⟩ :: rest) K L H :=
  GO.eqlB hN hx hy (by rw [h, beq_self_eq_true]; exact k)
end rules
end Go.Proofs.YtfoahdfflchidaaDoor
