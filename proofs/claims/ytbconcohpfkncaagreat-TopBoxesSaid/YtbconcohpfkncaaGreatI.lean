/-
  The rules for the single operations, continued: values held against each other. Any program.
-/
import Derived.Test.YtbconcohpfkncaaGreatH
import Derived.ChangeKeysEq
import Derived.Laws.StructEq
namespace Go.Proofs.YtbconcohpfkncaaGreat
open Go

/-- The comparison of two values of the type t tells r. -/
def EqR (P : Program) (d : Nat) (t : TypeId) (x y : Value) (r : Bool) : Prop := ∀ w, (Op.equalIn d t x y).run P w = .ok r w
class EG (P : Program) (t : TypeId) : Prop where out : P.eqGuardType P.depth t = false
class SH (P : Program) (t : TypeId) : Prop where out : P.stoodInHeld t = false
theorem EqR.int {P : Program} {d : Nat} {t : TypeId} {k k' : IntKind} {a b : Int} [h : UL P t (.int k')] : EqR P (d + 1) t (.int k a) (.int k b) (decide (a = b)) := fun w => by
  rw [run_equalIn_int w d t k k' a b h.out]; rfl
theorem EqR.bool {P : Program} {d : Nat} {t : TypeId} {a b : Bool} [h : UL P t .bool] : EqR P (d + 1) t (.bool a) (.bool b) (a == b) := fun w => run_equalIn_bool' w d t a b h.out
theorem EqR.str {P : Program} {d : Nat} {t : TypeId} {a b : ByteArray} [h : UL P t .string] : EqR P (d + 1) t (.string a) (.string b) (a.toList == b.toList) := fun w => run_equalIn_string w d t a b h.out
theorem run_part1 {P : Program} {t : TypeId} {ds : TypeDesc} [hu : UL P t ds] (hd : ds.isRow = false) {l : List Value} {j : Nat} {v : Value} (h : l[j]? = some v) (w : World) : (part t l.toArray j).run P w = .ok v w := by
  simp [part, Sem.run_bind, run_isAgg_UL, hd, Result.andThen, h]
section rules
variable {P : Program} {c : Cx} {A : Array Oper} {rest : List Oper} {K : Kont} {L : Env} {H : List HP} {t : TypeId} {p : String} {e : Array Edge}
variable {d : Nat} {ty ty' : TypeId} {x y : Operand}
theorem GO.eqlA {l l' : Array Value} {r : Bool} [hg : EG P ty] (h : EqR P 10000 ty (.agg l) (.agg l') r) (hN : Nat.blt d c.N = true) (hx : evl L x = some (.agg l)) (hy : evl L y = some (.agg l'))
    (k : GO P c A rest K ((d, .bool r) :: L) H) : GO P c A (⟨some d, .binOp .eql ty x y ty', t, p, e, none⟩ :: rest) K L H :=
  GO.val hN rfl (fun a w Y hh _ => by
    simp only [execOp, hh.eval hx, hh.eval hy]
    simp only [Sem.run_bind, run_eqGuard_agg w .eql ty x y l l' hg.out, Result.andThen_ok, run_eql_struct, h w, Sem.run_pure]) k
theorem GO.neqA {l l' : Array Value} {r : Bool} [hg : EG P ty] (h : EqR P 10000 ty (.agg l) (.agg l') r) (hN : Nat.blt d c.N = true) (hx : evl L x = some (.agg l)) (hy : evl L y = some (.agg l'))
    (k : GO P c A rest K ((d, .bool (!r)) :: L) H) : GO P c A (⟨some d, .binOp .neq ty x y ty', t, p, e, none⟩ :: rest) K L H :=
  GO.val hN rfl (fun a w Y hh _ => by
    simp only [execOp, hh.eval hx, hh.eval hy]
    simp only [Sem.run_bind, run_eqGuard_agg w .neq ty x y l l' hg.out, Result.andThen_ok, run_neq_struct, h w, Sem.run_pure]) k
theorem GO.neqB {b b' : Bool} [hu : UL P ty .bool] (hN : Nat.blt d c.N = true) (hx : evl L x = some (.bool b)) (hy : evl L y = some (.bool b'))
    (k : GO P c A rest K ((d, .bool (!(b == b'))) :: L) H) : GO P c A (⟨some d, .binOp .neq ty x y ty', t, p, e, none⟩ :: rest) K L H :=
  GO.val hN rfl (fun a w Y hh _ => by
    simp only [execOp, hh.eval hx, hh.eval hy]
    have := (EqR.bool : EqR P 10000 ty (.bool b) (.bool b') _) w
    simp [Sem.run_bind, eqGuard, binOp, Op.equal, Op.maxDepth, this, Result.andThen]) k
theorem GO.eqT {k1 : IntKind} {m n : Int} (hN : Nat.blt d c.N = true) (hx : evl L x = some (.int k1 m)) (hy : evl L y = some (.int k1 n)) (h : m = n)
    (k : GO P c A rest K ((d, .bool true) :: L) H) : GO P c A (⟨some d, .binOp .eql ty x y ty', t, p, e, none⟩ :: rest) K L H :=
  GO.bin hN hx hy (by simp [binI, h]) k
theorem GO.neF {k1 : IntKind} {m n : Int} (hN : Nat.blt d c.N = true) (hx : evl L x = some (.int k1 m)) (hy : evl L y = some (.int k1 n)) (h : m = n)
    (k : GO P c A rest K ((d, .bool false) :: L) H) : GO P c A (⟨some d, .binOp .neq ty x y ty', t, p, e, none⟩ :: rest) K L H :=
  GO.bin hN hx hy (by simp [binI, h]) k
end rules
end Go.Proofs.YtbconcohpfkncaaGreat
