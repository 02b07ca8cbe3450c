/-
  Rules: minus and times on words.
-/
import Derived.Test.YtfoahdfflchidaaDoorI
namespace Go.Proofs.YtfoahdfflchidaaDoor
open Go
attribute [local irreducible] pt init exs pur
section rules
variable {P : Program} {c : Cx} {A : Array Oper} {rest : List Oper} {K : Kont} {L : Env} {H : List HP} {t : TypeId} {p : String} {e : Array Edge} {x y : Operand} {d : Nat} {ty ty' : TypeId} {m n : Int} {a b : BitVec 64}
theorem GO.negu [ha : OfU m a] (hN : Nat.blt d c.N = true) (hx : evl L x = some (.int .u64 m))
    (k : GO P c A rest K ((d, u64 (-a)) :: L) H) : GO P c A (⟨some d, .unOp .neg ty x, t, p, e, none⟩ :: rest) K L H :=
  GO.val hN rfl (fun s w Y h _ => by
    simp only [execOp, h.eval hx, Op.unary, Op.intArith]
    have : IntKind.u64.wrap (0 - m) = ((-a).toNat : Int) := by
      rw [ha.out, wrap_u64, BitVec.toNat_neg]; have := a.isLt; omega
    rw [this]; rfl) k
theorem GO.mulu [ha : OfU m a] [hb : OfU n b] (hN : Nat.blt d c.N = true) (hx : evl L x = some (.int .u64 m)) (hy : evl L y = some (.int .u64 n))
    (k : GO P c A rest K ((d, u64 (a * b)) :: L) H) : GO P c A (⟨some d, .binOp .mul ty x y ty', t, p, e, none⟩ :: rest) K L H :=
  GO.bin hN hx hy (by rw [ha.out, hb.out]; simp only [binI]; refine congrArg (fun z => some (Value.int .u64 z)) ?_; rw [wrap_u64, BitVec.toNat_mul, ← Int.natCast_mul]; omega) k
end rules
instance ofU_db : OfU 285870213051353865 285870213051353865#64 := ⟨rfl⟩
end Go.Proofs.YtfoahdfflchidaaDoor
