/-
  The walk of the law BlockOf.
-/
import Derived.Test.YtpfcgfgkmgnaaaaDoorKT
import Derived.Test.YtpfcgfgkmgnaaaaDoorKD
namespace Go.Proofs.YtpfcgfgkmgnaaaaDoor
open Go
attribute [local irreducible] G GO GQ Fn pt init exs pur sat own ImpS
theorem EqFs.two {P : Program} {t : TypeId} {k : IntKind} [UL P t (.int k)] {d : Nat} {f1 f2 : Field} {a b a' b' : Int} (n1 : f1.name ≠ "_") (n2 : f2.name ≠ "_") (t1 : f1.type = t) (t2 : f2.type = t) (o1 : f1.offset = 0) (o2 : f2.offset = 1) :
    EqFs P (d + 1) [i64 a, i64 b] [i64 a', i64 b'] [f1, f2] (decide (a = a') && decide (b = b')) := by
  refine ⟨i64 a, i64 a', decide (a = a'), decide (b = b'), n1, ?_, ?_, ?_, ⟨i64 b, i64 b', decide (b = b'), true, n2, ?_, ?_, ?_, rfl, by simp⟩, rfl⟩
  · rw [t1, o1]; exact PartR.one rfl rfl
  · rw [t1, o1]; exact PartR.one rfl rfl
  · rw [t1]; exact EqR.int
  · rw [t2, o2]; exact PartR.one rfl rfl
  · rw [t2, o2]; exact PartR.one rfl rfl
  · rw [t2]; exact EqR.int
theorem EqR.cell {d : Nat} {a b a' b' : Int} : EqR Tryd.prog (d + 2) 63 (.agg #[i64 a, i64 b]) (.agg #[i64 a', i64 b']) (decide (a = a') && decide (b = b')) :=
  EqR.struct (P := Tryd.prog) (d := d + 1) (t := 63) (l := [i64 a, i64 b]) (l' := [i64 a', i64 b']) (EqFs.two (t := 3) (by decide) (by decide) rfl rfl rfl rfl)
theorem EqR.cellT {d : Nat} {a b a' b' : Int} (h1 : a = a') (h2 : b = b') : EqR Tryd.prog (d + 2) 63 (.agg #[i64 a, i64 b]) (.agg #[i64 a', i64 b']) true := by
  subst h1 h2
  have := EqR.cell (d := d) (a := a) (b := b) (a' := a) (b' := b)
  simpa using this
theorem ofV_form (cs : List (Int × Int)) : ∃ X e, ofV cs = .tuple [blk X, i64 e].toArray := by
  unfold ofV; split <;> exact ⟨_, _, rfl⟩
theorem castL_get {B : Blk} {i : Nat} {p : Nat × Nat} (h : (cellsL B)[i]? = some p) : (castL (cellsL B))[i]? = some ((p.1 : Int), (p.2 : Int)) := by simp [castL, h]
theorem loadPair {P : Program} {c : Cx} {A : Array Oper} {rest : List Oper} {K : Kont} {L : Env} {H F : List HP} {t : TypeId} {p : String} {e : Array Edge} {d ty b o : Nat} {x : Operand} {ds : TypeDesc} {q : HP} {u1 u2 : Value} [hu : UL P ty ds] [hs : SZ P ty 2] (hd : ds.isRow = true) (hN : Nat.blt d c.N = true) (hx : evl L x = some (.pointer (some ⟨b, o, none⟩))) (tk : Tk q H F)
    (r1 : Rd q ⟨b, o, none⟩ u1) (r2 : Rd q ⟨b, o + 1, none⟩ u2) (k : GO P c A rest K ((d, .agg [u1, u2].toArray) :: L) H) : GO P c A (⟨some d, .load ty x, t, p, e, none⟩ :: rest) K L H :=
  GO.loadM (vs := [u1, u2]) hd hN hx tk rfl (fun j u hj => by
    match j, hj with
    | 0, hj => simp at hj; subst hj; exact r1
    | 1, hj => simp at hj; subst hj; exact r2) k
end Go.Proofs.YtpfcgfgkmgnaaaaDoor
