/-
  The walk of the law BlockOf.
-/
import Derived.Test.YtfoahdfflchidaaDoorKT
import Derived.Test.YtfoahdfflchidaaDoorKD
namespace Go.Proofs.YtfoahdfflchidaaDoor
open Go
attribute [local irreducible] G GO GQ Fn pt init exs pur sat own ImpS
theorem EqFs.two {P : Program} {t : TypeId} {k : IntKind} [UL P t (.int k)] {d : Nat} {f1 f2 : Field} {a b a' b' : Int} (n1 : f1.name ≠ "_") (n2 : f2.name ≠ "_") (t1 : f1.type = t) (t2 : f2.type = t) (o1 : f1.offset = 0) (o2 : f2.offset = 1) :
    EqFs P (d + 1) [i64 a, i64 b] [i64 a', i64 b'] [f1, f2] (decide (a = a') && decide (b = b')) := by
  refine ⟨i64 a, i64 a', decide (a = a'), decide (b = b'), n1, ?_, ?_, ?_, ⟨i64 b, i64 b', decide (b = b'), true, n2, ?_, ?_, ?_, rfl, by simp⟩, rfl⟩
  · rw [t1, o1]; exact PartR.one rfl rfl
  · rw [t1, o1]; exact PartR.one rfl rfl
  · rw [t1]; exact EqR.int
  · rw [t2, o2]; exact PartR.one rfl rfl
  · rw [t2, o2]; exact PartR.one rfl rfl
  · rw [t2]; exact EqR.int
theorem EqR.cell {d : Nat} {a b a' b' : Int} : EqR Tryd.prog (d + 2) 34 (.agg #[i64 a, i64 b]) (.agg #[i64 a', i64 b']) (decide (a = a') && decide (b = b')) :=
  EqR.struct (P := Tryd.prog) (d := d + 1) (t := 34) (l := [i64 a, i64 b]) (l' := [i64 a', i64 b']) (EqFs.two (t := 3) (by decide) (by decide) rfl rfl rfl rfl)
end Go.Proofs.YtfoahdfflchidaaDoor
