/-
  make of a slice; rows of bools and of numbers. Any program.
-/
import Derived.Test.YtpgfmfbpmkfbjaaGreatY
import Derived.Laws.MakeOwn
import Derived.Laws.Small
namespace Go.Proofs.YtpgfmfbpmkfbjaaGreat
open Go
attribute [local irreducible] pt init exs pur own
section
variable {P : Program} {c : Cx} {A : Array Oper} {rest : List Oper} {K : Kont} {L : Env} {H : List HP} {t : TypeId} {p : String} {e : Array Edge} {d : Nat}
/-- The less of two numbers. -/
theorem GO.min2 {x y : Operand} {kx ky : IntKind} {m n : Int} {ats : Array TypeId} (hN : Nat.blt d c.N = true) (hx : evl L x = some (.int kx m)) (hy : evl L y = some (.int ky n))
    (k : GO P c A rest K ((d, .int kx (min n m)) :: L) H) : GO P c A (⟨some d, .call ⟨.builtin .min, #[x, y], ats⟩, t, p, e, none⟩ :: rest) K L H :=
  GO.val hN rfl (fun a w Y h _ => by
    have e1 : (if n < m then n else m) = min n m := by rw [Int.min_def]; split <;> split <;> omega
    simp only [execOp, resolve, invoke, builtin]
    simp [Sem.run_bind, Result.andThen, h.eval hx, h.eval hy, run_min_int2, e1]) k
/-- s[l:], s[:h]. -/
theorem GO.sliceLo {ty el : TypeId} {sz n cap l b o : Nat} {kk : IntKind} {i : Int} {x y : Operand} [hu : UL P ty (.slice el)] [hs : SZ P el sz] (hN : Nat.blt d c.N = true) (hx : evl L x = some (.slice (some ⟨b, o, none⟩) n cap)) (hy : evl L y = some (.int kk i)) (hi : i = (l : Int) ∧ l ≤ n ∧ l < cap)
    (k : GO P c A rest K ((d, .slice (some ⟨b, o + l * sz, none⟩) (n - l) (cap - l)) :: L) H) : GO P c A (⟨some d, .slice ty x (some y) none none, t, p, e, none⟩ :: rest) K L H :=
  GO.val hN rfl (fun a w Y h _ => by
    obtain ⟨rfl, h1, h2⟩ := hi
    have hle : (l : Int) ≤ n := by omega
    have hne : ¬ cap = l := by omega
    simp only [execOp, h.eval hx, Option.map_none, Option.map_some, h.eval hy]
    simp [Instr.sliceAt, Instr.slice, Sem.run_bind, run_underlying hu.out, Instr.sliceBounds, run_sliceBound w _ _ _ _ (Int.natCast_nonneg l) hle, run_sizeOf_SZ, Result.andThen, hne, add_plain]) k
theorem GO.sliceHi {ty el : TypeId} {sz n cap l b o : Nat} {kk : IntKind} {i : Int} {x y : Operand} [hu : UL P ty (.slice el)] [hs : SZ P el sz] (hN : Nat.blt d c.N = true) (hx : evl L x = some (.slice (some ⟨b, o, none⟩) n cap)) (hy : evl L y = some (.int kk i)) (hi : i = (l : Int) ∧ l ≤ cap)
    (k : GO P c A rest K ((d, .slice (some ⟨b, o, none⟩) l cap) :: L) H) : GO P c A (⟨some d, .slice ty x none (some y) none, t, p, e, none⟩ :: rest) K L H :=
  GO.val hN rfl (fun a w Y h _ => by
    obtain ⟨rfl, h1⟩ := hi
    have hle : (l : Int) ≤ cap := by omega
    have e0 : (⟨b, o, none⟩ : Addr).add 0 = ⟨b, o, none⟩ := add_plain b o 0
    simp only [execOp, h.eval hx, Option.map_none, Option.map_some, h.eval hy]
    simp [Instr.sliceAt, Instr.slice, Sem.run_bind, run_underlying hu.out, Instr.sliceBounds, run_sliceBound w _ _ _ _ (Int.natCast_nonneg l) hle, run_sizeOf_SZ, Result.andThen, e0]) k
end
section
variable {α : Type} {f : α → Value} {o : Nat → α} {n j : Nat}
end
end Go.Proofs.YtpgfmfbpmkfbjaaGreat
