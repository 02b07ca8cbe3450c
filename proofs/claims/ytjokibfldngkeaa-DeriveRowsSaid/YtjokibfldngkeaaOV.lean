/-
  How long a slice of numbers can be that comes as an argument.
-/
import Derived.Test.YtjokibfldngkeaaOC
import Derived.SizedLaws
namespace Go.Proofs.Ytjokibfldngkeaa
open Go Go.ChangeShapes Go.WideShapes Go.ChangeAt Go.RowKit Go.Deep
section
variable {H : Type} {enc : TypeId × Value → H} {w : World} {base : Nat} {spare : Nat → Bool} {held : Bool}
theorem ints_sized {fuel n cap : Nat} {a : Option Addr} {d : DataW H} {p : List MemPlace} (h : DataW.trod enc Try.prog w base spare held fuel 25 [.slice a n cap] = some (d, p))
    (hz : ∀ es sp, d = .slice es sp → (es.length + sp.length) * Try.prog.bytesOf 3 ≤ reachBytes) : n * 8 ≤ 140737488355328 := by
  have hb : Try.prog.bytesOf 3 = 8 := by kernel_rfl
  have hr := reachBytes_lt
  rcases ChangeShapes.open_ints Try.underlying25 Try.underlying3 (by kernel_rfl) h with ⟨hc, _⟩ | ⟨a', len, cap', zs, hc, _, hl, _, hzl, hx, _⟩
  · simp only [List.cons.injEq, and_true] at hc
    injection hc with _ h2 _
    omega
  · simp only [List.cons.injEq, and_true] at hc
    injection hc with _ h2 _
    have := hz _ _ (congrArg Prod.fst hx)
    rw [hb] at this
    have e1 : (lits (H := H) .i64 (zs.take len)).length = (zs.take len).length := by unfold lits; simp
    rw [e1, List.length_take] at this
    have hlz : len ≤ zs.length := by rw [hzl]; split <;> omega
    rw [Nat.min_eq_left hlz] at this
    omega
end
end Go.Proofs.Ytjokibfldngkeaa
