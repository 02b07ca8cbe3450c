/-
  How long a slice of cells can be that comes as an argument.
-/
import Derived.Test.YtfoahdfflchidaaDoorP
import Derived.SizedLaws
namespace Go.Proofs.YtfoahdfflchidaaDoor
open Go Go.ChangeShapes Go.WideShapes Go.ChangeAt Go.RowKit Go.Deep
section
variable {H : Type} {enc : TypeId × Value → H} {w : World} {base : Nat} {spare : Nat → Bool} {held : Bool}
theorem cells_sized {fuel n cap : Nat} {a : Option Addr} {d : DataW H} {p : List MemPlace} (h : DataW.trod enc Tryd.prog w base spare held fuel 22 [.slice a n cap] = some (d, p))
    (hz : ∀ es sp, d = .slice es sp → (es.length + sp.length) * Tryd.prog.bytesOf 34 ≤ reachBytes) : n * 16 ≤ 140737488355328 := by
  have hb : Tryd.prog.bytesOf 34 = 16 := by kernel_rfl
  have hr := reachBytes_lt
  rcases open_slice_fields Tryd.underlying22 Tryd.underlying34 (by kernel_rfl) (by kernel_rfl) h with ⟨hc, _⟩ | ⟨a', len, cap', m, D, Pl, hc, _, hl, hm, hmm, hx, hi⟩
  · simp only [List.cons.injEq, and_true] at hc
    injection hc with _ h2 _
    omega
  · simp only [List.cons.injEq, and_true] at hc
    injection hc with _ h2 _
    have := hz _ _ (congrArg Prod.fst hx)
    rw [hb] at this
    simp at this
    omega
end
end Go.Proofs.YtfoahdfflchidaaDoor
