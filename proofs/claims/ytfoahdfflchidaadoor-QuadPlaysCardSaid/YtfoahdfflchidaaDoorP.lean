/-
  From a contract to the statement: slices of cells as arguments; what a law's row asks.
-/
import Derived.Test.YtfoahdfflchidaaDoorO
import Derived.Test.YtfoahdfflchidaaDoorKA
import Derived.Test.YtfoahdfflchidaaDoorRows
import Derived.WalkKit
import Derived.ProofKit
import Derived.OpenShut
import Derived.ChangeOld
namespace Go.Proofs.YtfoahdfflchidaaDoor
open Go Go.ChangeShapes Go.WideShapes Go.ChangeAt Go.RowKit Go.Deep

theorem ownGo : ownKnob Tryd.prog.godebug = none := by kernel_rfl
theorem laidOut : laidOutB Tryd.prog = true := by kernel_rfl

/-- A contract over all of the memory that was there, as the row wants it. -/
theorem Fn.calls {P : Program} {f : FuncId} {args : Array Value} {w : World} (h : Fn P f args [init w] (fun v Q => v = .bool true ∧ Q = [init w])) :
    Calls P f args w fun e w' => e = .returned (.bool true) ∧ Below w.heap.size w w' := by
  refine (callsIn_wide (n := 0)).1 ((h [] w (sat_init w)).mono ?_)
  rintro e w' ⟨v, Q, rfl, hs, ⟨rfl, rfl⟩, hq⟩
  exact ⟨rfl, init_below hs hq⟩

def cellInt (w : World) (a : Addr) (k : Nat) : Int := match w.cell? (a.add k) with | some (.int _ n) => n | _ => 0
theorem cellsV_range (g : Nat → Int) (n j : Nat) (hj : j < n * 2) : (cellsV ((List.range n).map fun i => (g (i * 2), g (i * 2 + 1))))[j]? = some (i64 (g j)) := by
  have hp : ((List.range n).map fun i => (g (i * 2), g (i * 2 + 1)))[j / 2]? = some (g (j / 2 * 2), g (j / 2 * 2 + 1)) := by
    rw [List.getElem?_map, List.getElem?_range (by omega)]; rfl
  obtain ⟨h1, h2⟩ := cellsV_get hp
  rcases Nat.mod_two_eq_zero_or_one j with h | h
  · have e : j / 2 * 2 = j := by omega
    rw [e] at h1; exact h1
  · have e : j / 2 * 2 + 1 = j := by omega
    rw [e] at h2; simpa [e] using h2
section
variable {H : Type} {enc : TypeId × Value → H} {w : World} {base : Nat} {spare : Nat → Bool} {held : Bool}
theorem open_cells {fuel : Nat} {v : Value} {x : DataW H × List MemPlace} (h : DataW.trod enc Tryd.prog w base spare held fuel 22 [v] = some x) :
    ∃ cs : List (Int × Int), SlR (init w) v cs.length 2 (cellsV cs) ∧ cs.length ≤ 9223372036854775807 := by
  rcases open_slice_fields Tryd.underlying22 Tryd.underlying34 (by kernel_rfl) (by kernel_rfl) h with ⟨hc, _⟩ | ⟨a, len, cap, m, D, Pl, hc, _, hl, hm, hmm, _, hi⟩
  · simp only [List.cons.injEq, and_true] at hc
    subst hc
    exact ⟨[], ⟨none, 0, rfl, rfl, fun h => by simp at h⟩, by simp⟩
  · simp only [List.cons.injEq, and_true] at hc
    subst hc
    refine ⟨(List.range len).map fun i => (cellInt w a (i * 2), cellInt w a (i * 2 + 1)), ⟨some a, cap, ?_, ?_, ?_⟩, ?_⟩
    · simp
    · rw [cellsV_len]
    · intro hpos
      have hpos' : 0 < len := by simpa using hpos
      have hcell : ∀ j, j < len * 2 → w.cell? (a.add j) = some (i64 (cellInt w a j)) := by
        intro j hj
        have him : j / 2 < m := by rw [hmm]; split <;> omega
        obtain ⟨ys, n, _, _, _, hf⟩ := hi (j / 2) him
        have key : ∀ (k : Nat) (f : Field), (#[{ name := "Row", type := 3, offset := 0, embedded := false, tag := "", pkgPath := "", byteOffset := 0 }, { name := "Col", type := 3, offset := 1, embedded := false, tag := "", pkgPath := "", byteOffset := 8 }] : Array Field)[k]? = some f → f.type = 3 →
            w.cell? (a.add (j / 2 * 2 + k)) = some (i64 (cellInt w a (j / 2 * 2 + k))) := by
          intro k f hk ht
          obtain ⟨u, y, h1, _, h3⟩ := hf k f hk
          rw [ht] at h3
          obtain ⟨n', hn', _⟩ := DataW.trod_int Tryd.underlying3 h3
          simp only [List.cons.injEq, and_true] at hn'
          have h1' : w.cell? (a.add (j / 2 * 2 + k)) = some u := h1
          rw [hn'] at h1'
          unfold cellInt; rw [h1']
        rcases Nat.mod_two_eq_zero_or_one j with h | h
        · have := key 0 _ rfl rfl
          have e : j / 2 * 2 + 0 = j := by omega
          rw [e] at this; exact this
        · have := key 1 _ rfl rfl
          have e : j / 2 * 2 + 1 = j := by omega
          rw [e] at this; exact this
      obtain ⟨b, o, sp⟩ := a
      have hsp : sp = none := by
        have := hcell 0 (by omega)
        simpa [Addr.add] using World.cell?_spot this
      subst hsp
      refine ⟨b, o, rfl, fun j u hj => ?_⟩
      have hjl : j < len * 2 := by
        have := (List.getElem?_eq_some_iff.1 hj).1
        rw [cellsV_len] at this; simpa using this
      rw [cellsV_range _ len j hjl] at hj
      simp only [Option.some.injEq] at hj
      rw [← hj]
      apply Rd.init
      have := hcell j hjl
      rw [add_plain] at this
      exact this
    · unfold maxLen at hm; simp; omega
end
end Go.Proofs.YtfoahdfflchidaaDoor
