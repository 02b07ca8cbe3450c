/-
  Steps as an argument, opened.
-/
import Derived.Test.YtjokibfldngkeaaO
import Derived.Test.YtjokibfldngkeaaDP
import Derived.WalkKit
import Derived.ProofKit
import Derived.OpenShut
import Derived.ChangeOld
namespace Go.Proofs.Ytjokibfldngkeaa
open Go Go.ChangeShapes Go.WideShapes Go.ChangeAt Go.RowKit Go.Deep
section
variable {H : Type} {enc : TypeId × Value → H} {w : World} {base : Nat} {spare : Nat → Bool} {held : Bool}
theorem f3sV_at {fs : List F3} {k m : Nat} {f : F3} (h : fs[k]? = some f) (hm : m < 3) : (f3sV fs)[k * 3 + m]? = [i64 f.1, i64 f.2.1, i64 f.2.2][m]? := by
  obtain ⟨h1, h2, h3⟩ := f3sV_get h
  match m, hm with
  | 0, _ => exact h1
  | 1, _ => exact h2
  | 2, _ => exact h3
theorem open_steps {fuel : Nat} {v : Value} {x : DataW H × List MemPlace} (h : DataW.trod enc Try.prog w base spare held fuel 41 [v] = some x) :
    ∃ l : List F3, StepsR (init w) v l := by
  rcases open_slice_fields Try.underlying41 Try.underlying69 (by kernel_rfl) (by kernel_rfl) h with ⟨hc, _⟩ | ⟨a, len, cap, m, D, Pl, hc, _, hl, _, hmm, _, hi⟩
  · simp only [List.cons.injEq, and_true] at hc
    subst hc
    exact ⟨[], none, 0, rfl, Nat.le_refl _, fun h => by simp at h⟩
  · simp only [List.cons.injEq, and_true] at hc
    subst hc
    have key : ∀ i, ∃ y : F3, i < len → ∀ j u, [i64 y.1, i64 y.2.1, i64 y.2.2][j]? = some u → w.cell? (a.add (i * 3 + j)) = some u := by
      intro i
      by_cases hil : i < len
      · obtain ⟨ys, n, _, _, _, hf⟩ := hi i (by rw [hmm]; split <;> omega)
        obtain ⟨u0, y0, a0, _, t0⟩ := hf 0 _ rfl
        obtain ⟨u1, y1, a1, _, t1⟩ := hf 1 _ rfl
        obtain ⟨u2, y2, a2, _, t2⟩ := hf 2 _ rfl
        obtain ⟨k0, hk0, _⟩ := DataW.trod_int Try.underlying3 t0
        obtain ⟨k1, hk1, _⟩ := DataW.trod_int Try.underlying3 t1
        obtain ⟨k2, hk2, _⟩ := DataW.trod_int Try.underlying3 t2
        simp only [List.cons.injEq, and_true] at hk0 hk1 hk2
        subst hk0 hk1 hk2
        refine ⟨(k0, k1, k2), fun _ j u hj => ?_⟩
        match j, hj with
        | 0, hj => simp at hj; subst hj; exact a0
        | 1, hj => simp at hj; subst hj; exact a1
        | 2, hj => simp at hj; subst hj; exact a2
      · exact ⟨(0, 0, 0), fun h => absurd h hil⟩
    obtain ⟨f, hf⟩ := Classical.axiomOfChoice key
    have hlen : ((List.range len).map f).length = len := by simp
    have hget : ∀ k, k < len → ((List.range len).map f)[k]? = some (f k) := fun k hk => by rw [List.getElem?_map, List.getElem?_range hk]; rfl
    refine ⟨(List.range len).map f, some a, cap, by rw [hlen], by rw [hlen]; exact hl, fun hpos => ?_⟩
    rw [hlen] at hpos
    obtain ⟨b, o, sp⟩ := a
    have hsp : sp = none := by
      have := hf 0 hpos 0 _ rfl
      simpa [Addr.add] using World.cell?_spot this
    subst hsp
    refine ⟨b, o, rfl, fun j u hj => ?_⟩
    have hjl : j < len * 3 := by
      have := (List.getElem?_eq_some_iff.1 hj).1
      rw [f3sV_len, hlen] at this; exact this
    have hg := f3sV_at (hget (j / 3) (by omega)) (Nat.mod_lt j (by decide : 0 < 3))
    have hh := hf (j / 3) (by omega) (j % 3)
    rw [show j / 3 * 3 + j % 3 = j by omega] at hg hh
    rw [hg] at hj
    have hc := hh u hj
    rw [add_plain] at hc
    exact Rd.init hc
end
end Go.Proofs.Ytjokibfldngkeaa
