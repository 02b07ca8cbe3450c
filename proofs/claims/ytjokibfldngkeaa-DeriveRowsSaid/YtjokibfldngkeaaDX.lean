/-
  Derivations of words put behind one another. Plain.
-/
import Derived.Test.YtjokibfldngkeaaDB
namespace Go.Proofs.Ytjokibfldngkeaa
open Go
theorem Der.more {C : CnfD} {w : List Int} (v : List Int) {A : Int} {i j : Nat} (h : Der C w A i j) : Der C (w ++ v) A i j := by
  induction h with
  | none h hi => exact .none h (by rw [List.length_append]; omega)
  | one h hi =>
    have hlt := (List.getElem?_eq_some_iff.1 hi).1
    exact .one h (by rw [List.getElem?_append_left hlt]; exact hi)
  | two h _ _ ih1 ih2 => exact .two h ih1 ih2
theorem Der.shift {C : CnfD} {w : List Int} (u : List Int) {A : Int} {i j : Nat} (h : Der C w A i j) : Der C (u ++ w) A (u.length + i) (u.length + j) := by
  induction h with
  | none h hi => exact .none h (by rw [List.length_append]; omega)
  | one h hi =>
    refine .one h ?_
    rw [List.getElem?_append_right (Nat.le_add_right _ _), Nat.add_sub_cancel_left]
    exact hi
  | two h _ _ ih1 ih2 => exact .two h ih1 ih2
/-- Two words of a body's two nonterminals are, one behind the other, a word of its head. -/
theorem Der.cat {C : CnfD} {u v : List Int} {A : Int} {s t : SymD} (h : (A, [s, t]) ∈ C.prods) (h1 : Der C u s.2 0 u.length) (h2 : Der C v t.2 0 v.length) : Der C (u ++ v) A 0 (u ++ v).length := by
  rw [List.length_append]
  exact .two h (h1.more v) (h2.shift u)
/-- A number for each nonterminal that no body goes below is below each word's length. -/
theorem Der.short {C : CnfD} {w : List Int} {S : Int → Int}
    (h0 : ∀ A, (A, []) ∈ C.prods → 0 ≤ S A ∧ S A ≤ 0) (h1 : ∀ A s, (A, [s]) ∈ C.prods → 0 ≤ S A ∧ S A ≤ 1)
    (h2 : ∀ A s t, (A, [s, t]) ∈ C.prods → 0 ≤ S s.2 → 0 ≤ S t.2 → 0 ≤ S A ∧ S A ≤ S s.2 + S t.2) {A : Int} {i j : Nat} (h : Der C w A i j) : 0 ≤ S A ∧ S A ≤ ((j : Int) - (i : Int)) := by
  induction h with
  | none h hi => have := h0 _ h; omega
  | one h hi => have := h1 _ _ h; omega
  | two h _ _ ih1 ih2 => have := h2 _ _ _ h ih1.1 ih2.1; omega
end Go.Proofs.Ytjokibfldngkeaa
