/-
  The engine's Close, and the law BlockLeast.
-/
import Derived.Test.YtpfcgfgkmgnaaaaDoorKL
namespace Go.Proofs.YtpfcgfgkmgnaaaaDoor
open Go
attribute [local irreducible] G GO GQ Fn pt init exs pur sat

/-! ## Close -/
/-! ## What is reached -/
inductive Pth (A : Blk) (n : Nat) : Nat → Nat → Prop
  | one {r j : Nat} : (A r).getLsbD j = true → Pth A n r j
  | via {r m j : Nat} : Pth A n r m → m < n → Pth A n m j → Pth A n r j
theorem Pth.more {A : Blk} {n r j : Nat} (h : Pth A n r j) : Pth A (n + 1) r j := by
  induction h with
  | one h => exact .one h
  | via _ h _ a b => exact .via a (by omega) b
theorem Pth.succ {A : Blk} {n r j : Nat} : Pth A (n + 1) r j ↔ Pth A n r j ∨ (Pth A n r n ∧ Pth A n n j) := by
  constructor
  · intro h
    induction h with
    | one h => exact .inl (.one h)
    | @via r m j _ hm _ a b =>
      by_cases e : m = n
      · subst e
        refine .inr ⟨?_, ?_⟩
        · rcases a with a | a
          · exact a
          · exact a.1
        · rcases b with b | b
          · exact b
          · exact b.2
      · have hm' : m < n := by omega
        rcases a with a | ⟨a1, a2⟩ <;> rcases b with b | ⟨b1, b2⟩
        · exact .inl (.via a hm' b)
        · exact .inr ⟨.via a hm' b1, b2⟩
        · exact .inr ⟨a1, .via a2 hm' b⟩
        · exact .inr ⟨a1, b2⟩
  · rintro (h | ⟨h1, h2⟩)
    · exact h.more
    · exact .via h1.more (by omega) h2.more
/-! ## The walk from a row -/
def leB (x y : BitVec 64) : Prop := ∀ j, j < 64 → x.getLsbD j = true → y.getLsbD j = true
theorem leB.refl (x : BitVec 64) : leB x x := fun _ _ h => h
theorem leB.trans {x y z : BitVec 64} (a : leB x y) (b : leB y z) : leB x z := fun j hj h => b j hj (a j hj h)
/-! How many bits. -/
def cnt (x : BitVec 64) : Nat → Nat
  | 0 => 0
  | n + 1 => cnt x n + (if x.getLsbD n then 1 else 0)
end Go.Proofs.YtpfcgfgkmgnaaaaDoor
