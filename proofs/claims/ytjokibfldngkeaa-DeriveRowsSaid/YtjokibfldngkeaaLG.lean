/-
  least.closed: which nonterminals have a body that has something throughout.
-/
import Derived.Test.YtjokibfldngkeaaLF
import Derived.Test.YtjokibfldngkeaaZ
namespace Go.Proofs.Ytjokibfldngkeaa
open Go
attribute [local irreducible] G GO GR GT Fn FnV pt init exs pur sat own ImpS
/-- Has a symbol something? (Labels have it or not.) -/
def symHas (o : Nat → Bool) (lb : Bool) (s : SymD) : Bool := if s.1 then lb else o s.2.toNat
/-- The symbols' numbers are nonterminals'. -/
def symIn (n : Int) (s : SymD) : Prop := s.1 = false → 0 ≤ s.2 ∧ s.2 < n
abbrev allM (o : Nat → Bool) (lb : Bool) (n : Nat) (bo b4 b5 : Nat) : List HP :=
  [pt b5 (row [.bool lb] 4), pt b4 (row [.slice (some ⟨bo, 0, none⟩) n n] 64), pt bo (row (boolsV o n) 4)]
theorem any_all (o : Nat → Bool) (lb : Bool) (ss : List SymD) : (!ss.any fun s => !symHas o lb s) = ss.all (symHas o lb) := by
  induction ss with
  | nil => rfl
  | cons s ss ih => simp only [List.any_cons, List.all_cons, ← ih]; cases symHas o lb s <;> simp
/-- One production lets a nonterminal have something. -/
def cloStep (lb : Bool) (o : Nat → Bool) (p : ProdD) : (Nat → Bool) × Bool :=
  if o p.1.toNat || !p.2.all (symHas o lb) then (o, false) else (upd o p.1.toNat true, true)
abbrev cloM (lb : Bool) (n bo b3 b7 : Nat) (o : Nat → Bool) : List HP :=
  [pt b7 (row [.slice (some ⟨bo, 0, none⟩) n n] 64), pt b3 (row [.bool lb] 4), pt bo (row (boolsV o n) 4)]
def prodIn (n : Int) (p : ProdD) : Prop := (0 ≤ p.1 ∧ p.1 < n) ∧ ∀ s ∈ p.2, symIn n s
end Go.Proofs.Ytjokibfldngkeaa
