/-
  least.closed, Empty, Fruitful.
-/
import Derived.Test.YtjokibfldngkeaaLG
namespace Go.Proofs.Ytjokibfldngkeaa
open Go
attribute [local irreducible] G GO GR GT Fn FnV pt init exs pur sat own ImpS
theorem okC_in {C : CnfD} (h : okC C = true) : (1 ≤ C.nts ∧ C.nts ≤ 1024) ∧ ∀ p ∈ C.prods, prodIn C.nts p := by
  unfold okC at h
  simp only [Bool.and_eq_true, List.all_eq_true, Bool.not_eq_true', Bool.or_eq_false_iff, decide_eq_false_iff_not] at h
  obtain ⟨⟨h1, h2⟩, h3⟩ := h
  refine ⟨⟨by omega, by omega⟩, fun p hp => ?_⟩
  have := h3 p hp
  rw [prodOK_split] at this
  simp only [Bool.and_eq_true, decide_eq_true_eq, List.all_eq_true] at this
  refine ⟨this.1, fun s hs hl => ?_⟩
  have := this.2 s hs
  unfold symOK at this
  rw [hl] at this
  simp at this
  omega
def falses (o : Nat → Bool) (n : Nat) : Nat := (List.range n).countP fun i => !o i
theorem falses_lt {o : Nat → Bool} {n k : Nat} (hk : k < n) (ho : o k = false) : falses (upd o k true) n < falses o n := by
  have := countP_upd (f := fun i => !o i) (g := fun i => !(upd o k true) i) (i := k) (by simp [ho]) (by simp [upd]) (fun j hj => by simp [upd, hj]) (List.range n) List.nodup_range (by simpa using hk)
  unfold falses; omega
/-- What closed answers. -/
def CloR (C : CnfD) (lb : Bool) (q : HP) (r : Value) (Q : List HP) : Prop :=
  (okC C = true ∧ ∃ b o, r = .tuple [.slice (some ⟨b, 0, none⟩) C.nts.toNat C.nts.toNat, i64 0].toArray ∧ Reach (cloStep lb) C.prods (fun _ => false) o ∧ (∀ p ∈ C.prods, (cloStep lb o p).2 = false) ∧ Q = [pt b (row (boolsV o C.nts.toNat) 4), q]) ∨
  (okC C = false ∧ r = .tuple [.slice none 0 0, i64 220].toArray ∧ Q = [q])
end Go.Proofs.Ytjokibfldngkeaa
