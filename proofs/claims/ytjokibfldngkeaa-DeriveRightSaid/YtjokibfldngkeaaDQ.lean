/-
  The engine's right: how many steps the derivation has with which a list begins.
-/
import Derived.Test.YtjokibfldngkeaaDP
namespace Go.Proofs.Ytjokibfldngkeaa
open Go
theorem ders_head {C : CnfD} {w : List Int} {A : Int} {i j : Nat} {f : F3} {r u v : List F3} (e : f :: r = u ++ v) (h : DerS C w A i j u) : ∃ (p : Nat) (b : List SymD), f = stp p i j ∧ C.prods[p]? = some (A, b) := by
  obtain ⟨p, b, r', hp, rfl, _⟩ := h.inv
  injection e with e _
  exact ⟨p, b, e, hp⟩
theorem right_no {C : CnfD} {w : List Int} {A : Int} {i j : Nat} {f : F3} {r : List F3} (h : ∀ (p : Nat) (b : List SymD), f = stp p i j → C.prods[p]? = some (A, b) → False) : RightR C w A i j (f :: r) 0 :=
  .inr ⟨rfl, fun u v e hd => let ⟨p, b, e1, e2⟩ := ders_head e hd; h p b e1 e2⟩
/-- What a derivation's first production says of the rest. -/
theorem ders_rest {C : CnfD} {w : List Int} {A : Int} {i j p : Nat} {b : List SymD} {r u v : List F3} (hp : C.prods[p]? = some (A, b)) (e : stp p i j :: r = u ++ v) (h : DerS C w A i j u) :
    (b = [] ∧ i = j ∧ i ≤ w.length ∧ u = [stp p i j]) ∨ (∃ s, b = [s] ∧ j = i + 1 ∧ w[i]? = some s.2 ∧ u = [stp p i j]) ∨
    (∃ s t k x y, b = [s, t] ∧ u = stp p i j :: (x ++ y) ∧ r = x ++ (y ++ v) ∧ DerS C w s.2 i k x ∧ DerS C w t.2 k j y) := by
  obtain ⟨p', b', r', hp', rfl, h3⟩ := h.inv
  rw [List.cons_append] at e
  injection e with e1 e2
  simp only [stp, Prod.mk.injEq] at e1
  have e3 := Int.ofNat.inj e1.1
  subst e3
  rw [hp] at hp'
  injection hp' with hp'
  injection hp' with _ hb
  subst hb
  rcases h3 with ⟨h1, h2, h4, rfl⟩ | ⟨s, h1, h2, h4, rfl⟩ | ⟨s, t, k, x, y, h1, rfl, h4, h5⟩
  · exact .inl ⟨h1, h2, h4, rfl⟩
  · exact .inr (.inl ⟨s, h1, h2, h4, rfl⟩)
  · exact .inr (.inr ⟨s, t, k, x, y, h1, rfl, by rw [e2, List.append_assoc], h4, h5⟩)
theorem right_two {C : CnfD} {w : List Int} {A : Int} {i j k p n1 n2 : Nat} {s t : SymD} {r : List F3} {gp gf : Int} {r' : List F3} (hp : C.prods[p]? = some (A, [s, t])) (hr : r = (gp, gf, ((k : Nat) : Int)) :: r') (h1 : RightR C w s.2 i k r n1) (hn : 0 < n1) (h2 : RightR C w t.2 k j (r.drop n1) n2) :
    RightR C w A i j (stp p i j :: r) (if n2 = 0 then 0 else 1 + n1 + n2) := by
  rcases h1 with ⟨_, x, y, hxy, hx, d1⟩ | ⟨h0, _⟩
  · have hdr : r.drop n1 = y := by rw [hxy, ← hx, List.drop_left]
    rw [hdr] at h2
    rcases h2 with ⟨h3, x2, y2, hy, hx2, d2⟩ | ⟨rfl, h3⟩
    · rw [if_neg (by omega)]
      refine .inl ⟨by omega, stp p i j :: (x ++ x2), y2, ?_, ?_, .two hp d1 d2⟩
      · rw [hxy, hy]; simp
      · simp; omega
    · rw [if_pos rfl]
      refine .inr ⟨rfl, fun u v e hd => ?_⟩
      rcases ders_rest hp e hd with ⟨hb, _⟩ | ⟨s', hb, _⟩ | ⟨s', t', k', x', y', hb, _, hr2, g1, g2⟩
      · cases hb
      · cases hb
      · injection hb with e1 hb
        injection hb with e2 _
        subst e1 e2
        obtain ⟨_, _, _, _, hx', _⟩ := g1.inv
        have ek := hr2
        rw [hr, hx', List.cons_append] at ek
        injection ek with ek _
        simp only [stp, Prod.mk.injEq] at ek
        have ekk := Int.ofNat.inj ek.2.2
        subst ekk
        have eq := d1.uniq g1 (hxy.symm.trans hr2)
        subst eq
        exact h3 y' v (List.append_cancel_left (hxy.symm.trans hr2)) g2
  · omega
theorem right_one0 {C : CnfD} {w : List Int} {A : Int} {i j k p : Nat} {s t : SymD} {r : List F3} {gp gf : Int} {r' : List F3} (hp : C.prods[p]? = some (A, [s, t])) (hr : r = (gp, gf, ((k : Nat) : Int)) :: r') (h1 : RightR C w s.2 i k r 0) : RightR C w A i j (stp p i j :: r) 0 := by
  rcases h1 with ⟨h0, _⟩ | ⟨_, h1⟩
  · omega
  · refine .inr ⟨rfl, fun u v e hd => ?_⟩
    rcases ders_rest hp e hd with ⟨hb, _⟩ | ⟨s', hb, _⟩ | ⟨s', t', k', x', y', hb, _, hr2, g1, g2⟩
    · cases hb
    · cases hb
    · injection hb with e1 hb
      injection hb with e2 _
      subst e1 e2
      obtain ⟨_, _, _, _, hx', _⟩ := g1.inv
      have ek := hr2
      rw [hr, hx', List.cons_append] at ek
      injection ek with ek _
      simp only [stp, Prod.mk.injEq] at ek
      have ekk := Int.ofNat.inj ek.2.2
      subst ekk
      exact h1 _ _ hr2 g1
/-- No second step that fits. -/
theorem right_bad2 {C : CnfD} {w : List Int} {A : Int} {i j p : Nat} {s t : SymD} {r : List F3} (hp : C.prods[p]? = some (A, [s, t])) (h : ∀ (gp : Int) (k : Nat) (r' : List F3), r = (gp, (i : Int), (k : Int)) :: r' → i ≤ k → k ≤ j → False) : RightR C w A i j (stp p i j :: r) 0 := by
  refine .inr ⟨rfl, fun u v e hd => ?_⟩
  rcases ders_rest hp e hd with ⟨hb, _⟩ | ⟨s', hb, _⟩ | ⟨s', t', k', x', y', hb, _, hr2, g1, g2⟩
  · cases hb
  · cases hb
  · obtain ⟨_, _, _, _, hx', _⟩ := g1.inv
    rw [hx', List.cons_append] at hr2
    exact h _ _ _ hr2 g1.le.1 g2.le.1
theorem right_bad {C : CnfD} {w : List Int} {A : Int} {i j p : Nat} {s t : SymD} {r : List F3} (hp : C.prods[p]? = some (A, [s, t])) (h : ∀ (gp gf : Int) (k : Nat) (r' : List F3), r = (gp, gf, (k : Int)) :: r' → i ≤ k → k ≤ j → False) : RightR C w A i j (stp p i j :: r) 0 :=
  right_bad2 hp fun gp k r' e => h gp _ k r' e
/-- How many steps are left, by how many there are. -/
def leftN (l : List F3) (n : Nat) : Int := if n = 0 then -1 else (l.length : Int) - (n : Int)
attribute [local irreducible] G GO GR GT Fn FnV pt init exs pur sat own ImpS f3sV symsV wordV
/-- What right is asked for. -/
def RightS (q : HP) (C : CnfD) (w : List Int) (pv wv : Value) (l : List F3) (lv : Value) : Prop := ∀ (A : Int) (i j : Nat), i ≤ j → j ≤ w.length →
  Fn Try.prog 32 #[.agg #[i64 C.nts, pv], i64 A, wv, lv, i64 (i : Nat), i64 (j : Nat)] [q] (fun r Q => ∃ n : Nat, r = i64 (n : Nat) ∧ RightR C w A i j l n ∧ Q = [q])
/-- What Left is asked for. -/
def LeftS (q : HP) (C : CnfD) (w : List Int) (pv wv : Value) (l : List F3) (lv : Value) : Prop := ∀ (A : Int) (i j : Nat), i ≤ j → j ≤ w.length →
  Fn Try.prog 22 #[.agg #[i64 C.nts, pv], i64 A, wv, lv, i64 (i : Nat), i64 (j : Nat)] [q] (fun r Q => ∃ n : Nat, r = i64 (leftN l n) ∧ RightR C w A i j l n ∧ Q = [q])
end Go.Proofs.Ytjokibfldngkeaa
