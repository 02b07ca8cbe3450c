/-
  Derivations as lists of steps; slices of steps.
-/
import Derived.Test.YtjokibfldngkeaaDM
namespace Go.Proofs.Ytjokibfldngkeaa
open Go
/-- A step. -/
abbrev stp (p i j : Nat) : F3 := ((p : Int), (i : Int), (j : Int))
inductive DerS (C : CnfD) (w : List Int) : Int → Nat → Nat → List F3 → Prop
  | none {p : Nat} {A : Int} {i : Nat} (hp : C.prods[p]? = some (A, [])) (hi : i ≤ w.length) : DerS C w A i i [stp p i i]
  | one {p : Nat} {A : Int} {s : SymD} {i : Nat} (hp : C.prods[p]? = some (A, [s])) (hi : w[i]? = some s.2) : DerS C w A i (i + 1) [stp p i (i + 1)]
  | two {p : Nat} {A : Int} {s t : SymD} {i j k : Nat} {u v : List F3} (hp : C.prods[p]? = some (A, [s, t])) (h1 : DerS C w s.2 i k u) (h2 : DerS C w t.2 k j v) : DerS C w A i j (stp p i j :: (u ++ v))
theorem DerS.inv {C : CnfD} {w : List Int} {A : Int} {i j : Nat} {u : List F3} (h : DerS C w A i j u) :
    ∃ (p : Nat) (b : List SymD) (r : List F3), C.prods[p]? = some (A, b) ∧ u = stp p i j :: r ∧
      ((b = [] ∧ i = j ∧ i ≤ w.length ∧ r = []) ∨ (∃ s, b = [s] ∧ j = i + 1 ∧ w[i]? = some s.2 ∧ r = []) ∨ (∃ s t k x y, b = [s, t] ∧ r = x ++ y ∧ DerS C w s.2 i k x ∧ DerS C w t.2 k j y)) := by
  cases h with
  | none hp hi => exact ⟨_, _, _, hp, rfl, .inl ⟨rfl, rfl, hi, rfl⟩⟩
  | one hp hi => exact ⟨_, _, _, hp, rfl, .inr (.inl ⟨_, rfl, rfl, hi, rfl⟩)⟩
  | two hp h1 h2 => exact ⟨_, _, _, hp, rfl, .inr (.inr ⟨_, _, _, _, _, rfl, rfl, h1, h2⟩)⟩
theorem DerS.le {C : CnfD} {w : List Int} {A : Int} {i j : Nat} {u : List F3} (h : DerS C w A i j u) : i ≤ j ∧ j ≤ w.length := by
  induction h with
  | none _ hi => exact ⟨Nat.le_refl _, hi⟩
  | one _ hi => exact ⟨Nat.le_succ _, (List.getElem?_eq_some_iff.1 hi).1⟩
  | two _ _ _ ih1 ih2 => exact ⟨Nat.le_trans ih1.1 ih2.1, ih2.2⟩
theorem DerS.uniq {C : CnfD} {w : List Int} {A : Int} {i j : Nat} {u : List F3} (h : DerS C w A i j u) : ∀ {u' v v' : List F3}, DerS C w A i j u' → u ++ v = u' ++ v' → u = u' := by
  induction h with
  | none hp hi =>
    intro u' v v' h' e
    obtain ⟨p', b, r, hp', rfl, h3⟩ := h'.inv
    simp only [List.cons_append, List.cons.injEq, stp, Prod.mk.injEq] at e
    obtain ⟨⟨e1, _⟩, _⟩ := e
    have e1 := Int.ofNat.inj e1
    subst e1
    rw [hp] at hp'
    injection hp' with hp'
    injection hp' with _ hb
    subst hb
    rcases h3 with ⟨_, _, _, rfl⟩ | ⟨s, hb, _⟩ | ⟨s, t, k, x, y, hb, _⟩
    · rfl
    · cases hb
    · cases hb
  | one hp hi =>
    intro u' v v' h' e
    obtain ⟨p', b, r, hp', rfl, h3⟩ := h'.inv
    simp only [List.cons_append, List.cons.injEq, stp, Prod.mk.injEq] at e
    obtain ⟨⟨e1, _⟩, _⟩ := e
    have e1 := Int.ofNat.inj e1
    subst e1
    rw [hp] at hp'
    injection hp' with hp'
    injection hp' with _ hb
    subst hb
    rcases h3 with ⟨hb, _⟩ | ⟨s, hb, _, _, rfl⟩ | ⟨s, t, k, x, y, hb, _⟩
    · cases hb
    · rfl
    · cases hb
  | two hp h1 h2 ih1 ih2 =>
    intro u' v v' h' e
    obtain ⟨p', b, r, hp', rfl, h3⟩ := h'.inv
    simp only [List.cons_append, List.cons.injEq, stp, Prod.mk.injEq] at e
    obtain ⟨⟨e1, _⟩, e2⟩ := e
    have e1 := Int.ofNat.inj e1
    subst e1
    rw [hp] at hp'
    injection hp' with hp'
    injection hp' with _ hb
    subst hb
    rcases h3 with ⟨hb, _⟩ | ⟨s, hb, _⟩ | ⟨s', t', k', x, y, hb, rfl, g1, g2⟩
    · cases hb
    · cases hb
    · injection hb with a1 hb
      injection hb with a2 _
      subst a1 a2
      rw [List.append_assoc, List.append_assoc] at e2
      obtain ⟨_, _, _, _, hu, _⟩ := h1.inv
      obtain ⟨_, _, _, _, hx, _⟩ := g1.inv
      have ek : _ := e2
      rw [hu, hx] at ek
      simp only [List.cons_append, List.cons.injEq, stp, Prod.mk.injEq] at ek
      have e3 := Int.ofNat.inj ek.1.2.2
      subst e3
      have e4 := ih1 g1 e2
      subst e4
      have e5 := ih2 g2 (List.append_cancel_left e2)
      rw [e5]
/-- How many steps the derivation has with which a list begins; 0: there is none. -/
def RightR (C : CnfD) (w : List Int) (A : Int) (i j : Nat) (l : List F3) (n : Nat) : Prop :=
  (0 < n ∧ ∃ u v, l = u ++ v ∧ u.length = n ∧ DerS C w A i j u) ∨ (n = 0 ∧ ∀ u v, l = u ++ v → ¬ DerS C w A i j u)
theorem RightR.le {C : CnfD} {w : List Int} {A : Int} {i j : Nat} {l : List F3} {n : Nat} (h : RightR C w A i j l n) : n ≤ l.length := by
  rcases h with ⟨_, u, v, rfl, rfl, _⟩ | ⟨rfl, _⟩
  · rw [List.length_append]; omega
  · exact Nat.zero_le _
theorem DerS.pos {C : CnfD} {w : List Int} {A : Int} {i j : Nat} {u : List F3} (h : DerS C w A i j u) : 0 < u.length := by
  obtain ⟨_, _, _, _, rfl, _⟩ := h.inv
  simp
theorem RightR.all {C : CnfD} {w : List Int} {A : Int} {i j : Nat} {l : List F3} {n : Nat} (h : RightR C w A i j l n) : (0 < l.length ∧ n = l.length) ↔ DerS C w A i j l := by
  constructor
  · rintro ⟨h1, h2⟩
    rcases h with ⟨_, u, v, rfl, h3, h4⟩ | ⟨h3, _⟩
    · have : v = [] := List.eq_nil_of_length_eq_zero (by rw [List.length_append] at h2; omega)
      subst this
      rw [List.append_nil]; exact h4
    · omega
  · intro hd
    refine ⟨hd.pos, ?_⟩
    rcases h with ⟨_, u, v, rfl, h3, h4⟩ | ⟨_, h3⟩
    · have := hd.uniq (v := []) (v' := v) h4 (by simp)
      rw [this]; exact h3.symm
    · exact absurd hd (h3 l [] (by simp))
/-- Steps, readable in q. -/
def StepsR (q : HP) (v : Value) (l : List F3) : Prop := ∃ a cap, v = .slice a l.length cap ∧ l.length ≤ cap ∧ (0 < l.length → ∃ b o, a = some ⟨b, o, none⟩ ∧ ∀ j u, (f3sV l)[j]? = some u → Rd q ⟨b, o + j, none⟩ u)
theorem StepsR.form {q : HP} {v : Value} {l : List F3} (h : StepsR q v l) : ∃ a cap, v = .slice a l.length cap ∧ l.length ≤ cap := let ⟨a, cap, e, h, _⟩ := h; ⟨a, cap, e, h⟩
theorem StepsR.sup {q q' : HP} (hs : Sup q q') {v : Value} {l : List F3} (h : StepsR q v l) : StepsR q' v l :=
  let ⟨a, cap, e, h1, h2⟩ := h; ⟨a, cap, e, h1, fun hn => let ⟨b, o, e2, h3⟩ := h2 hn; ⟨b, o, e2, fun j u hj => hs _ _ (h3 j u hj)⟩⟩
theorem StepsR.at {q : HP} {a : Option Addr} {n cap k : Nat} {l : List F3} {f : F3} (h : StepsR q (.slice a n cap) l) (hk : l[k]? = some f) :
    ∃ b o, a = some ⟨b, o, none⟩ ∧ n = l.length ∧ Rd q ⟨b, o + k * 3, none⟩ (i64 f.1) ∧ Rd q ⟨b, o + k * 3 + 1, none⟩ (i64 f.2.1) ∧ Rd q ⟨b, o + k * 3 + 2, none⟩ (i64 f.2.2) := by
  obtain ⟨a', cap', e, hl, hr⟩ := h
  injection e with e1 e2 e3
  subst e1 e2
  have hlt := (List.getElem?_eq_some_iff.1 hk).1
  obtain ⟨b, o, rfl, hr'⟩ := hr (by omega)
  obtain ⟨h1, h2, h3⟩ := f3sV_get hk
  exact ⟨b, o, rfl, rfl, hr' _ _ h1, hr' _ _ h2, hr' _ _ h3⟩
theorem f3sV_app (l m : List F3) : f3sV (l ++ m) = f3sV l ++ f3sV m := by simp [f3sV]
theorem StepsR.drop {q : HP} {a : Option Addr} {cap : Nat} {l : List F3} (h : StepsR q (.slice a l.length cap) l) {m : Nat} (hm : m ≤ l.length) :
    StepsR q (.slice (if cap = m then a else a.map (·.add (m * 3))) (l.length - m) (cap - m)) (l.drop m) := by
  obtain ⟨a', cap', e, hl, hr⟩ := h
  injection e with e1 e2 e3
  subst e1 e3
  refine ⟨_, _, by rw [List.length_drop], by rw [List.length_drop]; omega, fun hn => ?_⟩
  rw [List.length_drop] at hn
  obtain ⟨b, o, rfl, hr'⟩ := hr (by omega)
  rw [if_neg (by omega)]
  refine ⟨b, o + m * 3, by rw [Option.map_some, add_plain], fun j u hj => ?_⟩
  rw [Nat.add_assoc]
  refine hr' _ _ ?_
  have e : f3sV l = f3sV (l.take m) ++ f3sV (l.drop m) := by rw [← f3sV_app, List.take_append_drop]
  rw [e, List.getElem?_append_right (by rw [f3sV_len, List.length_take]; omega), f3sV_len, List.length_take, show m * 3 + j - min m l.length * 3 = j by omega]
  exact hj
theorem StepsR.clip {q : HP} {a : Option Addr} {cap : Nat} {l : List F3} (h : StepsR q (.slice a l.length cap) l) :
    StepsR q (.slice (if l.length = 0 then a else a.map (·.add (0 * 3))) l.length l.length) l := by
  obtain ⟨a', cap', e, hl, hr⟩ := h
  injection e with e1 e2 e3
  subst e1 e3
  refine ⟨_, _, rfl, Nat.le_refl _, fun hn => ?_⟩
  obtain ⟨b, o, rfl, hr'⟩ := hr hn
  rw [if_neg (by omega)]
  exact ⟨b, o, by rw [Option.map_some, add_plain, Nat.zero_mul, Nat.add_zero], hr'⟩
section
variable {P : Program} {c : Cx} {A : Array Oper} {rest : List Oper} {K : Kont} {L : Env} {H : List HP} {t : TypeId} {p : String} {e : Array Edge} {d : Nat}
/-- s[l:] of whatever slice. -/
theorem GO.sliceG {ty el : TypeId} {sz n cap : Nat} {a : Option Addr} (l : Nat) {kk : IntKind} {i : Int} {x y : Operand} [hu : UL P ty (.slice el)] [hs : SZ P el sz] (hN : Nat.blt d c.N = true) (hx : evl L x = some (.slice a n cap)) (hy : evl L y = some (.int kk i)) (hi : i = (l : Int) ∧ l ≤ n)
    (k : GO P c A rest K ((d, .slice (if cap = l then a else a.map (·.add (l * sz))) (n - l) (cap - l)) :: L) H) : GO P c A (⟨some d, .slice ty x (some y) none none, t, p, e, none⟩ :: rest) K L H :=
  GO.val hN rfl (fun s w Y h _ => by
    obtain ⟨rfl, h1⟩ := hi
    have hle : (l : Int) ≤ n := by omega
    simp only [execOp, h.eval hx, Option.map_none, Option.map_some, h.eval hy]
    simp [Instr.sliceAt, Instr.slice, Sem.run_bind, run_underlying hu.out, Instr.sliceBounds, run_sliceBound w _ _ _ _ (Int.natCast_nonneg l) hle, run_sizeOf_SZ, Result.andThen]) k
/-- s[:n:n] of whatever slice of the length n. -/
theorem GO.slice3 {ty el : TypeId} {sz n cap : Nat} {a : Option Addr} {kk kz : IntKind} {i j : Int} {x y z : Operand} [hu : UL P ty (.slice el)] [hs : SZ P el sz] (hN : Nat.blt d c.N = true) (hx : evl L x = some (.slice a n cap)) (hy : evl L y = some (.int kk i)) (hz : evl L z = some (.int kz j)) (hi : i = (n : Int) ∧ j = (n : Int) ∧ n ≤ cap)
    (k : GO P c A rest K ((d, .slice (if n = 0 then a else a.map (·.add (0 * sz))) n n) :: L) H) : GO P c A (⟨some d, .slice ty x none (some y) (some z), t, p, e, none⟩ :: rest) K L H :=
  GO.val hN rfl (fun s w Y h _ => by
    obtain ⟨rfl, rfl, h1⟩ := hi
    have hle : (n : Int) ≤ cap := by omega
    have hle2 : (n : Int) ≤ n := by omega
    simp only [execOp, h.eval hx, Option.map_none, Option.map_some, h.eval hy, h.eval hz]
    simp [Instr.sliceAt, Instr.slice, Sem.run_bind, run_underlying hu.out, Instr.sliceBounds, run_sliceBound w _ _ _ _ (Int.natCast_nonneg n) hle, run_sliceBound w _ _ _ _ (Int.natCast_nonneg n) hle2, run_sizeOf_SZ, Result.andThen]) k
end
attribute [local irreducible] G GO GR GT Fn FnV pt init exs pur sat own ImpS f3sV symsV wordV
theorem clip_spec (v : Value) (q : HP) (l : List F3) (h : StepsR q v l) : Fn Try.prog 31 #[v] [] (fun r Q => StepsR q r l ∧ Q = []) := by
  obtain ⟨a, cap, rfl, hc⟩ := h.form
  have hcl := h.clip
  refine Fn.mk2 Try.func31 rfl rfl fun w0 F => ?_
  (refine G.seq ?_; refine G.region ?_; refine GO.assign rfl rfl ?_; refine GO.nil ?_; refine kthen_n ?_; refine G.seq ?_; refine G.region ?_; refine GO.move rfl rfl ?_; refine GO.move rfl rfl ?_; refine GO.lenS rfl rfl ?_; refine GO.move rfl rfl ?_; refine GO.lenS rfl rfl ?_)
  refine GO.slice3 rfl rfl rfl rfl ⟨rfl, rfl, hc⟩ ?_
  (refine GO.assign rfl rfl ?_; refine GO.nil ?_; refine kthen_n ?_; refine G.ret ?_)
  refine KF2.r1 rfl (RV.t rfl) ⟨hcl, rfl⟩ (ImpS.sb ?_)
  (skip; (exact Sb.r))
end Go.Proofs.Ytjokibfldngkeaa
