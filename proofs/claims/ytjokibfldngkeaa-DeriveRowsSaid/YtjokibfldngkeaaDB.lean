/-
  What productions derive, of a word's pieces; a table of facts that is closed holds just that. Plain.
-/
import Derived.Test.YtjokibfldngkeaaDA
import Derived.Test.YtjokibfldngkeaaLC
namespace Go.Proofs.Ytjokibfldngkeaa
open Go
/-- By bodies of at most two symbols: which piece of a word a nonterminal derives. -/
inductive Der (C : CnfD) (w : List Int) : Int → Nat → Nat → Prop
  | none {A : Int} {i : Nat} (h : (A, []) ∈ C.prods) (hi : i ≤ w.length) : Der C w A i i
  | one {A : Int} {s : SymD} {i : Nat} (h : (A, [s]) ∈ C.prods) (hi : w[i]? = some s.2) : Der C w A i (i + 1)
  | two {A : Int} {s t : SymD} {i j k : Nat} (h : (A, [s, t]) ∈ C.prods) (h1 : Der C w s.2 i k) (h2 : Der C w t.2 k j) : Der C w A i j
theorem Der.le {C : CnfD} {w : List Int} {A : Int} {i j : Nat} (h : Der C w A i j) : i ≤ j ∧ j ≤ w.length := by
  induction h with
  | none _ hi => exact ⟨Nat.le_refl _, hi⟩
  | one _ hi => exact ⟨Nat.le_succ _, (List.getElem?_eq_some_iff.1 hi).1⟩
  | two _ _ _ ih1 ih2 => exact ⟨Nat.le_trans ih1.1 ih2.1, ih2.2⟩
theorem Der.head {C : CnfD} {w : List Int} {A : Int} {i j : Nat} (h : Der C w A i j) : ∃ b, (A, b) ∈ C.prods := by
  cases h with
  | none h _ => exact ⟨_, h⟩
  | one h _ => exact ⟨_, h⟩
  | two h _ _ => exact ⟨_, h⟩
def factV (A : Int) (i j : Nat) : F3 := (A, (i : Nat), (j : Nat))
/-- All facts of a table hold. -/
def Sound (C : CnfD) (w : List Int) (fs : List F3) : Prop := ∀ f ∈ fs, ∃ A i j, f = factV A i j ∧ Der C w A i j
/-- The facts of the bodies without nonterminals are there. -/
def BaseP (w : List Int) (p : ProdD) (fs : List F3) : Prop :=
  (p.2 = [] → ∀ i, i ≤ w.length → factV p.1 i i ∈ fs) ∧ (∀ s, p.2 = [s] → ∀ i, w[i]? = some s.2 → factV p.1 i (i + 1) ∈ fs)
/-- What a fact makes with those that are there is there. -/
def JoinP (p : ProdD) (A : Int) (i j : Nat) (fs gs : List F3) : Prop :=
  ∀ s t, p.2 = [s, t] → (s.2 = A → ∀ k, factV t.2 j k ∈ fs → factV p.1 i k ∈ gs) ∧ (t.2 = A → ∀ k, factV s.2 k i ∈ fs → factV p.1 k j ∈ gs)
def JoinC (C : CnfD) (f : F3) (fs gs : List F3) : Prop := ∀ A i j, f = factV A i j → ∀ p ∈ C.prods, JoinP p A i j fs gs
theorem factV_inj {A B : Int} {i j k l : Nat} (h : factV A i j = factV B k l) : A = B ∧ i = k ∧ j = l := by
  unfold factV at h
  simp only [Prod.mk.injEq] at h
  omega
theorem closed_der {C : CnfD} {w : List Int} {fs : List F3} (hb : ∀ p ∈ C.prods, BaseP w p fs)
    (hj : ∀ p ∈ C.prods, ∀ s t, p.2 = [s, t] → ∀ i k j, factV s.2 i k ∈ fs → factV t.2 k j ∈ fs → factV p.1 i j ∈ fs) {A : Int} {i j : Nat} (h : Der C w A i j) : factV A i j ∈ fs := by
  induction h with
  | none h hi => exact (hb _ h).1 rfl _ hi
  | one h hi => exact (hb _ h).2 _ rfl _ hi
  | two h _ _ ih1 ih2 => exact hj _ h _ _ rfl _ _ _ ih1 ih2
/-- The facts that there may be. -/
def univL (n m : Nat) : List F3 := (List.range n).flatMap fun a => (List.range (m + 1)).flatMap fun i => (List.range (m + 1)).map fun j => factV (a : Nat) i j
theorem univL_len (n m : Nat) : (univL n m).length = n * ((m + 1) * (m + 1)) := by
  have h1 : ∀ (l : List Nat) (f : Nat → List F3) (k : Nat), (∀ x ∈ l, (f x).length = k) → (l.flatMap f).length = l.length * k := by
    intro l f k
    induction l with
    | nil => intro _; simp
    | cons x l ih =>
      intro h
      rw [List.flatMap_cons, List.length_append, h x (List.mem_cons_self ..), ih (fun y hy => h y (List.mem_cons_of_mem _ hy)), List.length_cons, Nat.add_mul]; omega
  unfold univL
  rw [h1 _ _ ((m + 1) * (m + 1)) (fun a _ => by
    rw [h1 _ _ (m + 1) (fun i _ => by simp)]; simp)]
  simp
theorem mem_univ {n m A i j : Nat} (h : A < n) (hi : i ≤ m) (hj : j ≤ m) : factV (A : Nat) i j ∈ univL n m := by
  unfold univL
  simp only [List.mem_flatMap, List.mem_map, List.mem_range]
  exact ⟨A, h, i, by omega, j, by omega, rfl⟩
theorem nodup_len {α : Type} [DecidableEq α] : ∀ {l m : List α}, l.Nodup → (∀ x ∈ l, x ∈ m) → l.length ≤ m.length
  | [], m, _, _ => Nat.zero_le _
  | a :: l, m, hn, hs => by
    rw [List.nodup_cons] at hn
    have ha := hs a (List.mem_cons_self ..)
    have h1 : l.length ≤ (m.erase a).length := nodup_len hn.2 fun x hx => by
      rw [List.mem_erase_of_ne (fun e => hn.1 (by rw [← e]; exact hx))]
      exact hs x (List.mem_cons_of_mem _ hx)
    rw [List.length_erase_of_mem ha] at h1
    have := List.length_pos_of_mem ha
    simp only [List.length_cons]; omega
theorem okC_nts {C : CnfD} (h : okC C = true) : 1 ≤ C.nts ∧ C.nts ≤ 1024 := by
  unfold okC at h
  simp only [Bool.and_eq_true, Bool.not_eq_true', Bool.or_eq_false_iff, decide_eq_false_iff_not] at h
  omega
theorem okC_prod {C : CnfD} (h : okC C = true) {p : ProdD} (hp : p ∈ C.prods) : 0 ≤ p.1 ∧ p.1 < C.nts := by
  unfold okC at h
  rw [Bool.and_eq_true] at h
  have h2 := List.all_eq_true.1 h.2 p hp
  unfold prodOK at h2
  simp only [Bool.and_eq_true, Bool.not_eq_true', Bool.or_eq_false_iff, decide_eq_false_iff_not] at h2
  omega
theorem sound_len {C : CnfD} {w : List Int} {fs : List F3} (hC : okC C = true) (hs : Sound C w fs) (hn : fs.Nodup) : fs.length ≤ C.nts.toNat * ((w.length + 1) * (w.length + 1)) := by
  rw [← univL_len]
  refine nodup_len hn fun f hf => ?_
  obtain ⟨A, i, j, rfl, hd⟩ := hs f hf
  obtain ⟨b, hb⟩ := hd.head
  have h1 := okC_prod hC hb
  dsimp only at h1
  have h2 := hd.le
  obtain ⟨a, rfl⟩ := Int.eq_ofNat_of_zero_le h1.1
  exact mem_univ (by omega) (by omega) (by omega)
/-- A fact that is new is added. -/
def addF (fs : List F3) (f : F3) : List F3 := if f ∈ fs then fs else fs ++ [f]
theorem addF_mem {fs : List F3} {f g : F3} : g ∈ addF fs f ↔ g ∈ fs ∨ g = f := by
  unfold addF
  split
  · rename_i h
    constructor
    · exact .inl
    · rintro (h1 | rfl)
      · exact h1
      · exact h
  · simp
theorem addF_nodup {fs : List F3} (h : fs.Nodup) (f : F3) : (addF fs f).Nodup := by
  unfold addF
  split
  · exact h
  · rename_i hf
    rw [List.nodup_append]
    exact ⟨h, by simp, fun a ha b hb => by simp at hb; subst hb; exact fun e => hf (e ▸ ha)⟩
theorem addF_pre (fs : List F3) (f : F3) : ∃ t, addF fs f = fs ++ t := by
  unfold addF
  split
  · exact ⟨[], by simp⟩
  · exact ⟨[f], rfl⟩
theorem addF_sound {C : CnfD} {w : List Int} {fs : List F3} (h : Sound C w fs) {A : Int} {i j : Nat} (hd : Der C w A i j) : Sound C w (addF fs (factV A i j)) := fun f hf => by
  rcases addF_mem.1 hf with h1 | rfl
  · exact h f h1
  · exact ⟨A, i, j, rfl, hd⟩
theorem JoinP.mono {p : ProdD} {A : Int} {i j : Nat} {fs gs hs : List F3} (h : JoinP p A i j fs gs) (k : ∀ x ∈ gs, x ∈ hs) : JoinP p A i j fs hs := fun s t e =>
  ⟨fun h1 n hn => k _ ((h s t e).1 h1 n hn), fun h1 n hn => k _ ((h s t e).2 h1 n hn)⟩
theorem BaseP.mono {w : List Int} {p : ProdD} {fs gs : List F3} (h : BaseP w p fs) (k : ∀ x ∈ fs, x ∈ gs) : BaseP w p gs :=
  ⟨fun e i hi => k _ (h.1 e i hi), fun s e i hi => k _ (h.2 s e i hi)⟩
end Go.Proofs.Ytjokibfldngkeaa
