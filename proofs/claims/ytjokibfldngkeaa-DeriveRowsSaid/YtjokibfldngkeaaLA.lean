/-
  Productions: as data, in memory; the reference's Copy.
-/
import Derived.Test.YtjokibfldngkeaaY
import Derived.Test.YtjokibfldngkeaaTy
namespace Go.Proofs.Ytjokibfldngkeaa
open Go
abbrev SymD := Bool × Int
abbrev ProdD := Int × List SymD
structure CnfD where
  nts : Int
  prods : List ProdD
def symsV (ss : List SymD) : List Value := ss.flatMap fun s => [.bool s.1, i64 s.2]
theorem symsV_len (ss : List SymD) : (symsV ss).length = ss.length * 2 := by
  induction ss with
  | nil => rfl
  | cons s ss ih => simp only [symsV, List.flatMap_cons, List.length_append, List.length_cons, List.length_nil] at ih ⊢; omega
theorem symsV_one (ss : List SymD) : ∀ u ∈ symsV ss, u.oneCell' = true := by
  intro u hu
  obtain ⟨s, _, h⟩ := List.mem_flatMap.1 hu
  simp at h
  rcases h with rfl | rfl <;> rfl
theorem symsV_get : ∀ {ss : List SymD} {k : Nat} {s : SymD}, ss[k]? = some s → (symsV ss)[k * 2]? = some (.bool s.1) ∧ (symsV ss)[k * 2 + 1]? = some (i64 s.2)
  | [], _, _, h => by simp at h
  | t :: ss, 0, s, h => by simp at h; subst h; simp [symsV]
  | t :: ss, k + 1, s, h => by
    have := symsV_get (ss := ss) (k := k) (by simpa using h)
    have e : symsV (t :: ss) = .bool t.1 :: i64 t.2 :: symsV ss := rfl
    rw [e, show (k + 1) * 2 = k * 2 + 2 by omega]
    simpa using this
/-- The value v is a list of symbols that can be read in q. -/
def SymsR (q : HP) (v : Value) (ss : List SymD) : Prop := Sl q v ss.length 2 (symsV ss)
/-- Likewise a list of productions. -/
def PrsR (q : HP) (v : Value) (ps : List ProdD) : Prop :=
  ∃ cells, Sl q v ps.length 2 cells ∧ ∀ k p, ps[k]? = some p → ∃ bv, cells[k * 2]? = some (i64 p.1) ∧ cells[k * 2 + 1]? = some bv ∧ SymsR q bv p.2
def CnfR (q : HP) (v : Value) (C : CnfD) : Prop := ∃ pv, v = .agg [i64 C.nts, pv].toArray ∧ PrsR q pv C.prods
theorem SymsR.sup {q q' : HP} (h : Sup q q') {v : Value} {ss : List SymD} (k : SymsR q v ss) : SymsR q' v ss := Sl.sup h k
theorem PrsR.sup {q q' : HP} (h : Sup q q') {v : Value} {ps : List ProdD} (k : PrsR q v ps) : PrsR q' v ps := by
  obtain ⟨cells, h1, h2⟩ := k
  exact ⟨cells, Sl.sup h h1, fun k p hp => let ⟨bv, a, b, c⟩ := h2 k p hp; ⟨bv, a, b, c.sup h⟩⟩
theorem CnfR.sup {q q' : HP} (h : Sup q q') {v : Value} {C : CnfD} (k : CnfR q v C) : CnfR q' v C := let ⟨pv, a, b⟩ := k; ⟨pv, a, b.sup h⟩
theorem SymsR.form {q : HP} {v : Value} {ss : List SymD} (h : SymsR q v ss) : ∃ a cap, v = .slice a ss.length cap := let ⟨a, cap, e, _⟩ := h; ⟨a, cap, e⟩
theorem PrsR.form {q : HP} {v : Value} {ps : List ProdD} (h : PrsR q v ps) : ∃ a cap, v = .slice a ps.length cap := let ⟨_, ⟨a, cap, e, _⟩, _⟩ := h; ⟨a, cap, e⟩
theorem SymsR.at {q : HP} {a : Option Addr} {n cap k : Nat} {ss : List SymD} {s : SymD} (h : SymsR q (.slice a n cap) ss) (hk : ss[k]? = some s) :
    ∃ b o, a = some ⟨b, o, none⟩ ∧ n = ss.length ∧ Rd q ⟨b, o + k * 2, none⟩ (.bool s.1) ∧ Rd q ⟨b, o + k * 2 + 1, none⟩ (i64 s.2) := by
  obtain ⟨a', cap', e, hl, hr⟩ := h
  injection e with e1 e2 e3
  subst e1 e2
  have hlt := (List.getElem?_eq_some_iff.1 hk).1
  obtain ⟨b, o, rfl, hr'⟩ := hr (by omega)
  obtain ⟨h1, h2⟩ := symsV_get hk
  exact ⟨b, o, rfl, rfl, hr' _ _ h1, hr' _ _ h2⟩
theorem PrsR.at {q : HP} {a : Option Addr} {n cap k : Nat} {ps : List ProdD} {p : ProdD} (h : PrsR q (.slice a n cap) ps) (hk : ps[k]? = some p) :
    ∃ b o bv, a = some ⟨b, o, none⟩ ∧ n = ps.length ∧ Rd q ⟨b, o + k * 2, none⟩ (i64 p.1) ∧ Rd q ⟨b, o + k * 2 + 1, none⟩ bv ∧ SymsR q bv p.2 := by
  obtain ⟨cells, ⟨a', cap', e, hl, hr⟩, hc⟩ := h
  injection e with e1 e2 e3
  subst e1 e2
  have hlt := (List.getElem?_eq_some_iff.1 hk).1
  obtain ⟨b, o, rfl, hr'⟩ := hr (by omega)
  obtain ⟨bv, h1, h2, h3⟩ := hc k p hk
  exact ⟨b, o, bv, rfl, rfl, hr' _ _ h1, hr' _ _ h2, h3⟩
/-- What fits into memory. -/
def Fits (C : CnfD) : Prop := C.prods.length * 32 ≤ 140737488355328 ∧ ∀ p ∈ C.prods, p.2.length * 16 ≤ 140737488355328
end Go.Proofs.Ytjokibfldngkeaa
