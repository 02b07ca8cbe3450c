/-
  QDa, part 4.
-/
import Derived.Test.YtjokibfldngkeaaM3
import Derived.Test.YtjokibfldngkeaaM2
import Derived.Test.YtjokibfldngkeaaM1
import Derived.Test.YtjokibfldngkeaaZ
import Derived.Test.YtjokibfldngkeaaO
import Derived.Test.YtjokibfldngkeaaRows
import Derived.WalkKit
import Derived.ProofKit
import Derived.OpenShut
import Derived.ChangeOld
import Derived.SizedLaws
namespace Go.Proofs.Ytjokibfldngkeaa
open Go
section
variable {P : Program} {c : Cx} {A : Array Oper} {K : Kont} {L : Env} {H F : List HP} {os : List Oper}
/-- Steps of our own, from now on read alone. -/
theorem GO.ownSteps {el : TypeId} {v : Value} {l : List F3} (tk : Tk (own el 3 l.length v (f3sV l)) H F) (k : ∀ z, StepsR z v l → GO P c A os K L (z :: F)) : GO P c A os K L H := by
  refine GO.own_open tk (fun hv hn hx => ?_) (fun b cap rest' hv h1 h2 h3 h4 => ?_)
  · subst hv
    exact GO.imp (H' := Go.Proofs.Ytjokibfldngkeaa.pur True :: F) (fun _ _ s => sat_pur.2 ⟨trivial, s⟩) (k _ ⟨none, 0, by rw [hn], by omega, fun h => absurd h (by omega)⟩)
  · subst hv
    refine k _ ⟨_, _, rfl, h2, fun _ => ⟨b, 0, rfl, fun j u hj => ?_⟩⟩
    rw [Nat.zero_add]
    exact Rd.row (by rw [List.getElem?_append_left (List.getElem?_eq_some_iff.1 hj).1]; exact hj)
end
theorem leftN_all {l : List F3} {n : Nat} (h : n = l.length) (h0 : 0 < l.length) : leftN l n = 0 := by
  unfold leftN
  rw [if_neg (by omega), h]; simp
attribute [local irreducible] G GO GR GT Fn FnV pt init exs pur sat own ImpS f3sV symsV wordV natL
set_option maxRecDepth 40000 in
set_option maxHeartbeats 16000000 in
theorem dtree_law (q : HP) (v wv : Value) (C : CnfD) (nt : Int) (w : List Int) (hv : CnfR q v C) (hz : Fits C) (hw : WordR q wv w) :
    Fn Try.prog 6 #[v, i64 nt, wv] [q] (fun r Q => r = .bool true ∧ Q = [q]) := by
  obtain ⟨D, hD⟩ := der_ex C w
  have hcopy := copy_spec q v C hv hz
  have href := rdhas_spec q v C hv hz nt w wv hw D hD
  have heng := fun (z : HP) (c : Value) (hc : CnfR z c C) (hw' : WordR z wv w) => tree_spec z c C hc hz nt w wv hw'
  obtain ⟨pv, rfl, hp⟩ := hv
  have hleast := least_spec q C w pv wv hp hw
  have hleft := fun (z : HP) (hs : Sup q z) => left_spec z C w pv wv (hp.sup hs) (hw.sup hs)
  obtain ⟨ap, cp, rfl⟩ := hp.form
  obtain ⟨aw, cw, rfl⟩ := hw.form
  by_cases he : askE C nt w.length = 0
  · obtain ⟨hok, hwk, hn0, hn1, hl⟩ := askE_zero he
    rw [if_pos he] at href
    replace hleast := hleast hok hwk hz hl nt hn0 hn1
    replace hleft := fun (z : HP) (hs : Sup q z) => hleft z hs hok hwk hz hl
    refine Fn.mk2 Try.func6 rfl rfl fun w0 F => ?_
    (refine G.seq ?_; refine G.region ?_; refine GO.box rfl rfl rfl fun b3 => ?_; refine GO.assign rfl rfl ?_; refine GO.nil ?_; refine kthen_n ?_; refine G.seq ?_; refine G.region ?_; refine GO.loadW rfl rfl rfl Tk.h rfl ?_)
    refine GO.call1 rfl rfl (hcopy) (Tks.c (Tk.t Tk.h) Tks.n) ?_
    rintro c _ ⟨z, hz1, rfl⟩
    refine GO.merge (x := z) (y := q) (Tks.c Tk.h (Tks.c Tk.h Tks.n)) ?_
    have heng := heng (star [z, q]) c (hz1.sup (Sup.left z q)) (hw.sup (Sup.right z q))
    (refine GO.move rfl rfl ?_; refine GO.move rfl rfl ?_)
    refine GO.call3 rfl rfl rfl rfl (heng) (Tks.c Tk.h Tks.n) ?_
    rintro _ _ ⟨u, l, e, rfl, hR, rfl⟩
    refine GO.take (q := star [z, q]) (Tk.t Tk.h) ?_
    refine GO.unmerge ?_
    refine GO.ownSteps (Tk.t (Tk.t Tk.h)) fun y hy => ?_
    obtain ⟨al, cl, rfl, hcl⟩ := hy.form
    obtain ⟨_, hR2⟩ := hR
    obtain ⟨hRn, hRy⟩ := hR2 he
    (refine GO.move rfl rfl ?_; refine GO.extract rfl rfl rfl ?_; refine GO.extract rfl rfl rfl ?_; refine GO.assign rfl rfl ?_; refine GO.assign rfl rfl ?_; refine GO.nil ?_; refine kthen_n ?_; refine G.seq ?_; refine G.region ?_; refine GO.loadW rfl rfl rfl (Tk.t (Tk.t (Tk.t Tk.h))) rfl ?_; refine GO.move rfl rfl ?_; refine GO.move rfl rfl ?_)
    refine GO.call3 rfl rfl rfl rfl (href) (Tks.c (Tk.t (Tk.t Tk.h)) Tks.n) ?_
    rintro _ _ ⟨rfl, rfl⟩
    (refine GO.move rfl rfl ?_; refine GO.extract rfl rfl rfl ?_; refine GO.extract rfl rfl rfl ?_; refine GO.assign rfl rfl ?_; refine GO.assign rfl rfl ?_; refine GO.nil ?_; refine kthen_n ?_; refine G.seq ?_; refine G.seq ?_; refine G.region ?_)
    refine GO.call0 rfl (dhead_spec) Tks.n ?_
    rintro _ _ ⟨rfl, rfl⟩
    cases hDD : D nt 0 w.length with
    | false =>
      obtain ⟨rfl, rfl⟩ := hRn (fun h => by rw [(hD _ _ _).2 h] at hDD; cases hDD)
      (refine GO.not rfl rfl ?_; refine GO.nil ?_; refine kthen_n ?_; refine G.condF rfl rfl ?_; refine G.skip ?_; refine kthen_n ?_; refine G.seq ?_; refine G.seq ?_; refine G.region ?_; refine GO.move rfl rfl ?_; refine GO.neF rfl rfl rfl rfl ?_; refine GO.nil ?_; refine kthen_n ?_; refine G.condF rfl rfl ?_; refine G.skip ?_; refine kthen_n ?_; refine G.seq ?_; refine G.seq ?_; refine G.region ?_; refine GO.move rfl rfl ?_; refine GO.not rfl rfl ?_; refine GO.nil ?_; refine kthen_n ?_; refine G.condT rfl rfl ?_; refine G.seq ?_; refine G.region ?_; refine GO.move rfl rfl ?_; refine GO.eqT rfl rfl rfl rfl ?_; refine GO.move rfl rfl ?_; refine GO.gT rfl rfl rfl ?_; refine GO.move rfl rfl ?_; refine GO.gT rfl rfl rfl ?_; refine GO.lenS rfl rfl ?_; refine GO.gT rfl rfl rfl ?_; refine GO.eqT rfl rfl rfl rfl ?_; refine GO.pickT rfl rfl rfl ?_; refine GO.assign rfl rfl ?_; refine GO.nil ?_; refine kthen_n ?_; refine G.ret ?_; refine kthen_r ?_)
      refine KF2.r1 rfl (RV.t rfl) ⟨rfl, rfl⟩ (ImpS.sb ?_)
      ((refine Sb.c Tk.h ?_); (refine Sb.s ?_; refine Sb.s ?_; refine Sb.s ?_; exact Sb.r))
    | true =>
      obtain ⟨V, hC, hS, hV0, hV1⟩ := hRy ((hD _ _ _).1 hDD)
      (refine GO.not rfl rfl ?_; refine GO.nil ?_; refine kthen_n ?_; refine G.condF rfl rfl ?_; refine G.skip ?_; refine kthen_n ?_; refine G.seq ?_; refine G.seq ?_; refine G.region ?_; refine GO.move rfl rfl ?_; refine GO.neF rfl rfl rfl rfl ?_; refine GO.nil ?_; refine kthen_n ?_; refine G.condF rfl rfl ?_; refine G.skip ?_; refine kthen_n ?_; refine G.seq ?_; refine G.seq ?_; refine G.region ?_; refine GO.move rfl rfl ?_; refine GO.not rfl rfl ?_; refine GO.nil ?_; refine kthen_n ?_; refine G.condF rfl rfl ?_; refine G.skip ?_; refine kthen_n ?_; refine G.seq ?_; refine G.region ?_; refine GO.loadW rfl rfl rfl (Tk.t (Tk.t (Tk.t Tk.h))) rfl ?_; refine GO.move rfl rfl ?_; refine GO.move rfl rfl ?_)
      refine GO.call3 rfl rfl rfl rfl (hleast) (Tks.c Tk.h Tks.n) ?_
      rintro _ _ ⟨V', hC', hS', rfl, rfl⟩
      rw [← fewest_uniq hC hS hC' hS' nt 0 w.length]
      by_cases h0 : V nt 0 w.length = 0
      · obtain ⟨rfl, rfl⟩ := hV0 h0
        rw [h0]
        (refine GO.assign rfl rfl ?_; refine GO.nil ?_; refine kthen_n ?_; refine G.seq ?_; refine G.seq ?_; refine G.region ?_; refine GO.move rfl rfl ?_; refine GO.eqT rfl rfl rfl rfl ?_; refine GO.nil ?_; refine kthen_n ?_; refine G.condT rfl rfl ?_; refine G.seq ?_; refine G.region ?_; refine GO.move rfl rfl ?_; refine GO.eqT rfl rfl rfl rfl ?_; refine GO.move rfl rfl ?_; refine GO.gT rfl rfl rfl ?_; refine GO.move rfl rfl ?_; refine GO.gT rfl rfl rfl ?_; refine GO.lenS rfl rfl ?_; refine GO.gT rfl rfl rfl ?_; refine GO.eqT rfl rfl rfl rfl ?_; refine GO.pickT rfl rfl rfl ?_; refine GO.assign rfl rfl ?_; refine GO.nil ?_; refine kthen_n ?_; refine G.ret ?_; refine kthen_r ?_)
        refine KF2.r1 rfl (RV.t rfl) ⟨rfl, rfl⟩ (ImpS.sb ?_)
        ((refine Sb.c Tk.h ?_); (refine Sb.s ?_; refine Sb.s ?_; refine Sb.s ?_; exact Sb.r))
      · obtain ⟨rfl, hds, hlen⟩ := hV1 (by omega)
        have h4 := (hC nt 0 w.length (by omega)).1
        have d0 : decide (((V nt 0 w.length : Nat) : Int) = 0) = false := decide_eq_false (by omega)
        have hcall := hleft (star [y, q]) (Sup.right y q) l.length l _ (Nat.le_refl _) (by omega) (hy.sup (Sup.left y q)) nt 0 w.length (Nat.zero_le _) (Nat.le_refl _)
        rw [show i64 ((0 : Nat) : Int) = i64 0 from rfl] at hcall
        rw [← hlen] at d0 ⊢
        have d1 : decide (((l.length : Nat) : Int) = ((l.length : Nat) : Int)) = true := decide_eq_true rfl
        refine GO.merge (x := y) (y := q) (Tks.c (Tk.t Tk.h) (Tks.c Tk.h Tks.n)) ?_
        (refine GO.assign rfl rfl ?_; refine GO.nil ?_; refine kthen_n ?_; refine G.seq ?_; refine G.seq ?_; refine G.region ?_; refine GO.move rfl rfl ?_; refine GO.eqi rfl rfl rfl ?_; refine GO.nil ?_; refine kthen_n ?_; refine G.condF rfl (by assumption) ?_; refine G.skip ?_; refine kthen_n ?_; refine G.seq ?_; refine G.region ?_; refine GO.move rfl rfl ?_; refine GO.eqT rfl rfl rfl rfl ?_; refine GO.move rfl rfl ?_; refine GO.gT rfl rfl rfl ?_; refine GO.move rfl rfl ?_; refine GO.gT rfl rfl rfl ?_; refine GO.lenS rfl rfl ?_; refine GO.gT rfl rfl rfl ?_; refine GO.move rfl rfl ?_; refine GO.gT rfl rfl rfl ?_; refine GO.eqT rfl rfl rfl rfl ?_; refine GO.pickT rfl rfl rfl ?_; refine GO.move rfl rfl ?_; refine GO.gT rfl rfl rfl ?_; refine GO.loadW rfl rfl rfl (Tk.t (Tk.t Tk.h)) rfl ?_; refine GO.gT rfl rfl rfl ?_; refine GO.move rfl rfl ?_; refine GO.gT rfl rfl rfl ?_; refine GO.move rfl rfl ?_; refine GO.gT rfl rfl rfl ?_; refine GO.move rfl rfl ?_; refine GO.gT rfl rfl rfl ?_; refine GO.move rfl rfl ?_; refine GO.gT rfl rfl rfl ?_; refine GO.lenS rfl rfl ?_; refine GO.gT rfl rfl rfl ?_)
        refine GO.call6 rfl rfl rfl rfl rfl rfl rfl (hcall) (Tks.c Tk.h Tks.n) ?_
        rintro _ _ ⟨n, rfl, hRR, rfl⟩
        have hall := hRR.all.2 hds
        rw [leftN_all hall.2 hall.1]
        refine GO.unmerge ?_
        (refine GO.gT rfl rfl rfl ?_; refine GO.eqT rfl rfl rfl rfl ?_; refine GO.pickT rfl rfl rfl ?_; refine GO.assign rfl rfl ?_; refine GO.nil ?_; refine kthen_n ?_; refine G.ret ?_)
        refine KF2.r1 rfl (RV.t rfl) ⟨rfl, rfl⟩ (ImpS.sb ?_)
        ((refine Sb.c (Tk.t Tk.h) ?_); (refine Sb.s ?_; refine Sb.s ?_; refine Sb.s ?_; exact Sb.r))
  · have de : decide (askE C nt w.length = askE C nt w.length) = true := decide_eq_true rfl
    have dn : decide (askE C nt w.length ≠ 0) = true := decide_eq_true he
    rw [if_neg he] at href
    refine Fn.mk2 Try.func6 rfl rfl fun w0 F => ?_
    (refine G.seq ?_; refine G.region ?_; refine GO.box rfl rfl rfl fun b3 => ?_; refine GO.assign rfl rfl ?_; refine GO.nil ?_; refine kthen_n ?_; refine G.seq ?_; refine G.region ?_; refine GO.loadW rfl rfl rfl Tk.h rfl ?_)
    refine GO.call1 rfl rfl (hcopy) (Tks.c (Tk.t Tk.h) Tks.n) ?_
    rintro c _ ⟨z, hz1, rfl⟩
    refine GO.merge (x := z) (y := q) (Tks.c Tk.h (Tks.c Tk.h Tks.n)) ?_
    have heng := heng (star [z, q]) c (hz1.sup (Sup.left z q)) (hw.sup (Sup.right z q))
    (refine GO.move rfl rfl ?_; refine GO.move rfl rfl ?_)
    refine GO.call3 rfl rfl rfl rfl (heng) (Tks.c Tk.h Tks.n) ?_
    rintro _ _ ⟨u, l, e, rfl, hR, rfl⟩
    obtain ⟨rfl, rfl⟩ := hR.1 he
    generalize askE C nt w.length = e at *
    refine GO.ownSteps Tk.h fun y hy => ?_
    obtain ⟨al, cl, rfl, hcl⟩ := hy.form
    refine GO.take (q := star [z, q]) (Tk.t Tk.h) ?_
    refine GO.unmerge ?_
    (refine GO.move rfl rfl ?_; refine GO.extract rfl rfl rfl ?_; refine GO.extract rfl rfl rfl ?_; refine GO.assign rfl rfl ?_; refine GO.assign rfl rfl ?_; refine GO.nil ?_; refine kthen_n ?_; refine G.seq ?_; refine G.region ?_; refine GO.loadW rfl rfl rfl (Tk.t (Tk.t (Tk.t Tk.h))) rfl ?_; refine GO.move rfl rfl ?_; refine GO.move rfl rfl ?_)
    refine GO.call3 rfl rfl rfl rfl (href) (Tks.c (Tk.t Tk.h) Tks.n) ?_
    rintro _ _ ⟨rfl, rfl⟩
    (refine GO.move rfl rfl ?_; refine GO.extract rfl rfl rfl ?_; refine GO.extract rfl rfl rfl ?_; refine GO.assign rfl rfl ?_; refine GO.assign rfl rfl ?_; refine GO.nil ?_; refine kthen_n ?_; refine G.seq ?_; refine G.seq ?_; refine G.region ?_)
    refine GO.call0 rfl (dhead_spec) Tks.n ?_
    rintro _ _ ⟨rfl, rfl⟩
    (refine GO.not rfl rfl ?_; refine GO.nil ?_; refine kthen_n ?_; refine G.condF rfl rfl ?_; refine G.skip ?_; refine kthen_n ?_; refine G.seq ?_; refine G.seq ?_; refine G.region ?_; refine GO.move rfl rfl ?_; refine GO.nei rfl rfl rfl ?_; refine GO.nil ?_; refine kthen_n ?_; refine G.condT rfl (by assumption) ?_; refine G.seq ?_; refine G.region ?_; refine GO.move rfl rfl ?_; refine GO.move rfl rfl ?_; refine GO.eqT rfl rfl rfl rfl ?_; refine GO.move rfl rfl ?_; refine GO.gT rfl rfl rfl ?_; refine GO.move rfl rfl ?_; refine GO.gT rfl rfl rfl ?_; refine GO.lenS rfl rfl ?_; refine GO.gT rfl rfl rfl ?_; refine GO.eqT rfl rfl rfl rfl ?_; refine GO.pickT rfl rfl rfl ?_; refine GO.assign rfl rfl ?_; refine GO.nil ?_; refine kthen_n ?_; refine G.ret ?_; refine kthen_r ?_)
    refine KF2.r1 rfl (RV.t rfl) ⟨rfl, rfl⟩ (ImpS.sb ?_)
    ((refine Sb.c Tk.h ?_); (refine Sb.s ?_; refine Sb.s ?_; refine Sb.s ?_; exact Sb.r))
end Go.Proofs.Ytjokibfldngkeaa
namespace Go.Proofs.Ytjokibfldngkeaa
open Go
theorem Der.more {C : CnfD} {w : List Int} (v : List Int) {A : Int} {i j : Nat} (h : Der C w A i j) : Der C (w ++ v) A i j := by
  induction h with
  | none h hi => exact .none h (by rw [List.length_append]; omega)
  | one h hi =>
    have hlt := (List.getElem?_eq_some_iff.1 hi).1
    exact .one h (by rw [List.getElem?_append_left hlt]; exact hi)
  | two h _ _ ih1 ih2 => exact .two h ih1 ih2
theorem Der.shift {C : CnfD} {w : List Int} (u : List Int) {A : Int} {i j : Nat} (h : Der C w A i j) : Der C (u ++ w) A (u.length + i) (u.length + j) := by
  induction h with
  | none h hi => exact .none h (by rw [List.length_append]; omega)
  | one h hi =>
    refine .one h ?_
    rw [List.getElem?_append_right (Nat.le_add_right _ _), Nat.add_sub_cancel_left]
    exact hi
  | two h _ _ ih1 ih2 => exact .two h ih1 ih2
/-- Two words of a body's two nonterminals are, one behind the other, a word of its head. -/
theorem Der.cat {C : CnfD} {u v : List Int} {A : Int} {s t : SymD} (h : (A, [s, t]) ∈ C.prods) (h1 : Der C u s.2 0 u.length) (h2 : Der C v t.2 0 v.length) : Der C (u ++ v) A 0 (u ++ v).length := by
  rw [List.length_append]
  exact .two h (h1.more v) (h2.shift u)
/-- A number for each nonterminal that no body goes below is below each word's length. -/
theorem Der.short {C : CnfD} {w : List Int} {S : Int → Int}
    (h0 : ∀ A, (A, []) ∈ C.prods → 0 ≤ S A ∧ S A ≤ 0) (h1 : ∀ A s, (A, [s]) ∈ C.prods → 0 ≤ S A ∧ S A ≤ 1)
    (h2 : ∀ A s t, (A, [s, t]) ∈ C.prods → 0 ≤ S s.2 → 0 ≤ S t.2 → 0 ≤ S A ∧ S A ≤ S s.2 + S t.2) {A : Int} {i j : Nat} (h : Der C w A i j) : 0 ≤ S A ∧ S A ≤ ((j : Int) - (i : Int)) := by
  induction h with
  | none h hi => have := h0 _ h; omega
  | one h hi => have := h1 _ _ h; omega
  | two h _ _ ih1 ih2 => have := h2 _ _ _ h ih1.1 ih2.1; omega
end Go.Proofs.Ytjokibfldngkeaa
namespace Go.Proofs.Ytjokibfldngkeaa
open Go
theorem wordV_get {l : List Int} {k : Nat} {x : Int} (h : l[k]? = some x) : (wordV l)[k]? = some (i64 x) := by unfold wordV; rw [List.getElem?_map, h]; rfl
attribute [local irreducible] G GO GR GT Fn FnV pt init exs pur sat own ImpS f3sV numF mapO addF wordV symsV natL atN cntF
set_option maxHeartbeats 8000000 in
theorem pwho_spec (q : HP) (v : Value) (C : CnfD) (hv : CnfR q v C) (hz : Fits C) (w : List Int) (wv : Value) (hw : WordR q wv w) (D : Int → Nat → Nat → Bool) (hD : ∀ A i j, D A i j = true ↔ Der C w A i j) :
    Fn Try.prog 14 #[v, wv] [q] (fun r Q => ∃ u l, l = (if askE C 0 w.length = 0 then natL (fun a => D (a : Int) 0 w.length) C.nts.toNat else []) ∧ r = .tuple #[u, i64 (askE C 0 w.length)] ∧ Q = [own 3 1 l.length u (wordV l), q]) := by
  have ha := asked_spec q v C hv hz 0 w wv hw
  obtain ⟨pv, rfl, hp⟩ := hv
  have htab := tabled_spec q C w pv wv hp hw
  obtain ⟨ap, cp, rfl⟩ := hp.form
  obtain ⟨aw, cw, rfl⟩ := hw.form
  by_cases he : askE C 0 w.length = 0
  · obtain ⟨hok, _, _, _, hl⟩ := askE_zero he
    replace htab := htab hok hz hl
    have hn := okC_nts hok
    obtain ⟨m, hm⟩ := Int.eq_ofNat_of_zero_le (show 0 ≤ C.nts by omega)
    have hmt : C.nts.toNat = m := by rw [hm]; rfl
    rw [if_pos he, he, hmt]
    rw [he] at ha
    refine Fn.mk2 Try.func14 rfl rfl fun w0 F => ?_
    (refine G.seq ?_; refine G.region ?_; refine GO.box rfl rfl rfl fun b2 => ?_; refine GO.assign rfl rfl ?_; refine GO.assign rfl rfl ?_; refine GO.nil ?_; refine kthen_n ?_; refine G.seq ?_; refine G.seq ?_; refine G.region ?_; refine GO.loadW rfl rfl rfl Tk.h rfl ?_; refine GO.move rfl rfl ?_)
    refine GO.call3 rfl rfl rfl rfl (ha) (Tks.c (Tk.t Tk.h) Tks.n) ?_
    rintro _ _ ⟨rfl, rfl⟩
    (refine GO.assign rfl rfl ?_; refine GO.nil ?_; refine kthen_n ?_; refine G.seq ?_; refine G.region ?_; refine GO.move rfl rfl ?_; refine GO.neF rfl rfl rfl rfl ?_; refine GO.nil ?_; refine kthen_n ?_; refine G.condF rfl rfl ?_; refine G.skip ?_; refine kthen_n ?_; refine G.seq ?_; refine G.region ?_; refine GO.loadW rfl rfl rfl (Tk.t Tk.h) rfl ?_; refine GO.move rfl rfl ?_)
    refine GO.call2 rfl rfl rfl (htab) (Tks.c Tk.h Tks.n) ?_
    rintro _ _ ⟨bt, bm, rv, fs, rfl, hder, rfl⟩
    have hb : ∀ k : Nat, decide (factV (k : Int) 0 w.length ∈ fs) = D (k : Int) 0 w.length := fun k => by
      rw [Bool.eq_iff_iff, decide_eq_true_iff, hder, hD]
    (refine GO.assign rfl rfl ?_; refine GO.nil ?_; refine kthen_n ?_; refine G.seq ?_; refine G.region ?_; refine GO.assign rfl rfl ?_; refine GO.nil ?_; refine kthen_n ?_; refine G.seq ?_; refine G.seq ?_; refine G.region ?_; refine GO.fieldAddr rfl rfl ?_; refine GO.load1 rfl rfl rfl (Tk.t (Tk.t (Tk.t (Tk.t Tk.h)))) rfl ?_; refine GO.move rfl rfl ?_; refine GO.nil ?_; refine kthen_n ?_; refine G.block ?_)
    refine G.ownNil (T := 3) (sz := 1) ?_
    refine G.loop2 (fun (k : Nat) (u : Value) => [(1, .slice aw w.length cw), (7, ptrT bt), (8, u), (20, i64 C.nts), (21, i64 (k : Nat))])
      (fun k u => own 3 1 (natL (fun a => D (a : Int) 0 w.length) k).length u (wordV (natL (fun a => D (a : Int) 0 w.length) k)) :: tabH bt C.nts (.slice ap C.prods.length cp) (.slice aw w.length cw) bm rv :: pt bm (mapO (numF 0 fs)) :: own 62 3 fs.length rv (f3sV fs) :: q :: F)
      (fun k _ => k ≤ m) (fun k _ => m - k) 0 (.slice none 0 0) (Nat.zero_le _) ?_ ?_ ?_
    · (refine SubE.c rfl rfl ?_; refine SubE.c rfl rfl ?_; refine SubE.c rfl rfl ?_; refine SubE.c rfl rfl ?_; refine SubE.c rfl rfl ?_; exact SubE.n)
    · rw [own_nat0]
      ((refine Sb.c Tk.h ?_; refine Sb.c Tk.h ?_; refine Sb.c Tk.h ?_; refine Sb.c Tk.h ?_; refine Sb.c Tk.h ?_); (refine Sb.s ?_; exact Sb.r))
    · rintro k u hk
      (refine G.seq ?_; refine G.region ?_; refine GO.lti rfl rfl rfl ?_; refine GO.nil ?_; refine kthen_n ?_; refine G.seq ?_)
      refine G.condD rfl (fun hlt => ?_) (fun hge => ?_)
      · (refine G.skip ?_; refine kthen_n ?_; refine G.seq ?_; refine G.block ?_; refine G.seq ?_; refine G.region ?_; refine GO.move rfl rfl ?_; refine GO.assign rfl rfl ?_; refine GO.nil ?_; refine kthen_n ?_; refine G.seq ?_; refine G.region ?_; refine GO.move rfl rfl ?_; refine GO.move rfl rfl ?_; refine GO.move rfl rfl ?_; refine GO.lenS rfl rfl ?_; refine GO.build3 rfl rfl rfl rfl rfl ?_)
        refine GO.call2 rfl rfl rfl (has_spec bt C.nts (.slice ap C.prods.length cp) (.slice aw w.length cw) bm rv fs (factV (k : Int) 0 w.length)) (Tks.c (Tk.t Tk.h) (Tks.c (Tk.t Tk.h) (Tks.c (Tk.t Tk.h) Tks.n))) ?_
        rintro _ _ ⟨rfl, rfl⟩
        rw [hb]
        have hlen := natL_len (fun a => D (a : Int) 0 w.length) k
        have hstep : natL (fun a => D (a : Int) 0 w.length) (k + 1) = if D (k : Int) 0 w.length then natL (fun a => D (a : Int) 0 w.length) k ++ [(k : Int)] else natL (fun a => D (a : Int) 0 w.length) k := natL_succ _ k
        cases hd : D (k : Int) 0 w.length with
        | true =>
          rw [hd, if_pos rfl] at hstep
          (refine GO.nil ?_; refine kthen_n ?_; refine G.condT rfl rfl ?_; refine G.region ?_; refine GO.move rfl rfl ?_; refine GO.move rfl rfl ?_)
          refine GO.buildSlice1 rfl rfl (by simp; rfl) rfl ⟨by omega, by omega⟩ fun bs => ?_
          refine GO.appendOwn (m := 1) (news := [i64 (k : Nat)]) rfl rfl rfl (Tk.t (Tk.t (Tk.t (Tk.t Tk.h)))) Tk.h rfl (by simp [Value.oneCell']) ⟨by decide, rfl⟩ Nat.one_pos (by unfold maxLen; omega) (by omega) fun v4 => ?_
          rw [← wordV_snoc, show (natL (fun a => D (a : Int) 0 w.length) k).length + 1 = (natL (fun a => D (a : Int) 0 w.length) k ++ [(k : Int)]).length by rw [List.length_append]; rfl, ← hstep]
          (refine GO.assign rfl rfl ?_; refine GO.nil ?_; refine kblock_n ?_; refine kthen_n ?_; refine G.region ?_; refine GO.addi rfl rfl rfl (by omega) ?_; refine GO.move rfl rfl ?_; refine GO.nil ?_; refine kthen_n ?_)
          refine ⟨k + 1, v4, by omega, by omega, ?_, ?_⟩
          · (refine SubE.c rfl rfl ?_; refine SubE.c rfl rfl ?_; refine SubE.c rfl rfl ?_; refine SubE.c rfl rfl ?_; refine SubE.c rfl rfl ?_; exact SubE.n)
          · ((refine Sb.c Tk.h ?_; refine Sb.c (Tk.t Tk.h) ?_; refine Sb.c (Tk.t Tk.h) ?_; refine Sb.c (Tk.t Tk.h) ?_; refine Sb.c (Tk.t Tk.h) ?_); (refine Sb.s ?_; exact Sb.r))
        | false =>
          rw [hd, if_neg (by simp)] at hstep
          rw [← hstep]
          (refine GO.nil ?_; refine kthen_n ?_; refine G.condF rfl rfl ?_; refine G.skip ?_; refine kblock_n ?_; refine kthen_n ?_; refine G.region ?_; refine GO.addi rfl rfl rfl (by omega) ?_; refine GO.move rfl rfl ?_; refine GO.nil ?_; refine kthen_n ?_)
          refine ⟨k + 1, u, by omega, by omega, ?_, ?_⟩
          · (refine SubE.c rfl rfl ?_; refine SubE.c rfl rfl ?_; refine SubE.c rfl rfl ?_; refine SubE.c rfl rfl ?_; refine SubE.c rfl rfl ?_; exact SubE.n)
          · ((refine Sb.c (Tk.t (Tk.t (Tk.t Tk.h))) ?_; refine Sb.c Tk.h ?_; refine Sb.c Tk.h ?_; refine Sb.c Tk.h ?_; refine Sb.c Tk.h ?_); (exact Sb.r))
      · have : k = m := by omega
        subst this
        (refine G.exit ?_; refine kthen_x ?_; refine kthen_x ?_; refine kblock_x ?_; refine kthen_n ?_; refine G.seq ?_; refine G.region ?_; refine GO.move rfl rfl ?_; refine GO.assign rfl rfl ?_; refine GO.assign rfl rfl ?_; refine GO.nil ?_; refine kthen_n ?_; refine G.ret ?_)
        refine KF2.r2 rfl (RV.t rfl) (RV.t rfl) ⟨_, _, rfl, rfl, rfl⟩ (ImpS.sb ?_)
        ((refine Sb.c Tk.h ?_; refine Sb.c (Tk.t (Tk.t (Tk.t Tk.h))) ?_); (refine Sb.s ?_; refine Sb.s ?_; refine Sb.s ?_; exact Sb.r))
  · rw [if_neg he]
    have de : decide (askE C 0 w.length ≠ 0) = true := decide_eq_true he
    generalize askE C 0 w.length = e at *
    refine Fn.mk2 Try.func14 rfl rfl fun w0 F => ?_
    (refine G.seq ?_; refine G.region ?_; refine GO.box rfl rfl rfl fun b2 => ?_; refine GO.assign rfl rfl ?_; refine GO.assign rfl rfl ?_; refine GO.nil ?_; refine kthen_n ?_; refine G.seq ?_; refine G.seq ?_; refine G.region ?_; refine GO.loadW rfl rfl rfl Tk.h rfl ?_; refine GO.move rfl rfl ?_)
    refine GO.call3 rfl rfl rfl rfl (ha) (Tks.c (Tk.t Tk.h) Tks.n) ?_
    rintro _ _ ⟨rfl, rfl⟩
    refine GO.ownNil (T := 3) (sz := 1) ?_
    (refine GO.assign rfl rfl ?_; refine GO.nil ?_; refine kthen_n ?_; refine G.seq ?_; refine G.region ?_; refine GO.move rfl rfl ?_; refine GO.nei rfl rfl rfl ?_; refine GO.nil ?_; refine kthen_n ?_; refine G.condT rfl (by assumption) ?_; refine G.seq ?_; refine G.region ?_; refine GO.move rfl rfl ?_; refine GO.assign rfl rfl ?_; refine GO.assign rfl rfl ?_; refine GO.nil ?_; refine kthen_n ?_; refine G.ret ?_; refine kthen_r ?_)
    refine KF2.r2 (Q := [own 3 1 0 (.slice none 0 0) [], q]) rfl (RV.t rfl) (RV.t rfl) ⟨.slice none 0 0, [], rfl, rfl, by rw [own_nil0]⟩ (ImpS.sb ?_)
    ((refine Sb.c Tk.h ?_; refine Sb.c Tk.h ?_); (refine Sb.s ?_; exact Sb.r))
set_option maxHeartbeats 8000000 in
theorem rbegins_spec (q : HP) (v : Value) (C : CnfD) (hv : CnfR q v C) (hz : Fits C) (nt : Int) (w : List Int) (wv : Value) (hw : WordR q wv w) (D : Int → Nat → Nat → Bool) (hD : ∀ A i j, D A i j = true ↔ Der C w A i j) :
    Fn Try.prog 15 #[v, i64 nt, wv] [q] (fun r Q => ∃ u l, l = (if askE C nt w.length = 0 then natL (fun k => D nt 0 k) (w.length + 1) else []) ∧ r = .tuple #[u, i64 (askE C nt w.length)] ∧ Q = [own 3 1 l.length u (wordV l), q]) := by
  have ha := rwrong_spec q v C hv hz nt w.length
  obtain ⟨pv, rfl, hp⟩ := hv
  have htab := rtable_spec q C w pv wv hp hw
  obtain ⟨ap, cp, rfl⟩ := hp.form
  obtain ⟨aw, cw, rfl⟩ := hw.form
  by_cases he : askE C nt w.length = 0
  · obtain ⟨hok, hwk, h0, h1, hl⟩ := askE_zero he
    replace htab := htab hok hwk hz hl _ rfl
    have hn := okC_nts hok
    obtain ⟨m, hm⟩ := Int.eq_ofNat_of_zero_le (show 0 ≤ C.nts by omega)
    have hmt : C.nts.toNat = m := by rw [hm]; rfl
    rw [if_pos he, he]
    rw [he] at ha
    obtain ⟨a, rfl⟩ := Int.eq_ofNat_of_zero_le h0
    refine Fn.mk2 Try.func15 rfl rfl fun w0 F => ?_
    (refine G.seq ?_; refine G.region ?_; refine GO.box rfl rfl rfl fun b3 => ?_; refine GO.assign rfl rfl ?_; refine GO.assign rfl rfl ?_; refine GO.nil ?_; refine kthen_n ?_; refine G.seq ?_; refine G.region ?_; refine GO.loadW rfl rfl rfl Tk.h rfl ?_; refine GO.move rfl rfl ?_; refine GO.move rfl rfl ?_; refine GO.lenS rfl rfl ?_)
    refine GO.call3 rfl rfl rfl rfl (ha) (Tks.c (Tk.t Tk.h) Tks.n) ?_
    rintro _ _ ⟨rfl, rfl⟩
    (refine GO.assign rfl rfl ?_; refine GO.nil ?_; refine kthen_n ?_; refine G.seq ?_; refine G.seq ?_; refine G.region ?_; refine GO.move rfl rfl ?_; refine GO.neF rfl rfl rfl rfl ?_; refine GO.nil ?_; refine kthen_n ?_; refine G.condF rfl rfl ?_; refine G.skip ?_; refine kthen_n ?_; refine G.seq ?_; refine G.region ?_; refine GO.loadW rfl rfl rfl (Tk.t Tk.h) rfl ?_; refine GO.move rfl rfl ?_)
    refine GO.call2 rfl rfl rfl (htab) (Tks.c Tk.h Tks.n) ?_
    rintro _ _ ⟨bo, K, rfl, hK, rfl⟩
    have hkd : ∀ k : Nat, k < w.length + 1 → K (atN (w.length + 1) a 0 k) = D (a : Int) 0 k := fun k hk => by
      rw [Bool.eq_iff_iff, hK _ _ _ (by omega) (by omega) (by omega), hD]
    have hlt : ∀ k : Nat, k < w.length + 1 → atN (w.length + 1) a 0 k < C.nts.toNat * (w.length + 1) * (w.length + 1) := fun k hk => atN_lt (by omega) (by omega) (by omega)
    generalize C.nts.toNat * (w.length + 1) * (w.length + 1) = N at *
    (refine GO.assign rfl rfl ?_; refine GO.nil ?_; refine kthen_n ?_; refine G.seq ?_; refine G.region ?_; refine GO.assign rfl rfl ?_; refine GO.nil ?_; refine kthen_n ?_; refine G.seq ?_; refine G.seq ?_; refine G.region ?_; refine GO.assign rfl rfl ?_; refine GO.nil ?_; refine kthen_n ?_; refine G.block ?_)
    refine G.ownNil (T := 3) (sz := 1) ?_
    refine G.loop2 (fun (k : Nat) (u : Value) => [(1, i64 (a : Nat)), (2, .slice aw w.length cw), (9, .slice (some ⟨bo, 0, none⟩) N N), (10, u), (11, i64 (k : Nat))])
      (fun k u => own 3 1 (natL (fun k => D (a : Int) 0 k) k).length u (wordV (natL (fun k => D (a : Int) 0 k) k)) :: knM bo N K :: q :: pt b3 (row [i64 C.nts, .slice ap C.prods.length cp] 24) :: F)
      (fun k _ => k ≤ w.length + 1) (fun k _ => w.length + 1 - k) 0 (.slice none 0 0) (Nat.zero_le _) ?_ ?_ ?_
    · (refine SubE.c rfl rfl ?_; refine SubE.c rfl rfl ?_; refine SubE.c rfl rfl ?_; refine SubE.c rfl rfl ?_; refine SubE.c rfl rfl ?_; exact SubE.n)
    · rw [own_nat0]
      ((refine Sb.c Tk.h ?_; refine Sb.c Tk.h ?_; refine Sb.c Tk.h ?_; refine Sb.c Tk.h ?_); (exact Sb.r))
    · rintro k u hk
      (refine G.seq ?_; refine G.seq ?_; refine G.region ?_; refine GO.move rfl rfl ?_; refine GO.move rfl rfl ?_; refine GO.lenS rfl rfl ?_; refine GO.lei rfl rfl rfl ?_; refine GO.nil ?_; refine kthen_n ?_)
      refine G.condD rfl (fun hlt2 => ?_) (fun hge => ?_)
      · have hx := hlt k (by omega)
        have hxd := hkd k (by omega)
        have hat := at_spec a 0 k (w.length + 1) (by omega) (by omega) (by omega) (by omega)
        rw [show i64 ((w.length + 1 : Nat) : Int) = .int .i64 ((w.length : Int) + 1) from rfl, show i64 ((0 : Nat) : Int) = i64 0 from rfl] at hat
        generalize atN (w.length + 1) a 0 k = x at hx hxd hat
        (refine G.skip ?_; refine kthen_n ?_; refine G.seq ?_; refine G.block ?_; refine G.seq ?_; refine G.region ?_; refine GO.move rfl rfl ?_; refine GO.move rfl rfl ?_; refine GO.move rfl rfl ?_; refine GO.move rfl rfl ?_; refine GO.lenS rfl rfl ?_; refine GO.addi rfl rfl rfl (by omega) ?_)
        refine GO.call4 rfl rfl rfl rfl rfl (hat) Tks.n ?_
        rintro _ _ ⟨rfl, rfl⟩
        (refine GO.idxS rfl rfl rfl ⟨rfl, by omega⟩ ?_; refine GO.load1 rfl rfl rfl (Tk.t Tk.h) (rowV_get1 (by assumption)) ?_; refine GO.nil ?_; refine kthen_n ?_)
        rw [hxd]
        have hlen := natL_len (fun k => D (a : Int) 0 k) k
        have hstep : natL (fun k => D (a : Int) 0 k) (k + 1) = if D (a : Int) 0 k then natL (fun k => D (a : Int) 0 k) k ++ [(k : Int)] else natL (fun k => D (a : Int) 0 k) k := natL_succ _ k
        cases hd : D (a : Int) 0 k with
        | true =>
          rw [hd, if_pos rfl] at hstep
          (refine G.condT rfl rfl ?_; refine G.region ?_; refine GO.move rfl rfl ?_; refine GO.move rfl rfl ?_)
          refine GO.buildSlice1 rfl rfl (by simp; rfl) rfl ⟨by omega, by omega⟩ fun bs => ?_
          refine GO.appendOwn (m := 1) (news := [i64 (k : Nat)]) rfl rfl rfl (Tk.t Tk.h) Tk.h rfl (by simp [Value.oneCell']) ⟨by decide, rfl⟩ Nat.one_pos (by unfold maxLen; omega) (by omega) fun v4 => ?_
          rw [← wordV_snoc, show (natL (fun k => D (a : Int) 0 k) k).length + 1 = (natL (fun k => D (a : Int) 0 k) k ++ [(k : Int)]).length by rw [List.length_append]; rfl, ← hstep]
          (refine GO.assign rfl rfl ?_; refine GO.nil ?_; refine kblock_n ?_; refine kthen_n ?_; refine G.region ?_; refine GO.move rfl rfl ?_; refine GO.addi rfl rfl rfl (by omega) ?_; refine GO.assign rfl rfl ?_; refine GO.nil ?_; refine kthen_n ?_)
          refine ⟨k + 1, v4, by omega, by omega, ?_, ?_⟩
          · (refine SubE.c rfl rfl ?_; refine SubE.c rfl rfl ?_; refine SubE.c rfl rfl ?_; refine SubE.c rfl rfl ?_; refine SubE.c rfl rfl ?_; exact SubE.n)
          · ((refine Sb.c Tk.h ?_; refine Sb.c (Tk.t Tk.h) ?_; refine Sb.c (Tk.t Tk.h) ?_; refine Sb.c (Tk.t Tk.h) ?_); (refine Sb.s ?_; exact Sb.r))
        | false =>
          rw [hd, if_neg (by simp)] at hstep
          rw [← hstep]
          (refine G.condF rfl rfl ?_; refine G.skip ?_; refine kblock_n ?_; refine kthen_n ?_; refine G.region ?_; refine GO.move rfl rfl ?_; refine GO.addi rfl rfl rfl (by omega) ?_; refine GO.assign rfl rfl ?_; refine GO.nil ?_; refine kthen_n ?_)
          refine ⟨k + 1, u, by omega, by omega, ?_, ?_⟩
          · (refine SubE.c rfl rfl ?_; refine SubE.c rfl rfl ?_; refine SubE.c rfl rfl ?_; refine SubE.c rfl rfl ?_; refine SubE.c rfl rfl ?_; exact SubE.n)
          · ((refine Sb.c Tk.h ?_; refine Sb.c Tk.h ?_; refine Sb.c Tk.h ?_; refine Sb.c Tk.h ?_); (exact Sb.r))
      · have : k = w.length + 1 := by omega
        subst this
        (refine G.exit ?_; refine kthen_x ?_; refine kthen_x ?_; refine kblock_x ?_; refine kthen_n ?_; refine G.seq ?_; refine G.region ?_; refine GO.move rfl rfl ?_; refine GO.assign rfl rfl ?_; refine GO.assign rfl rfl ?_; refine GO.nil ?_; refine kthen_n ?_; refine G.ret ?_)
        refine KF2.r2 rfl (RV.t rfl) (RV.t rfl) ⟨_, _, rfl, rfl, rfl⟩ (ImpS.sb ?_)
        ((refine Sb.c Tk.h ?_; refine Sb.c (Tk.t Tk.h) ?_); (refine Sb.s ?_; refine Sb.s ?_; exact Sb.r))
  · rw [if_neg he]
    have de : decide (askE C nt w.length ≠ 0) = true := decide_eq_true he
    generalize askE C nt w.length = e at *
    refine Fn.mk2 Try.func15 rfl rfl fun w0 F => ?_
    (refine G.seq ?_; refine G.region ?_; refine GO.box rfl rfl rfl fun b3 => ?_; refine GO.assign rfl rfl ?_; refine GO.assign rfl rfl ?_; refine GO.nil ?_; refine kthen_n ?_; refine G.seq ?_; refine G.region ?_; refine GO.loadW rfl rfl rfl Tk.h rfl ?_; refine GO.move rfl rfl ?_; refine GO.move rfl rfl ?_; refine GO.lenS rfl rfl ?_)
    refine GO.call3 rfl rfl rfl rfl (ha) (Tks.c (Tk.t Tk.h) Tks.n) ?_
    rintro _ _ ⟨rfl, rfl⟩
    refine GO.ownNil (T := 3) (sz := 1) ?_
    (refine GO.assign rfl rfl ?_; refine GO.nil ?_; refine kthen_n ?_; refine G.seq ?_; refine G.seq ?_; refine G.region ?_; refine GO.move rfl rfl ?_; refine GO.nei rfl rfl rfl ?_; refine GO.nil ?_; refine kthen_n ?_; refine G.condT rfl (by assumption) ?_; refine G.seq ?_; refine G.region ?_; refine GO.move rfl rfl ?_; refine GO.assign rfl rfl ?_; refine GO.assign rfl rfl ?_; refine GO.nil ?_; refine kthen_n ?_; refine G.ret ?_; refine kthen_r ?_)
    refine KF2.r2 (Q := [own 3 1 0 (.slice none 0 0) [], q]) rfl (RV.t rfl) (RV.t rfl) ⟨.slice none 0 0, [], rfl, rfl, by rw [own_nil0]⟩ (ImpS.sb ?_)
    ((refine Sb.c Tk.h ?_; refine Sb.c Tk.h ?_); (refine Sb.s ?_; exact Sb.r))
set_option maxHeartbeats 8000000 in
theorem rwho_spec (q : HP) (v : Value) (C : CnfD) (hv : CnfR q v C) (hz : Fits C) (w : List Int) (wv : Value) (hw : WordR q wv w) (D : Int → Nat → Nat → Bool) (hD : ∀ A i j, D A i j = true ↔ Der C w A i j) :
    Fn Try.prog 16 #[v, wv] [q] (fun r Q => ∃ u l, l = (if askE C 0 w.length = 0 then natL (fun a => D (a : Int) 0 w.length) (C.nts.toNat) else []) ∧ r = .tuple #[u, i64 (askE C 0 w.length)] ∧ Q = [own 3 1 l.length u (wordV l), q]) := by
  have ha := rwrong_spec q v C hv hz 0 w.length
  obtain ⟨pv, rfl, hp⟩ := hv
  have htab := rtable_spec q C w pv wv hp hw
  obtain ⟨ap, cp, rfl⟩ := hp.form
  obtain ⟨aw, cw, rfl⟩ := hw.form
  by_cases he : askE C 0 w.length = 0
  · obtain ⟨hok, hwk, h0, h1, hl⟩ := askE_zero he
    replace htab := htab hok hwk hz hl _ rfl
    have hn := okC_nts hok
    obtain ⟨m, hm⟩ := Int.eq_ofNat_of_zero_le (show 0 ≤ C.nts by omega)
    have hmt : C.nts.toNat = m := by rw [hm]; rfl
    rw [if_pos he, he, hmt]
    rw [he] at ha
    refine Fn.mk2 Try.func16 rfl rfl fun w0 F => ?_
    (refine G.seq ?_; refine G.region ?_; refine GO.box rfl rfl rfl fun b2 => ?_; refine GO.assign rfl rfl ?_; refine GO.assign rfl rfl ?_; refine GO.nil ?_; refine kthen_n ?_; refine G.seq ?_; refine G.region ?_; refine GO.loadW rfl rfl rfl Tk.h rfl ?_; refine GO.move rfl rfl ?_; refine GO.lenS rfl rfl ?_)
    refine GO.call3 rfl rfl rfl rfl (ha) (Tks.c (Tk.t Tk.h) Tks.n) ?_
    rintro _ _ ⟨rfl, rfl⟩
    (refine GO.assign rfl rfl ?_; refine GO.nil ?_; refine kthen_n ?_; refine G.seq ?_; refine G.seq ?_; refine G.region ?_; refine GO.move rfl rfl ?_; refine GO.neF rfl rfl rfl rfl ?_; refine GO.nil ?_; refine kthen_n ?_; refine G.condF rfl rfl ?_; refine G.skip ?_; refine kthen_n ?_; refine G.seq ?_; refine G.region ?_; refine GO.loadW rfl rfl rfl (Tk.t Tk.h) rfl ?_; refine GO.move rfl rfl ?_)
    refine GO.call2 rfl rfl rfl (htab) (Tks.c Tk.h Tks.n) ?_
    rintro _ _ ⟨bo, K, rfl, hK, rfl⟩
    have hkd : ∀ k : Nat, k < m → K (atN (w.length + 1) k 0 w.length) = D (k : Int) 0 w.length := fun k hk => by
      rw [Bool.eq_iff_iff, hK _ _ _ (by omega) (by omega) (by omega), hD]
    have hlt : ∀ k : Nat, k < m → atN (w.length + 1) k 0 w.length < C.nts.toNat * (w.length + 1) * (w.length + 1) := fun k hk => atN_lt (by omega) (by omega) (by omega)
    generalize C.nts.toNat * (w.length + 1) * (w.length + 1) = N at *
    (refine GO.assign rfl rfl ?_; refine GO.nil ?_; refine kthen_n ?_; refine G.seq ?_; refine G.region ?_; refine GO.assign rfl rfl ?_; refine GO.nil ?_; refine kthen_n ?_; refine G.seq ?_; refine G.seq ?_; refine G.region ?_; refine GO.assign rfl rfl ?_; refine GO.nil ?_; refine kthen_n ?_; refine G.block ?_)
    refine G.ownNil (T := 3) (sz := 1) ?_
    refine G.loop2 (fun (k : Nat) (u : Value) => [(1, .slice aw w.length cw), (2, ptrT b2), (7, .slice (some ⟨bo, 0, none⟩) N N), (8, u), (9, i64 (k : Nat))])
      (fun k u => own 3 1 (natL (fun a => D (a : Int) 0 w.length) k).length u (wordV (natL (fun a => D (a : Int) 0 w.length) k)) :: knM bo N K :: q :: pt b2 (row [i64 C.nts, .slice ap C.prods.length cp] 24) :: F)
      (fun k _ => k ≤ m) (fun k _ => m - k) 0 (.slice none 0 0) (Nat.zero_le _) ?_ ?_ ?_
    · (refine SubE.c rfl rfl ?_; refine SubE.c rfl rfl ?_; refine SubE.c rfl rfl ?_; refine SubE.c rfl rfl ?_; refine SubE.c rfl rfl ?_; exact SubE.n)
    · rw [own_nat0]
      ((refine Sb.c Tk.h ?_; refine Sb.c Tk.h ?_; refine Sb.c Tk.h ?_; refine Sb.c Tk.h ?_); (exact Sb.r))
    · rintro k u hk
      (refine G.seq ?_; refine G.seq ?_; refine G.region ?_; refine GO.move rfl rfl ?_; refine GO.fieldAddr rfl rfl ?_; refine GO.load1 rfl rfl rfl (Tk.t (Tk.t (Tk.t Tk.h))) rfl ?_; refine GO.lti rfl rfl rfl ?_; refine GO.nil ?_; refine kthen_n ?_)
      refine G.condD rfl (fun hlt2 => ?_) (fun hge => ?_)
      · have hx := hlt k (by omega)
        have hxd := hkd k (by omega)
        have hat := at_spec k 0 w.length (w.length + 1) (by omega) (by omega) (by omega) (by omega)
        rw [show i64 ((w.length + 1 : Nat) : Int) = .int .i64 ((w.length : Int) + 1) from rfl, show i64 ((0 : Nat) : Int) = i64 0 from rfl] at hat
        generalize atN (w.length + 1) k 0 w.length = x at hx hxd hat
        (refine G.skip ?_; refine kthen_n ?_; refine G.seq ?_; refine G.block ?_; refine G.seq ?_; refine G.region ?_; refine GO.move rfl rfl ?_; refine GO.move rfl rfl ?_; refine GO.move rfl rfl ?_; refine GO.lenS rfl rfl ?_; refine GO.move rfl rfl ?_; refine GO.lenS rfl rfl ?_; refine GO.addi rfl rfl rfl (by omega) ?_)
        refine GO.call4 rfl rfl rfl rfl rfl (hat) Tks.n ?_
        rintro _ _ ⟨rfl, rfl⟩
        (refine GO.idxS rfl rfl rfl ⟨rfl, by omega⟩ ?_; refine GO.load1 rfl rfl rfl (Tk.t Tk.h) (rowV_get1 (by assumption)) ?_; refine GO.nil ?_; refine kthen_n ?_)
        rw [hxd]
        have hlen := natL_len (fun a => D (a : Int) 0 w.length) k
        have hstep : natL (fun a => D (a : Int) 0 w.length) (k + 1) = if D (k : Int) 0 w.length then natL (fun a => D (a : Int) 0 w.length) k ++ [(k : Int)] else natL (fun a => D (a : Int) 0 w.length) k := natL_succ _ k
        cases hd : D (k : Int) 0 w.length with
        | true =>
          rw [hd, if_pos rfl] at hstep
          (refine G.condT rfl rfl ?_; refine G.region ?_; refine GO.move rfl rfl ?_; refine GO.move rfl rfl ?_)
          refine GO.buildSlice1 rfl rfl (by simp; rfl) rfl ⟨by omega, by omega⟩ fun bs => ?_
          refine GO.appendOwn (m := 1) (news := [i64 (k : Nat)]) rfl rfl rfl (Tk.t Tk.h) Tk.h rfl (by simp [Value.oneCell']) ⟨by decide, rfl⟩ Nat.one_pos (by unfold maxLen; omega) (by omega) fun v4 => ?_
          rw [← wordV_snoc, show (natL (fun a => D (a : Int) 0 w.length) k).length + 1 = (natL (fun a => D (a : Int) 0 w.length) k ++ [(k : Int)]).length by rw [List.length_append]; rfl, ← hstep]
          (refine GO.assign rfl rfl ?_; refine GO.nil ?_; refine kblock_n ?_; refine kthen_n ?_; refine G.region ?_; refine GO.move rfl rfl ?_; refine GO.addi rfl rfl rfl (by omega) ?_; refine GO.assign rfl rfl ?_; refine GO.nil ?_; refine kthen_n ?_)
          refine ⟨k + 1, v4, by omega, by omega, ?_, ?_⟩
          · (refine SubE.c rfl rfl ?_; refine SubE.c rfl rfl ?_; refine SubE.c rfl rfl ?_; refine SubE.c rfl rfl ?_; refine SubE.c rfl rfl ?_; exact SubE.n)
          · ((refine Sb.c Tk.h ?_; refine Sb.c (Tk.t Tk.h) ?_; refine Sb.c (Tk.t Tk.h) ?_; refine Sb.c (Tk.t Tk.h) ?_); (refine Sb.s ?_; exact Sb.r))
        | false =>
          rw [hd, if_neg (by simp)] at hstep
          rw [← hstep]
          (refine G.condF rfl rfl ?_; refine G.skip ?_; refine kblock_n ?_; refine kthen_n ?_; refine G.region ?_; refine GO.move rfl rfl ?_; refine GO.addi rfl rfl rfl (by omega) ?_; refine GO.assign rfl rfl ?_; refine GO.nil ?_; refine kthen_n ?_)
          refine ⟨k + 1, u, by omega, by omega, ?_, ?_⟩
          · (refine SubE.c rfl rfl ?_; refine SubE.c rfl rfl ?_; refine SubE.c rfl rfl ?_; refine SubE.c rfl rfl ?_; refine SubE.c rfl rfl ?_; exact SubE.n)
          · ((refine Sb.c Tk.h ?_; refine Sb.c Tk.h ?_; refine Sb.c Tk.h ?_; refine Sb.c Tk.h ?_); (exact Sb.r))
      · have : k = m := by omega
        subst this
        (refine G.exit ?_; refine kthen_x ?_; refine kthen_x ?_; refine kblock_x ?_; refine kthen_n ?_; refine G.seq ?_; refine G.region ?_; refine GO.move rfl rfl ?_; refine GO.assign rfl rfl ?_; refine GO.assign rfl rfl ?_; refine GO.nil ?_; refine kthen_n ?_; refine G.ret ?_)
        refine KF2.r2 rfl (RV.t rfl) (RV.t rfl) ⟨_, _, rfl, rfl, rfl⟩ (ImpS.sb ?_)
        ((refine Sb.c Tk.h ?_; refine Sb.c (Tk.t Tk.h) ?_); (refine Sb.s ?_; refine Sb.s ?_; exact Sb.r))
  · rw [if_neg he]
    have de : decide (askE C 0 w.length ≠ 0) = true := decide_eq_true he
    generalize askE C 0 w.length = e at *
    refine Fn.mk2 Try.func16 rfl rfl fun w0 F => ?_
    (refine G.seq ?_; refine G.region ?_; refine GO.box rfl rfl rfl fun b2 => ?_; refine GO.assign rfl rfl ?_; refine GO.assign rfl rfl ?_; refine GO.nil ?_; refine kthen_n ?_; refine G.seq ?_; refine G.region ?_; refine GO.loadW rfl rfl rfl Tk.h rfl ?_; refine GO.move rfl rfl ?_; refine GO.lenS rfl rfl ?_)
    refine GO.call3 rfl rfl rfl rfl (ha) (Tks.c (Tk.t Tk.h) Tks.n) ?_
    rintro _ _ ⟨rfl, rfl⟩
    refine GO.ownNil (T := 3) (sz := 1) ?_
    (refine GO.assign rfl rfl ?_; refine GO.nil ?_; refine kthen_n ?_; refine G.seq ?_; refine G.seq ?_; refine G.region ?_; refine GO.move rfl rfl ?_; refine GO.nei rfl rfl rfl ?_; refine GO.nil ?_; refine kthen_n ?_; refine G.condT rfl (by assumption) ?_; refine G.seq ?_; refine G.region ?_; refine GO.move rfl rfl ?_; refine GO.assign rfl rfl ?_; refine GO.assign rfl rfl ?_; refine GO.nil ?_; refine kthen_n ?_; refine G.ret ?_; refine kthen_r ?_)
    refine KF2.r2 (Q := [own 3 1 0 (.slice none 0 0) [], q]) rfl (RV.t rfl) (RV.t rfl) ⟨.slice none 0 0, [], rfl, rfl, by rw [own_nil0]⟩ (ImpS.sb ?_)
    ((refine Sb.c Tk.h ?_; refine Sb.c Tk.h ?_); (refine Sb.s ?_; exact Sb.r))
set_option maxHeartbeats 4000000 in
theorem sameI_spec (l : List Int) (hl : ¬ 1000000 < l.length) (u v : Value) : Fn Try.prog 17 #[u, v] [own 3 1 l.length u (wordV l), own 3 1 l.length v (wordV l)] (fun r Q => r = .bool true ∧ Q = [own 3 1 l.length u (wordV l), own 3 1 l.length v (wordV l)]) := by
  have dl : decide (((l.length : Nat) : Int) ≠ ((l.length : Nat) : Int)) = false := decide_eq_false (fun h => h rfl)
  refine Fn.mk2 Try.func17 rfl rfl fun w0 F => ?_
  (refine G.seq ?_; refine G.region ?_; refine GO.assign rfl rfl ?_; refine GO.nil ?_; refine kthen_n ?_; refine G.seq ?_; refine G.seq ?_; refine G.region ?_; refine GO.move rfl rfl ?_; refine GO.lenOwn rfl rfl Tk.h ?_; refine GO.move rfl rfl ?_; refine GO.lenOwn rfl rfl (Tk.t Tk.h) ?_; refine GO.neF rfl rfl rfl rfl ?_; refine GO.nil ?_; refine kthen_n ?_; refine G.condF rfl rfl ?_; refine G.skip ?_; refine kthen_n ?_; refine G.seq ?_; refine G.seq ?_; refine G.region ?_; refine GO.assign rfl rfl ?_; refine GO.nil ?_; refine kthen_n ?_; refine G.block ?_)
  refine G.loop (fun k : Nat => [(0, u), (1, v), (5, i64 (k : Nat))]) (fun _ => own 3 1 l.length u (wordV l) :: own 3 1 l.length v (wordV l) :: F) (fun k => k ≤ l.length) (fun k => l.length - k) 0 (Nat.zero_le _) ?_ ?_ ?_
  · (refine SubE.c rfl rfl ?_; refine SubE.c rfl rfl ?_; refine SubE.c rfl rfl ?_; exact SubE.n)
  · ((refine Sb.c Tk.h ?_; refine Sb.c Tk.h ?_); (exact Sb.r))
  · rintro k hk
    (refine G.seq ?_; refine G.seq ?_; refine G.region ?_; refine GO.move rfl rfl ?_; refine GO.move rfl rfl ?_; refine GO.lenOwn rfl rfl Tk.h ?_; refine GO.lti rfl rfl rfl ?_; refine GO.nil ?_; refine kthen_n ?_)
    refine G.condD rfl (fun hlt => ?_) (fun hge => ?_)
    · have hkl : k < l.length := by omega
      obtain ⟨x, hx⟩ : ∃ x, l[k]? = some x := ⟨_, List.getElem?_eq_getElem hkl⟩
      refine G.ownForm (by omega) Tk.h fun b1 c1 e1 _ _ _ => ?_
      subst e1
      refine G.ownForm (by omega) (Tk.t Tk.h) fun b2 c2 e2 _ _ _ => ?_
      subst e2
      have r1 : Rd (own 3 1 l.length (.slice (some ⟨b1, 0, none⟩) l.length c1) (wordV l)) ⟨b1, 0 + k * 1, none⟩ (i64 x) := Rd.own (by rw [Nat.zero_add, Nat.mul_one]; exact wordV_get hx)
      have r2 : Rd (own 3 1 l.length (.slice (some ⟨b2, 0, none⟩) l.length c2) (wordV l)) ⟨b2, 0 + k * 1, none⟩ (i64 x) := Rd.own (by rw [Nat.zero_add, Nat.mul_one]; exact wordV_get hx)
      have dx : decide (x ≠ x) = false := decide_eq_false (fun h => h rfl)
      (refine G.skip ?_; refine kthen_n ?_; refine G.seq ?_; refine G.block ?_; refine G.seq ?_)
      refine G.draw 9 (by kernel_rfl) ?_
      ((apply GQ.step; focus (intro Z; refine GO.move rfl rfl ?_; exact KQ.z)); (apply GQ.step; focus (intro Z; refine GO.move rfl rfl ?_; exact KQ.z)); (apply GQ.step; focus (intro Z; refine GO.idxS rfl rfl rfl ⟨rfl, by omega⟩ ?_; exact KQ.z)); (apply GQ.step; focus (intro Z; refine GO.loadQ rfl rfl rfl Tk.h (by assumption) ?_; exact KQ.z)); (apply GQ.step; focus (intro Z; refine GO.move rfl rfl ?_; exact KQ.z)); (apply GQ.step; focus (intro Z; refine GO.move rfl rfl ?_; exact KQ.z)); (apply GQ.step; focus (intro Z; refine GO.idxS rfl rfl rfl ⟨rfl, by omega⟩ ?_; exact KQ.z)); (apply GQ.step; focus (intro Z; refine GO.loadQ rfl rfl rfl (Tk.t Tk.h) (by assumption) ?_; exact KQ.z)); (apply GQ.step; focus (intro Z; refine GO.neF rfl rfl rfl rfl ?_; exact KQ.z)); refine GQ.nil ?_)
      (refine GO.nil ?_; refine kthen_n ?_; refine G.condF rfl rfl ?_; refine G.skip ?_; refine kblock_n ?_; refine kthen_n ?_; refine G.region ?_; refine GO.move rfl rfl ?_; refine GO.addi rfl rfl rfl (by omega) ?_; refine GO.assign rfl rfl ?_; refine GO.nil ?_; refine kthen_n ?_)
      refine ⟨k + 1, by omega, by omega, ?_, ?_⟩
      · (refine SubE.c rfl rfl ?_; refine SubE.c rfl rfl ?_; refine SubE.c rfl rfl ?_; exact SubE.n)
      · ((refine Sb.c Tk.h ?_; refine Sb.c Tk.h ?_); (exact Sb.r))
    · (refine G.exit ?_; refine kthen_x ?_; refine kthen_x ?_; refine kblock_x ?_; refine kthen_n ?_; refine G.seq ?_; refine G.region ?_; refine GO.assign rfl rfl ?_; refine GO.nil ?_; refine kthen_n ?_; refine G.ret ?_)
      refine KF2.r1 rfl (RV.t rfl) ⟨rfl, rfl⟩ (ImpS.sb ?_)
      ((refine Sb.c Tk.h ?_; refine Sb.c Tk.h ?_); (exact Sb.r))
end Go.Proofs.Ytjokibfldngkeaa
namespace Go.Proofs.Ytjokibfldngkeaa
open Go
theorem ImpS.un2 (x y q : HP) (F : List HP) : ImpS (star [y, star [x, q]] :: F) (q :: F) := fun l w s => by
  have s1 : sat ([y, star [x, q]] ++ (F ++ l)) w := sat_flat.1 s
  have s2 : sat (star [x, q] :: (F ++ l)) w := (Sb.s Sb.r).sat s1
  have s3 : sat ([x, q] ++ (F ++ l)) w := sat_flat.1 s2
  exact (Sb.s Sb.r : Sb (q :: (F ++ l)) (x :: q :: (F ++ l))).sat s3
attribute [local irreducible] G GO GR GT Fn FnV pt init exs pur sat own ImpS symsV wordV natL
set_option maxHeartbeats 8000000 in
theorem dbegins_law (q : HP) (v wv : Value) (C : CnfD) (nt : Int) (w : List Int) (hv : CnfR q v C) (hz : Fits C) (hw : WordR q wv w) :
    Fn Try.prog 4 #[v, i64 nt, wv] [q] (fun r Q => r = .bool true ∧ Q = [q]) := by
  obtain ⟨D, hD⟩ := der_ex C w
  have hcopy := fun (z : HP) (hs : Sup q z) => copy_spec z v C (hv.sup hs) hz
  have eB := fun (z : HP) (c : Value) (hc : CnfR z c C) (hs : Sup q z) => pbegins_spec z c C hc hz nt w wv (hw.sup hs) D hD
  have eW := fun (z : HP) (c : Value) (hc : CnfR z c C) (hs : Sup q z) => pwho_spec z c C hc hz w wv (hw.sup hs) D hD
  have rB := fun (z : HP) (hs : Sup q z) => rbegins_spec z v C (hv.sup hs) hz nt w wv (hw.sup hs) D hD
  have rW := fun (z : HP) (hs : Sup q z) => rwho_spec z v C (hv.sup hs) hz w wv (hw.sup hs) D hD
  have bB : ¬ 1000000 < (if askE C nt w.length = 0 then natL (fun k => D nt 0 k) (w.length + 1) else []).length := by
    split
    · rename_i h
      have h1 := (askE_zero h).2.2.2.2
      have h2 := natL_len (fun k => D nt 0 k) (w.length + 1)
      omega
    · simp
  have bW : ¬ 1000000 < (if askE C 0 w.length = 0 then natL (fun a => D (a : Int) 0 w.length) C.nts.toNat else []).length := by
    split
    · rename_i h
      have h1 := okC_nts (askE_zero h).1
      have h2 := natL_len (fun a => D (a : Int) 0 w.length) C.nts.toNat
      omega
    · simp
  generalize (if askE C nt w.length = 0 then natL (fun k => D nt 0 k) (w.length + 1) else []) = lb at eB rB bB
  generalize (if askE C 0 w.length = 0 then natL (fun a => D (a : Int) 0 w.length) C.nts.toNat else []) = lw at eW rW bW
  generalize askE C nt w.length = e at eB rB
  generalize askE C 0 w.length = e' at eW rW
  have sB := sameI_spec lb bB
  have sW := sameI_spec lw bW
  obtain ⟨pv, rfl, hp⟩ := hv
  obtain ⟨ap, cp, rfl⟩ := hp.form
  obtain ⟨aw, cw, rfl⟩ := hw.form
  have de : decide (e = e) = true := decide_eq_true rfl
  have de' : decide (e' = e') = true := decide_eq_true rfl
  refine Fn.mk2 Try.func4 rfl rfl fun w0 F => ?_
  (refine G.seq ?_; refine G.region ?_; refine GO.box rfl rfl rfl fun b3 => ?_; refine GO.assign rfl rfl ?_; refine GO.nil ?_; refine kthen_n ?_; refine G.seq ?_; refine G.region ?_; refine GO.loadW rfl rfl rfl Tk.h rfl ?_)
  refine GO.call1 rfl rfl (hcopy q (Sup.refl q)) (Tks.c (Tk.t Tk.h) Tks.n) ?_
  rintro c _ ⟨z, hz1, rfl⟩
  refine GO.merge (x := z) (y := q) (Tks.c Tk.h (Tks.c Tk.h Tks.n)) ?_
  have h1 : Sup q (star [z, q]) := Sup.right z q
  (refine GO.move rfl rfl ?_; refine GO.move rfl rfl ?_)
  refine GO.call3 rfl rfl rfl rfl (eB (star [z, q]) c (hz1.sup (Sup.left z q)) h1) (Tks.c Tk.h Tks.n) ?_
  rintro _ _ ⟨u1, l1, rfl, rfl, rfl⟩
  (refine GO.move rfl rfl ?_; refine GO.extract rfl rfl rfl ?_; refine GO.extract rfl rfl rfl ?_; refine GO.assign rfl rfl ?_; refine GO.assign rfl rfl ?_; refine GO.nil ?_; refine kthen_n ?_; refine G.seq ?_; refine G.region ?_; refine GO.loadW rfl rfl rfl (Tk.t (Tk.t Tk.h)) rfl ?_)
  refine GO.call1 rfl rfl (hcopy (star [z, q]) h1) (Tks.c (Tk.t Tk.h) Tks.n) ?_
  rintro c2 _ ⟨y, hy1, rfl⟩
  refine GO.merge (x := y) (y := star [z, q]) (Tks.c Tk.h (Tks.c Tk.h Tks.n)) ?_
  have h2 : Sup q (star [y, star [z, q]]) := h1.trans (Sup.right y _)
  (refine GO.move rfl rfl ?_)
  refine GO.call2 rfl rfl rfl (eW (star [y, star [z, q]]) c2 (hy1.sup (Sup.left y _)) h2) (Tks.c Tk.h Tks.n) ?_
  rintro _ _ ⟨u2, l2, rfl, rfl, rfl⟩
  (refine GO.move rfl rfl ?_; refine GO.extract rfl rfl rfl ?_; refine GO.extract rfl rfl rfl ?_; refine GO.assign rfl rfl ?_; refine GO.assign rfl rfl ?_; refine GO.nil ?_; refine kthen_n ?_; refine G.seq ?_; refine G.region ?_; refine GO.loadW rfl rfl rfl (Tk.t (Tk.t (Tk.t Tk.h))) rfl ?_; refine GO.move rfl rfl ?_; refine GO.move rfl rfl ?_)
  refine GO.call3 rfl rfl rfl rfl (rB (star [y, star [z, q]]) h2) (Tks.c (Tk.t Tk.h) Tks.n) ?_
  rintro _ _ ⟨u3, l3, rfl, rfl, rfl⟩
  (refine GO.move rfl rfl ?_; refine GO.extract rfl rfl rfl ?_; refine GO.extract rfl rfl rfl ?_; refine GO.assign rfl rfl ?_; refine GO.assign rfl rfl ?_; refine GO.nil ?_; refine kthen_n ?_; refine G.seq ?_; refine G.region ?_; refine GO.loadW rfl rfl rfl (Tk.t (Tk.t (Tk.t (Tk.t Tk.h)))) rfl ?_; refine GO.move rfl rfl ?_)
  refine GO.call2 rfl rfl rfl (rW (star [y, star [z, q]]) h2) (Tks.c (Tk.t Tk.h) Tks.n) ?_
  rintro _ _ ⟨u4, l4, rfl, rfl, rfl⟩
  (refine GO.move rfl rfl ?_; refine GO.extract rfl rfl rfl ?_; refine GO.extract rfl rfl rfl ?_; refine GO.assign rfl rfl ?_; refine GO.assign rfl rfl ?_; refine GO.nil ?_; refine kthen_n ?_; refine G.seq ?_; refine G.region ?_)
  refine GO.call0 rfl (dhead_spec) Tks.n ?_
  rintro _ _ ⟨rfl, rfl⟩
  (refine GO.move rfl rfl ?_; refine GO.gT rfl rfl rfl ?_; refine GO.move rfl rfl ?_; refine GO.gT rfl rfl rfl ?_; refine GO.move rfl rfl ?_; refine GO.gT rfl rfl rfl ?_; refine GO.eqT rfl rfl rfl rfl ?_; refine GO.pickT rfl rfl rfl ?_; refine GO.move rfl rfl ?_; refine GO.gT rfl rfl rfl ?_; refine GO.move rfl rfl ?_; refine GO.gT rfl rfl rfl ?_; refine GO.move rfl rfl ?_; refine GO.gT rfl rfl rfl ?_; refine GO.eqT rfl rfl rfl rfl ?_; refine GO.pickT rfl rfl rfl ?_; refine GO.move rfl rfl ?_; refine GO.gT rfl rfl rfl ?_; refine GO.move rfl rfl ?_; refine GO.gT rfl rfl rfl ?_; refine GO.move rfl rfl ?_; refine GO.gT rfl rfl rfl ?_)
  refine GO.call2 rfl rfl rfl (sB u1 u3) (Tks.c (Tk.t (Tk.t (Tk.t (Tk.t Tk.h)))) (Tks.c (Tk.t (Tk.t Tk.h)) Tks.n)) ?_
  rintro _ _ ⟨rfl, rfl⟩
  (refine GO.pickT rfl rfl rfl ?_; refine GO.move rfl rfl ?_; refine GO.gT rfl rfl rfl ?_; refine GO.move rfl rfl ?_; refine GO.gT rfl rfl rfl ?_; refine GO.move rfl rfl ?_; refine GO.gT rfl rfl rfl ?_)
  refine GO.call2 rfl rfl rfl (sW u2 u4) (Tks.c (Tk.t (Tk.t (Tk.t (Tk.t Tk.h)))) (Tks.c (Tk.t (Tk.t Tk.h)) Tks.n)) ?_
  rintro _ _ ⟨rfl, rfl⟩
  (refine GO.pickT rfl rfl rfl ?_; refine GO.assign rfl rfl ?_; refine GO.nil ?_; refine kthen_n ?_; refine G.ret ?_)
  refine KF2.r1 rfl (RV.t rfl) ⟨rfl, rfl⟩ (ImpS.trans (ImpS.sb (M := star [y, star [z, q]] :: F) ?_) (ImpS.un2 z y q F))
  ((refine Sb.c (Tk.t (Tk.t (Tk.t (Tk.t Tk.h)))) ?_); (refine Sb.s ?_; refine Sb.s ?_; refine Sb.s ?_; refine Sb.s ?_; refine Sb.s ?_; exact Sb.r))
end Go.Proofs.Ytjokibfldngkeaa
namespace Go.Proofs.Ytjokibfldngkeaa
open Go
attribute [local irreducible] G GO GR GT Fn FnV pt init exs pur sat own ImpS
theorem Sb.mid {Y F : List HP} {x : HP} : Sb (Y ++ F) (Y ++ (x :: F)) := ⟨[x], by
  rw [List.append_assoc]
  exact List.Perm.append_left Y (List.perm_append_singleton x F).symm⟩
theorem tk_mid {Y F : List HP} {x : HP} : Tks Y (x :: (Y ++ F)) (x :: F) := List.perm_middle.symm
theorem tk_mid2 {Y F : List HP} {x y : HP} : Tks Y (x :: y :: (Y ++ F)) (x :: y :: F) := by
  have h1 : (x :: y :: (Y ++ F)).Perm (x :: (Y ++ (y :: F))) := List.Perm.cons _ List.perm_middle.symm
  exact h1.trans List.perm_middle.symm
theorem Sb.mid2 {Y F : List HP} {x y : HP} : Sb (y :: (Y ++ F)) (Y ++ (x :: y :: F)) := ⟨[x], by
  have h1 : (Y ++ (x :: y :: F)).Perm (x :: (Y ++ (y :: F))) := List.perm_middle
  have h2 : (x :: (Y ++ (y :: F))).Perm (x :: y :: (Y ++ F)) := List.Perm.cons _ List.perm_middle
  exact (h1.trans h2).trans (List.perm_append_singleton x (y :: (Y ++ F))).symm⟩
def prodV (p : ProdD) (bv : Value) : Value := .agg [i64 p.1, bv].toArray
inductive Reach {σ : Type} (step : σ → ProdD → σ × Bool) (ps : List ProdD) : σ → σ → Prop
  | refl (s : σ) : Reach step ps s s
  | more {s t : σ} {p : ProdD} : Reach step ps s t → p ∈ ps → Reach step ps s (step t p).1
theorem Reach.inv {σ : Type} {step : σ → ProdD → σ × Bool} {ps : List ProdD} {J : σ → Prop} (h : ∀ s p, J s → p ∈ ps → J (step s p).1) {s t : σ} (r : Reach step ps s t) (hs : J s) : J t := by
  induction r with
  | refl => exact hs
  | more _ hp ih => exact h _ _ ih hp
set_option maxHeartbeats 4000000 in
set_option maxRecDepth 20000 in
theorem grow_spec {σ : Type} (q : HP) (v f : Value) (C : CnfD) (hv : CnfR q v C) (hz : Fits C) (M : σ → List HP) (I : σ → Prop) (step : σ → ProdD → σ × Bool) (μ : σ → Nat)
    (hf : ∀ s p, I s → p ∈ C.prods → ∀ bv, SymsR q bv p.2 → FnV Try.prog f [prodV p bv] (q :: M s) (fun r Q => r = .bool (step s p).2 ∧ Q = q :: M (step s p).1))
    (hI : ∀ s p, I s → p ∈ C.prods → I (step s p).1) (hdn : ∀ s p, I s → p ∈ C.prods → (step s p).2 = true → μ (step s p).1 < μ s) (hst : ∀ s p, (step s p).2 = false → (step s p).1 = s) (s0 : σ) (h0 : I s0) :
    Fn Try.prog 37 #[v, f] (q :: M s0) (fun _ Q => ∃ s', I s' ∧ Reach step C.prods s0 s' ∧ (∀ p ∈ C.prods, (step s' p).2 = false) ∧ Q = q :: M s') := by
  obtain ⟨pv, rfl, hp⟩ := hv
  obtain ⟨a0, cap0, rfl⟩ := hp.form
  have hz1 := hz.1
  refine Fn.mk Try.func37 rfl rfl fun w0 F => ?_
  (refine G.seq ?_; refine G.region ?_)
  refine GO.box rfl rfl rfl fun b2 => ?_
  (refine GO.nil ?_; refine kthen_n ?_; refine G.seq ?_; refine G.region ?_; refine GO.assign rfl rfl ?_; refine GO.nil ?_; refine kthen_n ?_; refine G.block ?_)
  refine G.loop2 (fun (_ : σ) (again : Bool) => [(1, f), (2, .pointer (some ⟨b2, 0, none⟩)), (4, .bool again)])
    (fun s _ => pt b2 (row [i64 C.nts, .slice a0 C.prods.length cap0] 24) :: ((q :: M s) ++ F))
    (fun s again => I s ∧ Reach step C.prods s0 s ∧ (again = false → ∀ p ∈ C.prods, (step s p).2 = false)) (fun s again => 2 * μ s + (if again then 1 else 0)) s0 true ⟨h0, .refl s0, fun h => by cases h⟩ ?_ ?_ ?_
  · (refine SubE.c rfl rfl ?_; refine SubE.c rfl rfl ?_; refine SubE.c rfl rfl ?_; exact SubE.n)
  · exact Sb.r
  rintro s again ⟨hIs, hR, hA⟩
  (refine G.seq ?_; refine G.seq ?_; refine G.region ?_; refine GO.move rfl rfl ?_; refine GO.nil ?_; refine kthen_n ?_)
  cases again with
  | false =>
    (refine G.condF rfl rfl ?_; refine G.exit ?_; refine kthen_x ?_; refine kthen_x ?_; refine kblock_x ?_)
    refine KF.n0 rfl (Q := q :: M s) ⟨s, hIs, hR, hA rfl, rfl⟩ (Sb.s Sb.r)
  | true =>
    (refine G.condT rfl rfl ?_; refine G.skip ?_; refine kthen_n ?_; refine G.block ?_; refine G.seq ?_; refine G.region ?_; refine GO.assign rfl rfl ?_; refine GO.nil ?_; refine kthen_n ?_; refine G.seq ?_; refine G.region ?_; refine GO.fieldAddr rfl rfl ?_; refine GO.load1 rfl rfl rfl Tk.h rfl ?_; refine GO.lenS rfl rfl ?_; refine GO.move rfl rfl ?_; refine GO.nil ?_; refine kthen_n ?_; refine G.block ?_)
    refine G.loop3 (fun (k : Nat) (_ : σ) (ag : Bool) => [(1, f), (2, .pointer (some ⟨b2, 0, none⟩)), (4, .bool ag), (9, .slice a0 C.prods.length cap0), (10, i64 C.prods.length), (11, i64 k)])
      (fun _ t _ => pt b2 (row [i64 C.nts, .slice a0 C.prods.length cap0] 24) :: ((q :: M t) ++ F))
      (fun k t ag => k ≤ C.prods.length ∧ I t ∧ Reach step C.prods s0 t ∧ (ag = true → μ t < μ s) ∧ (ag = false → t = s ∧ ∀ j p, j < k → C.prods[j]? = some p → (step s p).2 = false)) (fun k _ _ => C.prods.length - k) 0 s false
      ⟨by omega, hIs, hR, (fun h => by cases h), fun _ => ⟨rfl, fun j p hj => by omega⟩⟩ ?_ ?_ ?_
    · (refine SubE.c rfl rfl ?_; refine SubE.c rfl rfl ?_; refine SubE.c rfl rfl ?_; refine SubE.c rfl rfl ?_; refine SubE.c rfl rfl ?_; refine SubE.c rfl rfl ?_; exact SubE.n)
    · exact Sb.r
    rintro k t ag ⟨hk, hIt, hRt, hg1, hg2⟩
    (refine G.seq ?_; refine G.region ?_; refine GO.lti rfl rfl rfl ?_; refine GO.nil ?_; refine kthen_n ?_; refine G.seq ?_)
    refine G.condD rfl (fun hlt => ?_) (fun hge => ?_)
    · have hlt' : k < C.prods.length := by omega
      obtain ⟨p, hpk⟩ : ∃ p, C.prods[k]? = some p := ⟨C.prods[k], by simp [hlt']⟩
      have hpm := List.mem_of_getElem? hpk
      obtain ⟨b, o, bv, rfl, _, r1, r2, hs⟩ := hp.at hpk
      obtain ⟨ab, capb, rfl⟩ := hs.form
      (refine G.skip ?_; refine kthen_n ?_; refine G.seq ?_; refine G.block ?_; refine G.seq ?_; refine G.region ?_; refine GO.idxS rfl rfl rfl ⟨rfl, by omega⟩ ?_)
      refine GO.load2 (q := q) rfl rfl rfl (Tk.t Tk.h) r1 r2 ?_
      refine GO.alloc rfl fun b6 => ?_
      refine GO.storeW rfl rfl Tk.h ⟨rfl, rfl⟩ (by simp [Value.oneCell']) ?_
      (refine GO.nil ?_; refine kthen_n ?_; refine G.region ?_; refine GO.move rfl rfl ?_)
      refine GO.loadW rfl rfl rfl Tk.h rfl ?_
      refine GO.callV1 rfl rfl rfl (hf t p hIt hpm _ hs) tk_mid2 ?_
      rintro _ _ ⟨rfl, rfl⟩
      have hIt' := hI t p hIt hpm
      have hRt' := Reach.more hRt hpm
      cases hb : (step t p).2 with
      | true =>
        have hm := hdn t p hIt hpm hb
        (refine GO.move rfl rfl ?_; refine GO.gF rfl rfl rfl rfl ?_; refine GO.pickT rfl rfl rfl ?_; refine GO.assign rfl rfl ?_; refine GO.nil ?_; refine kblock_n ?_; refine kthen_n ?_; refine G.region ?_; refine GO.addi rfl rfl rfl (by omega) ?_; refine GO.move rfl rfl ?_; refine GO.nil ?_; refine kthen_n ?_)
        refine ⟨k + 1, (step t p).1, true, ⟨by omega, hIt', hRt', (fun _ => ?_), fun h => by cases h⟩, by omega, ?_, Sb.mid2⟩
        · cases ag with
          | true => have := hg1 rfl; omega
          | false => obtain ⟨e, _⟩ := hg2 rfl; subst e; exact hm
        · (refine SubE.c rfl rfl ?_; refine SubE.c rfl rfl ?_; refine SubE.c rfl rfl ?_; refine SubE.c rfl rfl ?_; refine SubE.c rfl rfl ?_; refine SubE.c rfl rfl ?_; exact SubE.n)
      | false =>
        have he := hst t p hb
        rw [he] at hIt' hRt' ⊢
        (refine GO.move rfl rfl ?_; refine GO.gT rfl rfl rfl ?_; refine GO.move rfl rfl ?_; refine GO.pickF rfl rfl rfl ?_; refine GO.assign rfl rfl ?_; refine GO.nil ?_; refine kblock_n ?_; refine kthen_n ?_; refine G.region ?_; refine GO.addi rfl rfl rfl (by omega) ?_; refine GO.move rfl rfl ?_; refine GO.nil ?_; refine kthen_n ?_)
        refine ⟨k + 1, t, ag, ⟨by omega, hIt, hRt, hg1, fun h => ?_⟩, by omega, ?_, Sb.mid2⟩
        · obtain ⟨e, hj⟩ := hg2 h
          subst e
          refine ⟨rfl, fun j p' hjk hp' => ?_⟩
          by_cases ej : j = k
          · subst ej; rw [hpk] at hp'; simp only [Option.some.injEq] at hp'; subst hp'; exact hb
          · exact hj j p' (by omega) hp'
        · (refine SubE.c rfl rfl ?_; refine SubE.c rfl rfl ?_; refine SubE.c rfl rfl ?_; refine SubE.c rfl rfl ?_; refine SubE.c rfl rfl ?_; refine SubE.c rfl rfl ?_; exact SubE.n)
    · have : k = C.prods.length := by omega
      subst this
      (refine G.exit ?_; refine kthen_x ?_; refine kthen_x ?_; refine kblock_x ?_; refine kblock_n ?_; refine kthen_n ?_)
      refine ⟨t, ag, ⟨hIt, hRt, fun h p hpm => ?_⟩, ?_, ?_, Sb.r⟩
      · obtain ⟨e, hj⟩ := hg2 h
        subst e
        obtain ⟨j, hjl, hj'⟩ := List.getElem_of_mem hpm
        exact hj j p hjl (by rw [List.getElem?_eq_getElem hjl, hj'])
      · cases ag with
        | true => have := hg1 rfl; simp; omega
        | false => obtain ⟨e, _⟩ := hg2 rfl; subst e; simp
      · (refine SubE.c rfl rfl ?_; refine SubE.c rfl rfl ?_; refine SubE.c rfl rfl ?_; exact SubE.n)
end Go.Proofs.Ytjokibfldngkeaa
namespace Go.Proofs.Ytjokibfldngkeaa
open Go
attribute [local irreducible] G GO GR GT Fn FnV pt init exs pur sat own ImpS
/-- Has a symbol something? (Labels have it or not.) -/
def symHas (o : Nat → Bool) (lb : Bool) (s : SymD) : Bool := if s.1 then lb else o s.2.toNat
/-- The symbols' numbers are nonterminals'. -/
def symIn (n : Int) (s : SymD) : Prop := s.1 = false → 0 ≤ s.2 ∧ s.2 < n
abbrev allM (o : Nat → Bool) (lb : Bool) (n : Nat) (bo b4 b5 : Nat) : List HP :=
  [pt b5 (row [.bool lb] 4), pt b4 (row [.slice (some ⟨bo, 0, none⟩) n n] 64), pt bo (row (boolsV o n) 4)]
theorem any_all (o : Nat → Bool) (lb : Bool) (ss : List SymD) : (!ss.any fun s => !symHas o lb s) = ss.all (symHas o lb) := by
  induction ss with
  | nil => rfl
  | cons s ss ih => simp only [List.any_cons, List.all_cons, ← ih]; cases symHas o lb s <;> simp
/-- One production lets a nonterminal have something. -/
def cloStep (lb : Bool) (o : Nat → Bool) (p : ProdD) : (Nat → Bool) × Bool :=
  if o p.1.toNat || !p.2.all (symHas o lb) then (o, false) else (upd o p.1.toNat true, true)
abbrev cloM (lb : Bool) (n bo b3 b7 : Nat) (o : Nat → Bool) : List HP :=
  [pt b7 (row [.slice (some ⟨bo, 0, none⟩) n n] 64), pt b3 (row [.bool lb] 4), pt bo (row (boolsV o n) 4)]
def prodIn (n : Int) (p : ProdD) : Prop := (0 ≤ p.1 ∧ p.1 < n) ∧ ∀ s ∈ p.2, symIn n s
end Go.Proofs.Ytjokibfldngkeaa
namespace Go.Proofs.Ytjokibfldngkeaa
open Go
attribute [local irreducible] G GO GR GT Fn FnV pt init exs pur sat own ImpS
theorem okC_in {C : CnfD} (h : okC C = true) : (1 ≤ C.nts ∧ C.nts ≤ 1024) ∧ ∀ p ∈ C.prods, prodIn C.nts p := by
  unfold okC at h
  simp only [Bool.and_eq_true, List.all_eq_true, Bool.not_eq_true', Bool.or_eq_false_iff, decide_eq_false_iff_not] at h
  obtain ⟨⟨h1, h2⟩, h3⟩ := h
  refine ⟨⟨by omega, by omega⟩, fun p hp => ?_⟩
  have := h3 p hp
  rw [prodOK_split] at this
  simp only [Bool.and_eq_true, decide_eq_true_eq, List.all_eq_true] at this
  refine ⟨this.1, fun s hs hl => ?_⟩
  have := this.2 s hs
  unfold symOK at this
  rw [hl] at this
  simp at this
  omega
def falses (o : Nat → Bool) (n : Nat) : Nat := (List.range n).countP fun i => !o i
theorem falses_lt {o : Nat → Bool} {n k : Nat} (hk : k < n) (ho : o k = false) : falses (upd o k true) n < falses o n := by
  have := countP_upd (f := fun i => !o i) (g := fun i => !(upd o k true) i) (i := k) (by simp [ho]) (by simp [upd]) (fun j hj => by simp [upd, hj]) (List.range n) List.nodup_range (by simpa using hk)
  unfold falses; omega
/-- What closed answers. -/
def CloR (C : CnfD) (lb : Bool) (q : HP) (r : Value) (Q : List HP) : Prop :=
  (okC C = true ∧ ∃ b o, r = .tuple [.slice (some ⟨b, 0, none⟩) C.nts.toNat C.nts.toNat, i64 0].toArray ∧ Reach (cloStep lb) C.prods (fun _ => false) o ∧ (∀ p ∈ C.prods, (cloStep lb o p).2 = false) ∧ Q = [pt b (row (boolsV o C.nts.toNat) 4), q]) ∨
  (okC C = false ∧ r = .tuple [.slice none 0 0, i64 220].toArray ∧ Q = [q])
end Go.Proofs.Ytjokibfldngkeaa
namespace Go.Proofs.Ytjokibfldngkeaa
open Go
attribute [local irreducible] G GO GR GT Fn FnV pt init exs pur sat own ImpS
/-- The least length of a body's words behind n; none: it has none. -/
def lenF (s : Nat → Int) : List SymD → Int → Option Int
  | [], n => some n
  | (true, _) :: r, n => lenF s r (min 65 (n + 1))
  | (false, k) :: r, n => if s k.toNat = -1 then none else lenF s r (min 65 (n + s k.toNat))
def Shorts (s : Nat → Int) (n : Nat) : Prop := ∀ i, i < n → -1 ≤ s i ∧ s i ≤ 65
def lenV : Option Int → Value
  | some m => .tuple [i64 m, .bool true].toArray
  | none => .tuple [i64 0, .bool false].toArray
theorem drop_at {α : Type} {l : List α} {k : Nat} {a : α} (h : l[k]? = some a) : l.drop k = a :: l.drop (k + 1) := by
  obtain ⟨hk, e⟩ := List.getElem?_eq_some_iff.1 h
  rw [List.drop_eq_getElem_cons hk, e]
set_option maxHeartbeats 4000000 in
set_option maxRecDepth 20000 in
theorem length_spec (q : HP) (v : Value) (ss : List SymD) (s : Nat → Int) (n bs : Nat) (hv : SymsR q v ss) (hs : ∀ x ∈ ss, symIn n x) (hn : ss.length ≤ 9223372036854775807) (hsh : Shorts s n) :
    Fn Try.prog 39 #[v, .slice (some ⟨bs, 0, none⟩) n n] [q, pt bs (row (numsV s n) 3)] (fun r Q => r = lenV (lenF s ss 0) ∧ Q = [q, pt bs (row (numsV s n) 3)]) := by
  obtain ⟨a, cap, rfl⟩ := hv.form
  refine Fn.mk Try.func39 rfl rfl fun w0 F => ?_
  (refine G.seq ?_; refine G.region ?_; refine GO.assign rfl rfl ?_; refine GO.assign rfl rfl ?_; refine GO.nil ?_; refine kthen_n ?_; refine G.seq ?_; refine G.region ?_; refine GO.assign rfl rfl ?_; refine GO.nil ?_; refine kthen_n ?_; refine G.seq ?_; refine G.seq ?_; refine G.region ?_; refine GO.move rfl rfl ?_; refine GO.lenS rfl rfl ?_; refine GO.move rfl rfl ?_; refine GO.nil ?_; refine kthen_n ?_; refine G.block ?_)
  refine G.loop2 (fun (k : Nat) (m : Int) => [(1, .slice (some ⟨bs, 0, none⟩) n n), (6, i64 m), (9, .slice a ss.length cap), (10, i64 ss.length), (11, i64 k)]) (fun _ _ => q :: pt bs (row (numsV s n) 3) :: F)
    (fun k m => k ≤ ss.length ∧ (0 ≤ m ∧ m ≤ 65) ∧ lenF s (ss.drop k) m = lenF s ss 0) (fun k _ => ss.length - k) 0 0 ⟨by omega, by omega, rfl⟩ ?_ ?_ ?_
  · (refine SubE.c rfl rfl ?_; refine SubE.c rfl rfl ?_; refine SubE.c rfl rfl ?_; refine SubE.c rfl rfl ?_; refine SubE.c rfl rfl ?_; exact SubE.n)
  · ((refine Sb.c Tk.h ?_; refine Sb.c Tk.h ?_); (exact Sb.r))
  rintro k m ⟨hk, hm, hF⟩
  (refine G.seq ?_; refine G.region ?_; refine GO.lti rfl rfl rfl ?_; refine GO.nil ?_; refine kthen_n ?_; refine G.seq ?_)
  refine G.condD rfl (fun hlt => ?_) (fun hge => ?_)
  · have hlt' : k < ss.length := by omega
    obtain ⟨⟨lb, i⟩, hx⟩ : ∃ x : SymD, ss[k]? = some x := ⟨ss[k], by simp [hlt']⟩
    have hin := hs _ (List.mem_of_getElem? hx)
    obtain ⟨b, o, rfl, _, r1, r2⟩ := hv.at hx
    dsimp only at r1 r2
    rw [drop_at hx] at hF
    (refine G.skip ?_; refine kthen_n ?_; refine G.seq ?_; refine G.block ?_; refine G.seq ?_; refine G.region ?_; refine GO.idxS rfl rfl rfl ⟨rfl, by omega⟩ ?_)
    refine GO.load2 (q := q) rfl rfl rfl Tk.h r1 r2 ?_
    refine GO.alloc rfl fun b8 => ?_
    refine GO.storeW rfl rfl Tk.h ⟨rfl, rfl⟩ (by simp [Value.oneCell']) ?_
    (refine GO.nil ?_; refine kthen_n ?_; refine G.seq ?_; refine G.block ?_; refine G.seq ?_; refine G.region ?_; refine GO.fieldAddr rfl rfl ?_; refine GO.load1 rfl rfl rfl Tk.h rfl ?_; refine GO.assign rfl rfl ?_; refine GO.nil ?_; refine kthen_n ?_)
    cases lb with
    | true =>
      have e1 : lenF s ((true, i) :: ss.drop (k + 1)) m = lenF s (ss.drop (k + 1)) (min 65 (m + 1)) := rfl
      rw [e1] at hF
      have hm2 : 0 ≤ min 65 (m + 1) ∧ min 65 (m + 1) ≤ 65 := by omega
      (refine G.condT rfl rfl ?_; refine G.region ?_; refine GO.move rfl rfl ?_; refine GO.addi rfl rfl rfl (by omega) ?_; refine GO.assign rfl rfl ?_; refine GO.nil ?_; refine kblock_n ?_; refine kthen_n ?_; refine G.region ?_; refine GO.move rfl rfl ?_)
      refine GO.min2 rfl rfl rfl ?_
      (refine GO.assign rfl rfl ?_; refine GO.nil ?_; refine kblock_n ?_; refine kthen_n ?_; refine G.region ?_; refine GO.addi rfl rfl rfl (by omega) ?_; refine GO.move rfl rfl ?_; refine GO.nil ?_; refine kthen_n ?_)
      refine ⟨k + 1, min 65 (m + 1), ⟨by omega, hm2, hF⟩, by omega, ?_, ?_⟩
      · (refine SubE.c rfl rfl ?_; refine SubE.c rfl rfl ?_; refine SubE.c rfl rfl ?_; refine SubE.c rfl rfl ?_; refine SubE.c rfl rfl ?_; exact SubE.n)
      · ((refine Sb.c (Tk.t Tk.h) ?_; refine Sb.c (Tk.t Tk.h) ?_); (refine Sb.s ?_; exact Sb.r))
    | false =>
      obtain ⟨h1, h2⟩ := hin rfl
      dsimp only at h1 h2
      obtain ⟨j, rfl⟩ := Int.eq_ofNat_of_zero_le h1
      have hjn : j < n := by omega
      have hsj := hsh j hjn
      have e1 : lenF s ((false, (j : Int)) :: ss.drop (k + 1)) m = if s j = -1 then none else lenF s (ss.drop (k + 1)) (min 65 (m + s j)) := rfl
      rw [e1] at hF
      (refine G.condF rfl rfl ?_; refine G.seq ?_; refine G.region ?_; refine GO.move rfl rfl ?_; refine GO.fieldAddr rfl rfl ?_; refine GO.load1 rfl rfl rfl Tk.h rfl ?_; refine GO.idxS rfl rfl rfl ⟨rfl, by omega⟩ ?_)
      refine GO.load1 rfl rfl rfl (by (exact (Tk.t (Tk.t Tk.h)))) (rowV_get1 hjn) ?_
      (refine GO.eqi rfl rfl rfl ?_; refine GO.assign rfl rfl ?_; refine GO.nil ?_; refine kthen_n ?_)
      refine G.condD rfl (fun he => ?_) (fun he => ?_)
      · rw [if_pos he] at hF
        (refine G.seq ?_; refine G.region ?_; refine GO.assign rfl rfl ?_; refine GO.assign rfl rfl ?_; refine GO.nil ?_; refine kthen_n ?_; refine G.ret ?_; refine kblock_r ?_; refine kthen_r ?_; refine kblock_r ?_; refine kthen_r ?_; refine kthen_r ?_; refine kblock_r ?_; refine kthen_r ?_)
        refine KF.r2 rfl (RV.t rfl) (RV.t rfl) ⟨by rw [← hF]; rfl, rfl⟩ ?_
        ((refine Sb.c (Tk.t Tk.h) ?_; refine Sb.c (Tk.t Tk.h) ?_); (refine Sb.s ?_; exact Sb.r))
      · rw [if_neg he] at hF
        have hm2 : 0 ≤ min 65 (m + s j) ∧ min 65 (m + s j) ≤ 65 := by omega
        (refine G.region ?_; refine GO.move rfl rfl ?_; refine GO.move rfl rfl ?_; refine GO.fieldAddr rfl rfl ?_; refine GO.load1 rfl rfl rfl Tk.h rfl ?_; refine GO.idxS rfl rfl rfl ⟨rfl, by omega⟩ ?_)
        refine GO.load1 rfl rfl rfl (by (exact (Tk.t (Tk.t Tk.h)))) (rowV_get1 hjn) ?_
        (refine GO.addi rfl rfl rfl (by omega) ?_; refine GO.assign rfl rfl ?_; refine GO.nil ?_; refine kblock_n ?_; refine kthen_n ?_; refine G.region ?_; refine GO.move rfl rfl ?_)
        refine GO.min2 rfl rfl rfl ?_
        (refine GO.assign rfl rfl ?_; refine GO.nil ?_; refine kblock_n ?_; refine kthen_n ?_; refine G.region ?_; refine GO.addi rfl rfl rfl (by omega) ?_; refine GO.move rfl rfl ?_; refine GO.nil ?_; refine kthen_n ?_)
        refine ⟨k + 1, min 65 (m + s j), ⟨by omega, hm2, hF⟩, by omega, ?_, ?_⟩
        · (refine SubE.c rfl rfl ?_; refine SubE.c rfl rfl ?_; refine SubE.c rfl rfl ?_; refine SubE.c rfl rfl ?_; refine SubE.c rfl rfl ?_; exact SubE.n)
        · ((refine Sb.c (Tk.t Tk.h) ?_; refine Sb.c (Tk.t Tk.h) ?_); (refine Sb.s ?_; exact Sb.r))
  · have : k = ss.length := by omega
    subst this
    rw [List.drop_length] at hF
    (refine G.exit ?_; refine G.seq ?_; refine G.region ?_; refine GO.move rfl rfl ?_; refine GO.assign rfl rfl ?_; refine GO.assign rfl rfl ?_; refine GO.nil ?_; refine kthen_n ?_; refine G.ret ?_)
    refine KF.r2 rfl (RV.t rfl) (RV.t rfl) ⟨by rw [← hF]; rfl, rfl⟩ ?_
    ((refine Sb.c Tk.h ?_; refine Sb.c Tk.h ?_); (exact Sb.r))
end Go.Proofs.Ytjokibfldngkeaa
namespace Go.Proofs.Ytjokibfldngkeaa
open Go
attribute [local irreducible] G GO GR GT Fn FnV pt init exs pur sat own ImpS
def shoStep (s : Nat → Int) (p : ProdD) : (Nat → Int) × Bool :=
  match lenF s p.2 0 with
  | none => (s, false)
  | some m => if s p.1.toNat ≠ -1 ∧ s p.1.toNat ≤ m then (s, false) else (upd s p.1.toNat m, true)
abbrev shoM (n bs b5 : Nat) (s : Nat → Int) : List HP := [pt b5 (row [.slice (some ⟨bs, 0, none⟩) n n] 25), pt bs (row (numsV s n) 3)]
theorem lenF_in {s : Nat → Int} {n : Nat} (hsh : Shorts s n) : ∀ {ss : List SymD} {m k : Int}, (∀ x ∈ ss, symIn n x) → 0 ≤ m ∧ m ≤ 65 → lenF s ss m = some k → 0 ≤ k ∧ k ≤ 65
  | [], m, k, _, hm, h => by simp [lenF] at h; omega
  | (true, i) :: r, m, k, hi, hm, h => lenF_in (m := min 65 (m + 1)) hsh (fun x hx => hi x (List.mem_cons_of_mem _ hx)) (by omega) h
  | (false, i) :: r, m, k, hi, hm, h => by
    simp only [lenF] at h
    split at h
    · cases h
    · rename_i hne
      have h1 := hi (false, i) (by simp) rfl
      dsimp only at h1
      have h2 := hsh i.toNat (by omega)
      exact lenF_in hsh (fun x hx => hi x (List.mem_cons_of_mem _ hx)) (by omega) h
theorem shoStep_in {s : Nat → Int} {n : Nat} {p : ProdD} (hsh : Shorts s n) (hp : prodIn n p) : Shorts (shoStep s p).1 n := by
  unfold shoStep
  cases h : lenF s p.2 0 with
  | none => exact hsh
  | some m =>
    simp only
    split
    · exact hsh
    · intro i hi
      have := lenF_in hsh hp.2 (by omega) h
      simp only [upd]
      split
      · omega
      · exact hsh i hi
set_option maxHeartbeats 4000000 in
set_option maxRecDepth 20000 in
theorem shop_spec (q : HP) (s : Nat → Int) (n bs b5 : Nat) (p : ProdD) (bv : Value) (hb : SymsR q bv p.2) (hp : prodIn n p) (hn : p.2.length ≤ 9223372036854775807) (hsh : Shorts s n) :
    Fn Try.prog 38 #[prodV p bv, .pointer (some ⟨b5, 0, none⟩)] (q :: shoM n bs b5 s) (fun r Q => r = .bool (shoStep s p).2 ∧ Q = q :: shoM n bs b5 (shoStep s p).1) := by
  obtain ⟨h, ss⟩ := p
  obtain ⟨⟨h1, h2⟩, hss⟩ := hp
  dsimp only at h1 h2
  obtain ⟨k, rfl⟩ := Int.eq_ofNat_of_zero_le h1
  have hkn : k < n := by omega
  obtain ⟨ab, capb, rfl⟩ := hb.form
  refine Fn.mk Try.func38 rfl rfl fun w0 F => ?_
  (refine G.seq ?_; refine G.region ?_)
  refine GO.box rfl rfl rfl fun b2 => ?_
  (refine GO.assign rfl rfl ?_; refine GO.nil ?_; refine kthen_n ?_; refine G.seq ?_; refine G.region ?_; refine GO.fieldAddr rfl rfl ?_; refine GO.load1 rfl rfl rfl Tk.h rfl ?_; refine GO.load1 rfl rfl rfl (Tk.t (Tk.t Tk.h)) rfl ?_)
  refine GO.call2 rfl rfl rfl (length_spec q _ ss s n bs hb hss hn hsh) (Tks.c (Tk.t Tk.h) (Tks.c (Tk.t (Tk.t Tk.h)) Tks.n)) ?_
  rintro _ _ ⟨rfl, rfl⟩
  cases hl : lenF s ss 0 with
  | none =>
    have e : shoStep s ((k : Int), ss) = (s, false) := by unfold shoStep; simp only [hl]
    rw [e]
    unfold lenV
    (refine GO.move rfl rfl ?_; refine GO.extract rfl rfl rfl ?_; refine GO.extract rfl rfl rfl ?_; refine GO.assign rfl rfl ?_; refine GO.assign rfl rfl ?_; refine GO.nil ?_; refine kthen_n ?_; refine G.seq ?_; refine G.seq ?_; refine G.region ?_; refine GO.move rfl rfl ?_; refine GO.not rfl rfl ?_; refine GO.move rfl rfl ?_; refine GO.gF rfl rfl rfl rfl ?_; refine GO.gF rfl rfl rfl rfl ?_; refine GO.gF rfl rfl rfl rfl ?_; refine GO.gF rfl rfl rfl rfl ?_; refine GO.gF rfl rfl rfl rfl ?_; refine GO.gF rfl rfl rfl rfl ?_; refine GO.gF rfl rfl rfl rfl ?_; refine GO.gU rfl rfl rfl ?_; refine GO.gU rfl rfl rfl ?_; refine GO.gU rfl rfl rfl ?_; refine GO.gU rfl rfl rfl ?_; refine GO.gU rfl rfl rfl ?_; refine GO.gU rfl rfl rfl ?_; refine GO.gU rfl rfl rfl ?_; refine GO.gF rfl rfl rfl rfl ?_; refine GO.pickT rfl rfl rfl ?_; refine GO.nil ?_; refine kthen_n ?_; refine G.condT rfl rfl ?_; refine G.seq ?_; refine G.region ?_; refine GO.assign rfl rfl ?_; refine GO.nil ?_; refine kthen_n ?_; refine G.ret ?_; refine kthen_r ?_)
    refine KF.r1 rfl (RV.t rfl) ⟨rfl, rfl⟩ ?_
    ((refine Sb.c Tk.h ?_; refine Sb.c (Tk.t (Tk.t Tk.h)) ?_; refine Sb.c Tk.h ?_); (refine Sb.s ?_; exact Sb.r))
  | some m =>
    have hm := lenF_in hsh hss (by omega) hl
    unfold lenV
    (refine GO.move rfl rfl ?_; refine GO.extract rfl rfl rfl ?_; refine GO.extract rfl rfl rfl ?_; refine GO.assign rfl rfl ?_; refine GO.assign rfl rfl ?_; refine GO.nil ?_; refine kthen_n ?_; refine G.seq ?_; refine G.seq ?_; refine G.region ?_; refine GO.move rfl rfl ?_; refine GO.not rfl rfl ?_; refine GO.move rfl rfl ?_; refine GO.gT rfl rfl rfl ?_; refine GO.load1 rfl rfl rfl (Tk.t (Tk.t (Tk.t Tk.h))) rfl ?_; refine GO.gT rfl rfl rfl ?_; refine GO.fieldAddr rfl rfl ?_; refine GO.gT rfl rfl rfl ?_; refine GO.load1 rfl rfl rfl (Tk.t (Tk.t Tk.h)) rfl ?_; refine GO.gT rfl rfl rfl ?_; refine GO.idxS rfl rfl rfl ⟨rfl, by omega⟩ ?_; refine GO.gT rfl rfl rfl ?_)
    refine GO.load1 rfl rfl rfl (by (exact (Tk.t Tk.h))) (rowV_get1 hkn) ?_
    (refine GO.gT rfl rfl rfl ?_; refine GO.nei rfl rfl rfl ?_; refine GO.gT rfl rfl rfl ?_; refine GO.move rfl rfl ?_)
    by_cases hs1 : s k = -1
    · have e : shoStep s ((k : Int), ss) = (upd s k m, true) := by unfold shoStep; simp [hl, hs1]
      have ed : decide (s k ≠ -1) = false := by simp [hs1]
      rw [e, ed]
      (refine GO.gF rfl rfl rfl rfl ?_; refine GO.gF rfl rfl rfl rfl ?_; refine GO.gF rfl rfl rfl rfl ?_; refine GO.gF rfl rfl rfl rfl ?_; refine GO.gF rfl rfl rfl rfl ?_; refine GO.gF rfl rfl rfl rfl ?_; refine GO.gF rfl rfl rfl rfl ?_; refine GO.gT rfl rfl rfl ?_; refine GO.pickF rfl rfl rfl ?_; refine GO.pickF rfl rfl rfl ?_; refine GO.nil ?_; refine kthen_n ?_; refine G.condF rfl rfl ?_; refine G.skip ?_; refine kthen_n ?_; refine G.seq ?_; refine G.region ?_; refine GO.load1 rfl rfl rfl (Tk.t (Tk.t (Tk.t Tk.h))) rfl ?_; refine GO.fieldAddr rfl rfl ?_; refine GO.load1 rfl rfl rfl (Tk.t (Tk.t Tk.h)) rfl ?_; refine GO.move rfl rfl ?_; refine GO.idxS rfl rfl rfl ⟨rfl, by omega⟩ ?_)
      refine GO.store1 rfl rfl rfl (by (exact (Tk.t Tk.h))) (by rw [rowV_len]; omega) ?_
      rw [rowV_set]
      (refine GO.nil ?_; refine kthen_n ?_; refine G.seq ?_; refine G.region ?_; refine GO.assign rfl rfl ?_; refine GO.nil ?_; refine kthen_n ?_; refine G.ret ?_)
      refine KF.r1 rfl (RV.t rfl) ⟨rfl, rfl⟩ ?_
      ((refine Sb.c (Tk.t Tk.h) ?_; refine Sb.c (Tk.t (Tk.t Tk.h)) ?_; refine Sb.c Tk.h ?_); (refine Sb.s ?_; exact Sb.r))
    · have ed : decide (s k ≠ -1) = true := by simp [hs1]
      rw [ed]
      (refine GO.gT rfl rfl rfl ?_; refine GO.load1 rfl rfl rfl (Tk.t (Tk.t (Tk.t Tk.h))) rfl ?_; refine GO.gT rfl rfl rfl ?_; refine GO.fieldAddr rfl rfl ?_; refine GO.gT rfl rfl rfl ?_; refine GO.load1 rfl rfl rfl (Tk.t (Tk.t Tk.h)) rfl ?_; refine GO.gT rfl rfl rfl ?_; refine GO.idxS rfl rfl rfl ⟨rfl, by omega⟩ ?_; refine GO.gT rfl rfl rfl ?_)
      refine GO.load1 rfl rfl rfl (by (exact (Tk.t Tk.h))) (rowV_get1 hkn) ?_
      (refine GO.gT rfl rfl rfl ?_; refine GO.move rfl rfl ?_; refine GO.gT rfl rfl rfl ?_; refine GO.lei rfl rfl rfl ?_; refine GO.gT rfl rfl rfl ?_; refine GO.pickT rfl rfl rfl ?_; refine GO.pickF rfl rfl rfl ?_; refine GO.nil ?_; refine kthen_n ?_)
      refine G.condD rfl (fun hle => ?_) (fun hle => ?_)
      · have e : shoStep s ((k : Int), ss) = (s, false) := by unfold shoStep; simp [hl, hs1, hle]
        rw [e]
        (refine G.seq ?_; refine G.region ?_; refine GO.assign rfl rfl ?_; refine GO.nil ?_; refine kthen_n ?_; refine G.ret ?_; refine kthen_r ?_)
        refine KF.r1 rfl (RV.t rfl) ⟨rfl, rfl⟩ ?_
        ((refine Sb.c Tk.h ?_; refine Sb.c (Tk.t (Tk.t Tk.h)) ?_; refine Sb.c Tk.h ?_); (refine Sb.s ?_; exact Sb.r))
      · have e : shoStep s ((k : Int), ss) = (upd s k m, true) := by unfold shoStep; simp [hl, hle]
        rw [e]
        (refine G.skip ?_; refine kthen_n ?_; refine G.seq ?_; refine G.region ?_; refine GO.load1 rfl rfl rfl (Tk.t (Tk.t (Tk.t Tk.h))) rfl ?_; refine GO.fieldAddr rfl rfl ?_; refine GO.load1 rfl rfl rfl (Tk.t (Tk.t Tk.h)) rfl ?_; refine GO.move rfl rfl ?_; refine GO.idxS rfl rfl rfl ⟨rfl, by omega⟩ ?_)
        refine GO.store1 rfl rfl rfl (by (exact (Tk.t Tk.h))) (by rw [rowV_len]; omega) ?_
        rw [rowV_set]
        (refine GO.nil ?_; refine kthen_n ?_; refine G.seq ?_; refine G.region ?_; refine GO.assign rfl rfl ?_; refine GO.nil ?_; refine kthen_n ?_; refine G.ret ?_)
        refine KF.r1 rfl (RV.t rfl) ⟨rfl, rfl⟩ ?_
        ((refine Sb.c (Tk.t Tk.h) ?_; refine Sb.c (Tk.t (Tk.t Tk.h)) ?_; refine Sb.c Tk.h ?_); (refine Sb.s ?_; exact Sb.r))
end Go.Proofs.Ytjokibfldngkeaa
namespace Go.Proofs.Ytjokibfldngkeaa
open Go
attribute [local irreducible] G GO GR GT Fn FnV pt init exs pur sat own ImpS
instance : OfU 4294967295 4294967295#64 := ⟨rfl⟩
theorem small_mask {y : BitVec 64} (h : y.toNat < 4294967296) : y &&& 4294967295#64 = y := by
  apply BitVec.eq_of_toNat_eq
  rw [BitVec.toNat_and]
  show y.toNat &&& (2 ^ 32 - 1) = _
  rw [Nat.and_two_pow_sub_one_eq_mod, Nat.mod_eq_of_lt (by omega)]
theorem small_shr {y : BitVec 64} (h : y.toNat < 4294967296) : y >>> 32 = 0#64 := by
  apply BitVec.eq_of_toNat_eq
  rw [BitVec.toNat_ushiftRight, Nat.shiftRight_eq_div_pow]
  show y.toNat / 4294967296 = 0
  exact Nat.div_eq_of_lt h
theorem mul64_one (y : BitVec 64) (h : y.toNat < 4294967296) : Fn Try.prog 60 #[u64 1#64, u64 y] [] (fun r Q => r = .tuple [u64 0#64, u64 y].toArray ∧ Q = []) := by
  refine Fn.mk Try.func60 rfl rfl fun w0 F => ?_
  have hm := small_mask h
  have hs := small_shr h
  have m1 : 1#64 &&& 4294967295#64 = 1#64 := rfl
  have m0 : 0#64 &&& 4294967295#64 = 0#64 := rfl
  have s1 : 1#64 >>> 32 = 0#64 := rfl
  have s0 : 0#64 >>> 32 = 0#64 := rfl
  (refine G.seq ?_; refine G.region ?_; refine GO.assign rfl rfl ?_; refine GO.assign rfl rfl ?_; refine GO.nil ?_; refine kthen_n ?_; refine G.seq ?_; refine G.region ?_; refine GO.move rfl rfl ?_; refine GO.andu rfl rfl rfl ?_; refine GO.assign rfl rfl ?_; refine GO.nil ?_; refine kthen_n ?_; refine G.seq ?_; refine G.region ?_; refine GO.move rfl rfl ?_; refine GO.shru rfl rfl rfl ?_; refine GO.assign rfl rfl ?_; refine GO.nil ?_; refine kthen_n ?_; refine G.seq ?_; refine G.region ?_; refine GO.move rfl rfl ?_; refine GO.andu rfl rfl rfl ?_; refine GO.assign rfl rfl ?_; refine GO.nil ?_; refine kthen_n ?_; refine G.seq ?_; refine G.region ?_; refine GO.move rfl rfl ?_; refine GO.shru rfl rfl rfl ?_; refine GO.assign rfl rfl ?_; refine GO.nil ?_; refine kthen_n ?_; refine G.seq ?_; refine G.region ?_; refine GO.move rfl rfl ?_; refine GO.move rfl rfl ?_; refine GO.mulu rfl rfl rfl ?_; refine GO.assign rfl rfl ?_; refine GO.nil ?_; refine kthen_n ?_; refine G.seq ?_; refine G.region ?_; refine GO.move rfl rfl ?_; refine GO.move rfl rfl ?_; refine GO.mulu rfl rfl rfl ?_; refine GO.move rfl rfl ?_; refine GO.shru rfl rfl rfl ?_; refine GO.addu rfl rfl rfl ?_; refine GO.assign rfl rfl ?_; refine GO.nil ?_; refine kthen_n ?_; refine G.seq ?_; refine G.region ?_; refine GO.move rfl rfl ?_; refine GO.andu rfl rfl rfl ?_; refine GO.assign rfl rfl ?_; refine GO.nil ?_; refine kthen_n ?_; refine G.seq ?_; refine G.region ?_; refine GO.move rfl rfl ?_; refine GO.shru rfl rfl rfl ?_; refine GO.assign rfl rfl ?_; refine GO.nil ?_; refine kthen_n ?_; refine G.seq ?_; refine G.region ?_; refine GO.move rfl rfl ?_; refine GO.move rfl rfl ?_; refine GO.move rfl rfl ?_; refine GO.mulu rfl rfl rfl ?_; refine GO.addu rfl rfl rfl ?_; refine GO.assign rfl rfl ?_; refine GO.nil ?_; refine kthen_n ?_; refine G.seq ?_; refine G.region ?_; refine GO.move rfl rfl ?_; refine GO.move rfl rfl ?_; refine GO.mulu rfl rfl rfl ?_; refine GO.move rfl rfl ?_; refine GO.addu rfl rfl rfl ?_; refine GO.move rfl rfl ?_; refine GO.shru rfl rfl rfl ?_; refine GO.addu rfl rfl rfl ?_; refine GO.assign rfl rfl ?_; refine GO.nil ?_; refine kthen_n ?_; refine G.seq ?_; refine G.region ?_; refine GO.move rfl rfl ?_; refine GO.move rfl rfl ?_; refine GO.mulu rfl rfl rfl ?_; refine GO.assign rfl rfl ?_; refine GO.nil ?_; refine kthen_n ?_; refine G.ret ?_)
  refine KF.r2 rfl (RV.t rfl) (RV.t rfl) ⟨?_, rfl⟩ ?_
  · have e1 : (1#64 * y) = y := BitVec.one_mul y
    simp only [hm, hs, m1, s1, e1, BitVec.zero_mul, BitVec.mul_zero, BitVec.zero_add, BitVec.add_zero, m0, s0]
  · (skip; (exact Sb.r))
theorem nat_u64 {n : Nat} (h : n < 4294967296) : u64 (BitVec.ofNat 64 n) = .int .u64 (n : Int) := by
  have : (BitVec.ofNat 64 n).toNat = n := by rw [BitVec.toNat_ofNat]; exact Nat.mod_eq_of_lt (by omega)
  show Value.int .u64 ((BitVec.ofNat 64 n).toNat : Int) = _
  rw [this]
theorem mul_one_spec (n : Nat) (h : n < 4294967296) : Fn Try.prog 52 #[.int .u64 1, .int .u64 (n : Int)] [] (fun r Q => r = .tuple [.int .u64 0, .int .u64 (n : Int)].toArray ∧ Q = []) := by
  have hsp := mul64_one (BitVec.ofNat 64 n) (by rw [BitVec.toNat_ofNat]; rw [Nat.mod_eq_of_lt (by omega)]; exact h)
  rw [nat_u64 h] at hsp
  refine Fn.mk Try.func52 rfl rfl fun w0 F => ?_
  (refine G.seq ?_; refine G.region ?_; refine GO.assign rfl rfl ?_; refine GO.assign rfl rfl ?_; refine GO.nil ?_; refine kthen_n ?_; refine G.seq ?_; refine G.condF rfl rfl ?_; refine G.skip ?_; refine kthen_n ?_; refine G.seq ?_; refine G.region ?_; refine GO.move rfl rfl ?_; refine GO.move rfl rfl ?_)
  refine GO.call2 rfl rfl rfl hsp Tks.n ?_
  rintro _ _ ⟨rfl, rfl⟩
  (refine GO.move rfl rfl ?_; refine GO.extract rfl rfl rfl ?_; refine GO.extract rfl rfl rfl ?_; refine GO.assign rfl rfl ?_; refine GO.assign rfl rfl ?_; refine GO.nil ?_; refine kthen_n ?_; refine G.seq ?_; refine G.region ?_; refine GO.move rfl rfl ?_; refine GO.move rfl rfl ?_; refine GO.assign rfl rfl ?_; refine GO.assign rfl rfl ?_; refine GO.nil ?_; refine kthen_n ?_; refine G.ret ?_)
  refine KF.r2 rfl (RV.t rfl) (RV.t rfl) ⟨rfl, rfl⟩ ?_
  (skip; (exact Sb.r))
def repV (x : Int) (n m : Nat) : List Value := List.replicate m (i64 x) ++ List.replicate (n - m) (i64 0)
theorem repV_len {x : Int} {n m : Nat} (h : m ≤ n) : (repV x n m).length = n := by simp [repV]; omega
theorem repV_copy {x : Int} {n m k : Nat} (h : m + k ≤ n) (hk : k ≤ m) : (repV x n m).take m ++ List.replicate k (i64 x) ++ (repV x n m).drop (m + k) = repV x n (m + k) := by
  unfold repV
  rw [List.take_left' (by simp), List.drop_append, List.drop_of_length_le (by simp)]
  simp only [List.length_replicate, List.nil_append, List.drop_replicate, List.append_assoc]
  rw [← List.append_assoc, List.replicate_append_replicate]
  congr 2; omega
theorem repV_get {x : Int} {n m j : Nat} (h : j < m) : (repV x n m)[j]? = some (i64 x) := by
  unfold repV; rw [List.getElem?_append_left (by simpa using h), List.getElem?_replicate]; simp [h]
set_option maxHeartbeats 4000000 in
set_option maxRecDepth 20000 in
theorem repeat_spec (x : Int) (n bx : Nat) (h : 1 ≤ n ∧ n ≤ 1048576) : Fn Try.prog 36 #[.slice (some ⟨bx, 0, none⟩) 1 1, i64 n] [pt bx (row [i64 x] 3)]
    (fun r Q => ∃ b, r = .slice (some ⟨b, 0, none⟩) n n ∧ Q = [pt b (row (List.replicate n (i64 x)) 3)]) := by
  refine Fn.mk Try.func36 rfl rfl fun w0 F => ?_
  (refine G.seq ?_; refine G.region ?_; refine GO.assign rfl rfl ?_; refine GO.nil ?_; refine kthen_n ?_; refine G.seq ?_; refine G.seq ?_; refine G.region ?_; refine GO.move rfl rfl ?_; refine GO.lti rfl rfl rfl ?_; refine GO.nil ?_; refine kthen_n ?_; refine G.condF rfl rfl ?_; refine G.skip ?_; refine kthen_n ?_; refine G.seq ?_; refine G.region ?_; refine GO.move rfl rfl ?_; refine GO.lenS rfl rfl ?_)
  refine GO.conv rfl rfl (by rw [wrap_u64]; rfl) ?_
  (refine GO.move rfl rfl ?_)
  refine GO.conv rfl rfl (by rw [wrap_u64]; omega) ?_
  refine GO.call2 rfl rfl rfl (mul_one_spec n (by omega)) Tks.n ?_
  rintro _ _ ⟨rfl, rfl⟩
  (refine GO.move rfl rfl ?_; refine GO.extract rfl rfl rfl ?_; refine GO.extract rfl rfl rfl ?_; refine GO.assign rfl rfl ?_; refine GO.assign rfl rfl ?_; refine GO.nil ?_; refine kthen_n ?_; refine G.seq ?_; refine G.seq ?_; refine G.region ?_; refine GO.move rfl rfl ?_; refine GO.gti rfl rfl rfl ?_; refine GO.move rfl rfl ?_; refine GO.gT rfl rfl rfl ?_; refine GO.move rfl rfl ?_; refine GO.gT rfl rfl rfl ?_; refine GO.gti rfl rfl rfl ?_; refine GO.pickF rfl rfl rfl ?_; refine GO.nil ?_; refine kthen_n ?_)
  refine G.condD rfl (fun hlt => ?_) (fun _ => ?_)
  · exfalso; omega
  (refine G.skip ?_; refine kthen_n ?_; refine G.seq ?_; refine G.region ?_; refine GO.move rfl rfl ?_)
  refine GO.conv rfl rfl (IntWalk.i64_in _ (by omega)) ?_
  refine GO.make1 (n := n) rfl rfl rfl ⟨rfl, rfl⟩ ⟨by omega, by omega⟩ fun b => ?_
  (refine GO.assign rfl rfl ?_; refine GO.nil ?_; refine kthen_n ?_; refine G.seq ?_; refine G.region ?_; refine GO.move rfl rfl ?_; refine GO.move rfl rfl ?_)
  refine GO.copy1 (cs := [i64 x]) (q := pt bx (row [i64 x] 3)) rfl rfl rfl Tk.h (Tk.t Tk.h) (by simp; omega) (fun j u hj => by rw [Nat.zero_add]; exact Rd.row hj) (by simp; omega) (by simp [Value.oneCell']) ?_
  have e0 : (List.replicate n (i64 0)).take 0 ++ [i64 x] ++ (List.replicate n (i64 0)).drop (0 + [i64 x].length) = repV x n 1 := by
    simp [repV]
  rw [e0]
  (refine GO.assign rfl rfl ?_; refine GO.nil ?_; refine kthen_n ?_; refine G.seq ?_; refine G.block ?_)
  refine G.loop (fun m : Nat => [(7, .slice (some ⟨b, 0, none⟩) n n), (8, i64 m)]) (fun m => pt b (row (repV x n m) 3) :: F) (fun m => 1 ≤ m ∧ m ≤ n) (fun m => n - m) 1 ⟨by omega, h.1⟩ ?_ ?_ ?_
  · (refine SubE.c rfl rfl ?_; refine SubE.c rfl rfl ?_; exact SubE.n)
  · ((refine Sb.c Tk.h ?_); (refine Sb.s ?_; exact Sb.r))
  rintro m ⟨hm1, hm2⟩
  (refine G.seq ?_; refine G.seq ?_; refine G.region ?_; refine GO.move rfl rfl ?_; refine GO.move rfl rfl ?_; refine GO.lenS rfl rfl ?_; refine GO.lti rfl rfl rfl ?_; refine GO.nil ?_; refine kthen_n ?_)
  refine G.condD rfl (fun hlt => ?_) (fun hge => ?_)
  · have hmn : m < n := by omega
    (refine G.skip ?_; refine kthen_n ?_; refine G.block ?_)
    refine G.drawT 9 384 [] (pt b (row (repV x n m) 3) :: F) (by kernel_rfl) (keys_of rfl) (ImpS.sb (by ((refine Sb.c Tk.h ?_); (exact Sb.r)))) ?_
    ((apply GR.step rfl; focus (intro Z; refine GO.move rfl rfl ?_; exact KQ.z)); (apply GR.step rfl; focus (intro Z; refine GO.move rfl rfl ?_; exact KQ.z)); (apply GR.step rfl; focus (intro Z; refine GO.move rfl rfl ?_; exact KQ.z)))
    apply GR.step rfl; focus (intro Z; refine GO.sliceLo (l := m) rfl rfl rfl ⟨rfl, by omega, by omega⟩ ?_; exact KQ.z)
    ((apply GR.step rfl; focus (intro Z; refine GO.move rfl rfl ?_; exact KQ.z)); (apply GR.step rfl; focus (intro Z; refine GO.move rfl rfl ?_; exact KQ.z)))
    apply GR.step rfl; focus (intro Z; refine GO.sliceHi (l := m) rfl rfl rfl ⟨rfl, by omega⟩ ?_; exact KQ.z)
    skip
    (repeat refine GR.skip rfl ?_)
    refine GR.nil ?_
    (repeat refine GT.skip rfl ?_)
    refine GT.step rfl ?_
    refine GO.copy1 (cs := List.replicate (min m (n - m)) (i64 x)) (q := pt b (row (repV x n m) 3)) rfl rfl rfl Tk.h Tk.h (by simp) (fun j u hj => ?_) (by simp [repV]; omega) (by intro u hu; rw [List.eq_of_mem_replicate hu]; rfl) ?_
    · rw [List.getElem?_replicate] at hj
      split at hj
      · rename_i hjm
        simp only [Option.some.injEq] at hj
        subst hj
        rw [Nat.zero_add]
        exact Rd.row (repV_get (by omega))
      · cases hj
    simp only [List.length_replicate, Nat.zero_add, Nat.mul_one]
    rw [repV_copy (by omega) (by omega)]
    refine GO.nil ⟨rfl, _, pt b (row (repV x n (m + min m (n - m))) 3) :: F, rfl, ImpS.sb (by ((refine Sb.c Tk.h ?_); (exact Sb.r))), ?_⟩
    refine GT.step rfl ?_
    refine GO.addi rfl rfl rfl (by omega) ?_
    refine GO.nil ⟨rfl, _, pt b (row (repV x n (m + min m (n - m))) 3) :: F, rfl, ImpS.sb (by ((refine Sb.c Tk.h ?_); (exact Sb.r))), ?_⟩
    refine GT.nil ?_
    (refine GO.assign rfl rfl ?_; refine GO.nil ?_; refine kblock_n ?_; refine kthen_n ?_)
    refine ⟨m + min m (n - m), ⟨by omega, by omega⟩, by omega, ?_, ?_⟩
    · (refine SubE.c rfl rfl ?_; refine SubE.c rfl rfl ?_; exact SubE.n)
    · ((refine Sb.c Tk.h ?_); (exact Sb.r))
  · have : m = n := by omega
    subst this
    (refine G.exit ?_; refine G.seq ?_; refine G.region ?_; refine GO.move rfl rfl ?_; refine GO.assign rfl rfl ?_; refine GO.nil ?_; refine kthen_n ?_; refine G.ret ?_)
    have e1 : repV x m m = List.replicate m (i64 x) := by simp [repV]
    rw [e1]
    refine KF.r1 rfl (RV.t rfl) ⟨b, rfl, rfl⟩ ?_
    ((refine Sb.c Tk.h ?_); (exact Sb.r))
end Go.Proofs.Ytjokibfldngkeaa
namespace Go.Proofs.Ytjokibfldngkeaa
open Go
attribute [local irreducible] G GO GR GT Fn FnV pt init exs pur sat own ImpS
/-- How far all numbers are from the least. -/
def wt (s : Nat → Int) : Nat → Nat
  | 0 => 0
  | n + 1 => wt s n + (if s n = -1 then 66 else (s n).toNat)
theorem wt_upd {s : Nat → Int} {k : Nat} {m : Int} (h : (if m = -1 then 66 else m.toNat) < (if s k = -1 then 66 else (s k).toNat)) : ∀ n, k < n → wt (upd s k m) n < wt s n
  | 0, hk => by omega
  | n + 1, hk => by
    have le : ∀ n, wt (upd s k m) n ≤ wt s n := by
      intro n
      induction n with
      | zero => exact Nat.le_refl _
      | succ n ih =>
        simp only [wt]
        by_cases e : n = k
        · subst e; rw [upd_at]; omega
        · rw [upd_ne _ _ e]; omega
    simp only [wt]
    by_cases e : n = k
    · subst e; rw [upd_at]; have := le n; omega
    · rw [upd_ne _ _ e]; have := wt_upd h n (by omega); omega
theorem shoStep_dn {s : Nat → Int} {n : Nat} {p : ProdD} (hsh : Shorts s n) (hp : prodIn n p) (h : (shoStep s p).2 = true) : wt (shoStep s p).1 n < wt s n := by
  unfold shoStep at h ⊢
  cases hl : lenF s p.2 0 with
  | none => simp [hl] at h
  | some m =>
    simp only [hl] at h ⊢
    split at h
    · cases h
    · rename_i hc
      rw [if_neg hc]
      have hm := lenF_in hsh hp.2 (by omega) hl
      have hk : p.1.toNat < n := by have := hp.1; omega
      refine wt_upd ?_ n hk
      have hs := hsh p.1.toNat hk
      have : ¬ m = -1 := by omega
      rw [if_neg this]
      split
      · omega
      · rename_i h1
        have : ¬ s p.1.toNat ≤ m := fun hle => hc ⟨h1, hle⟩
        omega
theorem shoStep_st (s : Nat → Int) (p : ProdD) (h : (shoStep s p).2 = false) : (shoStep s p).1 = s := by
  unfold shoStep at h ⊢
  cases hl : lenF s p.2 0 with
  | none => rfl
  | some m =>
    simp only [hl] at h ⊢
    split at h
    · rename_i hc; rw [if_pos hc]
    · cases h
/-- What Shortest answers. -/
def ShoR (C : CnfD) (q : HP) (r : Value) (Q : List HP) : Prop :=
  (okC C = true ∧ ∃ b s, r = .tuple [.slice (some ⟨b, 0, none⟩) C.nts.toNat C.nts.toNat, i64 0].toArray ∧ Reach shoStep C.prods (fun _ => -1) s ∧ (∀ p ∈ C.prods, (shoStep s p).2 = false) ∧ Q = [pt b (row (numsV s C.nts.toNat) 3), q]) ∨
  (okC C = false ∧ r = .tuple [.slice none 0 0, i64 220].toArray ∧ Q = [q])
set_option maxHeartbeats 4000000 in
set_option maxRecDepth 20000 in
theorem shortest_spec (q : HP) (v : Value) (C : CnfD) (hv : CnfR q v C) (hz : Fits C) : Fn Try.prog 23 #[v] [q] (ShoR C q) := by
  have hv0 := hv
  obtain ⟨pv, rfl, hp⟩ := hv
  obtain ⟨a0, cap0, rfl⟩ := hp.form
  refine Fn.mk Try.func23 rfl rfl fun w0 F => ?_
  (refine G.seq ?_; refine G.region ?_)
  refine GO.box rfl rfl rfl fun b1 => ?_
  (refine GO.assign rfl rfl ?_; refine GO.assign rfl rfl ?_; refine GO.nil ?_; refine kthen_n ?_; refine G.seq ?_; refine G.seq ?_; refine G.region ?_)
  refine GO.loadW rfl rfl rfl Tk.h rfl ?_
  refine GO.call1 rfl rfl (check_spec q _ C hv0 hz) (Tks.c (Tk.t Tk.h) Tks.n) ?_
  rintro _ _ ⟨rfl, rfl⟩
  cases hok : okC C with
  | false =>
    have hcv : (if false = true then (0 : Int) else 220) = 220 := rfl
    rw [hcv]
    (refine GO.assign rfl rfl ?_; refine GO.nil ?_; refine kthen_n ?_; refine G.seq ?_; refine G.region ?_; refine GO.move rfl rfl ?_; refine GO.nei rfl rfl rfl ?_; refine GO.nil ?_; refine kthen_n ?_; refine G.condT rfl rfl ?_; refine G.seq ?_; refine G.region ?_; refine GO.move rfl rfl ?_; refine GO.assign rfl rfl ?_; refine GO.assign rfl rfl ?_; refine GO.nil ?_; refine kthen_n ?_; refine G.ret ?_; refine kthen_r ?_)
    refine KF.r2 rfl (RV.t rfl) (RV.t rfl) (.inr ⟨hok, rfl, rfl⟩) ?_
    ((refine Sb.c Tk.h ?_); (refine Sb.s ?_; exact Sb.r))
  | true =>
    have hcv : (if true = true then (0 : Int) else 220) = 0 := rfl
    rw [hcv]
    obtain ⟨⟨hn1, hn2⟩, hin⟩ := okC_in hok
    obtain ⟨n, hn⟩ := Int.eq_ofNat_of_zero_le (show 0 ≤ C.nts by omega)
    have hnn : C.nts.toNat = n := by omega
    have hrep := fun bx => repeat_spec (-1) n bx ⟨by omega, by omega⟩
    rw [← hn] at hrep
    (refine GO.assign rfl rfl ?_; refine GO.nil ?_; refine kthen_n ?_; refine G.seq ?_; refine G.region ?_; refine GO.move rfl rfl ?_; refine GO.neF rfl rfl rfl rfl ?_; refine GO.nil ?_; refine kthen_n ?_; refine G.condF rfl rfl ?_; refine G.skip ?_; refine kthen_n ?_; refine G.seq ?_; refine G.region ?_)
    refine GO.buildSlice1 rfl rfl (by simp; rfl) rfl ⟨by omega, by omega⟩ fun bx => ?_
    (refine GO.fieldAddr rfl rfl ?_; refine GO.load1 rfl rfl rfl (Tk.t (Tk.t Tk.h)) rfl ?_)
    refine GO.call2 rfl rfl rfl (hrep bx) (Tks.c Tk.h Tks.n) ?_
    rintro _ _ ⟨bo, rfl, rfl⟩
    rw [rowV_const (f := i64)]
    refine GO.alloc rfl fun b5 => ?_
    refine GO.store1 rfl rfl rfl Tk.h (by decide) ?_
    (refine GO.nil ?_; refine kthen_n ?_; refine G.seq ?_; refine G.region ?_)
    refine GO.loadW rfl rfl rfl (Tk.t (Tk.t (Tk.t Tk.h))) rfl ?_
    refine GO.makeFunc1 rfl rfl ?_
    refine GO.call2 rfl rfl rfl (grow_spec q _ _ C hv0 hz (shoM n bo b5) (fun s => Shorts s n) shoStep (fun s => wt s n)
      (fun s p hI hpm bv hb => FnV.of (caps := [.pointer (some ⟨b5, 0, none⟩)]) (shop_spec q s n bo b5 p bv hb (by have := hin p hpm; rw [hn] at this; exact this) (by have := hz.2 p hpm; omega) hI))
      (fun s p hI hpm => shoStep_in hI (by have := hin p hpm; rw [hn] at this; exact this)) (fun s p hI hpm h => shoStep_dn hI (by have := hin p hpm; rw [hn] at this; exact this) h) (fun s p h => shoStep_st s p h) (fun _ => -1) (fun i _ => by show (-1 : Int) ≤ -1 ∧ (-1 : Int) ≤ 65; decide))
      (Tks.c (Tk.t (Tk.t Tk.h)) (Tks.c Tk.h (Tks.c Tk.h Tks.n))) ?_
    rintro _ _ ⟨s, _, hR, hst, rfl⟩
    (refine GO.nil ?_; refine kthen_n ?_; refine G.seq ?_; refine G.region ?_; refine GO.load1 rfl rfl rfl (Tk.t Tk.h) rfl ?_; refine GO.assign rfl rfl ?_; refine GO.assign rfl rfl ?_; refine GO.nil ?_; refine kthen_n ?_; refine G.ret ?_)
    refine KF.r2 rfl (RV.t rfl) (RV.t rfl) (.inl ⟨hok, bo, s, by rw [hnn], hR, hst, rfl⟩) ?_
    rw [hnn]
    ((refine Sb.c (Tk.t (Tk.t Tk.h)) ?_; refine Sb.c Tk.h ?_); (refine Sb.s ?_; refine Sb.s ?_; exact Sb.r))
end Go.Proofs.Ytjokibfldngkeaa
namespace Go.Proofs.Ytjokibfldngkeaa
open Go
theorem st_le {s : Nat → Int} {p : ProdD} {m : Int} (h : lenF s p.2 0 = some m) (hst : (shoStep s p).2 = false) : s p.1.toNat ≠ -1 ∧ s p.1.toNat ≤ m := by
  unfold shoStep at hst
  rw [h] at hst
  dsimp only at hst
  split at hst
  · assumption
  · cases hst
theorem short_le {C : CnfD} (hok : okC C = true) (hwk : weakC C = true) {s : Nat → Int} (hR : Reach shoStep C.prods (fun _ => -1) s) (hst : ∀ p ∈ C.prods, (shoStep s p).2 = false) {w : List Int} {A : Int} {i j : Nat} (h : Der C w A i j) : 0 ≤ s A.toNat ∧ s A.toNat ≤ ((j : Int) - (i : Int)) := by
  obtain ⟨⟨hn1, hn2⟩, hin⟩ := okC_in hok
  have h0 : Shorts (fun _ => -1) C.nts.toNat := fun i _ => by show (-1 : Int) ≤ -1 ∧ (-1 : Int) ≤ 65; decide
  have hS : Shorts s C.nts.toNat := Reach.inv (J := fun s => Shorts s C.nts.toNat) (fun t p h1 hp => shoStep_in h1 (by rw [Int.toNat_of_nonneg (by omega)]; exact hin p hp)) hR h0
  have hwb : ∀ p ∈ C.prods, weakB p.2 = true := by
    unfold weakC at hwk
    rw [Bool.and_eq_true] at hwk
    exact List.all_eq_true.1 hwk.2
  have hA : ∀ A b, (A, b) ∈ C.prods → A.toNat < C.nts.toNat := fun A b hp => by
    have := okC_prod hok hp
    dsimp only at this
    omega
  refine Der.short (S := fun A => s A.toNat) ?_ ?_ ?_ h
  · intro A hp
    have h1 := st_le (m := 0) (p := (A, [])) rfl (hst _ hp)
    have h2 := hS _ (hA _ _ hp)
    dsimp only at h1 h2 ⊢
    omega
  · rintro A ⟨l, k⟩ hp
    have hl : l = true := by
      have := hwb _ hp
      cases l with
      | true => rfl
      | false => cases this
    subst hl
    have h1 := st_le (m := 1) (p := (A, [(true, k)])) rfl (hst _ hp)
    have h2 := hS _ (hA _ _ hp)
    dsimp only at h1 h2 ⊢
    omega
  · rintro A ⟨l, a⟩ ⟨l2, b⟩ hp ha hb
    have hl : l = false ∧ l2 = false := by
      have := hwb _ hp
      cases l with
      | true => cases this
      | false =>
        cases l2 with
        | true => cases this
        | false => exact ⟨rfl, rfl⟩
    obtain ⟨rfl, rfl⟩ := hl
    dsimp only at ha hb ⊢
    have e : lenF s [(false, a), (false, b)] 0 = some (min 65 (min 65 (0 + s a.toNat) + s b.toNat)) := by
      simp only [lenF]
      rw [if_neg (by omega), if_neg (by omega)]
    have h1 := st_le (p := (A, [(false, a), (false, b)])) e (hst _ hp)
    have h2 := hS _ (hA _ _ hp)
    dsimp only at h1 h2
    omega
theorem ask_who (C : CnfD) : askE C 0 0 = 0 ∨ askE C 0 0 = 220 ∨ askE C 0 0 = 250 := by
  unfold askE
  by_cases hok : okC C = true
  · have := okC_nts hok
    rw [if_pos hok]
    by_cases hwk : weakC C = true
    · rw [if_pos hwk, if_neg (by omega), if_neg (by omega), if_neg (by omega)]; exact .inl rfl
    · rw [if_neg hwk]; exact .inr (.inr rfl)
  · rw [if_neg hok]; exact .inr (.inl rfl)
theorem ask_in {C : CnfD} (hok : okC C = true) (hwk : weakC C = true) {A : Int} (h0 : 0 ≤ A) (h1 : A < C.nts) {n : Nat} (hn : n ≤ 64) : askE C A n = 0 := by
  unfold askE
  rw [if_pos hok, if_pos hwk, if_neg (by omega), if_neg (by omega), if_neg (by omega)]
theorem word_nil (q : HP) : WordR q (.slice none 0 0) [] := ⟨none, 0, rfl, rfl, fun h => by simp at h⟩
theorem wordV_one (l : List Int) : ∀ u ∈ wordV l, u.oneCell' = true := by
  intro u hu
  unfold wordV at hu
  obtain ⟨x, _, rfl⟩ := List.mem_map.1 hu
  rfl
theorem wordV_app (l m : List Int) : wordV (l ++ m) = wordV l ++ wordV m := by unfold wordV; rw [List.map_append]
theorem shorts_len {C : CnfD} (hok : okC C = true) : C.nts.toNat ≤ 1024 ∧ ((C.nts.toNat : Nat) : Int) = C.nts := by
  obtain ⟨⟨hn1, hn2⟩, _⟩ := okC_in hok
  omega
theorem word_own {q : HP} {v : Value} {l m : List Int} (h : Sl q v (l.length + m.length) 1 ([] ++ wordV l ++ wordV m)) : WordR q v (l ++ m) := by
  unfold WordR
  rw [wordV_app, List.length_append]
  exact h
end Go.Proofs.Ytjokibfldngkeaa
namespace Go.Proofs.Ytjokibfldngkeaa
open Go
theorem nat_mem (f : Nat → Bool) (k : Nat) : ∀ n, ((k : Int) ∈ natL f n ↔ k < n ∧ f k = true)
  | 0 => ⟨(fun h => by cases h), fun h => absurd h.1 (Nat.not_lt_zero _)⟩
  | n + 1 => by
    have ih := nat_mem f k n
    rw [natL_succ]
    by_cases h : f n = true
    · rw [if_pos h, List.mem_append, List.mem_singleton, ih]
      constructor
      · rintro (⟨h1, h2⟩ | h1)
        · exact ⟨by omega, h2⟩
        · have e : k = n := by omega
          subst e; exact ⟨by omega, h⟩
      · rintro ⟨h1, h2⟩
        by_cases e : k = n
        · exact .inr (by rw [e])
        · exact .inl ⟨by omega, h2⟩
    · rw [if_neg h, ih]
      constructor
      · rintro ⟨h1, h2⟩; exact ⟨by omega, h2⟩
      · rintro ⟨h1, h2⟩
        by_cases e : k = n
        · subst e; exact absurd h2 h
        · exact ⟨by omega, h2⟩
attribute [local irreducible] G GO GR GT Fn FnV pt init exs pur sat own ImpS f3sV symsV wordV natL
set_option maxHeartbeats 4000000 in
theorem holds_spec (z : HP) (u : Value) (l : List Int) (n : Int) (hw : WordR z u l) (hl : ¬ 140737488355328 < l.length) :
    Fn Try.prog 24 #[u, i64 n] [z] (fun r Q => r = .bool (decide (n ∈ l)) ∧ Q = [z]) := by
  obtain ⟨a, cap, rfl⟩ := hw.form
  refine Fn.mk2 Try.func24 rfl rfl fun w0 F => ?_
  (refine G.seq ?_; refine G.region ?_; refine GO.assign rfl rfl ?_; refine GO.nil ?_; refine kthen_n ?_; refine G.seq ?_; refine G.seq ?_; refine G.region ?_; refine GO.assign rfl rfl ?_; refine GO.nil ?_; refine kthen_n ?_; refine G.block ?_)
  refine G.loop (fun k : Nat => [(0, .slice a l.length cap), (1, i64 n), (5, i64 (k : Nat))]) (fun _ => z :: F) (fun k => k ≤ l.length ∧ ∀ j x, j < k → l[j]? = some x → x ≠ n) (fun k => l.length - k) 0 ⟨Nat.zero_le _, fun j x h => absurd h (Nat.not_lt_zero _)⟩ ?_ ?_ ?_
  · (refine SubE.c rfl rfl ?_; refine SubE.c rfl rfl ?_; refine SubE.c rfl rfl ?_; exact SubE.n)
  · ((refine Sb.c Tk.h ?_); (exact Sb.r))
  · rintro k ⟨hk, hall⟩
    (refine G.seq ?_; refine G.seq ?_; refine G.region ?_; refine GO.move rfl rfl ?_; refine GO.move rfl rfl ?_; refine GO.lenS rfl rfl ?_; refine GO.lti rfl rfl rfl ?_; refine GO.nil ?_; refine kthen_n ?_)
    refine G.condD rfl (fun hlt => ?_) (fun hge => ?_)
    · obtain ⟨x, hx⟩ : ∃ x, l[k]? = some x := ⟨_, List.getElem?_eq_getElem (by omega)⟩
      obtain ⟨b, o, rfl, _, rw1⟩ := hw.at hx
      (refine G.skip ?_; refine kthen_n ?_; refine G.seq ?_; refine G.block ?_; refine G.seq ?_; refine G.region ?_; refine GO.move rfl rfl ?_; refine GO.move rfl rfl ?_; refine GO.idxS rfl rfl rfl ⟨rfl, by omega⟩ ?_; refine GO.loadQ rfl rfl rfl Tk.h (by assumption) ?_; refine GO.move rfl rfl ?_; refine GO.eqi rfl rfl rfl ?_; refine GO.nil ?_; refine kthen_n ?_)
      refine G.condD rfl (fun heq => ?_) (fun hne => ?_)
      · (refine G.seq ?_; refine G.region ?_; refine GO.assign rfl rfl ?_; refine GO.nil ?_; refine kthen_n ?_; refine G.ret ?_; refine kblock_r ?_; refine kthen_r ?_; refine kthen_r ?_; refine kblock_r ?_; refine kthen_r ?_)
        refine KF2.r1 rfl (RV.t rfl) ⟨?_, rfl⟩ (ImpS.sb ?_)
        · rw [decide_eq_true (by rw [← heq]; exact List.mem_of_getElem? hx)]
        · ((refine Sb.c Tk.h ?_); (exact Sb.r))
      · (refine G.skip ?_; refine kblock_n ?_; refine kthen_n ?_; refine G.region ?_; refine GO.move rfl rfl ?_; refine GO.addi rfl rfl rfl (by omega) ?_; refine GO.assign rfl rfl ?_; refine GO.nil ?_; refine kthen_n ?_)
        refine ⟨k + 1, ⟨by omega, fun j y hj hy => ?_⟩, by omega, ?_, ?_⟩
        · by_cases e : j = k
          · subst e
            rw [hx] at hy
            injection hy with hy
            rw [← hy]; exact hne
          · exact hall j y (by omega) hy
        · (refine SubE.c rfl rfl ?_; refine SubE.c rfl rfl ?_; refine SubE.c rfl rfl ?_; exact SubE.n)
        · ((refine Sb.c Tk.h ?_); (exact Sb.r))
    · (refine G.exit ?_; refine kthen_x ?_; refine kthen_x ?_; refine kblock_x ?_; refine kthen_n ?_; refine G.seq ?_; refine G.region ?_; refine GO.assign rfl rfl ?_; refine GO.nil ?_; refine kthen_n ?_; refine G.ret ?_)
      refine KF2.r1 rfl (RV.t rfl) ⟨?_, rfl⟩ (ImpS.sb ?_)
      · rw [decide_eq_false fun hm => ?_]
        obtain ⟨j, hj⟩ := List.getElem?_of_mem hm
        exact hall j n (by have := (List.getElem?_eq_some_iff.1 hj).1; omega) hj rfl
      · ((refine Sb.c Tk.h ?_); (exact Sb.r))
set_option maxRecDepth 40000 in
set_option maxHeartbeats 16000000 in
theorem dagrees_law (q : HP) (v wv : Value) (C : CnfD) (nt : Int) (w : List Int) (hv : CnfR q v C) (hz : Fits C) (hw : WordR q wv w) :
    Fn Try.prog 8 #[v, i64 nt, wv] [q] (fun r Q => r = .bool true ∧ Q = [q]) := by
  obtain ⟨D, hD⟩ := der_ex C w
  have hhas := phas_spec q v C hv hz nt w wv hw D hD
  have htree := tree_spec q v C hv hz nt w wv hw
  have hbeg := pbegins_spec q v C hv hz nt w wv hw D hD
  have hwho := pwho_spec q v C hv hz w wv hw D hD
  have hright := fun (z : HP) (hs : Sup q z) (l : List F3) (lv : Value) (hl : StepsR z lv l) => pright_spec z v C (hv.sup hs) hz nt w wv (hw.sup hs) l lv hl
  obtain ⟨pv, rfl, hp⟩ := hv
  obtain ⟨ap, cp, rfl⟩ := hp.form
  obtain ⟨aw, cw, rfl⟩ := hw.form
  by_cases he : askE C nt w.length = 0
  · obtain ⟨hok, hwk, hn0, hn1, hl⟩ := askE_zero he
    have he0 := ask_in hok hwk (A := 0) (by omega) (by omega) (n := w.length) (by omega)
    have hnts := okC_nts hok
    obtain ⟨a, rfl⟩ := Int.eq_ofNat_of_zero_le hn0
    have hb1 := nat_mem (fun k => D (a : Nat) 0 k) w.length (w.length + 1)
    have hb2 := nat_mem (fun k => D (k : Nat) 0 w.length) a C.nts.toNat
    have hl1 := natL_len (fun k => D (a : Nat) 0 k) (w.length + 1)
    have hl2 := natL_len (fun k => D (k : Nat) 0 w.length) C.nts.toNat
    rw [if_pos he] at hhas
    rw [if_pos he, he] at hbeg
    rw [if_pos he0, he0] at hwho
    generalize natL (fun k => D (a : Nat) 0 k) (w.length + 1) = lb at hbeg hb1 hl1
    generalize natL (fun k => D (k : Nat) 0 w.length) C.nts.toNat = lw at hwho hb2 hl2
    have hh1 := fun (z : HP) (u : Value) (hu : WordR z u lb) => holds_spec z u lb (w.length : Nat) hu (by omega)
    have hh2 := fun (z : HP) (u : Value) (hu : WordR z u lw) => holds_spec z u lw (a : Nat) hu (by omega)
    have e1 : decide (((w.length : Nat) : Int) ∈ lb) = D (a : Nat) 0 w.length := by rw [Bool.eq_iff_iff, decide_eq_true_iff, hb1]; exact ⟨fun h => h.2, fun h => ⟨by omega, h⟩⟩
    have e2 : decide (((a : Nat) : Int) ∈ lw) = D (a : Nat) 0 w.length := by rw [Bool.eq_iff_iff, decide_eq_true_iff, hb2]; exact ⟨fun h => h.2, fun h => ⟨by omega, h⟩⟩
    rw [e1] at hh1
    rw [e2] at hh2
    cases hDD : D (a : Nat) 0 w.length with
    | false =>
      rw [hDD] at hhas hh1 hh2
      refine Fn.mk2 Try.func8 rfl rfl fun w0 F => ?_
      (refine G.seq ?_; refine G.region ?_; refine GO.box rfl rfl rfl fun b3 => ?_; refine GO.assign rfl rfl ?_; refine GO.nil ?_; refine kthen_n ?_; refine G.seq ?_; refine G.region ?_; refine GO.loadW rfl rfl rfl Tk.h rfl ?_; refine GO.move rfl rfl ?_; refine GO.move rfl rfl ?_)
      refine GO.call3 rfl rfl rfl rfl (hhas) (Tks.c (Tk.t Tk.h) Tks.n) ?_
      rintro _ _ ⟨rfl, rfl⟩
      (refine GO.move rfl rfl ?_; refine GO.extract rfl rfl rfl ?_; refine GO.extract rfl rfl rfl ?_; refine GO.assign rfl rfl ?_; refine GO.assign rfl rfl ?_; refine GO.nil ?_; refine kthen_n ?_; refine G.seq ?_; refine G.seq ?_; refine G.region ?_)
      refine GO.call0 rfl (dhead_spec) Tks.n ?_
      rintro _ _ ⟨rfl, rfl⟩
      (refine GO.not rfl rfl ?_; refine GO.nil ?_; refine kthen_n ?_; refine G.condF rfl rfl ?_; refine G.skip ?_; refine kthen_n ?_; refine G.seq ?_; refine G.seq ?_; refine G.region ?_; refine GO.move rfl rfl ?_; refine GO.neF rfl rfl rfl rfl ?_; refine GO.nil ?_; refine kthen_n ?_; refine G.condF rfl rfl ?_; refine G.skip ?_; refine kthen_n ?_; refine G.seq ?_; refine G.region ?_; refine GO.loadW rfl rfl rfl (Tk.t Tk.h) rfl ?_; refine GO.move rfl rfl ?_; refine GO.move rfl rfl ?_)
      refine GO.call3 rfl rfl rfl rfl (htree) (Tks.c Tk.h Tks.n) ?_
      rintro _ _ ⟨u, l, e, rfl, hR, rfl⟩
      obtain ⟨rfl, rfl⟩ := (hR.2 he).1 (fun h => by rw [(hD _ _ _).2 h] at hDD; cases hDD)
      (refine GO.move rfl rfl ?_; refine GO.extract rfl rfl rfl ?_; refine GO.extract rfl rfl rfl ?_; refine GO.assign rfl rfl ?_; refine GO.assign rfl rfl ?_; refine GO.nil ?_; refine kthen_n ?_; refine G.seq ?_; refine G.seq ?_; refine G.region ?_; refine GO.move rfl rfl ?_; refine GO.not rfl rfl ?_; refine GO.move rfl rfl ?_; refine GO.gT rfl rfl rfl ?_; refine GO.move rfl rfl ?_; refine GO.gT rfl rfl rfl ?_; refine GO.neF rfl rfl rfl rfl ?_; refine GO.pickT rfl rfl rfl ?_; refine GO.move rfl rfl ?_; refine GO.gT rfl rfl rfl ?_; refine GO.move rfl rfl ?_; refine GO.gT rfl rfl rfl ?_; refine GO.move rfl rfl ?_; refine GO.gF rfl rfl rfl rfl ?_; refine GO.gF rfl rfl rfl rfl ?_; refine GO.gT rfl rfl rfl ?_; refine GO.pickF rfl rfl rfl ?_; refine GO.gT rfl rfl rfl ?_; refine GO.move rfl rfl ?_; refine GO.gF rfl rfl rfl rfl ?_; refine GO.gF rfl rfl rfl rfl ?_; refine GO.gT rfl rfl rfl ?_; refine GO.pickF rfl rfl rfl ?_; refine GO.pickF rfl rfl rfl ?_; refine GO.nil ?_; refine kthen_n ?_; refine G.condF rfl rfl ?_; refine G.skip ?_; refine kthen_n ?_; refine G.seq ?_; refine G.region ?_; refine GO.loadW rfl rfl rfl (Tk.t (Tk.t Tk.h)) rfl ?_; refine GO.move rfl rfl ?_; refine GO.move rfl rfl ?_)
      refine GO.call3 rfl rfl rfl rfl (hbeg) (Tks.c (Tk.t Tk.h) Tks.n) ?_
      rintro _ _ ⟨ub, lb', hlb, rfl, rfl⟩
      rw [hlb]
      (refine GO.move rfl rfl ?_; refine GO.extract rfl rfl rfl ?_; refine GO.extract rfl rfl rfl ?_; refine GO.assign rfl rfl ?_; refine GO.assign rfl rfl ?_; refine GO.nil ?_; refine kthen_n ?_; refine G.seq ?_; refine G.region ?_; refine GO.loadW rfl rfl rfl (Tk.t (Tk.t (Tk.t Tk.h))) rfl ?_; refine GO.move rfl rfl ?_)
      refine GO.call2 rfl rfl rfl (hwho) (Tks.c (Tk.t Tk.h) Tks.n) ?_
      rintro _ _ ⟨uw, lw', hlw, rfl, rfl⟩
      rw [hlw]
      refine GO.ownRd (n := lb.length) (xs := wordV lb) (Tk.t (Tk.t Tk.h)) fun zb hzb => ?_
      refine GO.ownRd (n := lw.length) (xs := wordV lw) (Tk.t Tk.h) fun zw hzw => ?_
      (refine GO.move rfl rfl ?_; refine GO.extract rfl rfl rfl ?_; refine GO.extract rfl rfl rfl ?_; refine GO.assign rfl rfl ?_; refine GO.assign rfl rfl ?_; refine GO.nil ?_; refine kthen_n ?_; refine G.seq ?_; refine G.seq ?_; refine G.region ?_; refine GO.move rfl rfl ?_; refine GO.move rfl rfl ?_; refine GO.lenS rfl rfl ?_)
      refine GO.call2 rfl rfl rfl (hh1 zb ub hzb) (Tks.c (Tk.t Tk.h) Tks.n) ?_
      rintro _ _ ⟨rfl, rfl⟩
      (refine GO.move rfl rfl ?_; refine GO.neqB rfl rfl rfl ?_; refine GO.move rfl rfl ?_; refine GO.gT rfl rfl rfl ?_; refine GO.move rfl rfl ?_; refine GO.gT rfl rfl rfl ?_; refine GO.move rfl rfl ?_; refine GO.gT rfl rfl rfl ?_)
      refine GO.call2 rfl rfl rfl (hh2 zw uw hzw) (Tks.c (Tk.t Tk.h) Tks.n) ?_
      rintro _ _ ⟨rfl, rfl⟩
      (refine GO.gT rfl rfl rfl ?_; refine GO.move rfl rfl ?_; refine GO.gT rfl rfl rfl ?_; refine GO.neqB rfl rfl rfl ?_; refine GO.pickF rfl rfl rfl ?_; refine GO.nil ?_; refine kthen_n ?_; refine G.condF rfl rfl ?_; refine G.skip ?_; refine kthen_n ?_; refine G.seq ?_; refine G.seq ?_; refine G.region ?_; refine GO.move rfl rfl ?_; refine GO.nei rfl rfl rfl ?_; refine GO.nil ?_; refine kthen_n ?_; refine G.condT rfl rfl ?_; refine G.seq ?_; refine G.region ?_; refine GO.assign rfl rfl ?_; refine GO.nil ?_; refine kthen_n ?_; refine G.ret ?_; refine kthen_r ?_)
      refine KF2.r1 rfl (RV.t rfl) ⟨rfl, rfl⟩ (ImpS.sb ?_)
      ((refine Sb.c (Tk.t (Tk.t Tk.h)) ?_); (refine Sb.s ?_; refine Sb.s ?_; refine Sb.s ?_; refine Sb.s ?_; exact Sb.r))
    | true =>
      rw [hDD] at hhas hh1 hh2
      refine Fn.mk2 Try.func8 rfl rfl fun w0 F => ?_
      (refine G.seq ?_; refine G.region ?_; refine GO.box rfl rfl rfl fun b3 => ?_; refine GO.assign rfl rfl ?_; refine GO.nil ?_; refine kthen_n ?_; refine G.seq ?_; refine G.region ?_; refine GO.loadW rfl rfl rfl Tk.h rfl ?_; refine GO.move rfl rfl ?_; refine GO.move rfl rfl ?_)
      refine GO.call3 rfl rfl rfl rfl (hhas) (Tks.c (Tk.t Tk.h) Tks.n) ?_
      rintro _ _ ⟨rfl, rfl⟩
      (refine GO.move rfl rfl ?_; refine GO.extract rfl rfl rfl ?_; refine GO.extract rfl rfl rfl ?_; refine GO.assign rfl rfl ?_; refine GO.assign rfl rfl ?_; refine GO.nil ?_; refine kthen_n ?_; refine G.seq ?_; refine G.seq ?_; refine G.region ?_)
      refine GO.call0 rfl (dhead_spec) Tks.n ?_
      rintro _ _ ⟨rfl, rfl⟩
      (refine GO.not rfl rfl ?_; refine GO.nil ?_; refine kthen_n ?_; refine G.condF rfl rfl ?_; refine G.skip ?_; refine kthen_n ?_; refine G.seq ?_; refine G.seq ?_; refine G.region ?_; refine GO.move rfl rfl ?_; refine GO.neF rfl rfl rfl rfl ?_; refine GO.nil ?_; refine kthen_n ?_; refine G.condF rfl rfl ?_; refine G.skip ?_; refine kthen_n ?_; refine G.seq ?_; refine G.region ?_; refine GO.loadW rfl rfl rfl (Tk.t Tk.h) rfl ?_; refine GO.move rfl rfl ?_; refine GO.move rfl rfl ?_)
      refine GO.call3 rfl rfl rfl rfl (htree) (Tks.c Tk.h Tks.n) ?_
      rintro _ _ ⟨u, l, e, rfl, hR, rfl⟩
      obtain ⟨V, hC, hS, hV0, hV1⟩ := (hR.2 he).2 ((hD _ _ _).1 hDD)
      by_cases h0 : V (a : Nat) 0 w.length = 0
      · obtain ⟨rfl, rfl⟩ := hV0 h0
        (refine GO.move rfl rfl ?_; refine GO.extract rfl rfl rfl ?_; refine GO.extract rfl rfl rfl ?_; refine GO.assign rfl rfl ?_; refine GO.assign rfl rfl ?_; refine GO.nil ?_; refine kthen_n ?_; refine G.seq ?_; refine G.seq ?_; refine G.region ?_; refine GO.move rfl rfl ?_; refine GO.not rfl rfl ?_; refine GO.move rfl rfl ?_; refine GO.gF rfl rfl rfl rfl ?_; refine GO.gF rfl rfl rfl rfl ?_; refine GO.pickF rfl rfl rfl ?_; refine GO.move rfl rfl ?_; refine GO.gT rfl rfl rfl ?_; refine GO.move rfl rfl ?_; refine GO.gT rfl rfl rfl ?_; refine GO.move rfl rfl ?_; refine GO.gT rfl rfl rfl ?_; refine GO.move rfl rfl ?_; refine GO.gT rfl rfl rfl ?_; refine GO.nei rfl rfl rfl ?_; refine GO.gT rfl rfl rfl ?_; refine GO.pickT rfl rfl rfl ?_; refine GO.gT rfl rfl rfl ?_; refine GO.move rfl rfl ?_; refine GO.gT rfl rfl rfl ?_; refine GO.move rfl rfl ?_; refine GO.gT rfl rfl rfl ?_; refine GO.neF rfl rfl rfl rfl ?_; refine GO.gT rfl rfl rfl ?_; refine GO.pickT rfl rfl rfl ?_; refine GO.pickF rfl rfl rfl ?_; refine GO.nil ?_; refine kthen_n ?_; refine G.condF rfl rfl ?_; refine G.skip ?_; refine kthen_n ?_; refine G.seq ?_; refine G.region ?_; refine GO.loadW rfl rfl rfl (Tk.t (Tk.t Tk.h)) rfl ?_; refine GO.move rfl rfl ?_; refine GO.move rfl rfl ?_)
        refine GO.call3 rfl rfl rfl rfl (hbeg) (Tks.c (Tk.t Tk.h) Tks.n) ?_
        rintro _ _ ⟨ub, lb', hlb, rfl, rfl⟩
        rw [hlb]
        (refine GO.move rfl rfl ?_; refine GO.extract rfl rfl rfl ?_; refine GO.extract rfl rfl rfl ?_; refine GO.assign rfl rfl ?_; refine GO.assign rfl rfl ?_; refine GO.nil ?_; refine kthen_n ?_; refine G.seq ?_; refine G.region ?_; refine GO.loadW rfl rfl rfl (Tk.t (Tk.t (Tk.t Tk.h))) rfl ?_; refine GO.move rfl rfl ?_)
        refine GO.call2 rfl rfl rfl (hwho) (Tks.c (Tk.t Tk.h) Tks.n) ?_
        rintro _ _ ⟨uw, lw', hlw, rfl, rfl⟩
        rw [hlw]
        refine GO.ownRd (n := lb.length) (xs := wordV lb) (Tk.t (Tk.t Tk.h)) fun zb hzb => ?_
        refine GO.ownRd (n := lw.length) (xs := wordV lw) (Tk.t Tk.h) fun zw hzw => ?_
        (refine GO.move rfl rfl ?_; refine GO.extract rfl rfl rfl ?_; refine GO.extract rfl rfl rfl ?_; refine GO.assign rfl rfl ?_; refine GO.assign rfl rfl ?_; refine GO.nil ?_; refine kthen_n ?_; refine G.seq ?_; refine G.seq ?_; refine G.region ?_; refine GO.move rfl rfl ?_; refine GO.move rfl rfl ?_; refine GO.lenS rfl rfl ?_)
        refine GO.call2 rfl rfl rfl (hh1 zb ub hzb) (Tks.c (Tk.t Tk.h) Tks.n) ?_
        rintro _ _ ⟨rfl, rfl⟩
        (refine GO.move rfl rfl ?_; refine GO.neqB rfl rfl rfl ?_; refine GO.move rfl rfl ?_; refine GO.gT rfl rfl rfl ?_; refine GO.move rfl rfl ?_; refine GO.gT rfl rfl rfl ?_; refine GO.move rfl rfl ?_; refine GO.gT rfl rfl rfl ?_)
        refine GO.call2 rfl rfl rfl (hh2 zw uw hzw) (Tks.c (Tk.t Tk.h) Tks.n) ?_
        rintro _ _ ⟨rfl, rfl⟩
        (refine GO.gT rfl rfl rfl ?_; refine GO.move rfl rfl ?_; refine GO.gT rfl rfl rfl ?_; refine GO.neqB rfl rfl rfl ?_; refine GO.pickF rfl rfl rfl ?_; refine GO.nil ?_; refine kthen_n ?_; refine G.condF rfl rfl ?_; refine G.skip ?_; refine kthen_n ?_; refine G.seq ?_; refine G.seq ?_; refine G.region ?_; refine GO.move rfl rfl ?_; refine GO.nei rfl rfl rfl ?_; refine GO.nil ?_; refine kthen_n ?_; refine G.condT rfl rfl ?_; refine G.seq ?_; refine G.region ?_; refine GO.assign rfl rfl ?_; refine GO.nil ?_; refine kthen_n ?_; refine G.ret ?_; refine kthen_r ?_)
        refine KF2.r1 rfl (RV.t rfl) ⟨rfl, rfl⟩ (ImpS.sb ?_)
        ((refine Sb.c (Tk.t (Tk.t Tk.h)) ?_); (refine Sb.s ?_; refine Sb.s ?_; refine Sb.s ?_; refine Sb.s ?_; exact Sb.r))
      · obtain ⟨rfl, hds, hlen⟩ := hV1 (by omega)
        have h4 := (hC (a : Nat) 0 w.length (by omega)).1
        (refine GO.move rfl rfl ?_; refine GO.extract rfl rfl rfl ?_; refine GO.extract rfl rfl rfl ?_; refine GO.assign rfl rfl ?_; refine GO.assign rfl rfl ?_; refine GO.nil ?_; refine kthen_n ?_; refine G.seq ?_; refine G.seq ?_; refine G.region ?_; refine GO.move rfl rfl ?_; refine GO.not rfl rfl ?_; refine GO.move rfl rfl ?_; refine GO.gF rfl rfl rfl rfl ?_; refine GO.gF rfl rfl rfl rfl ?_; refine GO.pickF rfl rfl rfl ?_; refine GO.move rfl rfl ?_; refine GO.gT rfl rfl rfl ?_; refine GO.move rfl rfl ?_; refine GO.gT rfl rfl rfl ?_; refine GO.move rfl rfl ?_; refine GO.gT rfl rfl rfl ?_; refine GO.move rfl rfl ?_; refine GO.gT rfl rfl rfl ?_; refine GO.neF rfl rfl rfl rfl ?_; refine GO.gT rfl rfl rfl ?_; refine GO.pickT rfl rfl rfl ?_; refine GO.gT rfl rfl rfl ?_; refine GO.move rfl rfl ?_; refine GO.gF rfl rfl rfl rfl ?_; refine GO.gF rfl rfl rfl rfl ?_; refine GO.gT rfl rfl rfl ?_; refine GO.pickF rfl rfl rfl ?_; refine GO.pickF rfl rfl rfl ?_; refine GO.nil ?_; refine kthen_n ?_; refine G.condF rfl rfl ?_; refine G.skip ?_; refine kthen_n ?_; refine G.seq ?_; refine G.region ?_; refine GO.loadW rfl rfl rfl (Tk.t (Tk.t Tk.h)) rfl ?_; refine GO.move rfl rfl ?_; refine GO.move rfl rfl ?_)
        refine GO.call3 rfl rfl rfl rfl (hbeg) (Tks.c (Tk.t Tk.h) Tks.n) ?_
        rintro _ _ ⟨ub, lb', hlb, rfl, rfl⟩
        rw [hlb]
        (refine GO.move rfl rfl ?_; refine GO.extract rfl rfl rfl ?_; refine GO.extract rfl rfl rfl ?_; refine GO.assign rfl rfl ?_; refine GO.assign rfl rfl ?_; refine GO.nil ?_; refine kthen_n ?_; refine G.seq ?_; refine G.region ?_; refine GO.loadW rfl rfl rfl (Tk.t (Tk.t (Tk.t Tk.h))) rfl ?_; refine GO.move rfl rfl ?_)
        refine GO.call2 rfl rfl rfl (hwho) (Tks.c (Tk.t Tk.h) Tks.n) ?_
        rintro _ _ ⟨uw, lw', hlw, rfl, rfl⟩
        rw [hlw]
        refine GO.ownRd (n := lb.length) (xs := wordV lb) (Tk.t (Tk.t Tk.h)) fun zb hzb => ?_
        refine GO.ownRd (n := lw.length) (xs := wordV lw) (Tk.t Tk.h) fun zw hzw => ?_
        (refine GO.move rfl rfl ?_; refine GO.extract rfl rfl rfl ?_; refine GO.extract rfl rfl rfl ?_; refine GO.assign rfl rfl ?_; refine GO.assign rfl rfl ?_; refine GO.nil ?_; refine kthen_n ?_; refine G.seq ?_; refine G.seq ?_; refine G.region ?_; refine GO.move rfl rfl ?_; refine GO.move rfl rfl ?_; refine GO.lenS rfl rfl ?_)
        refine GO.call2 rfl rfl rfl (hh1 zb ub hzb) (Tks.c (Tk.t Tk.h) Tks.n) ?_
        rintro _ _ ⟨rfl, rfl⟩
        (refine GO.move rfl rfl ?_; refine GO.neqB rfl rfl rfl ?_; refine GO.move rfl rfl ?_; refine GO.gT rfl rfl rfl ?_; refine GO.move rfl rfl ?_; refine GO.gT rfl rfl rfl ?_; refine GO.move rfl rfl ?_; refine GO.gT rfl rfl rfl ?_)
        refine GO.call2 rfl rfl rfl (hh2 zw uw hzw) (Tks.c (Tk.t Tk.h) Tks.n) ?_
        rintro _ _ ⟨rfl, rfl⟩
        refine GO.ownSteps (Tk.t (Tk.t (Tk.t Tk.h))) fun y hy => ?_
        refine GO.merge (x := y) (y := q) (Tks.c Tk.h (Tks.c (Tk.t (Tk.t Tk.h)) Tks.n)) ?_
        have hr := hright (star [y, q]) (Sup.right y q) l u (hy.sup (Sup.left y q))
        rw [if_pos he, if_neg (by omega)] at hr
        (refine GO.gT rfl rfl rfl ?_; refine GO.move rfl rfl ?_; refine GO.gT rfl rfl rfl ?_; refine GO.neqB rfl rfl rfl ?_; refine GO.pickF rfl rfl rfl ?_; refine GO.nil ?_; refine kthen_n ?_; refine G.condF rfl rfl ?_; refine G.skip ?_; refine kthen_n ?_; refine G.seq ?_; refine G.seq ?_; refine G.region ?_; refine GO.move rfl rfl ?_; refine GO.neF rfl rfl rfl rfl ?_; refine GO.nil ?_; refine kthen_n ?_; refine G.condF rfl rfl ?_; refine G.skip ?_; refine kthen_n ?_; refine G.seq ?_; refine G.region ?_; refine GO.loadW rfl rfl rfl (Tk.t (Tk.t (Tk.t Tk.h))) rfl ?_; refine GO.move rfl rfl ?_; refine GO.move rfl rfl ?_; refine GO.move rfl rfl ?_)
        refine GO.call4 rfl rfl rfl rfl rfl (hr) (Tks.c Tk.h Tks.n) ?_
        rintro _ _ ⟨b, rfl, hb, rfl⟩
        obtain rfl : b = true := hb.2 ⟨he, by omega, hds⟩
        refine GO.unmerge ?_
        (refine GO.move rfl rfl ?_; refine GO.extract rfl rfl rfl ?_; refine GO.extract rfl rfl rfl ?_; refine GO.assign rfl rfl ?_; refine GO.assign rfl rfl ?_; refine GO.nil ?_; refine kthen_n ?_; refine G.seq ?_; refine G.region ?_; refine GO.move rfl rfl ?_; refine GO.eqT rfl rfl rfl rfl ?_; refine GO.move rfl rfl ?_; refine GO.gT rfl rfl rfl ?_; refine GO.move rfl rfl ?_; refine GO.pickT rfl rfl rfl ?_; refine GO.assign rfl rfl ?_; refine GO.nil ?_; refine kthen_n ?_; refine G.ret ?_)
        refine KF2.r1 rfl (RV.t rfl) ⟨rfl, rfl⟩ (ImpS.sb ?_)
        ((refine Sb.c (Tk.t Tk.h) ?_); (refine Sb.s ?_; refine Sb.s ?_; refine Sb.s ?_; refine Sb.s ?_; exact Sb.r))
  · obtain ⟨e0, hE⟩ : ∃ e0, askE C nt w.length = e0 := ⟨_, rfl⟩
    rw [if_neg he, hE] at hhas
    have he' := he
    rw [hE] at he'
    have de : decide (e0 = e0) = true := decide_eq_true rfl
    have dn : decide (e0 ≠ 0) = true := decide_eq_true he'
    refine Fn.mk2 Try.func8 rfl rfl fun w0 F => ?_
    (refine G.seq ?_; refine G.region ?_; refine GO.box rfl rfl rfl fun b3 => ?_; refine GO.assign rfl rfl ?_; refine GO.nil ?_; refine kthen_n ?_; refine G.seq ?_; refine G.region ?_; refine GO.loadW rfl rfl rfl Tk.h rfl ?_; refine GO.move rfl rfl ?_; refine GO.move rfl rfl ?_)
    refine GO.call3 rfl rfl rfl rfl (hhas) (Tks.c (Tk.t Tk.h) Tks.n) ?_
    rintro _ _ ⟨rfl, rfl⟩
    (refine GO.move rfl rfl ?_; refine GO.extract rfl rfl rfl ?_; refine GO.extract rfl rfl rfl ?_; refine GO.assign rfl rfl ?_; refine GO.assign rfl rfl ?_; refine GO.nil ?_; refine kthen_n ?_; refine G.seq ?_; refine G.seq ?_; refine G.region ?_)
    refine GO.call0 rfl (dhead_spec) Tks.n ?_
    rintro _ _ ⟨rfl, rfl⟩
    (refine GO.not rfl rfl ?_; refine GO.nil ?_; refine kthen_n ?_; refine G.condF rfl rfl ?_; refine G.skip ?_; refine kthen_n ?_; refine G.seq ?_; refine G.seq ?_; refine G.region ?_; refine GO.move rfl rfl ?_; refine GO.nei rfl rfl rfl ?_; refine GO.nil ?_; refine kthen_n ?_; refine G.condT rfl (by assumption) ?_; refine G.seq ?_; refine G.region ?_; refine GO.loadW rfl rfl rfl (Tk.t Tk.h) rfl ?_; refine GO.move rfl rfl ?_; refine GO.move rfl rfl ?_)
    refine GO.call3 rfl rfl rfl rfl (htree) (Tks.c Tk.h Tks.n) ?_
    rintro _ _ ⟨u, l, e, rfl, hR, rfl⟩
    obtain ⟨h1, rfl⟩ := hR.1 he
    rw [hE] at h1
    subst h1
    (refine GO.move rfl rfl ?_; refine GO.extract rfl rfl rfl ?_; refine GO.extract rfl rfl rfl ?_; refine GO.assign rfl rfl ?_; refine GO.assign rfl rfl ?_; refine GO.nil ?_; refine kthen_n ?_; refine G.seq ?_; refine G.region ?_; refine GO.move rfl rfl ?_; refine GO.move rfl rfl ?_; refine GO.eqT rfl rfl rfl rfl ?_; refine GO.assign rfl rfl ?_; refine GO.nil ?_; refine kthen_n ?_; refine G.ret ?_; refine kthen_r ?_)
    refine KF2.r1 rfl (RV.t rfl) ⟨rfl, rfl⟩ (ImpS.sb ?_)
    ((refine Sb.c (Tk.t Tk.h) ?_); (refine Sb.s ?_; refine Sb.s ?_; exact Sb.r))
end Go.Proofs.Ytjokibfldngkeaa
namespace Go.Proofs.Ytjokibfldngkeaa
open Go Go.ChangeShapes Go.WideShapes Go.ChangeAt Go.RowKit Go.Deep

theorem ownGo : ownKnob Try.prog.godebug = none := by kernel_rfl
theorem laidOut : laidOutB Try.prog = true := by kernel_rfl
/-- A contract over all of the memory that was there, as the row wants it. -/
theorem Fn.calls {P : Program} {f : FuncId} {args : Array Value} {w : World} (h : Fn P f args [init w] (fun v Q => v = .bool true ∧ Q = [init w])) :
    Calls P f args w fun e w' => e = .returned (.bool true) ∧ Below w.heap.size w w' := by
  refine (callsIn_wide (n := 0)).1 ((h [] w (sat_init w)).mono ?_)
  rintro e w' ⟨v, Q, rfl, hs, ⟨rfl, rfl⟩, hq⟩
  exact ⟨rfl, init_below hs hq⟩
theorem two_of {α : Type} {l : List α} (h : l.length = 2) : ∃ x y, l = [x, y] := by
  cases l with
  | nil => cases h
  | cons x l => cases l with
    | nil => cases h
    | cons y l => cases l with
      | nil => exact ⟨x, y, rfl⟩
      | cons z l => simp at h
def two {α : Type} (enc : α → Value × Value) (xs : List α) : List Value := xs.flatMap fun x => [(enc x).1, (enc x).2]
theorem two_len {α : Type} (enc : α → Value × Value) (xs : List α) : (two enc xs).length = xs.length * 2 := by
  induction xs with
  | nil => rfl
  | cons s ss ih => simp only [two, List.flatMap_cons, List.length_append, List.length_cons, List.length_nil] at ih ⊢; omega
theorem two_get {α : Type} (enc : α → Value × Value) : ∀ {ss : List α} {k : Nat} {s : α}, ss[k]? = some s → (two enc ss)[k * 2]? = some (enc s).1 ∧ (two enc ss)[k * 2 + 1]? = some (enc s).2
  | [], _, _, h => by simp at h
  | t :: ss, 0, s, h => by simp at h; subst h; simp [two]
  | t :: ss, k + 1, s, h => by
    have := two_get enc (ss := ss) (k := k) (by simpa using h)
    have e : two enc (t :: ss) = (enc t).1 :: (enc t).2 :: two enc ss := rfl
    rw [e, show (k + 1) * 2 = k * 2 + 2 by omega]
    simpa using this
theorem sl_of {α : Type} (enc : α → Value × Value) (R : Nat → α → Prop) {w : World} {a : Addr} {len cap : Nat}
    (h : ∀ i, i < len → ∃ x, w.cell? (a.add (i * 2)) = some (enc x).1 ∧ w.cell? (a.add (i * 2 + 1)) = some (enc x).2 ∧ R i x) :
    ∃ xs : List α, xs.length = len ∧ Sl (init w) (.slice (some a) len cap) len 2 (two enc xs) ∧ ∀ i x, xs[i]? = some x → R i x := by
  by_cases hl : len = 0
  · subst hl
    exact ⟨[], rfl, ⟨some a, cap, rfl, rfl, fun h => by omega⟩, fun i x hx => by simp at hx⟩
  · obtain ⟨x0, hx0⟩ := h 0 (by omega)
    obtain ⟨f, hf⟩ := Classical.axiomOfChoice (r := fun (i : Nat) (x : α) => i < len → w.cell? (a.add (i * 2)) = some (enc x).1 ∧ w.cell? (a.add (i * 2 + 1)) = some (enc x).2 ∧ R i x) (fun i => by
      by_cases hi : i < len
      · obtain ⟨x, hx⟩ := h i hi
        exact ⟨x, fun _ => hx⟩
      · exact ⟨x0, fun h => absurd h hi⟩)
    have hlen : ((List.range len).map f).length = len := by simp
    refine ⟨(List.range len).map f, hlen, ⟨some a, cap, rfl, by rw [two_len, hlen], fun _ => ?_⟩, fun i x hx => ?_⟩
    · obtain ⟨b, o, sp⟩ := a
      have hsp : sp = none := by
        have := hx0.1
        simpa [Addr.add] using World.cell?_spot this
      subst hsp
      refine ⟨b, o, rfl, fun j u hj => ?_⟩
      have hjl : j < len * 2 := by
        have := (List.getElem?_eq_some_iff.1 hj).1
        rw [two_len, hlen] at this; exact this
      have hk : ((List.range len).map f)[j / 2]? = some (f (j / 2)) := by
        rw [List.getElem?_map, List.getElem?_range (by omega)]; rfl
      obtain ⟨h1, h2⟩ := two_get enc hk
      obtain ⟨c1, c2, _⟩ := hf (j / 2) (by omega)
      apply Rd.init
      rcases Nat.mod_two_eq_zero_or_one j with hm | hm
      · have e : j / 2 * 2 = j := by omega
        rw [e] at h1 c1
        rw [h1] at hj
        rw [add_plain] at c1
        rw [c1]; exact hj
      · have e : j / 2 * 2 + 1 = j := by omega
        rw [e] at h2 c2
        rw [h2] at hj
        rw [add_plain] at c2
        rw [c2]; exact hj
    · have hi : i < len := by
        have := (List.getElem?_eq_some_iff.1 hx).1
        rw [hlen] at this; exact this
      rw [List.getElem?_map, List.getElem?_range hi] at hx
      simp only [Option.map_some, Option.some.injEq] at hx
      subst hx
      exact (hf i hi).2.2
theorem bulk_one {H : Type} (d : DataW H) : 1 ≤ Rows.uptoBulk d := by
  cases d with
  | lit l => cases l <;> simp [Rows.uptoBulk]
  | _ => simp [Rows.uptoBulk]
theorem bulk_all {H : Type} (l : List (DataW H)) : l.length ≤ Rows.uptoBulkAll l := by
  induction l with
  | nil => simp [Rows.uptoBulkAll]
  | cons x r ih => have := bulk_one x; simp only [Rows.uptoBulkAll, List.length_cons]; omega
theorem bulk_part {H : Type} {d : DataW H} {l : List (DataW H)} (h : d ∈ l) : Rows.uptoBulk d ≤ Rows.uptoBulkAll l := by
  induction l with
  | nil => cases h
  | cons x r ih =>
    simp only [Rows.uptoBulkAll]
    rcases List.mem_cons.1 h with rfl | e
    · omega
    · have := ih e; omega
/-- A sum, item by item, against the bulk of what was read. -/
theorem bulk_sum {H α : Type} {f : α → Nat} : ∀ {xs : List α} {l : List (DataW H)}, xs.length = l.length → (∀ (i : Nat) (x : α) (d : DataW H), xs[i]? = some x → l[i]? = some d → f x ≤ Rows.uptoBulk d) → (xs.map f).sum ≤ Rows.uptoBulkAll l
  | [], [], _, _ => by simp [Rows.uptoBulkAll]
  | x :: xs, d :: l, h, k => by
    have h1 := k 0 x d rfl rfl
    have h2 := bulk_sum (f := f) (xs := xs) (l := l) (by simpa using h) (fun i x d h1 h2 => k (i + 1) x d (by simpa using h1) (by simpa using h2))
    simp only [List.map_cons, List.sum_cons, Rows.uptoBulkAll]
    omega
  | [], _ :: _, h, _ => by simp at h
  | _ :: _, [], h, _ => by simp at h
theorem weightsAll_mem {H : Type} {P : Program} {e : TypeId} : ∀ {ds : List (DataW H)} {d : DataW H}, d ∈ ds → ∀ n ∈ d.weights P e, n ∈ DataW.weightsAll P e ds
  | [], _, h, _, _ => by simp at h
  | d0 :: r, d, h, n, hn => by
    simp only [DataW.weightsAll, List.mem_append]
    rcases List.mem_cons.1 h with rfl | h
    · exact .inl hn
    · exact .inr (weightsAll_mem h n hn)
section
variable {H : Type} {enc : TypeId × Value → H} {w : World} {base : Nat} {spare : Nat → Bool} {held : Bool}
theorem open_syms {fuel : Nat} {v : Value} {x : DataW H × List MemPlace} (h : DataW.trod enc Try.prog w base spare held fuel 50 [v] = some x) (hz : ∀ n ∈ x.1.weights Try.prog 50, n ≤ reachBytes) :
    ∃ ss : List SymD, SymsR (init w) v ss ∧ ss.length * 16 ≤ 140737488355328 ∧ ss.length + 1 ≤ Rows.uptoBulk x.1 := by
  have hb : Try.prog.bytesOf 54 = 16 := by kernel_rfl
  have hr := reachBytes_lt
  rcases open_slice_fields Try.underlying50 Try.underlying54 (by kernel_rfl) (by kernel_rfl) h with ⟨hc, _⟩ | ⟨a, len, cap, m, D, Pl, hc, _, hl, hm, hmm, hx, hi⟩
  · simp only [List.cons.injEq, and_true] at hc
    subst hc
    exact ⟨[], ⟨none, 0, rfl, rfl, fun h => by simp at h⟩, by simp, bulk_one _⟩
  · simp only [List.cons.injEq, and_true] at hc
    subst hc
    have hlm : len ≤ m := by rw [hmm]; split <;> omega
    obtain ⟨ss, hlen, hs, _⟩ := sl_of (cap := cap) (fun s : SymD => (.bool s.1, i64 s.2)) (fun _ _ => True) (w := w) (a := a) (len := len) (fun i hil => by
      obtain ⟨ys, n, _, _, _, hf⟩ := hi i (by omega)
      obtain ⟨u0, y0, a0, _, t0⟩ := hf 0 _ rfl
      obtain ⟨u1, y1, a1, _, t1⟩ := hf 1 _ rfl
      obtain ⟨b, hb', _⟩ := DataW.trod_bool Try.underlying4 t0
      obtain ⟨k, hk, _⟩ := DataW.trod_int Try.underlying3 t1
      simp only [List.cons.injEq, and_true] at hb' hk
      subst hb' hk
      exact ⟨(b, k), a0, a1, trivial⟩)
    subst hx
    refine ⟨ss, by rw [← hlen] at hs ⊢; exact hs, ?_, by have := bulk_all ((List.range len).map D); simp only [Rows.uptoBulk]; simp at this; omega⟩
    have := hz (((List.range len).map D).length + ((List.range (m - len)).map fun j => D (len + j)).length |> (· * Try.prog.bytesOf 54)) (by simp [DataW.weights, Try.underlying50])
    rw [hb] at this
    simp at this
    omega
theorem open_prods {fuel : Nat} {v : Value} {x : DataW H × List MemPlace} (h : DataW.trod enc Try.prog w base spare held fuel 22 [v] = some x) (hz : ∀ n ∈ x.1.weights Try.prog 22, n ≤ reachBytes) :
    ∃ ps : List ProdD, PrsR (init w) v ps ∧ ps.length * 32 ≤ 140737488355328 ∧ (∀ p ∈ ps, p.2.length * 16 ≤ 140737488355328) ∧ (ps.map fun p => p.2.length + 1).sum ≤ Rows.uptoBulk x.1 := by
  have hb : Try.prog.bytesOf 52 = 32 := by kernel_rfl
  have hr := reachBytes_lt
  rcases open_slice_fields Try.underlying22 Try.underlying52 (by kernel_rfl) (by kernel_rfl) h with ⟨hc, _⟩ | ⟨a, len, cap, m, D, Pl, hc, _, hl, hm, hmm, hx, hi⟩
  · simp only [List.cons.injEq, and_true] at hc
    subst hc
    exact ⟨[], ⟨[], ⟨none, 0, rfl, rfl, fun h => by simp at h⟩, fun k p hk => by simp at hk⟩, by simp, fun p hp => by simp at hp, by simp⟩
  · simp only [List.cons.injEq, and_true] at hc
    subst hc
    have hlm : len ≤ m := by rw [hmm]; split <;> omega
    subst hx
    obtain ⟨xs, hlen, hs, hxs⟩ := sl_of (cap := cap) (fun y : ProdD × Value => (i64 y.1.1, y.2)) (fun i y => SymsR (init w) y.2 y.1.2 ∧ y.1.2.length * 16 ≤ 140737488355328 ∧ y.1.2.length + 1 ≤ Rows.uptoBulk (D i)) (w := w) (a := a) (len := len) (fun i hil => by
      obtain ⟨ys, n, hD, _, hyl, hf⟩ := hi i (by omega)
      obtain ⟨u0, y0, a0, _, t0⟩ := hf 0 _ rfl
      obtain ⟨u1, y1, a1, g1, t1⟩ := hf 1 _ rfl
      obtain ⟨k, hk, _⟩ := DataW.trod_int Try.underlying3 t0
      simp only [List.cons.injEq, and_true] at hk
      subst hk
      obtain ⟨ss, hss, hsz, hbk⟩ := open_syms t1 (fun n hn => hz n (by
        have h1 : n ∈ (D i).weights Try.prog 52 := by
          rw [hD]
          simp only [DataW.weights, Try.underlying52]
          exact DataW.weights_mem_each (j := 1) rfl (by rw [List.getElem?_map, g1]; rfl) n hn
        have h2 : n ∈ DataW.weightsAll Try.prog 52 ((List.range len).map D) := weightsAll_mem (List.mem_map.2 ⟨i, by simpa using hil, rfl⟩) n h1
        simp only [DataW.weights, Try.underlying22]
        exact List.mem_cons_of_mem _ (List.mem_append.2 (.inl h2))))
      exact ⟨((k, ss), u1), a0, a1, hss, hsz, by
        rw [hD]
        simp only [Rows.uptoBulk]
        have := bulk_part (l := ys.map (·.1)) (d := y1.1) (List.mem_map.2 ⟨y1, List.mem_of_getElem? g1, rfl⟩)
        omega⟩)
    refine ⟨xs.map (·.1), ⟨two (fun y : ProdD × Value => (i64 y.1.1, y.2)) xs, by rw [List.length_map, hlen]; exact hs, fun k p hk => ?_⟩, ?_, fun p hp => ?_, ?_⟩
    · rw [List.getElem?_map] at hk
      obtain ⟨y, hy, rfl⟩ := Option.map_eq_some_iff.1 hk
      obtain ⟨h1, h2⟩ := two_get (fun y : ProdD × Value => (i64 y.1.1, y.2)) hy
      exact ⟨y.2, h1, h2, (hxs k y hy).1⟩
    · have := hz (((List.range len).map D).length + ((List.range (m - len)).map fun j => D (len + j)).length |> (· * Try.prog.bytesOf 52)) (by simp [DataW.weights, Try.underlying22])
      rw [hb] at this
      simp at this
      rw [List.length_map, hlen]
      omega
    · obtain ⟨y, hy, rfl⟩ := List.mem_map.1 hp
      obtain ⟨i, hi⟩ := List.getElem?_of_mem hy
      exact (hxs i y hi).2.1
    · have e : (xs.map (·.1)).map (fun p : ProdD => p.2.length + 1) = xs.map fun y => y.1.2.length + 1 := by rw [List.map_map]; rfl
      rw [e]
      have := bulk_sum (f := fun y : ProdD × Value => y.1.2.length + 1) (xs := xs) (l := (List.range len).map D) (by simp [hlen]) (fun i y d h1 h2 => by
        have hi : i < len := by
          have := (List.getElem?_eq_some_iff.1 h1).1
          rw [hlen] at this; exact this
        rw [List.getElem?_map, List.getElem?_range hi] at h2
        simp only [Option.map_some, Option.some.injEq] at h2
        subst h2
        exact (hxs i y h1).2.2)
      simp only [Rows.uptoBulk]
      omega
theorem open_cnfB {fuel : Nat} {cs : Array Value} {x : DataW H × List MemPlace} (h : DataW.trod enc Try.prog w base spare held fuel 24 (Value.agg cs).cells.toList = some x) (hz : ∀ n ∈ x.1.weights Try.prog 24, n ≤ reachBytes) :
    ∃ C : CnfD, CnfR (init w) (.agg cs) C ∧ Fits C ∧ (C.prods.map fun p => p.2.length + 1).sum ≤ Rows.uptoBulk x.1 := by
  have hC : Try.prog.cellsOf 24 = 2 := by kernel_rfl
  have hC3 : Try.prog.cellsOf 3 = 1 := by kernel_rfl
  have hCp : Try.prog.cellsOf 22 = 1 := by kernel_rfl
  obtain ⟨ys, n, _, rfl, hl, hyl, hf⟩ := DataW.trod_struct Try.underlying24 h
  have hcs : (Value.agg cs).cells = cs := rfl
  rw [hcs] at hl hf
  rw [hC] at hl
  obtain ⟨c0, c1, e⟩ := two_of hl
  obtain rfl : cs = [c0, c1].toArray := by rw [← e]
  have f0 := hf 0 { name := "Nts", type := 3, offset := 0, embedded := false, tag := "", pkgPath := "", byteOffset := 0 } rfl
  have f1 := hf 1 { name := "Prods", type := 22, offset := 1, embedded := false, tag := "", pkgPath := "", byteOffset := 8 } rfl
  dsimp only at f0 f1
  rw [hC3] at f0
  rw [hCp] at f1
  have y0 : ∃ y, ys[0]? = some y := ⟨ys[0]'(by rw [hyl]; decide), List.getElem?_eq_getElem _⟩
  have y1 : ∃ y, ys[1]? = some y := ⟨ys[1]'(by rw [hyl]; decide), List.getElem?_eq_getElem _⟩
  obtain ⟨y0, g0⟩ := y0
  obtain ⟨y1, g1⟩ := y1
  rw [g0] at f0
  rw [g1] at f1
  obtain ⟨k, hk, _⟩ := DataW.trod_int Try.underlying3 f0
  have hk : c0 = i64 k := by simpa using hk
  subst hk
  obtain ⟨ps, h1, h2, h3, h4⟩ := open_prods f1 (fun n hn => hz n (by
    simp only [DataW.weights, Try.underlying24]
    exact DataW.weights_mem_each (j := 1) rfl (by rw [List.getElem?_map, g1]; rfl) n hn))
  refine ⟨⟨k, ps⟩, ⟨c1, rfl, h1⟩, ⟨h2, h3⟩, ?_⟩
  have := bulk_part (l := ys.map (·.1)) (d := y1.1) (List.mem_map.2 ⟨y1, List.mem_of_getElem? g1, rfl⟩)
  simp only [Rows.uptoBulk]
  omega
theorem open_cnf {fuel : Nat} {cs : Array Value} {x : DataW H × List MemPlace} (h : DataW.trod enc Try.prog w base spare held fuel 24 (Value.agg cs).cells.toList = some x) (hz : ∀ n ∈ x.1.weights Try.prog 24, n ≤ reachBytes) :
    ∃ C : CnfD, CnfR (init w) (.agg cs) C ∧ Fits C := let ⟨C, h1, h2, _⟩ := open_cnfB h hz; ⟨C, h1, h2⟩
/-- A slice of numbers as an argument. -/
theorem open_intsB {fuel : Nat} {v : Value} {x : DataW H × List MemPlace} (h : DataW.trod enc Try.prog w base spare held fuel 25 [v] = some x) :
    ∃ l : List Int, Sl (init w) v l.length 1 (l.map i64) ∧ l.length ≤ Rows.uptoBulk x.1 := by
  rcases ChangeShapes.open_ints Try.underlying25 Try.underlying3 (by kernel_rfl) h with ⟨hc, _⟩ | ⟨a, len, cap, zs, hc, _, hl, _, hzl, hx, hcell, _⟩
  · simp only [List.cons.injEq, and_true] at hc
    subst hc
    exact ⟨[], ⟨none, 0, rfl, rfl, fun h => by simp at h⟩, by simp⟩
  · simp only [List.cons.injEq, and_true] at hc
    subst hc hx
    have hlz : len ≤ zs.length := by rw [hzl]; split <;> omega
    have hlen : (zs.take len).length = len := by simp; omega
    refine ⟨zs.take len, ⟨some a, cap, by rw [hlen], by simp, fun h0 => ?_⟩, ?_⟩
    · rw [hlen] at h0
      obtain ⟨b, o, sp⟩ := a
      have hsp : sp = none := by
        have := hcell 0 (by omega)
        simpa [Addr.add] using World.cell?_spot this
      subst hsp
      refine ⟨b, o, rfl, fun j u hj => ?_⟩
      have hjl : j < len := by
        have := (List.getElem?_eq_some_iff.1 hj).1
        rw [List.length_map, hlen] at this; exact this
      apply Rd.init
      have := hcell j (by omega)
      rw [add_plain] at this
      rw [this, ← hj, List.getElem?_map, List.getElem?_take_of_lt hjl, List.getD_eq_getElem?_getD]
      have hj2 : j < zs.length := by omega
      simp [hj2]
    · have h1 := bulk_all (H := H) (lits .i64 (zs.take len))
      simp only [Rows.uptoBulk]
      have h2 : (lits (H := H) .i64 (zs.take len)).length = (zs.take len).length := by unfold lits; simp
      omega
end
end Go.Proofs.Ytjokibfldngkeaa
