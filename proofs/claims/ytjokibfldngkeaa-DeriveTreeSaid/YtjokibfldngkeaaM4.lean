/-
  QDt, part 4.
-/
import Derived.Test.YtjokibfldngkeaaM3
import Derived.Test.YtjokibfldngkeaaM2
import Derived.Test.YtjokibfldngkeaaO
import Derived.Test.YtjokibfldngkeaaM1
import Derived.Test.YtjokibfldngkeaaRows
import Derived.WalkKit
import Derived.ProofKit
import Derived.OpenShut
import Derived.ChangeOld
import Derived.SizedLaws
namespace Go.Proofs.Ytjokibfldngkeaa
open Go
section
variable {P : Program} {c : Cx} {A : Array Oper} {K : Kont} {L : Env} {H F : List HP} {os : List Oper}
/-- Steps of our own, from now on read alone. -/
theorem GO.ownSteps {el : TypeId} {v : Value} {l : List F3} (tk : Tk (own el 3 l.length v (f3sV l)) H F) (k : ∀ z, StepsR z v l → GO P c A os K L (z :: F)) : GO P c A os K L H := by
  refine GO.own_open tk (fun hv hn hx => ?_) (fun b cap rest' hv h1 h2 h3 h4 => ?_)
  · subst hv
    exact GO.imp (H' := Go.Proofs.Ytjokibfldngkeaa.pur True :: F) (fun _ _ s => sat_pur.2 ⟨trivial, s⟩) (k _ ⟨none, 0, by rw [hn], by omega, fun h => absurd h (by omega)⟩)
  · subst hv
    refine k _ ⟨_, _, rfl, h2, fun _ => ⟨b, 0, rfl, fun j u hj => ?_⟩⟩
    rw [Nat.zero_add]
    exact Rd.row (by rw [List.getElem?_append_left (List.getElem?_eq_some_iff.1 hj).1]; exact hj)
end
theorem leftN_all {l : List F3} {n : Nat} (h : n = l.length) (h0 : 0 < l.length) : leftN l n = 0 := by
  unfold leftN
  rw [if_neg (by omega), h]; simp
attribute [local irreducible] G GO GR GT Fn FnV pt init exs pur sat own ImpS f3sV symsV wordV natL
set_option maxRecDepth 40000 in
set_option maxHeartbeats 16000000 in
theorem dtree_law (q : HP) (v wv : Value) (C : CnfD) (nt : Int) (w : List Int) (hv : CnfR q v C) (hz : Fits C) (hw : WordR q wv w) :
    Fn Try.prog 6 #[v, i64 nt, wv] [q] (fun r Q => r = .bool true ∧ Q = [q]) := by
  obtain ⟨D, hD⟩ := der_ex C w
  have hcopy := copy_spec q v C hv hz
  have href := rdhas_spec q v C hv hz nt w wv hw D hD
  have heng := fun (z : HP) (c : Value) (hc : CnfR z c C) (hw' : WordR z wv w) => tree_spec z c C hc hz nt w wv hw'
  obtain ⟨pv, rfl, hp⟩ := hv
  have hleast := least_spec q C w pv wv hp hw
  have hleft := fun (z : HP) (hs : Sup q z) => left_spec z C w pv wv (hp.sup hs) (hw.sup hs)
  obtain ⟨ap, cp, rfl⟩ := hp.form
  obtain ⟨aw, cw, rfl⟩ := hw.form
  by_cases he : askE C nt w.length = 0
  · obtain ⟨hok, hwk, hn0, hn1, hl⟩ := askE_zero he
    rw [if_pos he] at href
    replace hleast := hleast hok hwk hz hl nt hn0 hn1
    replace hleft := fun (z : HP) (hs : Sup q z) => hleft z hs hok hwk hz hl
    refine Fn.mk2 Try.func6 rfl rfl fun w0 F => ?_
    (refine G.seq ?_; refine G.region ?_; refine GO.box rfl rfl rfl fun b3 => ?_; refine GO.assign rfl rfl ?_; refine GO.nil ?_; refine kthen_n ?_; refine G.seq ?_; refine G.region ?_; refine GO.loadW rfl rfl rfl Tk.h rfl ?_)
    refine GO.call1 rfl rfl (hcopy) (Tks.c (Tk.t Tk.h) Tks.n) ?_
    rintro c _ ⟨z, hz1, rfl⟩
    refine GO.merge (x := z) (y := q) (Tks.c Tk.h (Tks.c Tk.h Tks.n)) ?_
    have heng := heng (star [z, q]) c (hz1.sup (Sup.left z q)) (hw.sup (Sup.right z q))
    (refine GO.move rfl rfl ?_; refine GO.move rfl rfl ?_)
    refine GO.call3 rfl rfl rfl rfl (heng) (Tks.c Tk.h Tks.n) ?_
    rintro _ _ ⟨u, l, e, rfl, hR, rfl⟩
    refine GO.take (q := star [z, q]) (Tk.t Tk.h) ?_
    refine GO.unmerge ?_
    refine GO.ownSteps (Tk.t (Tk.t Tk.h)) fun y hy => ?_
    obtain ⟨al, cl, rfl, hcl⟩ := hy.form
    obtain ⟨_, hR2⟩ := hR
    obtain ⟨hRn, hRy⟩ := hR2 he
    (refine GO.move rfl rfl ?_; refine GO.extract rfl rfl rfl ?_; refine GO.extract rfl rfl rfl ?_; refine GO.assign rfl rfl ?_; refine GO.assign rfl rfl ?_; refine GO.nil ?_; refine kthen_n ?_; refine G.seq ?_; refine G.region ?_; refine GO.loadW rfl rfl rfl (Tk.t (Tk.t (Tk.t Tk.h))) rfl ?_; refine GO.move rfl rfl ?_; refine GO.move rfl rfl ?_)
    refine GO.call3 rfl rfl rfl rfl (href) (Tks.c (Tk.t (Tk.t Tk.h)) Tks.n) ?_
    rintro _ _ ⟨rfl, rfl⟩
    (refine GO.move rfl rfl ?_; refine GO.extract rfl rfl rfl ?_; refine GO.extract rfl rfl rfl ?_; refine GO.assign rfl rfl ?_; refine GO.assign rfl rfl ?_; refine GO.nil ?_; refine kthen_n ?_; refine G.seq ?_; refine G.seq ?_; refine G.region ?_)
    refine GO.call0 rfl (dhead_spec) Tks.n ?_
    rintro _ _ ⟨rfl, rfl⟩
    cases hDD : D nt 0 w.length with
    | false =>
      obtain ⟨rfl, rfl⟩ := hRn (fun h => by rw [(hD _ _ _).2 h] at hDD; cases hDD)
      (refine GO.not rfl rfl ?_; refine GO.nil ?_; refine kthen_n ?_; refine G.condF rfl rfl ?_; refine G.skip ?_; refine kthen_n ?_; refine G.seq ?_; refine G.seq ?_; refine G.region ?_; refine GO.move rfl rfl ?_; refine GO.neF rfl rfl rfl rfl ?_; refine GO.nil ?_; refine kthen_n ?_; refine G.condF rfl rfl ?_; refine G.skip ?_; refine kthen_n ?_; refine G.seq ?_; refine G.seq ?_; refine G.region ?_; refine GO.move rfl rfl ?_; refine GO.not rfl rfl ?_; refine GO.nil ?_; refine kthen_n ?_; refine G.condT rfl rfl ?_; refine G.seq ?_; refine G.region ?_; refine GO.move rfl rfl ?_; refine GO.eqT rfl rfl rfl rfl ?_; refine GO.move rfl rfl ?_; refine GO.gT rfl rfl rfl ?_; refine GO.move rfl rfl ?_; refine GO.gT rfl rfl rfl ?_; refine GO.lenS rfl rfl ?_; refine GO.gT rfl rfl rfl ?_; refine GO.eqT rfl rfl rfl rfl ?_; refine GO.pickT rfl rfl rfl ?_; refine GO.assign rfl rfl ?_; refine GO.nil ?_; refine kthen_n ?_; refine G.ret ?_; refine kthen_r ?_)
      refine KF2.r1 rfl (RV.t rfl) ⟨rfl, rfl⟩ (ImpS.sb ?_)
      ((refine Sb.c Tk.h ?_); (refine Sb.s ?_; refine Sb.s ?_; refine Sb.s ?_; exact Sb.r))
    | true =>
      obtain ⟨V, hC, hS, hV0, hV1⟩ := hRy ((hD _ _ _).1 hDD)
      (refine GO.not rfl rfl ?_; refine GO.nil ?_; refine kthen_n ?_; refine G.condF rfl rfl ?_; refine G.skip ?_; refine kthen_n ?_; refine G.seq ?_; refine G.seq ?_; refine G.region ?_; refine GO.move rfl rfl ?_; refine GO.neF rfl rfl rfl rfl ?_; refine GO.nil ?_; refine kthen_n ?_; refine G.condF rfl rfl ?_; refine G.skip ?_; refine kthen_n ?_; refine G.seq ?_; refine G.seq ?_; refine G.region ?_; refine GO.move rfl rfl ?_; refine GO.not rfl rfl ?_; refine GO.nil ?_; refine kthen_n ?_; refine G.condF rfl rfl ?_; refine G.skip ?_; refine kthen_n ?_; refine G.seq ?_; refine G.region ?_; refine GO.loadW rfl rfl rfl (Tk.t (Tk.t (Tk.t Tk.h))) rfl ?_; refine GO.move rfl rfl ?_; refine GO.move rfl rfl ?_)
      refine GO.call3 rfl rfl rfl rfl (hleast) (Tks.c Tk.h Tks.n) ?_
      rintro _ _ ⟨V', hC', hS', rfl, rfl⟩
      rw [← fewest_uniq hC hS hC' hS' nt 0 w.length]
      by_cases h0 : V nt 0 w.length = 0
      · obtain ⟨rfl, rfl⟩ := hV0 h0
        rw [h0]
        (refine GO.assign rfl rfl ?_; refine GO.nil ?_; refine kthen_n ?_; refine G.seq ?_; refine G.seq ?_; refine G.region ?_; refine GO.move rfl rfl ?_; refine GO.eqT rfl rfl rfl rfl ?_; refine GO.nil ?_; refine kthen_n ?_; refine G.condT rfl rfl ?_; refine G.seq ?_; refine G.region ?_; refine GO.move rfl rfl ?_; refine GO.eqT rfl rfl rfl rfl ?_; refine GO.move rfl rfl ?_; refine GO.gT rfl rfl rfl ?_; refine GO.move rfl rfl ?_; refine GO.gT rfl rfl rfl ?_; refine GO.lenS rfl rfl ?_; refine GO.gT rfl rfl rfl ?_; refine GO.eqT rfl rfl rfl rfl ?_; refine GO.pickT rfl rfl rfl ?_; refine GO.assign rfl rfl ?_; refine GO.nil ?_; refine kthen_n ?_; refine G.ret ?_; refine kthen_r ?_)
        refine KF2.r1 rfl (RV.t rfl) ⟨rfl, rfl⟩ (ImpS.sb ?_)
        ((refine Sb.c Tk.h ?_); (refine Sb.s ?_; refine Sb.s ?_; refine Sb.s ?_; exact Sb.r))
      · obtain ⟨rfl, hds, hlen⟩ := hV1 (by omega)
        have h4 := (hC nt 0 w.length (by omega)).1
        have d0 : decide (((V nt 0 w.length : Nat) : Int) = 0) = false := decide_eq_false (by omega)
        have hcall := hleft (star [y, q]) (Sup.right y q) l.length l _ (Nat.le_refl _) (by omega) (hy.sup (Sup.left y q)) nt 0 w.length (Nat.zero_le _) (Nat.le_refl _)
        rw [show i64 ((0 : Nat) : Int) = i64 0 from rfl] at hcall
        rw [← hlen] at d0 ⊢
        have d1 : decide (((l.length : Nat) : Int) = ((l.length : Nat) : Int)) = true := decide_eq_true rfl
        refine GO.merge (x := y) (y := q) (Tks.c (Tk.t Tk.h) (Tks.c Tk.h Tks.n)) ?_
        (refine GO.assign rfl rfl ?_; refine GO.nil ?_; refine kthen_n ?_; refine G.seq ?_; refine G.seq ?_; refine G.region ?_; refine GO.move rfl rfl ?_; refine GO.eqi rfl rfl rfl ?_; refine GO.nil ?_; refine kthen_n ?_; refine G.condF rfl (by assumption) ?_; refine G.skip ?_; refine kthen_n ?_; refine G.seq ?_; refine G.region ?_; refine GO.move rfl rfl ?_; refine GO.eqT rfl rfl rfl rfl ?_; refine GO.move rfl rfl ?_; refine GO.gT rfl rfl rfl ?_; refine GO.move rfl rfl ?_; refine GO.gT rfl rfl rfl ?_; refine GO.lenS rfl rfl ?_; refine GO.gT rfl rfl rfl ?_; refine GO.move rfl rfl ?_; refine GO.gT rfl rfl rfl ?_; refine GO.eqT rfl rfl rfl rfl ?_; refine GO.pickT rfl rfl rfl ?_; refine GO.move rfl rfl ?_; refine GO.gT rfl rfl rfl ?_; refine GO.loadW rfl rfl rfl (Tk.t (Tk.t Tk.h)) rfl ?_; refine GO.gT rfl rfl rfl ?_; refine GO.move rfl rfl ?_; refine GO.gT rfl rfl rfl ?_; refine GO.move rfl rfl ?_; refine GO.gT rfl rfl rfl ?_; refine GO.move rfl rfl ?_; refine GO.gT rfl rfl rfl ?_; refine GO.move rfl rfl ?_; refine GO.gT rfl rfl rfl ?_; refine GO.lenS rfl rfl ?_; refine GO.gT rfl rfl rfl ?_)
        refine GO.call6 rfl rfl rfl rfl rfl rfl rfl (hcall) (Tks.c Tk.h Tks.n) ?_
        rintro _ _ ⟨n, rfl, hRR, rfl⟩
        have hall := hRR.all.2 hds
        rw [leftN_all hall.2 hall.1]
        refine GO.unmerge ?_
        (refine GO.gT rfl rfl rfl ?_; refine GO.eqT rfl rfl rfl rfl ?_; refine GO.pickT rfl rfl rfl ?_; refine GO.assign rfl rfl ?_; refine GO.nil ?_; refine kthen_n ?_; refine G.ret ?_)
        refine KF2.r1 rfl (RV.t rfl) ⟨rfl, rfl⟩ (ImpS.sb ?_)
        ((refine Sb.c (Tk.t Tk.h) ?_); (refine Sb.s ?_; refine Sb.s ?_; refine Sb.s ?_; exact Sb.r))
  · have de : decide (askE C nt w.length = askE C nt w.length) = true := decide_eq_true rfl
    have dn : decide (askE C nt w.length ≠ 0) = true := decide_eq_true he
    rw [if_neg he] at href
    refine Fn.mk2 Try.func6 rfl rfl fun w0 F => ?_
    (refine G.seq ?_; refine G.region ?_; refine GO.box rfl rfl rfl fun b3 => ?_; refine GO.assign rfl rfl ?_; refine GO.nil ?_; refine kthen_n ?_; refine G.seq ?_; refine G.region ?_; refine GO.loadW rfl rfl rfl Tk.h rfl ?_)
    refine GO.call1 rfl rfl (hcopy) (Tks.c (Tk.t Tk.h) Tks.n) ?_
    rintro c _ ⟨z, hz1, rfl⟩
    refine GO.merge (x := z) (y := q) (Tks.c Tk.h (Tks.c Tk.h Tks.n)) ?_
    have heng := heng (star [z, q]) c (hz1.sup (Sup.left z q)) (hw.sup (Sup.right z q))
    (refine GO.move rfl rfl ?_; refine GO.move rfl rfl ?_)
    refine GO.call3 rfl rfl rfl rfl (heng) (Tks.c Tk.h Tks.n) ?_
    rintro _ _ ⟨u, l, e, rfl, hR, rfl⟩
    obtain ⟨rfl, rfl⟩ := hR.1 he
    generalize askE C nt w.length = e at *
    refine GO.ownSteps Tk.h fun y hy => ?_
    obtain ⟨al, cl, rfl, hcl⟩ := hy.form
    refine GO.take (q := star [z, q]) (Tk.t Tk.h) ?_
    refine GO.unmerge ?_
    (refine GO.move rfl rfl ?_; refine GO.extract rfl rfl rfl ?_; refine GO.extract rfl rfl rfl ?_; refine GO.assign rfl rfl ?_; refine GO.assign rfl rfl ?_; refine GO.nil ?_; refine kthen_n ?_; refine G.seq ?_; refine G.region ?_; refine GO.loadW rfl rfl rfl (Tk.t (Tk.t (Tk.t Tk.h))) rfl ?_; refine GO.move rfl rfl ?_; refine GO.move rfl rfl ?_)
    refine GO.call3 rfl rfl rfl rfl (href) (Tks.c (Tk.t Tk.h) Tks.n) ?_
    rintro _ _ ⟨rfl, rfl⟩
    (refine GO.move rfl rfl ?_; refine GO.extract rfl rfl rfl ?_; refine GO.extract rfl rfl rfl ?_; refine GO.assign rfl rfl ?_; refine GO.assign rfl rfl ?_; refine GO.nil ?_; refine kthen_n ?_; refine G.seq ?_; refine G.seq ?_; refine G.region ?_)
    refine GO.call0 rfl (dhead_spec) Tks.n ?_
    rintro _ _ ⟨rfl, rfl⟩
    (refine GO.not rfl rfl ?_; refine GO.nil ?_; refine kthen_n ?_; refine G.condF rfl rfl ?_; refine G.skip ?_; refine kthen_n ?_; refine G.seq ?_; refine G.seq ?_; refine G.region ?_; refine GO.move rfl rfl ?_; refine GO.nei rfl rfl rfl ?_; refine GO.nil ?_; refine kthen_n ?_; refine G.condT rfl (by assumption) ?_; refine G.seq ?_; refine G.region ?_; refine GO.move rfl rfl ?_; refine GO.move rfl rfl ?_; refine GO.eqT rfl rfl rfl rfl ?_; refine GO.move rfl rfl ?_; refine GO.gT rfl rfl rfl ?_; refine GO.move rfl rfl ?_; refine GO.gT rfl rfl rfl ?_; refine GO.lenS rfl rfl ?_; refine GO.gT rfl rfl rfl ?_; refine GO.eqT rfl rfl rfl rfl ?_; refine GO.pickT rfl rfl rfl ?_; refine GO.assign rfl rfl ?_; refine GO.nil ?_; refine kthen_n ?_; refine G.ret ?_; refine kthen_r ?_)
    refine KF2.r1 rfl (RV.t rfl) ⟨rfl, rfl⟩ (ImpS.sb ?_)
    ((refine Sb.c Tk.h ?_); (refine Sb.s ?_; refine Sb.s ?_; refine Sb.s ?_; exact Sb.r))
end Go.Proofs.Ytjokibfldngkeaa
namespace Go.Proofs.Ytjokibfldngkeaa
open Go Go.ChangeShapes Go.WideShapes Go.ChangeAt Go.RowKit Go.Deep

theorem ownGo : ownKnob Try.prog.godebug = none := by kernel_rfl
theorem laidOut : laidOutB Try.prog = true := by kernel_rfl
/-- A contract over all of the memory that was there, as the row wants it. -/
theorem Fn.calls {P : Program} {f : FuncId} {args : Array Value} {w : World} (h : Fn P f args [init w] (fun v Q => v = .bool true ∧ Q = [init w])) :
    Calls P f args w fun e w' => e = .returned (.bool true) ∧ Below w.heap.size w w' := by
  refine (callsIn_wide (n := 0)).1 ((h [] w (sat_init w)).mono ?_)
  rintro e w' ⟨v, Q, rfl, hs, ⟨rfl, rfl⟩, hq⟩
  exact ⟨rfl, init_below hs hq⟩
theorem two_of {α : Type} {l : List α} (h : l.length = 2) : ∃ x y, l = [x, y] := by
  cases l with
  | nil => cases h
  | cons x l => cases l with
    | nil => cases h
    | cons y l => cases l with
      | nil => exact ⟨x, y, rfl⟩
      | cons z l => simp at h
def two {α : Type} (enc : α → Value × Value) (xs : List α) : List Value := xs.flatMap fun x => [(enc x).1, (enc x).2]
theorem two_len {α : Type} (enc : α → Value × Value) (xs : List α) : (two enc xs).length = xs.length * 2 := by
  induction xs with
  | nil => rfl
  | cons s ss ih => simp only [two, List.flatMap_cons, List.length_append, List.length_cons, List.length_nil] at ih ⊢; omega
theorem two_get {α : Type} (enc : α → Value × Value) : ∀ {ss : List α} {k : Nat} {s : α}, ss[k]? = some s → (two enc ss)[k * 2]? = some (enc s).1 ∧ (two enc ss)[k * 2 + 1]? = some (enc s).2
  | [], _, _, h => by simp at h
  | t :: ss, 0, s, h => by simp at h; subst h; simp [two]
  | t :: ss, k + 1, s, h => by
    have := two_get enc (ss := ss) (k := k) (by simpa using h)
    have e : two enc (t :: ss) = (enc t).1 :: (enc t).2 :: two enc ss := rfl
    rw [e, show (k + 1) * 2 = k * 2 + 2 by omega]
    simpa using this
theorem sl_of {α : Type} (enc : α → Value × Value) (R : Nat → α → Prop) {w : World} {a : Addr} {len cap : Nat}
    (h : ∀ i, i < len → ∃ x, w.cell? (a.add (i * 2)) = some (enc x).1 ∧ w.cell? (a.add (i * 2 + 1)) = some (enc x).2 ∧ R i x) :
    ∃ xs : List α, xs.length = len ∧ Sl (init w) (.slice (some a) len cap) len 2 (two enc xs) ∧ ∀ i x, xs[i]? = some x → R i x := by
  by_cases hl : len = 0
  · subst hl
    exact ⟨[], rfl, ⟨some a, cap, rfl, rfl, fun h => by omega⟩, fun i x hx => by simp at hx⟩
  · obtain ⟨x0, hx0⟩ := h 0 (by omega)
    obtain ⟨f, hf⟩ := Classical.axiomOfChoice (r := fun (i : Nat) (x : α) => i < len → w.cell? (a.add (i * 2)) = some (enc x).1 ∧ w.cell? (a.add (i * 2 + 1)) = some (enc x).2 ∧ R i x) (fun i => by
      by_cases hi : i < len
      · obtain ⟨x, hx⟩ := h i hi
        exact ⟨x, fun _ => hx⟩
      · exact ⟨x0, fun h => absurd h hi⟩)
    have hlen : ((List.range len).map f).length = len := by simp
    refine ⟨(List.range len).map f, hlen, ⟨some a, cap, rfl, by rw [two_len, hlen], fun _ => ?_⟩, fun i x hx => ?_⟩
    · obtain ⟨b, o, sp⟩ := a
      have hsp : sp = none := by
        have := hx0.1
        simpa [Addr.add] using World.cell?_spot this
      subst hsp
      refine ⟨b, o, rfl, fun j u hj => ?_⟩
      have hjl : j < len * 2 := by
        have := (List.getElem?_eq_some_iff.1 hj).1
        rw [two_len, hlen] at this; exact this
      have hk : ((List.range len).map f)[j / 2]? = some (f (j / 2)) := by
        rw [List.getElem?_map, List.getElem?_range (by omega)]; rfl
      obtain ⟨h1, h2⟩ := two_get enc hk
      obtain ⟨c1, c2, _⟩ := hf (j / 2) (by omega)
      apply Rd.init
      rcases Nat.mod_two_eq_zero_or_one j with hm | hm
      · have e : j / 2 * 2 = j := by omega
        rw [e] at h1 c1
        rw [h1] at hj
        rw [add_plain] at c1
        rw [c1]; exact hj
      · have e : j / 2 * 2 + 1 = j := by omega
        rw [e] at h2 c2
        rw [h2] at hj
        rw [add_plain] at c2
        rw [c2]; exact hj
    · have hi : i < len := by
        have := (List.getElem?_eq_some_iff.1 hx).1
        rw [hlen] at this; exact this
      rw [List.getElem?_map, List.getElem?_range hi] at hx
      simp only [Option.map_some, Option.some.injEq] at hx
      subst hx
      exact (hf i hi).2.2
theorem bulk_one {H : Type} (d : DataW H) : 1 ≤ Rows.uptoBulk d := by
  cases d with
  | lit l => cases l <;> simp [Rows.uptoBulk]
  | _ => simp [Rows.uptoBulk]
theorem bulk_all {H : Type} (l : List (DataW H)) : l.length ≤ Rows.uptoBulkAll l := by
  induction l with
  | nil => simp [Rows.uptoBulkAll]
  | cons x r ih => have := bulk_one x; simp only [Rows.uptoBulkAll, List.length_cons]; omega
theorem bulk_part {H : Type} {d : DataW H} {l : List (DataW H)} (h : d ∈ l) : Rows.uptoBulk d ≤ Rows.uptoBulkAll l := by
  induction l with
  | nil => cases h
  | cons x r ih =>
    simp only [Rows.uptoBulkAll]
    rcases List.mem_cons.1 h with rfl | e
    · omega
    · have := ih e; omega
/-- A sum, item by item, against the bulk of what was read. -/
theorem bulk_sum {H α : Type} {f : α → Nat} : ∀ {xs : List α} {l : List (DataW H)}, xs.length = l.length → (∀ (i : Nat) (x : α) (d : DataW H), xs[i]? = some x → l[i]? = some d → f x ≤ Rows.uptoBulk d) → (xs.map f).sum ≤ Rows.uptoBulkAll l
  | [], [], _, _ => by simp [Rows.uptoBulkAll]
  | x :: xs, d :: l, h, k => by
    have h1 := k 0 x d rfl rfl
    have h2 := bulk_sum (f := f) (xs := xs) (l := l) (by simpa using h) (fun i x d h1 h2 => k (i + 1) x d (by simpa using h1) (by simpa using h2))
    simp only [List.map_cons, List.sum_cons, Rows.uptoBulkAll]
    omega
  | [], _ :: _, h, _ => by simp at h
  | _ :: _, [], h, _ => by simp at h
theorem weightsAll_mem {H : Type} {P : Program} {e : TypeId} : ∀ {ds : List (DataW H)} {d : DataW H}, d ∈ ds → ∀ n ∈ d.weights P e, n ∈ DataW.weightsAll P e ds
  | [], _, h, _, _ => by simp at h
  | d0 :: r, d, h, n, hn => by
    simp only [DataW.weightsAll, List.mem_append]
    rcases List.mem_cons.1 h with rfl | h
    · exact .inl hn
    · exact .inr (weightsAll_mem h n hn)
section
variable {H : Type} {enc : TypeId × Value → H} {w : World} {base : Nat} {spare : Nat → Bool} {held : Bool}
theorem open_syms {fuel : Nat} {v : Value} {x : DataW H × List MemPlace} (h : DataW.trod enc Try.prog w base spare held fuel 50 [v] = some x) (hz : ∀ n ∈ x.1.weights Try.prog 50, n ≤ reachBytes) :
    ∃ ss : List SymD, SymsR (init w) v ss ∧ ss.length * 16 ≤ 140737488355328 ∧ ss.length + 1 ≤ Rows.uptoBulk x.1 := by
  have hb : Try.prog.bytesOf 54 = 16 := by kernel_rfl
  have hr := reachBytes_lt
  rcases open_slice_fields Try.underlying50 Try.underlying54 (by kernel_rfl) (by kernel_rfl) h with ⟨hc, _⟩ | ⟨a, len, cap, m, D, Pl, hc, _, hl, hm, hmm, hx, hi⟩
  · simp only [List.cons.injEq, and_true] at hc
    subst hc
    exact ⟨[], ⟨none, 0, rfl, rfl, fun h => by simp at h⟩, by simp, bulk_one _⟩
  · simp only [List.cons.injEq, and_true] at hc
    subst hc
    have hlm : len ≤ m := by rw [hmm]; split <;> omega
    obtain ⟨ss, hlen, hs, _⟩ := sl_of (cap := cap) (fun s : SymD => (.bool s.1, i64 s.2)) (fun _ _ => True) (w := w) (a := a) (len := len) (fun i hil => by
      obtain ⟨ys, n, _, _, _, hf⟩ := hi i (by omega)
      obtain ⟨u0, y0, a0, _, t0⟩ := hf 0 _ rfl
      obtain ⟨u1, y1, a1, _, t1⟩ := hf 1 _ rfl
      obtain ⟨b, hb', _⟩ := DataW.trod_bool Try.underlying4 t0
      obtain ⟨k, hk, _⟩ := DataW.trod_int Try.underlying3 t1
      simp only [List.cons.injEq, and_true] at hb' hk
      subst hb' hk
      exact ⟨(b, k), a0, a1, trivial⟩)
    subst hx
    refine ⟨ss, by rw [← hlen] at hs ⊢; exact hs, ?_, by have := bulk_all ((List.range len).map D); simp only [Rows.uptoBulk]; simp at this; omega⟩
    have := hz (((List.range len).map D).length + ((List.range (m - len)).map fun j => D (len + j)).length |> (· * Try.prog.bytesOf 54)) (by simp [DataW.weights, Try.underlying50])
    rw [hb] at this
    simp at this
    omega
theorem open_prods {fuel : Nat} {v : Value} {x : DataW H × List MemPlace} (h : DataW.trod enc Try.prog w base spare held fuel 22 [v] = some x) (hz : ∀ n ∈ x.1.weights Try.prog 22, n ≤ reachBytes) :
    ∃ ps : List ProdD, PrsR (init w) v ps ∧ ps.length * 32 ≤ 140737488355328 ∧ (∀ p ∈ ps, p.2.length * 16 ≤ 140737488355328) ∧ (ps.map fun p => p.2.length + 1).sum ≤ Rows.uptoBulk x.1 := by
  have hb : Try.prog.bytesOf 52 = 32 := by kernel_rfl
  have hr := reachBytes_lt
  rcases open_slice_fields Try.underlying22 Try.underlying52 (by kernel_rfl) (by kernel_rfl) h with ⟨hc, _⟩ | ⟨a, len, cap, m, D, Pl, hc, _, hl, hm, hmm, hx, hi⟩
  · simp only [List.cons.injEq, and_true] at hc
    subst hc
    exact ⟨[], ⟨[], ⟨none, 0, rfl, rfl, fun h => by simp at h⟩, fun k p hk => by simp at hk⟩, by simp, fun p hp => by simp at hp, by simp⟩
  · simp only [List.cons.injEq, and_true] at hc
    subst hc
    have hlm : len ≤ m := by rw [hmm]; split <;> omega
    subst hx
    obtain ⟨xs, hlen, hs, hxs⟩ := sl_of (cap := cap) (fun y : ProdD × Value => (i64 y.1.1, y.2)) (fun i y => SymsR (init w) y.2 y.1.2 ∧ y.1.2.length * 16 ≤ 140737488355328 ∧ y.1.2.length + 1 ≤ Rows.uptoBulk (D i)) (w := w) (a := a) (len := len) (fun i hil => by
      obtain ⟨ys, n, hD, _, hyl, hf⟩ := hi i (by omega)
      obtain ⟨u0, y0, a0, _, t0⟩ := hf 0 _ rfl
      obtain ⟨u1, y1, a1, g1, t1⟩ := hf 1 _ rfl
      obtain ⟨k, hk, _⟩ := DataW.trod_int Try.underlying3 t0
      simp only [List.cons.injEq, and_true] at hk
      subst hk
      obtain ⟨ss, hss, hsz, hbk⟩ := open_syms t1 (fun n hn => hz n (by
        have h1 : n ∈ (D i).weights Try.prog 52 := by
          rw [hD]
          simp only [DataW.weights, Try.underlying52]
          exact DataW.weights_mem_each (j := 1) rfl (by rw [List.getElem?_map, g1]; rfl) n hn
        have h2 : n ∈ DataW.weightsAll Try.prog 52 ((List.range len).map D) := weightsAll_mem (List.mem_map.2 ⟨i, by simpa using hil, rfl⟩) n h1
        simp only [DataW.weights, Try.underlying22]
        exact List.mem_cons_of_mem _ (List.mem_append.2 (.inl h2))))
      exact ⟨((k, ss), u1), a0, a1, hss, hsz, by
        rw [hD]
        simp only [Rows.uptoBulk]
        have := bulk_part (l := ys.map (·.1)) (d := y1.1) (List.mem_map.2 ⟨y1, List.mem_of_getElem? g1, rfl⟩)
        omega⟩)
    refine ⟨xs.map (·.1), ⟨two (fun y : ProdD × Value => (i64 y.1.1, y.2)) xs, by rw [List.length_map, hlen]; exact hs, fun k p hk => ?_⟩, ?_, fun p hp => ?_, ?_⟩
    · rw [List.getElem?_map] at hk
      obtain ⟨y, hy, rfl⟩ := Option.map_eq_some_iff.1 hk
      obtain ⟨h1, h2⟩ := two_get (fun y : ProdD × Value => (i64 y.1.1, y.2)) hy
      exact ⟨y.2, h1, h2, (hxs k y hy).1⟩
    · have := hz (((List.range len).map D).length + ((List.range (m - len)).map fun j => D (len + j)).length |> (· * Try.prog.bytesOf 52)) (by simp [DataW.weights, Try.underlying22])
      rw [hb] at this
      simp at this
      rw [List.length_map, hlen]
      omega
    · obtain ⟨y, hy, rfl⟩ := List.mem_map.1 hp
      obtain ⟨i, hi⟩ := List.getElem?_of_mem hy
      exact (hxs i y hi).2.1
    · have e : (xs.map (·.1)).map (fun p : ProdD => p.2.length + 1) = xs.map fun y => y.1.2.length + 1 := by rw [List.map_map]; rfl
      rw [e]
      have := bulk_sum (f := fun y : ProdD × Value => y.1.2.length + 1) (xs := xs) (l := (List.range len).map D) (by simp [hlen]) (fun i y d h1 h2 => by
        have hi : i < len := by
          have := (List.getElem?_eq_some_iff.1 h1).1
          rw [hlen] at this; exact this
        rw [List.getElem?_map, List.getElem?_range hi] at h2
        simp only [Option.map_some, Option.some.injEq] at h2
        subst h2
        exact (hxs i y h1).2.2)
      simp only [Rows.uptoBulk]
      omega
theorem open_cnfB {fuel : Nat} {cs : Array Value} {x : DataW H × List MemPlace} (h : DataW.trod enc Try.prog w base spare held fuel 24 (Value.agg cs).cells.toList = some x) (hz : ∀ n ∈ x.1.weights Try.prog 24, n ≤ reachBytes) :
    ∃ C : CnfD, CnfR (init w) (.agg cs) C ∧ Fits C ∧ (C.prods.map fun p => p.2.length + 1).sum ≤ Rows.uptoBulk x.1 := by
  have hC : Try.prog.cellsOf 24 = 2 := by kernel_rfl
  have hC3 : Try.prog.cellsOf 3 = 1 := by kernel_rfl
  have hCp : Try.prog.cellsOf 22 = 1 := by kernel_rfl
  obtain ⟨ys, n, _, rfl, hl, hyl, hf⟩ := DataW.trod_struct Try.underlying24 h
  have hcs : (Value.agg cs).cells = cs := rfl
  rw [hcs] at hl hf
  rw [hC] at hl
  obtain ⟨c0, c1, e⟩ := two_of hl
  obtain rfl : cs = [c0, c1].toArray := by rw [← e]
  have f0 := hf 0 { name := "Nts", type := 3, offset := 0, embedded := false, tag := "", pkgPath := "", byteOffset := 0 } rfl
  have f1 := hf 1 { name := "Prods", type := 22, offset := 1, embedded := false, tag := "", pkgPath := "", byteOffset := 8 } rfl
  dsimp only at f0 f1
  rw [hC3] at f0
  rw [hCp] at f1
  have y0 : ∃ y, ys[0]? = some y := ⟨ys[0]'(by rw [hyl]; decide), List.getElem?_eq_getElem _⟩
  have y1 : ∃ y, ys[1]? = some y := ⟨ys[1]'(by rw [hyl]; decide), List.getElem?_eq_getElem _⟩
  obtain ⟨y0, g0⟩ := y0
  obtain ⟨y1, g1⟩ := y1
  rw [g0] at f0
  rw [g1] at f1
  obtain ⟨k, hk, _⟩ := DataW.trod_int Try.underlying3 f0
  have hk : c0 = i64 k := by simpa using hk
  subst hk
  obtain ⟨ps, h1, h2, h3, h4⟩ := open_prods f1 (fun n hn => hz n (by
    simp only [DataW.weights, Try.underlying24]
    exact DataW.weights_mem_each (j := 1) rfl (by rw [List.getElem?_map, g1]; rfl) n hn))
  refine ⟨⟨k, ps⟩, ⟨c1, rfl, h1⟩, ⟨h2, h3⟩, ?_⟩
  have := bulk_part (l := ys.map (·.1)) (d := y1.1) (List.mem_map.2 ⟨y1, List.mem_of_getElem? g1, rfl⟩)
  simp only [Rows.uptoBulk]
  omega
theorem open_cnf {fuel : Nat} {cs : Array Value} {x : DataW H × List MemPlace} (h : DataW.trod enc Try.prog w base spare held fuel 24 (Value.agg cs).cells.toList = some x) (hz : ∀ n ∈ x.1.weights Try.prog 24, n ≤ reachBytes) :
    ∃ C : CnfD, CnfR (init w) (.agg cs) C ∧ Fits C := let ⟨C, h1, h2, _⟩ := open_cnfB h hz; ⟨C, h1, h2⟩
/-- A slice of numbers as an argument. -/
theorem open_intsB {fuel : Nat} {v : Value} {x : DataW H × List MemPlace} (h : DataW.trod enc Try.prog w base spare held fuel 25 [v] = some x) :
    ∃ l : List Int, Sl (init w) v l.length 1 (l.map i64) ∧ l.length ≤ Rows.uptoBulk x.1 := by
  rcases ChangeShapes.open_ints Try.underlying25 Try.underlying3 (by kernel_rfl) h with ⟨hc, _⟩ | ⟨a, len, cap, zs, hc, _, hl, _, hzl, hx, hcell, _⟩
  · simp only [List.cons.injEq, and_true] at hc
    subst hc
    exact ⟨[], ⟨none, 0, rfl, rfl, fun h => by simp at h⟩, by simp⟩
  · simp only [List.cons.injEq, and_true] at hc
    subst hc hx
    have hlz : len ≤ zs.length := by rw [hzl]; split <;> omega
    have hlen : (zs.take len).length = len := by simp; omega
    refine ⟨zs.take len, ⟨some a, cap, by rw [hlen], by simp, fun h0 => ?_⟩, ?_⟩
    · rw [hlen] at h0
      obtain ⟨b, o, sp⟩ := a
      have hsp : sp = none := by
        have := hcell 0 (by omega)
        simpa [Addr.add] using World.cell?_spot this
      subst hsp
      refine ⟨b, o, rfl, fun j u hj => ?_⟩
      have hjl : j < len := by
        have := (List.getElem?_eq_some_iff.1 hj).1
        rw [List.length_map, hlen] at this; exact this
      apply Rd.init
      have := hcell j (by omega)
      rw [add_plain] at this
      rw [this, ← hj, List.getElem?_map, List.getElem?_take_of_lt hjl, List.getD_eq_getElem?_getD]
      have hj2 : j < zs.length := by omega
      simp [hj2]
    · have h1 := bulk_all (H := H) (lits .i64 (zs.take len))
      simp only [Rows.uptoBulk]
      have h2 : (lits (H := H) .i64 (zs.take len)).length = (zs.take len).length := by unfold lits; simp
      omega
end
end Go.Proofs.Ytjokibfldngkeaa
