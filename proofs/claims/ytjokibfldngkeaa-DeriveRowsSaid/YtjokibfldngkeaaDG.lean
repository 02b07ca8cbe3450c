/-
  May a question be asked? wcnf.Is, asked.
-/
import Derived.Test.YtjokibfldngkeaaDF
import Derived.Test.YtjokibfldngkeaaLE
namespace Go.Proofs.Ytjokibfldngkeaa
open Go
/-- A body's kind. -/
def formB : List SymD → Int
  | [] => 1
  | [s] => if s.1 then 2 else 0
  | [s, t] => if s.1 then 0 else if t.1 then 0 else 3
  | _ => 0
def weakB (ss : List SymD) : Bool := !decide (formB ss = 0)
def weakC (C : CnfD) : Bool := okC C && C.prods.all fun p => weakB p.2
def askE (C : CnfD) (nt : Int) (n : Nat) : Int := if okC C then if weakC C then if nt < 0 then 2 else if C.nts ≤ nt then 2 else if 64 < n then 3 else 0 else 250 else 220
theorem weakB_len {ss : List SymD} (h : weakB ss = true) : ss.length ≤ 2 := by
  match ss, h with
  | [], _ => simp
  | [s], _ => simp
  | [s, t], _ => simp
  | s :: t :: u :: more, h => cases h
theorem askE_zero {C : CnfD} {nt : Int} {n : Nat} (h : askE C nt n = 0) : okC C = true ∧ weakC C = true ∧ 0 ≤ nt ∧ nt < C.nts ∧ ¬ 64 < n := by
  unfold askE at h
  split at h
  · split at h
    · split at h
      · cases h
      · split at h
        · cases h
        · split at h
          · cases h
          · exact ⟨by assumption, by assumption, by omega, by omega, by assumption⟩
    · cases h
  · cases h
attribute [local irreducible] G GO GR GT Fn FnV pt init exs pur sat own ImpS f3sV numF mapO addF wordV symsV
set_option maxHeartbeats 4000000 in
theorem of_spec (q : HP) (v : Value) (ss : List SymD) (hv : SymsR q v ss) (hn : ¬ 140737488355328 < ss.length) : Fn Try.prog 55 #[v] [q] (fun r Q => r = i64 (formB ss) ∧ Q = [q]) := by
  obtain ⟨a, cap, rfl⟩ := hv.form
  refine Fn.mk2 Try.func55 rfl rfl fun w0 F => ?_
  match ss, hv, hn with
  | [], hv, hn =>
    (refine G.seq ?_; refine G.region ?_; refine GO.assign rfl rfl ?_; refine GO.nil ?_; refine kthen_n ?_; refine G.seq ?_; refine G.seq ?_; refine G.region ?_; refine GO.move rfl rfl ?_; refine GO.lenS rfl rfl ?_; refine GO.nil ?_; refine kthen_n ?_; refine G.block ?_; refine G.seq ?_; refine G.region ?_; refine GO.eqT rfl rfl rfl rfl ?_; refine GO.assign rfl rfl ?_; refine GO.nil ?_; refine kthen_n ?_; refine G.condT rfl rfl ?_; refine G.seq ?_; refine G.region ?_; refine GO.assign rfl rfl ?_; refine GO.nil ?_; refine kthen_n ?_; refine G.ret ?_; refine kblock_r ?_; refine kthen_r ?_)
    refine KF2.r1 rfl (RV.t rfl) ⟨rfl, rfl⟩ (ImpS.sb ?_)
    ((refine Sb.c Tk.h ?_); (exact Sb.r))
  | [s], hv, hn =>
    obtain ⟨b, o, rfl, _, r1, _⟩ := hv.at (k := 0) (s := s) rfl
    obtain ⟨s1, s2⟩ := s
    (refine G.seq ?_; refine G.region ?_; refine GO.assign rfl rfl ?_; refine GO.nil ?_; refine kthen_n ?_; refine G.seq ?_; refine G.seq ?_; refine G.region ?_; refine GO.move rfl rfl ?_; refine GO.lenS rfl rfl ?_; refine GO.nil ?_; refine kthen_n ?_; refine G.block ?_; refine G.seq ?_; refine G.region ?_; refine GO.eqi rfl rfl rfl ?_; refine GO.assign rfl rfl ?_; refine GO.nil ?_; refine kthen_n ?_; refine G.condF rfl rfl ?_; refine G.seq ?_; refine G.region ?_; refine GO.eqT rfl rfl rfl rfl ?_; refine GO.assign rfl rfl ?_; refine GO.nil ?_; refine kthen_n ?_; refine G.condT rfl rfl ?_; refine G.seq ?_; refine G.region ?_; refine GO.move rfl rfl ?_)
    refine GO.idxS (j := 0) rfl rfl rfl ⟨rfl, by simp⟩ ?_
    cases s1 with
    | true =>
      (refine GO.fieldAddr rfl rfl ?_; refine GO.loadQ rfl rfl rfl Tk.h (by assumption) ?_; refine GO.nil ?_; refine kthen_n ?_; refine G.condT rfl rfl ?_; refine G.seq ?_; refine G.region ?_; refine GO.assign rfl rfl ?_; refine GO.nil ?_; refine kthen_n ?_; refine G.ret ?_; refine kblock_r ?_; refine kthen_r ?_)
      refine KF2.r1 rfl (RV.t rfl) ⟨rfl, rfl⟩ (ImpS.sb ?_)
      ((refine Sb.c Tk.h ?_); (exact Sb.r))
    | false =>
      (refine GO.fieldAddr rfl rfl ?_; refine GO.loadQ rfl rfl rfl Tk.h (by assumption) ?_; refine GO.nil ?_; refine kthen_n ?_; refine G.condF rfl rfl ?_; refine G.skip ?_; refine kblock_n ?_; refine kthen_n ?_; refine G.seq ?_; refine G.region ?_; refine GO.assign rfl rfl ?_; refine GO.nil ?_; refine kthen_n ?_; refine G.ret ?_)
      refine KF2.r1 rfl (RV.t rfl) ⟨rfl, rfl⟩ (ImpS.sb ?_)
      ((refine Sb.c Tk.h ?_); (exact Sb.r))
  | [s, t], hv, hn =>
    obtain ⟨b, o, rfl, _, r1, _⟩ := hv.at (k := 0) (s := s) rfl
    obtain ⟨b', o', e, _, r2, _⟩ := hv.at (k := 1) (s := t) rfl
    injection e with e
    injection e with e1 e2
    subst e1 e2
    obtain ⟨s1, s2⟩ := s
    obtain ⟨t1, t2⟩ := t
    (refine G.seq ?_; refine G.region ?_; refine GO.assign rfl rfl ?_; refine GO.nil ?_; refine kthen_n ?_; refine G.seq ?_; refine G.seq ?_; refine G.region ?_; refine GO.move rfl rfl ?_; refine GO.lenS rfl rfl ?_; refine GO.nil ?_; refine kthen_n ?_; refine G.block ?_; refine G.seq ?_; refine G.region ?_; refine GO.eqi rfl rfl rfl ?_; refine GO.assign rfl rfl ?_; refine GO.nil ?_; refine kthen_n ?_; refine G.condF rfl rfl ?_; refine G.seq ?_; refine G.region ?_; refine GO.eqi rfl rfl rfl ?_; refine GO.assign rfl rfl ?_; refine GO.nil ?_; refine kthen_n ?_; refine G.condF rfl rfl ?_; refine G.seq ?_; refine G.region ?_; refine GO.eqT rfl rfl rfl rfl ?_; refine GO.assign rfl rfl ?_; refine GO.nil ?_; refine kthen_n ?_; refine G.condT rfl rfl ?_; refine G.seq ?_; refine G.region ?_; refine GO.move rfl rfl ?_)
    refine GO.idxS (j := 0) rfl rfl rfl ⟨rfl, by simp⟩ ?_
    cases s1 with
    | true =>
      (refine GO.fieldAddr rfl rfl ?_; refine GO.loadQ rfl rfl rfl Tk.h (by assumption) ?_; refine GO.not rfl rfl ?_; refine GO.move rfl rfl ?_; refine GO.gF rfl rfl rfl rfl ?_; refine GO.gF rfl rfl rfl rfl ?_; refine GO.gF rfl rfl rfl rfl ?_; refine GO.gF rfl rfl rfl rfl ?_; refine GO.gF rfl rfl rfl rfl ?_; refine GO.pickF rfl rfl rfl ?_; refine GO.nil ?_; refine kthen_n ?_; refine G.condF rfl rfl ?_; refine G.skip ?_; refine kblock_n ?_; refine kthen_n ?_; refine G.seq ?_; refine G.region ?_; refine GO.assign rfl rfl ?_; refine GO.nil ?_; refine kthen_n ?_; refine G.ret ?_)
      refine KF2.r1 rfl (RV.t rfl) ⟨rfl, rfl⟩ (ImpS.sb ?_)
      ((refine Sb.c Tk.h ?_); (exact Sb.r))
    | false =>
      (refine GO.fieldAddr rfl rfl ?_; refine GO.loadQ rfl rfl rfl Tk.h (by assumption) ?_; refine GO.not rfl rfl ?_; refine GO.move rfl rfl ?_; refine GO.gT rfl rfl rfl ?_; refine GO.move rfl rfl ?_; refine GO.gT rfl rfl rfl ?_)
      refine GO.idxS (j := 1) rfl rfl rfl ⟨rfl, by simp⟩ ?_
      cases t1 with
      | true =>
        (refine GO.gT rfl rfl rfl ?_; refine GO.fieldAddr rfl rfl ?_; refine GO.gT rfl rfl rfl ?_; refine GO.loadQ rfl rfl rfl Tk.h (by assumption) ?_; refine GO.gT rfl rfl rfl ?_; refine GO.not rfl rfl ?_; refine GO.pickT rfl rfl rfl ?_; refine GO.nil ?_; refine kthen_n ?_; refine G.condF rfl rfl ?_; refine G.skip ?_; refine kblock_n ?_; refine kthen_n ?_; refine G.seq ?_; refine G.region ?_; refine GO.assign rfl rfl ?_; refine GO.nil ?_; refine kthen_n ?_; refine G.ret ?_)
        refine KF2.r1 rfl (RV.t rfl) ⟨rfl, rfl⟩ (ImpS.sb ?_)
        ((refine Sb.c Tk.h ?_); (exact Sb.r))
      | false =>
        (refine GO.gT rfl rfl rfl ?_; refine GO.fieldAddr rfl rfl ?_; refine GO.gT rfl rfl rfl ?_; refine GO.loadQ rfl rfl rfl Tk.h (by assumption) ?_; refine GO.gT rfl rfl rfl ?_; refine GO.not rfl rfl ?_; refine GO.pickT rfl rfl rfl ?_; refine GO.nil ?_; refine kthen_n ?_; refine G.condT rfl rfl ?_; refine G.seq ?_; refine G.region ?_; refine GO.assign rfl rfl ?_; refine GO.nil ?_; refine kthen_n ?_; refine G.ret ?_; refine kblock_r ?_; refine kthen_r ?_)
        refine KF2.r1 rfl (RV.t rfl) ⟨rfl, rfl⟩ (ImpS.sb ?_)
        ((refine Sb.c Tk.h ?_); (exact Sb.r))
  | s :: t :: u :: more, hv, hn =>
    have d0 : decide (((s :: t :: u :: more).length : Int) = 0) = false := decide_eq_false (by simp; omega)
    have d1 : decide (((s :: t :: u :: more).length : Int) = 1) = false := decide_eq_false (by simp; omega)
    have d2 : decide (((s :: t :: u :: more).length : Int) = 2) = false := decide_eq_false (by simp; omega)
    (refine G.seq ?_; refine G.region ?_; refine GO.assign rfl rfl ?_; refine GO.nil ?_; refine kthen_n ?_; refine G.seq ?_; refine G.seq ?_; refine G.region ?_; refine GO.move rfl rfl ?_; refine GO.lenS rfl rfl ?_; refine GO.nil ?_; refine kthen_n ?_; refine G.block ?_; refine G.seq ?_; refine G.region ?_; refine GO.eqi rfl rfl rfl ?_; refine GO.assign rfl rfl ?_; refine GO.nil ?_; refine kthen_n ?_; refine G.condF rfl rfl ?_; refine G.seq ?_; refine G.region ?_; refine GO.eqi rfl rfl rfl ?_; refine GO.assign rfl rfl ?_; refine GO.nil ?_; refine kthen_n ?_; refine G.condF rfl rfl ?_; refine G.seq ?_; refine G.region ?_; refine GO.eqi rfl rfl rfl ?_; refine GO.assign rfl rfl ?_; refine GO.nil ?_; refine kthen_n ?_; refine G.condF rfl rfl ?_; refine G.skip ?_; refine kblock_n ?_; refine kthen_n ?_; refine G.seq ?_; refine G.region ?_; refine GO.assign rfl rfl ?_; refine GO.nil ?_; refine kthen_n ?_; refine G.ret ?_)
    refine KF2.r1 rfl (RV.t rfl) ⟨rfl, rfl⟩ (ImpS.sb ?_)
    ((refine Sb.c Tk.h ?_); (exact Sb.r))
theorem is1_spec (q : HP) (A : Int) (bv : Value) (ss : List SymD) (hv : SymsR q bv ss) (hn : ¬ 140737488355328 < ss.length) : Fn Try.prog 54 #[.agg #[i64 A, bv]] [q] (fun r Q => r = .bool (!weakB ss) ∧ Q = [q]) := by
  have ho := of_spec q bv ss hv hn
  obtain ⟨a, cap, rfl⟩ := hv.form
  refine Fn.mk2 Try.func54 rfl rfl fun w0 F => ?_
  (refine G.seq ?_; refine G.region ?_; refine GO.box rfl rfl rfl fun b1 => ?_; refine GO.assign rfl rfl ?_; refine GO.nil ?_; refine kthen_n ?_; refine G.seq ?_; refine G.region ?_; refine GO.fieldAddr rfl rfl ?_; refine GO.load1 rfl rfl rfl Tk.h rfl ?_)
  refine GO.call1 rfl rfl (ho) (Tks.c (Tk.t Tk.h) Tks.n) ?_
  rintro _ _ ⟨rfl, rfl⟩
  (refine GO.eqi rfl rfl rfl ?_; refine GO.assign rfl rfl ?_; refine GO.nil ?_; refine kthen_n ?_; refine G.ret ?_)
  refine KF2.r1 rfl (RV.t rfl) ⟨?_, rfl⟩ (ImpS.sb ?_)
  · unfold weakB; rw [Bool.not_not]
  · ((refine Sb.c Tk.h ?_); (refine Sb.s ?_; exact Sb.r))
set_option maxHeartbeats 4000000 in
theorem indexProd_spec (q : HP) (v f : Value) (ps : List ProdD) (pred : ProdD → Bool) (hv : PrsR q v ps) (hf : ∀ p ∈ ps, ∀ bv, SymsR q bv p.2 → FnV Try.prog f [.agg #[i64 p.1, bv]] [q] (fun r Q => r = .bool (pred p) ∧ Q = [q])) (hn : ¬ 140737488355328 < ps.length) :
    Fn Try.prog 61 #[v, f] [q] (fun r Q => ((∃ k : Nat, r = i64 k ∧ ps.any pred = true) ∨ (r = i64 (-1) ∧ ps.any pred = false)) ∧ Q = [q]) := by
  obtain ⟨a, cap, rfl⟩ := hv.form
  refine Fn.mk2 Try.func61 rfl rfl fun w0 F => ?_
  (refine G.seq ?_; refine G.region ?_; refine GO.assign rfl rfl ?_; refine GO.nil ?_; refine kthen_n ?_; refine G.seq ?_; refine G.seq ?_; refine G.region ?_; refine GO.move rfl rfl ?_; refine GO.lenS rfl rfl ?_; refine GO.move rfl rfl ?_; refine GO.nil ?_; refine kthen_n ?_; refine G.block ?_)
  refine G.loop (fun k : Nat => [(0, .slice a ps.length cap), (1, f), (7, i64 ps.length), (8, i64 k)]) (fun _ => q :: F) (fun k => k ≤ ps.length ∧ (ps.take k).any pred = false) (fun k => ps.length - k) 0 ⟨by omega, rfl⟩ ?_ ?_ ?_
  · (refine SubE.c rfl rfl ?_; refine SubE.c rfl rfl ?_; refine SubE.c rfl rfl ?_; refine SubE.c rfl rfl ?_; exact SubE.n)
  · ((refine Sb.c Tk.h ?_); (exact Sb.r))
  rintro k ⟨hk, hany⟩
  (refine G.seq ?_; refine G.region ?_; refine GO.lti rfl rfl rfl ?_; refine GO.nil ?_; refine kthen_n ?_; refine G.seq ?_)
  refine G.condD rfl (fun hlt => ?_) (fun hge => ?_)
  · have hlt' : k < ps.length := by omega
    obtain ⟨p, hs⟩ : ∃ p : ProdD, ps[k]? = some p := ⟨ps[k], by simp [hlt']⟩
    obtain ⟨b, o, bv, rfl, _, r1, r2, hss⟩ := hv.at hs
    (refine G.skip ?_; refine kthen_n ?_; refine G.seq ?_; refine G.block ?_; refine G.seq ?_; refine G.region ?_; refine GO.move rfl rfl ?_; refine GO.assign rfl rfl ?_; refine GO.nil ?_; refine kthen_n ?_; refine G.seq ?_; refine G.region ?_; refine GO.move rfl rfl ?_; refine GO.move rfl rfl ?_; refine GO.move rfl rfl ?_; refine GO.idxS rfl rfl rfl ⟨rfl, by omega⟩ ?_; refine GO.load2 rfl rfl rfl Tk.h (by assumption) (by assumption) ?_)
    refine GO.callV1 rfl rfl rfl (hf p (List.mem_of_getElem? hs) bv hss) (show Tks [q] (q :: F) F from List.Perm.refl _) ?_
    rintro _ _ ⟨rfl, rfl⟩
    (refine GO.nil ?_; refine kthen_n ?_)
    refine G.cond rfl (fun hb => ?_) (fun hb => ?_)
    · (refine G.seq ?_; refine G.region ?_; refine GO.move rfl rfl ?_; refine GO.assign rfl rfl ?_; refine GO.nil ?_; refine kthen_n ?_; refine G.ret ?_; refine kblock_r ?_; refine kthen_r ?_; refine kthen_r ?_; refine kblock_r ?_; refine kthen_r ?_)
      refine KF2.r1 rfl (RV.t rfl) ⟨.inl ⟨k, rfl, ?_⟩, rfl⟩ (ImpS.sb ?_)
      · rw [List.any_eq_true]; exact ⟨p, List.mem_of_getElem? hs, hb⟩
      · ((refine Sb.c Tk.h ?_); (exact Sb.r))
    · (refine G.skip ?_; refine kblock_n ?_; refine kthen_n ?_; refine G.region ?_; refine GO.addi rfl rfl rfl (by omega) ?_; refine GO.move rfl rfl ?_; refine GO.nil ?_; refine kthen_n ?_)
      refine ⟨k + 1, ⟨by omega, ?_⟩, by omega, ?_, ?_⟩
      · rw [List.take_add_one, hs, List.any_append, hany]; simp [hb]
      · (refine SubE.c rfl rfl ?_; refine SubE.c rfl rfl ?_; refine SubE.c rfl rfl ?_; refine SubE.c rfl rfl ?_; exact SubE.n)
      · ((refine Sb.c Tk.h ?_); (exact Sb.r))
  · have : k = ps.length := by omega
    subst this
    rw [List.take_length] at hany
    (refine G.exit ?_; refine kthen_x ?_; refine kthen_x ?_; refine kblock_x ?_; refine kthen_n ?_; refine G.seq ?_; refine G.region ?_; refine GO.assign rfl rfl ?_; refine GO.nil ?_; refine kthen_n ?_; refine G.ret ?_)
    refine KF2.r1 rfl (RV.t rfl) ⟨.inr ⟨rfl, hany⟩, rfl⟩ (ImpS.sb ?_)
    ((refine Sb.c Tk.h ?_); (exact Sb.r))
theorem containsProd_spec (q : HP) (v f : Value) (ps : List ProdD) (pred : ProdD → Bool) (hv : PrsR q v ps) (hf : ∀ p ∈ ps, ∀ bv, SymsR q bv p.2 → FnV Try.prog f [.agg #[i64 p.1, bv]] [q] (fun r Q => r = .bool (pred p) ∧ Q = [q])) (hn : ¬ 140737488355328 < ps.length) :
    Fn Try.prog 53 #[v, f] [q] (fun r Q => r = .bool (ps.any pred) ∧ Q = [q]) := by
  refine Fn.mk2 Try.func53 rfl rfl fun w0 F => ?_
  (refine G.seq ?_; refine G.region ?_; refine GO.assign rfl rfl ?_; refine GO.nil ?_; refine kthen_n ?_; refine G.seq ?_; refine G.region ?_; refine GO.move rfl rfl ?_; refine GO.move rfl rfl ?_)
  refine GO.call2 rfl rfl rfl (indexProd_spec q v f ps pred hv hf hn) (Tks.c Tk.h Tks.n) ?_
  rintro _ _ ⟨h, rfl⟩
  rcases h with ⟨k, rfl, h⟩ | ⟨rfl, h⟩
  · (refine GO.gei rfl rfl rfl ?_; refine GO.assign rfl rfl ?_; refine GO.nil ?_; refine kthen_n ?_; refine G.ret ?_)
    refine KF2.r1 rfl (RV.t rfl) ⟨?_, rfl⟩ (ImpS.sb ?_)
    · rw [h]; simp
    · ((refine Sb.c Tk.h ?_); (exact Sb.r))
  · (refine GO.gei rfl rfl rfl ?_; refine GO.assign rfl rfl ?_; refine GO.nil ?_; refine kthen_n ?_; refine G.ret ?_)
    refine KF2.r1 rfl (RV.t rfl) ⟨?_, rfl⟩ (ImpS.sb ?_)
    · rw [h]; rfl
    · ((refine Sb.c Tk.h ?_); (exact Sb.r))
theorem is_spec (q : HP) (v : Value) (C : CnfD) (hv : CnfR q v C) (hz : Fits C) : Fn Try.prog 40 #[v] [q] (fun r Q => r = .bool (weakC C) ∧ Q = [q]) := by
  have hc := check_spec q v C hv hz
  have hcon := fun (pv : Value) (hp : PrsR q pv C.prods) => containsProd_spec q pv (.func (.func 54) #[] #[]) C.prods (fun p => !weakB p.2) hp (fun p hpm bv hs => FnV.of (caps := []) (is1_spec q p.1 bv p.2 hs (by have := hz.2 p hpm; omega))) (by have := hz.1; omega)
  obtain ⟨pv, rfl, hp⟩ := hv
  obtain ⟨ap, cp, rfl⟩ := hp.form
  have hcon := hcon _ hp
  have hany : (!C.prods.any fun p => !weakB p.2) = C.prods.all fun p => weakB p.2 := by
    generalize C.prods = l
    induction l with
    | nil => rfl
    | cons p l ih => simp only [List.any_cons, List.all_cons, ← ih]; cases weakB p.2 <;> simp
  unfold weakC
  cases hok : okC C with
  | false =>
    rw [hok] at hc
    refine Fn.mk2 Try.func40 rfl rfl fun w0 F => ?_
    (refine G.seq ?_; refine G.region ?_; refine GO.box rfl rfl rfl fun b1 => ?_; refine GO.assign rfl rfl ?_; refine GO.nil ?_; refine kthen_n ?_; refine G.seq ?_; refine G.region ?_; refine GO.loadW rfl rfl rfl Tk.h rfl ?_)
    refine GO.call1 rfl rfl (hc) (Tks.c (Tk.t Tk.h) Tks.n) ?_
    rintro _ _ ⟨rfl, rfl⟩
    rw [if_neg (by simp)]
    (refine GO.eqi rfl rfl rfl ?_; refine GO.move rfl rfl ?_; refine GO.gF rfl rfl rfl rfl ?_; refine GO.gF rfl rfl rfl rfl ?_; refine GO.gF rfl rfl rfl rfl ?_; refine GO.gF rfl rfl rfl rfl ?_; refine GO.pickF rfl rfl rfl ?_; refine GO.assign rfl rfl ?_; refine GO.nil ?_; refine kthen_n ?_; refine G.ret ?_)
    refine KF2.r1 rfl (RV.t rfl) ⟨rfl, rfl⟩ (ImpS.sb ?_)
    ((refine Sb.c Tk.h ?_); (refine Sb.s ?_; exact Sb.r))
  | true =>
    rw [hok] at hc
    refine Fn.mk2 Try.func40 rfl rfl fun w0 F => ?_
    (refine G.seq ?_; refine G.region ?_; refine GO.box rfl rfl rfl fun b1 => ?_; refine GO.assign rfl rfl ?_; refine GO.nil ?_; refine kthen_n ?_; refine G.seq ?_; refine G.region ?_; refine GO.loadW rfl rfl rfl Tk.h rfl ?_)
    refine GO.call1 rfl rfl (hc) (Tks.c (Tk.t Tk.h) Tks.n) ?_
    rintro _ _ ⟨rfl, rfl⟩
    rw [if_pos rfl]
    (refine GO.eqT rfl rfl rfl rfl ?_; refine GO.move rfl rfl ?_; refine GO.gT rfl rfl rfl ?_; refine GO.fieldAddr rfl rfl ?_; refine GO.gT rfl rfl rfl ?_; refine GO.load1 rfl rfl rfl (Tk.t Tk.h) rfl ?_; refine GO.gT rfl rfl rfl ?_)
    refine GO.call2 rfl rfl rfl (hcon) (Tks.c Tk.h Tks.n) ?_
    rintro _ _ ⟨rfl, rfl⟩
    (refine GO.gT rfl rfl rfl ?_; refine GO.not rfl rfl ?_; refine GO.pickT rfl rfl rfl ?_; refine GO.assign rfl rfl ?_; refine GO.nil ?_; refine kthen_n ?_; refine G.ret ?_)
    refine KF2.r1 rfl (RV.t rfl) ⟨?_, rfl⟩ (ImpS.sb ?_)
    · rw [hany]; rfl
    · ((refine Sb.c Tk.h ?_); (refine Sb.s ?_; exact Sb.r))
set_option maxRecDepth 4000 in
theorem asked_spec (q : HP) (v : Value) (C : CnfD) (hv : CnfR q v C) (hz : Fits C) (nt : Int) (w : List Int) (wv : Value) (hw : WordR q wv w) : Fn Try.prog 25 #[v, i64 nt, wv] [q] (fun r Q => r = i64 (askE C nt w.length) ∧ Q = [q]) := by
  have hc := check_spec q v C hv hz
  have hi := is_spec q v C hv hz
  obtain ⟨pv, rfl, hp⟩ := hv
  obtain ⟨ap, cp, rfl⟩ := hp.form
  obtain ⟨aw, cw, rfl⟩ := hw.form
  unfold askE
  cases hok : okC C with
  | false =>
    rw [hok] at hc
    refine Fn.mk2 Try.func25 rfl rfl fun w0 F => ?_
    (refine G.seq ?_; refine G.region ?_; refine GO.box rfl rfl rfl fun b3 => ?_; refine GO.assign rfl rfl ?_; refine GO.nil ?_; refine kthen_n ?_; refine G.seq ?_; refine G.block ?_; refine G.seq ?_; refine G.region ?_; refine GO.loadW rfl rfl rfl Tk.h rfl ?_)
    refine GO.call1 rfl rfl (hc) (Tks.c (Tk.t Tk.h) Tks.n) ?_
    rintro _ _ ⟨rfl, rfl⟩
    rw [if_neg (by simp)]
    (refine GO.nei rfl rfl rfl ?_; refine GO.assign rfl rfl ?_; refine GO.nil ?_; refine kthen_n ?_; refine G.condT rfl rfl ?_; refine G.seq ?_; refine G.region ?_; refine GO.assign rfl rfl ?_; refine GO.nil ?_; refine kthen_n ?_; refine G.ret ?_; refine kblock_r ?_; refine kthen_r ?_)
    refine KF2.r1 rfl (RV.t rfl) ⟨rfl, rfl⟩ (ImpS.sb ?_)
    ((refine Sb.c Tk.h ?_); (refine Sb.s ?_; exact Sb.r))
  | true =>
    rw [hok] at hc
    cases hwk : weakC C with
    | false =>
      rw [hwk] at hi
      refine Fn.mk2 Try.func25 rfl rfl fun w0 F => ?_
      (refine G.seq ?_; refine G.region ?_; refine GO.box rfl rfl rfl fun b3 => ?_; refine GO.assign rfl rfl ?_; refine GO.nil ?_; refine kthen_n ?_; refine G.seq ?_; refine G.block ?_; refine G.seq ?_; refine G.region ?_; refine GO.loadW rfl rfl rfl Tk.h rfl ?_)
      refine GO.call1 rfl rfl (hc) (Tks.c (Tk.t Tk.h) Tks.n) ?_
      rintro _ _ ⟨rfl, rfl⟩
      rw [if_pos rfl]
      (refine GO.neF rfl rfl rfl rfl ?_; refine GO.assign rfl rfl ?_; refine GO.nil ?_; refine kthen_n ?_; refine G.condF rfl rfl ?_; refine G.seq ?_; refine G.region ?_; refine GO.loadW rfl rfl rfl (Tk.t Tk.h) rfl ?_)
      refine GO.call1 rfl rfl (hi) (Tks.c Tk.h Tks.n) ?_
      rintro _ _ ⟨rfl, rfl⟩
      (refine GO.not rfl rfl ?_; refine GO.assign rfl rfl ?_; refine GO.nil ?_; refine kthen_n ?_; refine G.condT rfl rfl ?_; refine G.seq ?_; refine G.region ?_; refine GO.assign rfl rfl ?_; refine GO.nil ?_; refine kthen_n ?_; refine G.ret ?_; refine kblock_r ?_; refine kthen_r ?_)
      refine KF2.r1 rfl (RV.t rfl) ⟨rfl, rfl⟩ (ImpS.sb ?_)
      ((refine Sb.c Tk.h ?_); (refine Sb.s ?_; exact Sb.r))
    | true =>
      rw [hwk] at hi
      rw [if_pos rfl, if_pos rfl]
      refine Fn.mk2 Try.func25 rfl rfl fun w0 F => ?_
      (refine G.seq ?_; refine G.region ?_; refine GO.box rfl rfl rfl fun b3 => ?_; refine GO.assign rfl rfl ?_; refine GO.nil ?_; refine kthen_n ?_; refine G.seq ?_; refine G.block ?_; refine G.seq ?_; refine G.region ?_; refine GO.loadW rfl rfl rfl Tk.h rfl ?_)
      refine GO.call1 rfl rfl (hc) (Tks.c (Tk.t Tk.h) Tks.n) ?_
      rintro _ _ ⟨rfl, rfl⟩
      rw [if_pos rfl]
      (refine GO.neF rfl rfl rfl rfl ?_; refine GO.assign rfl rfl ?_; refine GO.nil ?_; refine kthen_n ?_; refine G.condF rfl rfl ?_; refine G.seq ?_; refine G.region ?_; refine GO.loadW rfl rfl rfl (Tk.t Tk.h) rfl ?_)
      refine GO.call1 rfl rfl (hi) (Tks.c Tk.h Tks.n) ?_
      rintro _ _ ⟨rfl, rfl⟩
      by_cases h1 : nt < 0
      · have d1 : decide (nt < 0) = true := decide_eq_true h1
        rw [if_pos h1]
        (refine GO.not rfl rfl ?_; refine GO.assign rfl rfl ?_; refine GO.nil ?_; refine kthen_n ?_; refine G.condF rfl rfl ?_; refine G.seq ?_; refine G.region ?_; refine GO.move rfl rfl ?_; refine GO.lti rfl rfl rfl ?_; refine GO.move rfl rfl ?_; refine GO.gF rfl rfl rfl (by assumption) ?_; refine GO.gF rfl rfl rfl (by assumption) ?_; refine GO.gF rfl rfl rfl (by assumption) ?_; refine GO.gF rfl rfl rfl (by assumption) ?_; refine GO.pickTa rfl rfl (by assumption) rfl ?_; refine GO.assign rfl rfl ?_; refine GO.nil ?_; refine kthen_n ?_; refine G.condT rfl rfl ?_; refine G.seq ?_; refine G.region ?_; refine GO.assign rfl rfl ?_; refine GO.nil ?_; refine kthen_n ?_; refine G.ret ?_; refine kblock_r ?_; refine kthen_r ?_)
        refine KF2.r1 rfl (RV.t rfl) ⟨rfl, rfl⟩ (ImpS.sb ?_)
        ((refine Sb.c Tk.h ?_); (refine Sb.s ?_; exact Sb.r))
      · have d1 : decide (nt < 0) = false := decide_eq_false h1
        rw [if_neg h1]
        by_cases h2 : C.nts ≤ nt
        · have d2 : decide (C.nts ≤ nt) = true := decide_eq_true h2
          rw [if_pos h2]
          (refine GO.not rfl rfl ?_; refine GO.assign rfl rfl ?_; refine GO.nil ?_; refine kthen_n ?_; refine G.condF rfl rfl ?_; refine G.seq ?_; refine G.region ?_; refine GO.move rfl rfl ?_; refine GO.lti rfl rfl rfl ?_; refine GO.move rfl rfl ?_; refine GO.gT rfl rfl (by assumption) ?_; refine GO.move rfl rfl ?_; refine GO.gT rfl rfl (by assumption) ?_; refine GO.fieldAddr rfl rfl ?_; refine GO.gT rfl rfl (by assumption) ?_; refine GO.load1 rfl rfl rfl (Tk.t Tk.h) rfl ?_; refine GO.gT rfl rfl (by assumption) ?_; refine GO.gei rfl rfl rfl ?_; refine GO.pickFa rfl rfl (by assumption) rfl ?_; refine GO.assign rfl rfl ?_; refine GO.nil ?_; refine kthen_n ?_; refine G.condT rfl (by assumption) ?_; refine G.seq ?_; refine G.region ?_; refine GO.assign rfl rfl ?_; refine GO.nil ?_; refine kthen_n ?_; refine G.ret ?_; refine kblock_r ?_; refine kthen_r ?_)
          refine KF2.r1 rfl (RV.t rfl) ⟨rfl, rfl⟩ (ImpS.sb ?_)
          ((refine Sb.c Tk.h ?_); (refine Sb.s ?_; exact Sb.r))
        · have d2 : decide (C.nts ≤ nt) = false := decide_eq_false h2
          rw [if_neg h2]
          by_cases h3 : 64 < w.length
          · have d3 : decide ((64 : Int) < (w.length : Int)) = true := decide_eq_true (by omega)
            rw [if_pos h3]
            (refine GO.not rfl rfl ?_; refine GO.assign rfl rfl ?_; refine GO.nil ?_; refine kthen_n ?_; refine G.condF rfl rfl ?_; refine G.seq ?_; refine G.region ?_; refine GO.move rfl rfl ?_; refine GO.lti rfl rfl rfl ?_; refine GO.move rfl rfl ?_; refine GO.gT rfl rfl (by assumption) ?_; refine GO.move rfl rfl ?_; refine GO.gT rfl rfl (by assumption) ?_; refine GO.fieldAddr rfl rfl ?_; refine GO.gT rfl rfl (by assumption) ?_; refine GO.load1 rfl rfl rfl (Tk.t Tk.h) rfl ?_; refine GO.gT rfl rfl (by assumption) ?_; refine GO.gei rfl rfl rfl ?_; refine GO.pickFa rfl rfl (by assumption) rfl ?_; refine GO.assign rfl rfl ?_; refine GO.nil ?_; refine kthen_n ?_; refine G.condF rfl (by assumption) ?_; refine G.seq ?_; refine G.region ?_; refine GO.move rfl rfl ?_; refine GO.lenS rfl rfl ?_; refine GO.gti rfl rfl rfl ?_; refine GO.assign rfl rfl ?_; refine GO.nil ?_; refine kthen_n ?_; refine G.condT rfl (by assumption) ?_; refine G.seq ?_; refine G.region ?_; refine GO.assign rfl rfl ?_; refine GO.nil ?_; refine kthen_n ?_; refine G.ret ?_; refine kblock_r ?_; refine kthen_r ?_)
            refine KF2.r1 rfl (RV.t rfl) ⟨rfl, rfl⟩ (ImpS.sb ?_)
            ((refine Sb.c Tk.h ?_); (refine Sb.s ?_; exact Sb.r))
          · have d3 : decide ((64 : Int) < (w.length : Int)) = false := decide_eq_false (by omega)
            rw [if_neg h3]
            (refine GO.not rfl rfl ?_; refine GO.assign rfl rfl ?_; refine GO.nil ?_; refine kthen_n ?_; refine G.condF rfl rfl ?_; refine G.seq ?_; refine G.region ?_; refine GO.move rfl rfl ?_; refine GO.lti rfl rfl rfl ?_; refine GO.move rfl rfl ?_; refine GO.gT rfl rfl (by assumption) ?_; refine GO.move rfl rfl ?_; refine GO.gT rfl rfl (by assumption) ?_; refine GO.fieldAddr rfl rfl ?_; refine GO.gT rfl rfl (by assumption) ?_; refine GO.load1 rfl rfl rfl (Tk.t Tk.h) rfl ?_; refine GO.gT rfl rfl (by assumption) ?_; refine GO.gei rfl rfl rfl ?_; refine GO.pickFa rfl rfl (by assumption) rfl ?_; refine GO.assign rfl rfl ?_; refine GO.nil ?_; refine kthen_n ?_; refine G.condF rfl (by assumption) ?_; refine G.seq ?_; refine G.region ?_; refine GO.move rfl rfl ?_; refine GO.lenS rfl rfl ?_; refine GO.gti rfl rfl rfl ?_; refine GO.assign rfl rfl ?_; refine GO.nil ?_; refine kthen_n ?_; refine G.condF rfl (by assumption) ?_; refine G.skip ?_; refine kblock_n ?_; refine kthen_n ?_; refine G.seq ?_; refine G.region ?_; refine GO.assign rfl rfl ?_; refine GO.nil ?_; refine kthen_n ?_; refine G.ret ?_)
            refine KF2.r1 rfl (RV.t rfl) ⟨rfl, rfl⟩ (ImpS.sb ?_)
            ((refine Sb.c Tk.h ?_); (refine Sb.s ?_; exact Sb.r))
end Go.Proofs.Ytjokibfldngkeaa
