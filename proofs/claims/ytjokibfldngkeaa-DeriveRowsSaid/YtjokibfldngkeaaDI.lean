/-
  The document's answer: may a question be asked?
-/
import Derived.Test.YtjokibfldngkeaaDG
namespace Go.Proofs.Ytjokibfldngkeaa
open Go
attribute [local irreducible] G GO GR GT Fn FnV pt init exs pur sat own ImpS symsV wordV
set_option maxHeartbeats 4000000 in
theorem rweak_spec (q : HP) (v : Value) (ss : List SymD) (hv : SymsR q v ss) (hn : ¬ 140737488355328 < ss.length) : Fn Try.prog 57 #[v] [q] (fun r Q => r = .bool (weakB ss) ∧ Q = [q]) := by
  obtain ⟨a, cap, rfl⟩ := hv.form
  refine Fn.mk2 Try.func57 rfl rfl fun w0 F => ?_
  match ss, hv, hn with
  | [], hv, hn =>
    (refine G.seq ?_; refine G.region ?_; refine GO.assign rfl rfl ?_; refine GO.nil ?_; refine kthen_n ?_; refine G.seq ?_; refine G.region ?_; refine GO.move rfl rfl ?_; refine GO.lenS rfl rfl ?_; refine GO.assign rfl rfl ?_; refine GO.nil ?_; refine kthen_n ?_; refine G.seq ?_; refine G.region ?_; refine GO.move rfl rfl ?_; refine GO.eqT rfl rfl rfl rfl ?_; refine GO.move rfl rfl ?_; refine GO.gF rfl rfl rfl rfl ?_; refine GO.gF rfl rfl rfl rfl ?_; refine GO.gF rfl rfl rfl rfl ?_; refine GO.gU rfl rfl rfl ?_; refine GO.gU rfl rfl rfl ?_; refine GO.gU rfl rfl rfl ?_; refine GO.gU rfl rfl rfl ?_; refine GO.gF rfl rfl rfl rfl ?_; refine GO.pickT rfl rfl rfl ?_; refine GO.move rfl rfl ?_; refine GO.gF rfl rfl rfl rfl ?_; refine GO.gF rfl rfl rfl rfl ?_; refine GO.gF rfl rfl rfl rfl ?_; refine GO.gU rfl rfl rfl ?_; refine GO.gU rfl rfl rfl ?_; refine GO.gU rfl rfl rfl ?_; refine GO.gU rfl rfl rfl ?_; refine GO.gU rfl rfl rfl ?_; refine GO.gF rfl rfl rfl rfl ?_; refine GO.gF rfl rfl rfl rfl ?_; refine GO.gU rfl rfl rfl ?_; refine GO.gU rfl rfl rfl ?_; refine GO.gU rfl rfl rfl ?_; refine GO.gU rfl rfl rfl ?_; refine GO.gU rfl rfl rfl ?_; refine GO.gF rfl rfl rfl rfl ?_; refine GO.pickT rfl rfl rfl ?_; refine GO.assign rfl rfl ?_; refine GO.nil ?_; refine kthen_n ?_; refine G.ret ?_)
    refine KF2.r1 rfl (RV.t rfl) ⟨rfl, rfl⟩ (ImpS.sb ?_)
    ((refine Sb.c Tk.h ?_); (exact Sb.r))
  | [s], hv, hn =>
    obtain ⟨b, o, rfl, _, r1, _⟩ := hv.at (k := 0) (s := s) rfl
    obtain ⟨s1, s2⟩ := s
    (refine G.seq ?_; refine G.region ?_; refine GO.assign rfl rfl ?_; refine GO.nil ?_; refine kthen_n ?_; refine G.seq ?_; refine G.region ?_; refine GO.move rfl rfl ?_; refine GO.lenS rfl rfl ?_; refine GO.assign rfl rfl ?_; refine GO.nil ?_; refine kthen_n ?_; refine G.seq ?_; refine G.region ?_; refine GO.move rfl rfl ?_; refine GO.eqi rfl rfl rfl ?_; refine GO.move rfl rfl ?_; refine GO.gT rfl rfl rfl ?_; refine GO.move rfl rfl ?_; refine GO.gT rfl rfl rfl ?_; refine GO.eqT rfl rfl rfl rfl ?_; refine GO.gT rfl rfl rfl ?_; refine GO.move rfl rfl ?_; refine GO.gT rfl rfl rfl ?_; refine GO.move rfl rfl ?_; refine GO.gT rfl rfl rfl ?_)
    refine GO.idxS (j := 0) rfl rfl rfl ⟨rfl, by simp⟩ ?_
    cases s1 with
    | true =>
      (refine GO.gT rfl rfl rfl ?_; refine GO.fieldAddr rfl rfl ?_; refine GO.gT rfl rfl rfl ?_; refine GO.loadQ rfl rfl rfl Tk.h (by assumption) ?_; refine GO.gT rfl rfl rfl ?_; refine GO.pickT rfl rfl rfl ?_; refine GO.pickF rfl rfl rfl ?_; refine GO.move rfl rfl ?_; refine GO.gF rfl rfl rfl rfl ?_; refine GO.gF rfl rfl rfl rfl ?_; refine GO.gF rfl rfl rfl rfl ?_; refine GO.gU rfl rfl rfl ?_; refine GO.gU rfl rfl rfl ?_; refine GO.gU rfl rfl rfl ?_; refine GO.gU rfl rfl rfl ?_; refine GO.gU rfl rfl rfl ?_; refine GO.gF rfl rfl rfl rfl ?_; refine GO.gF rfl rfl rfl rfl ?_; refine GO.gU rfl rfl rfl ?_; refine GO.gU rfl rfl rfl ?_; refine GO.gU rfl rfl rfl ?_; refine GO.gU rfl rfl rfl ?_; refine GO.gU rfl rfl rfl ?_; refine GO.gF rfl rfl rfl rfl ?_; refine GO.pickT rfl rfl rfl ?_; refine GO.assign rfl rfl ?_; refine GO.nil ?_; refine kthen_n ?_; refine G.ret ?_)
      refine KF2.r1 rfl (RV.t rfl) ⟨rfl, rfl⟩ (ImpS.sb ?_)
      ((refine Sb.c Tk.h ?_); (exact Sb.r))
    | false =>
      (refine GO.gT rfl rfl rfl ?_; refine GO.fieldAddr rfl rfl ?_; refine GO.gT rfl rfl rfl ?_; refine GO.loadQ rfl rfl rfl Tk.h (by assumption) ?_; refine GO.gT rfl rfl rfl ?_; refine GO.pickT rfl rfl rfl ?_; refine GO.pickF rfl rfl rfl ?_; refine GO.move rfl rfl ?_; refine GO.gT rfl rfl rfl ?_; refine GO.move rfl rfl ?_; refine GO.gT rfl rfl rfl ?_; refine GO.eqi rfl rfl rfl ?_; refine GO.gT rfl rfl rfl ?_; refine GO.move rfl rfl ?_; refine GO.gF rfl rfl rfl rfl ?_; refine GO.gF rfl rfl rfl rfl ?_; refine GO.gF rfl rfl rfl rfl ?_; refine GO.gF rfl rfl rfl rfl ?_; refine GO.gF rfl rfl rfl rfl ?_; refine GO.gT rfl rfl rfl ?_; refine GO.pickF rfl rfl rfl ?_; refine GO.gT rfl rfl rfl ?_; refine GO.move rfl rfl ?_; refine GO.gF rfl rfl rfl rfl ?_; refine GO.gF rfl rfl rfl rfl ?_; refine GO.gF rfl rfl rfl rfl ?_; refine GO.gF rfl rfl rfl rfl ?_; refine GO.gF rfl rfl rfl rfl ?_; refine GO.gT rfl rfl rfl ?_; refine GO.pickF rfl rfl rfl ?_; refine GO.pickF rfl rfl rfl ?_; refine GO.assign rfl rfl ?_; refine GO.nil ?_; refine kthen_n ?_; refine G.ret ?_)
      refine KF2.r1 rfl (RV.t rfl) ⟨rfl, rfl⟩ (ImpS.sb ?_)
      ((refine Sb.c Tk.h ?_); (exact Sb.r))
  | [s, t], hv, hn =>
    obtain ⟨b, o, rfl, _, r1, _⟩ := hv.at (k := 0) (s := s) rfl
    obtain ⟨b', o', e, _, r2, _⟩ := hv.at (k := 1) (s := t) rfl
    injection e with e
    injection e with e1 e2
    subst e1 e2
    obtain ⟨s1, s2⟩ := s
    obtain ⟨t1, t2⟩ := t
    (refine G.seq ?_; refine G.region ?_; refine GO.assign rfl rfl ?_; refine GO.nil ?_; refine kthen_n ?_; refine G.seq ?_; refine G.region ?_; refine GO.move rfl rfl ?_; refine GO.lenS rfl rfl ?_; refine GO.assign rfl rfl ?_; refine GO.nil ?_; refine kthen_n ?_; refine G.seq ?_; refine G.region ?_; refine GO.move rfl rfl ?_; refine GO.eqi rfl rfl rfl ?_; refine GO.move rfl rfl ?_; refine GO.gT rfl rfl rfl ?_; refine GO.move rfl rfl ?_; refine GO.gT rfl rfl rfl ?_; refine GO.eqi rfl rfl rfl ?_; refine GO.gT rfl rfl rfl ?_; refine GO.move rfl rfl ?_; refine GO.gF rfl rfl rfl rfl ?_; refine GO.gF rfl rfl rfl rfl ?_; refine GO.gF rfl rfl rfl rfl ?_; refine GO.gF rfl rfl rfl rfl ?_; refine GO.gT rfl rfl rfl ?_; refine GO.pickF rfl rfl rfl ?_; refine GO.pickF rfl rfl rfl ?_; refine GO.move rfl rfl ?_; refine GO.gT rfl rfl rfl ?_; refine GO.move rfl rfl ?_; refine GO.gT rfl rfl rfl ?_; refine GO.eqT rfl rfl rfl rfl ?_; refine GO.gT rfl rfl rfl ?_; refine GO.move rfl rfl ?_; refine GO.gT rfl rfl rfl ?_; refine GO.move rfl rfl ?_; refine GO.gT rfl rfl rfl ?_)
    refine GO.idxS (j := 0) rfl rfl rfl ⟨rfl, by simp⟩ ?_
    cases s1 with
    | true =>
      (refine GO.gT rfl rfl rfl ?_; refine GO.fieldAddr rfl rfl ?_; refine GO.gT rfl rfl rfl ?_; refine GO.loadQ rfl rfl rfl Tk.h (by assumption) ?_; refine GO.gT rfl rfl rfl ?_; refine GO.not rfl rfl ?_; refine GO.gT rfl rfl rfl ?_; refine GO.pickT rfl rfl rfl ?_; refine GO.gT rfl rfl rfl ?_; refine GO.move rfl rfl ?_; refine GO.gF rfl rfl rfl rfl ?_; refine GO.gF rfl rfl rfl rfl ?_; refine GO.gF rfl rfl rfl rfl ?_; refine GO.gF rfl rfl rfl rfl ?_; refine GO.gF rfl rfl rfl rfl ?_; refine GO.gT rfl rfl rfl ?_; refine GO.pickF rfl rfl rfl ?_; refine GO.pickF rfl rfl rfl ?_; refine GO.assign rfl rfl ?_; refine GO.nil ?_; refine kthen_n ?_; refine G.ret ?_)
      refine KF2.r1 rfl (RV.t rfl) ⟨rfl, rfl⟩ (ImpS.sb ?_)
      ((refine Sb.c Tk.h ?_); (exact Sb.r))
    | false =>
      (refine GO.gT rfl rfl rfl ?_; refine GO.fieldAddr rfl rfl ?_; refine GO.gT rfl rfl rfl ?_; refine GO.loadQ rfl rfl rfl Tk.h (by assumption) ?_; refine GO.gT rfl rfl rfl ?_; refine GO.not rfl rfl ?_; refine GO.gT rfl rfl rfl ?_; refine GO.pickT rfl rfl rfl ?_; refine GO.gT rfl rfl rfl ?_; refine GO.move rfl rfl ?_; refine GO.gT rfl rfl rfl ?_; refine GO.move rfl rfl ?_; refine GO.gT rfl rfl rfl ?_)
      refine GO.idxS (j := 1) rfl rfl rfl ⟨rfl, by simp⟩ ?_
      cases t1 with
      | true =>
        (refine GO.gT rfl rfl rfl ?_; refine GO.fieldAddr rfl rfl ?_; refine GO.gT rfl rfl rfl ?_; refine GO.loadQ rfl rfl rfl Tk.h (by assumption) ?_; refine GO.gT rfl rfl rfl ?_; refine GO.not rfl rfl ?_; refine GO.gT rfl rfl rfl ?_; refine GO.pickT rfl rfl rfl ?_; refine GO.pickF rfl rfl rfl ?_; refine GO.assign rfl rfl ?_; refine GO.nil ?_; refine kthen_n ?_; refine G.ret ?_)
        refine KF2.r1 rfl (RV.t rfl) ⟨rfl, rfl⟩ (ImpS.sb ?_)
        ((refine Sb.c Tk.h ?_); (exact Sb.r))
      | false =>
        (refine GO.gT rfl rfl rfl ?_; refine GO.fieldAddr rfl rfl ?_; refine GO.gT rfl rfl rfl ?_; refine GO.loadQ rfl rfl rfl Tk.h (by assumption) ?_; refine GO.gT rfl rfl rfl ?_; refine GO.not rfl rfl ?_; refine GO.gT rfl rfl rfl ?_; refine GO.pickT rfl rfl rfl ?_; refine GO.pickF rfl rfl rfl ?_; refine GO.assign rfl rfl ?_; refine GO.nil ?_; refine kthen_n ?_; refine G.ret ?_)
        refine KF2.r1 rfl (RV.t rfl) ⟨rfl, rfl⟩ (ImpS.sb ?_)
        ((refine Sb.c Tk.h ?_); (exact Sb.r))
  | s :: t :: u :: more, hv, hn =>
    have d0 : decide (((s :: t :: u :: more).length : Int) = 0) = false := decide_eq_false (by simp; omega)
    have d1 : decide (((s :: t :: u :: more).length : Int) = 1) = false := decide_eq_false (by simp; omega)
    have d2 : decide (((s :: t :: u :: more).length : Int) = 2) = false := decide_eq_false (by simp; omega)
    (refine G.seq ?_; refine G.region ?_; refine GO.assign rfl rfl ?_; refine GO.nil ?_; refine kthen_n ?_; refine G.seq ?_; refine G.region ?_; refine GO.move rfl rfl ?_; refine GO.lenS rfl rfl ?_; refine GO.assign rfl rfl ?_; refine GO.nil ?_; refine kthen_n ?_; refine G.seq ?_; refine G.region ?_; refine GO.move rfl rfl ?_; refine GO.eqi rfl rfl rfl ?_; refine GO.move rfl rfl ?_; refine GO.gT rfl rfl rfl ?_; refine GO.move rfl rfl ?_; refine GO.gT rfl rfl rfl ?_; refine GO.eqi rfl rfl rfl ?_; refine GO.gT rfl rfl rfl ?_; refine GO.move rfl rfl ?_; refine GO.gF rfl rfl rfl rfl ?_; refine GO.gF rfl rfl rfl rfl ?_; refine GO.gF rfl rfl rfl rfl ?_; refine GO.gF rfl rfl rfl rfl ?_; refine GO.gT rfl rfl rfl ?_; refine GO.pickF rfl rfl rfl ?_; refine GO.pickF rfl rfl rfl ?_; refine GO.move rfl rfl ?_; refine GO.gT rfl rfl rfl ?_; refine GO.move rfl rfl ?_; refine GO.gT rfl rfl rfl ?_; refine GO.eqi rfl rfl rfl ?_; refine GO.gT rfl rfl rfl ?_; refine GO.move rfl rfl ?_; refine GO.gF rfl rfl rfl rfl ?_; refine GO.gF rfl rfl rfl rfl ?_; refine GO.gF rfl rfl rfl rfl ?_; refine GO.gF rfl rfl rfl rfl ?_; refine GO.gF rfl rfl rfl rfl ?_; refine GO.gT rfl rfl rfl ?_; refine GO.pickF rfl rfl rfl ?_; refine GO.gT rfl rfl rfl ?_; refine GO.move rfl rfl ?_; refine GO.gF rfl rfl rfl rfl ?_; refine GO.gF rfl rfl rfl rfl ?_; refine GO.gF rfl rfl rfl rfl ?_; refine GO.gF rfl rfl rfl rfl ?_; refine GO.gF rfl rfl rfl rfl ?_; refine GO.gT rfl rfl rfl ?_; refine GO.pickF rfl rfl rfl ?_; refine GO.pickF rfl rfl rfl ?_; refine GO.assign rfl rfl ?_; refine GO.nil ?_; refine kthen_n ?_; refine G.ret ?_)
    refine KF2.r1 rfl (RV.t rfl) ⟨rfl, rfl⟩ (ImpS.sb ?_)
    ((refine Sb.c Tk.h ?_); (exact Sb.r))
theorem ris_spec (q : HP) (v : Value) (C : CnfD) (hv : CnfR q v C) (hz : Fits C) : Fn Try.prog 44 #[v] [q] (fun r Q => r = .bool (weakC C) ∧ Q = [q]) := by
  have hc := rcheck_spec q v C hv hz
  have hpn : ¬ 140737488355328 < C.prods.length := by have := hz.1; omega
  obtain ⟨pv, rfl, hp⟩ := hv
  obtain ⟨ap, cp, rfl⟩ := hp.form
  unfold weakC
  cases hok : okC C with
  | false =>
    rw [hok] at hc
    refine Fn.mk2 Try.func44 rfl rfl fun w0 F => ?_
    (refine G.seq ?_; refine G.region ?_; refine GO.box rfl rfl rfl fun b1 => ?_; refine GO.assign rfl rfl ?_; refine GO.nil ?_; refine kthen_n ?_; refine G.seq ?_; refine G.seq ?_; refine G.region ?_; refine GO.loadW rfl rfl rfl Tk.h rfl ?_)
    refine GO.call1 rfl rfl (hc) (Tks.c (Tk.t Tk.h) Tks.n) ?_
    rintro _ _ ⟨rfl, rfl⟩
    rw [if_neg (by simp)]
    (refine GO.nei rfl rfl rfl ?_; refine GO.nil ?_; refine kthen_n ?_; refine G.condT rfl rfl ?_; refine G.seq ?_; refine G.region ?_; refine GO.assign rfl rfl ?_; refine GO.nil ?_; refine kthen_n ?_; refine G.ret ?_; refine kthen_r ?_)
    refine KF2.r1 rfl (RV.t rfl) ⟨rfl, rfl⟩ (ImpS.sb ?_)
    ((refine Sb.c Tk.h ?_); (refine Sb.s ?_; exact Sb.r))
  | true =>
    rw [hok] at hc
    refine Fn.mk2 Try.func44 rfl rfl fun w0 F => ?_
    (refine G.seq ?_; refine G.region ?_; refine GO.box rfl rfl rfl fun b1 => ?_; refine GO.assign rfl rfl ?_; refine GO.nil ?_; refine kthen_n ?_; refine G.seq ?_; refine G.seq ?_; refine G.region ?_; refine GO.loadW rfl rfl rfl Tk.h rfl ?_)
    refine GO.call1 rfl rfl (hc) (Tks.c (Tk.t Tk.h) Tks.n) ?_
    rintro _ _ ⟨rfl, rfl⟩
    rw [if_pos rfl]
    (refine GO.neF rfl rfl rfl rfl ?_; refine GO.nil ?_; refine kthen_n ?_; refine G.condF rfl rfl ?_; refine G.skip ?_; refine kthen_n ?_; refine G.seq ?_; refine G.seq ?_; refine G.region ?_; refine GO.assign rfl rfl ?_; refine GO.nil ?_; refine kthen_n ?_; refine G.block ?_)
    refine G.loop (fun k : Nat => [(1, ptrT b1), (3, i64 (k : Nat))]) (fun _ => pt b1 (row [i64 C.nts, .slice ap C.prods.length cp] 24) :: q :: F) (fun k => k ≤ C.prods.length ∧ ((C.prods.take k).all fun p => weakB p.2) = true) (fun k => C.prods.length - k) 0 ⟨Nat.zero_le _, rfl⟩ ?_ ?_ ?_
    · (refine SubE.c rfl rfl ?_; refine SubE.c rfl rfl ?_; exact SubE.n)
    · ((refine Sb.c (Tk.t Tk.h) ?_; refine Sb.c Tk.h ?_); (exact Sb.r))
    · rintro k ⟨hk, hall⟩
      (refine G.seq ?_; refine G.seq ?_; refine G.region ?_; refine GO.move rfl rfl ?_; refine GO.fieldAddr rfl rfl ?_; refine GO.load1 rfl rfl rfl Tk.h rfl ?_; refine GO.lenS rfl rfl ?_; refine GO.lti rfl rfl rfl ?_; refine GO.nil ?_; refine kthen_n ?_)
      refine G.condD rfl (fun hlt => ?_) (fun hge => ?_)
      · have hkl : k < C.prods.length := by omega
        obtain ⟨p, hpk⟩ : ∃ p, C.prods[k]? = some p := ⟨_, List.getElem?_eq_getElem hkl⟩
        obtain ⟨b0, o0, bv, rfl, _, r1, r2, hss⟩ := hp.at hpk
        have hfit := hz.2 p (List.mem_of_getElem? hpk)
        have hw := rweak_spec q bv p.2 hss (by omega)
        obtain ⟨ab, cb, rfl⟩ := hss.form
        (refine G.skip ?_; refine kthen_n ?_; refine G.seq ?_; refine G.block ?_; refine G.seq ?_; refine G.region ?_; refine GO.fieldAddr rfl rfl ?_; refine GO.load1 rfl rfl rfl Tk.h rfl ?_; refine GO.move rfl rfl ?_; refine GO.idxS rfl rfl rfl ⟨rfl, by omega⟩ ?_; refine GO.fieldAddr rfl rfl ?_; refine GO.loadQ rfl rfl rfl (Tk.t Tk.h) (by assumption) ?_)
        refine GO.call1 rfl rfl (hw) (Tks.c (Tk.t Tk.h) Tks.n) ?_
        rintro _ _ ⟨rfl, rfl⟩
        cases hb : weakB p.2 with
        | true =>
          (refine GO.not rfl rfl ?_; refine GO.nil ?_; refine kthen_n ?_; refine G.condF rfl rfl ?_; refine G.skip ?_; refine kblock_n ?_; refine kthen_n ?_; refine G.region ?_; refine GO.move rfl rfl ?_; refine GO.addi rfl rfl rfl (by omega) ?_; refine GO.assign rfl rfl ?_; refine GO.nil ?_; refine kthen_n ?_)
          refine ⟨k + 1, ⟨by omega, all_succ hpk hall hb⟩, by omega, ?_, ?_⟩
          · (refine SubE.c rfl rfl ?_; refine SubE.c rfl rfl ?_; exact SubE.n)
          · ((refine Sb.c (Tk.t Tk.h) ?_; refine Sb.c Tk.h ?_); (exact Sb.r))
        | false =>
          (refine GO.not rfl rfl ?_; refine GO.nil ?_; refine kthen_n ?_; refine G.condT rfl rfl ?_; refine G.seq ?_; refine G.region ?_; refine GO.assign rfl rfl ?_; refine GO.nil ?_; refine kthen_n ?_; refine G.ret ?_; refine kblock_r ?_; refine kthen_r ?_; refine kthen_r ?_; refine kblock_r ?_; refine kthen_r ?_)
          refine KF2.r1 rfl (RV.t rfl) ⟨?_, rfl⟩ (ImpS.sb ?_)
          · rw [all_not hpk (f := fun p => weakB p.2) hb]; rfl
          · ((refine Sb.c Tk.h ?_); (refine Sb.s ?_; exact Sb.r))
      · have : k = C.prods.length := by omega
        subst this
        rw [List.take_length] at hall
        (refine G.exit ?_; refine kthen_x ?_; refine kthen_x ?_; refine kblock_x ?_; refine kthen_n ?_; refine G.seq ?_; refine G.region ?_; refine GO.assign rfl rfl ?_; refine GO.nil ?_; refine kthen_n ?_; refine G.ret ?_)
        refine KF2.r1 rfl (RV.t rfl) ⟨?_, rfl⟩ (ImpS.sb ?_)
        · rw [hall]; rfl
        · ((refine Sb.c (Tk.t Tk.h) ?_); (refine Sb.s ?_; exact Sb.r))
set_option maxRecDepth 4000 in
theorem rwrong_spec (q : HP) (v : Value) (C : CnfD) (hv : CnfR q v C) (hz : Fits C) (nt : Int) (n : Nat) : Fn Try.prog 28 #[v, i64 nt, i64 (n : Nat)] [q] (fun r Q => r = i64 (askE C nt n) ∧ Q = [q]) := by
  have hc := rcheck_spec q v C hv hz
  have hi := ris_spec q v C hv hz
  obtain ⟨pv, rfl, hp⟩ := hv
  obtain ⟨ap, cp, rfl⟩ := hp.form
  unfold askE
  cases hok : okC C with
  | false =>
    rw [hok] at hc
    refine Fn.mk2 Try.func28 rfl rfl fun w0 F => ?_
    (refine G.seq ?_; refine G.region ?_; refine GO.box rfl rfl rfl fun b3 => ?_; refine GO.assign rfl rfl ?_; refine GO.nil ?_; refine kthen_n ?_; refine G.seq ?_; refine G.seq ?_; refine G.region ?_; refine GO.loadW rfl rfl rfl Tk.h rfl ?_)
    refine GO.call1 rfl rfl (hc) (Tks.c (Tk.t Tk.h) Tks.n) ?_
    rintro _ _ ⟨rfl, rfl⟩
    rw [if_neg (by simp)]
    (refine GO.nei rfl rfl rfl ?_; refine GO.nil ?_; refine kthen_n ?_; refine G.condT rfl rfl ?_; refine G.seq ?_; refine G.region ?_; refine GO.assign rfl rfl ?_; refine GO.nil ?_; refine kthen_n ?_; refine G.ret ?_; refine kthen_r ?_)
    refine KF2.r1 rfl (RV.t rfl) ⟨rfl, rfl⟩ (ImpS.sb ?_)
    ((refine Sb.c Tk.h ?_); (refine Sb.s ?_; exact Sb.r))
  | true =>
    rw [hok] at hc
    cases hwk : weakC C with
    | false =>
      rw [hwk] at hi
      refine Fn.mk2 Try.func28 rfl rfl fun w0 F => ?_
      (refine G.seq ?_; refine G.region ?_; refine GO.box rfl rfl rfl fun b3 => ?_; refine GO.assign rfl rfl ?_; refine GO.nil ?_; refine kthen_n ?_; refine G.seq ?_; refine G.seq ?_; refine G.region ?_; refine GO.loadW rfl rfl rfl Tk.h rfl ?_)
      refine GO.call1 rfl rfl (hc) (Tks.c (Tk.t Tk.h) Tks.n) ?_
      rintro _ _ ⟨rfl, rfl⟩
      rw [if_pos rfl]
      (refine GO.neF rfl rfl rfl rfl ?_; refine GO.nil ?_; refine kthen_n ?_; refine G.condF rfl rfl ?_; refine G.skip ?_; refine kthen_n ?_; refine G.seq ?_; refine G.seq ?_; refine G.region ?_; refine GO.loadW rfl rfl rfl (Tk.t Tk.h) rfl ?_)
      refine GO.call1 rfl rfl (hi) (Tks.c Tk.h Tks.n) ?_
      rintro _ _ ⟨rfl, rfl⟩
      (refine GO.not rfl rfl ?_; refine GO.nil ?_; refine kthen_n ?_; refine G.condT rfl rfl ?_; refine G.seq ?_; refine G.region ?_; refine GO.assign rfl rfl ?_; refine GO.nil ?_; refine kthen_n ?_; refine G.ret ?_; refine kthen_r ?_)
      refine KF2.r1 rfl (RV.t rfl) ⟨rfl, rfl⟩ (ImpS.sb ?_)
      ((refine Sb.c Tk.h ?_); (refine Sb.s ?_; exact Sb.r))
    | true =>
      rw [hwk] at hi
      rw [if_pos rfl, if_pos rfl]
      refine Fn.mk2 Try.func28 rfl rfl fun w0 F => ?_
      (refine G.seq ?_; refine G.region ?_; refine GO.box rfl rfl rfl fun b3 => ?_; refine GO.assign rfl rfl ?_; refine GO.nil ?_; refine kthen_n ?_; refine G.seq ?_; refine G.seq ?_; refine G.region ?_; refine GO.loadW rfl rfl rfl Tk.h rfl ?_)
      refine GO.call1 rfl rfl (hc) (Tks.c (Tk.t Tk.h) Tks.n) ?_
      rintro _ _ ⟨rfl, rfl⟩
      rw [if_pos rfl]
      (refine GO.neF rfl rfl rfl rfl ?_; refine GO.nil ?_; refine kthen_n ?_; refine G.condF rfl rfl ?_; refine G.skip ?_; refine kthen_n ?_; refine G.seq ?_; refine G.seq ?_; refine G.region ?_; refine GO.loadW rfl rfl rfl (Tk.t Tk.h) rfl ?_)
      refine GO.call1 rfl rfl (hi) (Tks.c Tk.h Tks.n) ?_
      rintro _ _ ⟨rfl, rfl⟩
      by_cases h1 : nt < 0
      · have d1 : decide (nt < 0) = true := decide_eq_true h1
        rw [if_pos h1]
        (refine GO.not rfl rfl ?_; refine GO.nil ?_; refine kthen_n ?_; refine G.condF rfl rfl ?_; refine G.skip ?_; refine kthen_n ?_; refine G.seq ?_; refine G.seq ?_; refine G.region ?_; refine GO.move rfl rfl ?_; refine GO.lti rfl rfl rfl ?_; refine GO.move rfl rfl ?_; refine GO.gF rfl rfl rfl (by assumption) ?_; refine GO.gF rfl rfl rfl (by assumption) ?_; refine GO.gF rfl rfl rfl (by assumption) ?_; refine GO.gF rfl rfl rfl (by assumption) ?_; refine GO.pickTa rfl rfl (by assumption) rfl ?_; refine GO.nil ?_; refine kthen_n ?_; refine G.condT rfl rfl ?_; refine G.seq ?_; refine G.region ?_; refine GO.assign rfl rfl ?_; refine GO.nil ?_; refine kthen_n ?_; refine G.ret ?_; refine kthen_r ?_)
        refine KF2.r1 rfl (RV.t rfl) ⟨rfl, rfl⟩ (ImpS.sb ?_)
        ((refine Sb.c Tk.h ?_); (refine Sb.s ?_; exact Sb.r))
      · have d1 : decide (nt < 0) = false := decide_eq_false h1
        rw [if_neg h1]
        by_cases h2 : C.nts ≤ nt
        · have d2 : decide (C.nts ≤ nt) = true := decide_eq_true h2
          rw [if_pos h2]
          (refine GO.not rfl rfl ?_; refine GO.nil ?_; refine kthen_n ?_; refine G.condF rfl rfl ?_; refine G.skip ?_; refine kthen_n ?_; refine G.seq ?_; refine G.seq ?_; refine G.region ?_; refine GO.move rfl rfl ?_; refine GO.lti rfl rfl rfl ?_; refine GO.move rfl rfl ?_; refine GO.gT rfl rfl (by assumption) ?_; refine GO.move rfl rfl ?_; refine GO.gT rfl rfl (by assumption) ?_; refine GO.fieldAddr rfl rfl ?_; refine GO.gT rfl rfl (by assumption) ?_; refine GO.load1 rfl rfl rfl (Tk.t Tk.h) rfl ?_; refine GO.gT rfl rfl (by assumption) ?_; refine GO.gei rfl rfl rfl ?_; refine GO.pickFa rfl rfl (by assumption) rfl ?_; refine GO.nil ?_; refine kthen_n ?_; refine G.condT rfl (by assumption) ?_; refine G.seq ?_; refine G.region ?_; refine GO.assign rfl rfl ?_; refine GO.nil ?_; refine kthen_n ?_; refine G.ret ?_; refine kthen_r ?_)
          refine KF2.r1 rfl (RV.t rfl) ⟨rfl, rfl⟩ (ImpS.sb ?_)
          ((refine Sb.c Tk.h ?_); (refine Sb.s ?_; exact Sb.r))
        · have d2 : decide (C.nts ≤ nt) = false := decide_eq_false h2
          rw [if_neg h2]
          by_cases h3 : 64 < n
          · have d3 : decide ((64 : Int) < (n : Int)) = true := decide_eq_true (by omega)
            rw [if_pos h3]
            (refine GO.not rfl rfl ?_; refine GO.nil ?_; refine kthen_n ?_; refine G.condF rfl rfl ?_; refine G.skip ?_; refine kthen_n ?_; refine G.seq ?_; refine G.seq ?_; refine G.region ?_; refine GO.move rfl rfl ?_; refine GO.lti rfl rfl rfl ?_; refine GO.move rfl rfl ?_; refine GO.gT rfl rfl (by assumption) ?_; refine GO.move rfl rfl ?_; refine GO.gT rfl rfl (by assumption) ?_; refine GO.fieldAddr rfl rfl ?_; refine GO.gT rfl rfl (by assumption) ?_; refine GO.load1 rfl rfl rfl (Tk.t Tk.h) rfl ?_; refine GO.gT rfl rfl (by assumption) ?_; refine GO.gei rfl rfl rfl ?_; refine GO.pickFa rfl rfl (by assumption) rfl ?_; refine GO.nil ?_; refine kthen_n ?_; refine G.condF rfl (by assumption) ?_; refine G.skip ?_; refine kthen_n ?_; refine G.seq ?_; refine G.seq ?_; refine G.region ?_; refine GO.move rfl rfl ?_; refine GO.gti rfl rfl rfl ?_; refine GO.nil ?_; refine kthen_n ?_; refine G.condT rfl (by assumption) ?_; refine G.seq ?_; refine G.region ?_; refine GO.assign rfl rfl ?_; refine GO.nil ?_; refine kthen_n ?_; refine G.ret ?_; refine kthen_r ?_)
            refine KF2.r1 rfl (RV.t rfl) ⟨rfl, rfl⟩ (ImpS.sb ?_)
            ((refine Sb.c Tk.h ?_); (refine Sb.s ?_; exact Sb.r))
          · have d3 : decide ((64 : Int) < (n : Int)) = false := decide_eq_false (by omega)
            rw [if_neg h3]
            (refine GO.not rfl rfl ?_; refine GO.nil ?_; refine kthen_n ?_; refine G.condF rfl rfl ?_; refine G.skip ?_; refine kthen_n ?_; refine G.seq ?_; refine G.seq ?_; refine G.region ?_; refine GO.move rfl rfl ?_; refine GO.lti rfl rfl rfl ?_; refine GO.move rfl rfl ?_; refine GO.gT rfl rfl (by assumption) ?_; refine GO.move rfl rfl ?_; refine GO.gT rfl rfl (by assumption) ?_; refine GO.fieldAddr rfl rfl ?_; refine GO.gT rfl rfl (by assumption) ?_; refine GO.load1 rfl rfl rfl (Tk.t Tk.h) rfl ?_; refine GO.gT rfl rfl (by assumption) ?_; refine GO.gei rfl rfl rfl ?_; refine GO.pickFa rfl rfl (by assumption) rfl ?_; refine GO.nil ?_; refine kthen_n ?_; refine G.condF rfl (by assumption) ?_; refine G.skip ?_; refine kthen_n ?_; refine G.seq ?_; refine G.seq ?_; refine G.region ?_; refine GO.move rfl rfl ?_; refine GO.gti rfl rfl rfl ?_; refine GO.nil ?_; refine kthen_n ?_; refine G.condF rfl (by assumption) ?_; refine G.skip ?_; refine kthen_n ?_; refine G.seq ?_; refine G.region ?_; refine GO.assign rfl rfl ?_; refine GO.nil ?_; refine kthen_n ?_; refine G.ret ?_)
            refine KF2.r1 rfl (RV.t rfl) ⟨rfl, rfl⟩ (ImpS.sb ?_)
            ((refine Sb.c Tk.h ?_); (refine Sb.s ?_; exact Sb.r))
end Go.Proofs.Ytjokibfldngkeaa
