/-
  least.closed: which nonterminals have a body that has something throughout.
-/
import Derived.Test.YtcemehocbemfmaaLF
import Derived.Test.YtcemehocbemfmaaZ
namespace Go.Proofs.Ytcemehocbemfmaa
open Go
attribute [local irreducible] G GO GR GT Fn FnV pt init exs pur sat own ImpS
/-- Has a symbol something? (Labels have it or not.) -/
def symHas (o : Nat → Bool) (lb : Bool) (s : SymD) : Bool := if s.1 then lb else o s.2.toNat
/-- The symbols' numbers are nonterminals'. -/
def symIn (n : Int) (s : SymD) : Prop := s.1 = false → 0 ≤ s.2 ∧ s.2 < n
abbrev allM (o : Nat → Bool) (lb : Bool) (n : Nat) (bo b4 b5 : Nat) : List HP :=
  [pt b5 (row [.bool lb] 4), pt b4 (row [.slice (some ⟨bo, 0, none⟩) n n] 25), pt bo (row (boolsV o n) 4)]
set_option maxHeartbeats 2000000 in
theorem allp_spec (o : Nat → Bool) (lb : Bool) (n bo b4 b5 : Nat) (s : SymD) (hs : symIn n s) :
    Fn Try.prog 50 #[symV s, .pointer (some ⟨b5, 0, none⟩), .pointer (some ⟨b4, 0, none⟩)] (allM o lb n bo b4 b5) (fun r Q => r = .bool (!symHas o lb s) ∧ Q = allM o lb n bo b4 b5) := by
  obtain ⟨sl, m⟩ := s
  refine Fn.mk Try.func50 rfl rfl fun w0 F => ?_
  (refine G.seq ?_; refine G.region ?_)
  refine GO.box rfl rfl rfl fun b3 => ?_
  (refine GO.assign rfl rfl ?_; refine GO.nil ?_; refine kthen_n ?_; refine G.seq ?_; refine G.region ?_; refine GO.fieldAddr rfl rfl ?_; refine GO.load1 rfl rfl rfl Tk.h rfl ?_; refine GO.move rfl rfl ?_)
  cases sl with
  | true =>
    (refine GO.gT rfl rfl rfl ?_; refine GO.load1 rfl rfl rfl (Tk.t Tk.h) rfl ?_; refine GO.gT rfl rfl rfl ?_; refine GO.not rfl rfl ?_; refine GO.pickT rfl rfl rfl ?_; refine GO.move rfl rfl ?_)
    cases lb with
    | true =>
      (refine GO.gT rfl rfl rfl ?_; refine GO.fieldAddr rfl rfl ?_; refine GO.gT rfl rfl rfl ?_; refine GO.load1 rfl rfl rfl Tk.h rfl ?_; refine GO.gT rfl rfl rfl ?_; refine GO.not rfl rfl ?_; refine GO.gT rfl rfl rfl ?_; refine GO.move rfl rfl ?_; refine GO.gF rfl rfl rfl rfl ?_; refine GO.gF rfl rfl rfl rfl ?_; refine GO.gF rfl rfl rfl rfl ?_; refine GO.gF rfl rfl rfl rfl ?_; refine GO.gF rfl rfl rfl rfl ?_; refine GO.gF rfl rfl rfl rfl ?_; refine GO.gT rfl rfl rfl ?_; refine GO.pickF rfl rfl rfl ?_; refine GO.pickF rfl rfl rfl ?_; refine GO.assign rfl rfl ?_; refine GO.nil ?_; refine kthen_n ?_; refine G.ret ?_)
      refine KF.r1 rfl (RV.t rfl) ⟨rfl, rfl⟩ ?_
      ((refine Sb.c (Tk.t Tk.h) ?_; refine Sb.c (Tk.t Tk.h) ?_; refine Sb.c (Tk.t Tk.h) ?_); (refine Sb.s ?_; exact Sb.r))
    | false =>
      (refine GO.gF rfl rfl rfl rfl ?_; refine GO.gF rfl rfl rfl rfl ?_; refine GO.gF rfl rfl rfl rfl ?_; refine GO.gF rfl rfl rfl rfl ?_; refine GO.gU rfl rfl rfl ?_; refine GO.gU rfl rfl rfl ?_; refine GO.gU rfl rfl rfl ?_; refine GO.gU rfl rfl rfl ?_; refine GO.gU rfl rfl rfl ?_; refine GO.gU rfl rfl rfl ?_; refine GO.gF rfl rfl rfl rfl ?_; refine GO.pickT rfl rfl rfl ?_; refine GO.assign rfl rfl ?_; refine GO.nil ?_; refine kthen_n ?_; refine G.ret ?_)
      refine KF.r1 rfl (RV.t rfl) ⟨rfl, rfl⟩ ?_
      ((refine Sb.c (Tk.t Tk.h) ?_; refine Sb.c (Tk.t Tk.h) ?_; refine Sb.c (Tk.t Tk.h) ?_); (refine Sb.s ?_; exact Sb.r))
  | false =>
    obtain ⟨h1, h2⟩ := hs rfl
    obtain ⟨k, hk⟩ := Int.eq_ofNat_of_zero_le h1
    dsimp only at h1 h2 hk
    subst hk
    have hkn : k < n := by omega
    (refine GO.gF rfl rfl rfl rfl ?_; refine GO.gF rfl rfl rfl rfl ?_; refine GO.pickF rfl rfl rfl ?_; refine GO.move rfl rfl ?_; refine GO.gT rfl rfl rfl ?_; refine GO.fieldAddr rfl rfl ?_; refine GO.gT rfl rfl rfl ?_; refine GO.load1 rfl rfl rfl Tk.h rfl ?_; refine GO.gT rfl rfl rfl ?_; refine GO.not rfl rfl ?_; refine GO.gT rfl rfl rfl ?_; refine GO.move rfl rfl ?_; refine GO.gT rfl rfl rfl ?_; refine GO.load1 rfl rfl rfl (Tk.t (Tk.t Tk.h)) rfl ?_; refine GO.gT rfl rfl rfl ?_; refine GO.fieldAddr rfl rfl ?_; refine GO.gT rfl rfl rfl ?_; refine GO.load1 rfl rfl rfl Tk.h rfl ?_; refine GO.gT rfl rfl rfl ?_; refine GO.idxS rfl rfl rfl ⟨rfl, by omega⟩ ?_; refine GO.gT rfl rfl rfl ?_)
    skip
    refine GO.load1 rfl rfl rfl (by (exact (Tk.t (Tk.t (Tk.t Tk.h))))) (rowV_get1 hkn) ?_
    (refine GO.gT rfl rfl rfl ?_; refine GO.not rfl rfl ?_; refine GO.gT rfl rfl rfl ?_; refine GO.pickT rfl rfl rfl ?_; refine GO.pickF rfl rfl rfl ?_; refine GO.assign rfl rfl ?_; refine GO.nil ?_; refine kthen_n ?_; refine G.ret ?_)
    refine KF.r1 rfl (RV.t rfl) ⟨rfl, rfl⟩ ?_
    ((refine Sb.c (Tk.t Tk.h) ?_; refine Sb.c (Tk.t Tk.h) ?_; refine Sb.c (Tk.t Tk.h) ?_); (refine Sb.s ?_; exact Sb.r))
theorem any_all (o : Nat → Bool) (lb : Bool) (ss : List SymD) : (!ss.any fun s => !symHas o lb s) = ss.all (symHas o lb) := by
  induction ss with
  | nil => rfl
  | cons s ss ih => simp only [List.any_cons, List.all_cons, ← ih]; cases symHas o lb s <;> simp
set_option maxHeartbeats 2000000 in
theorem all_spec (q : HP) (v : Value) (o : Nat → Bool) (lb : Bool) (n bo : Nat) (ss : List SymD) (hv : SymsR q v ss) (hs : ∀ s ∈ ss, symIn n s) (hn : ss.length ≤ 9223372036854775807) :
    Fn Try.prog 36 #[v, .slice (some ⟨bo, 0, none⟩) n n, .bool lb] [q, pt bo (row (boolsV o n) 4)] (fun r Q => r = .bool (ss.all (symHas o lb)) ∧ Q = [q, pt bo (row (boolsV o n) 4)]) := by
  refine Fn.mk Try.func36 rfl rfl fun w0 F => ?_
  (refine G.seq ?_; refine G.region ?_)
  refine GO.box rfl rfl rfl fun b4 => ?_
  refine GO.box rfl rfl rfl fun b5 => ?_
  (refine GO.assign rfl rfl ?_; refine GO.nil ?_; refine kthen_n ?_; refine G.seq ?_; refine G.region ?_; refine GO.move rfl rfl ?_)
  refine GO.makeFunc2 rfl rfl rfl ?_
  refine GO.call2 rfl rfl rfl (containsSym_spec q v _ ss (fun s => !symHas o lb s) (allM o lb n bo b4 b5) hv (fun s hm => FnV.of (caps := [.pointer (some ⟨b5, 0, none⟩), .pointer (some ⟨b4, 0, none⟩)]) (Fn.framed (Rv := fun r => r = .bool (!symHas o lb s)) (allp_spec o lb n bo b4 b5 s (hs s hm)) [q])) hn)
    (Tks.c (Tk.t (Tk.t Tk.h)) (Tks.c Tk.h (Tks.c Tk.h (Tks.c Tk.h Tks.n)))) ?_
  rintro _ _ ⟨rfl, rfl⟩
  (refine GO.not rfl rfl ?_; refine GO.assign rfl rfl ?_; refine GO.nil ?_; refine kthen_n ?_; refine G.ret ?_)
  refine KF.r1 rfl (RV.t rfl) ⟨by rw [any_all], rfl⟩ ?_
  ((refine Sb.c Tk.h ?_; refine Sb.c (Tk.t (Tk.t Tk.h)) ?_); (refine Sb.s ?_; refine Sb.s ?_; exact Sb.r))
/-- One production lets a nonterminal have something. -/
def cloStep (lb : Bool) (o : Nat → Bool) (p : ProdD) : (Nat → Bool) × Bool :=
  if o p.1.toNat || !p.2.all (symHas o lb) then (o, false) else (upd o p.1.toNat true, true)
abbrev cloM (lb : Bool) (n bo b3 b7 : Nat) (o : Nat → Bool) : List HP :=
  [pt b7 (row [.slice (some ⟨bo, 0, none⟩) n n] 25), pt b3 (row [.bool lb] 4), pt bo (row (boolsV o n) 4)]
def prodIn (n : Int) (p : ProdD) : Prop := (0 ≤ p.1 ∧ p.1 < n) ∧ ∀ s ∈ p.2, symIn n s
set_option maxHeartbeats 2000000 in
theorem clop_spec (q : HP) (lb : Bool) (o : Nat → Bool) (n bo b3 b7 : Nat) (p : ProdD) (bv : Value) (hb : SymsR q bv p.2) (hp : prodIn n p) (hn : p.2.length ≤ 9223372036854775807) :
    Fn Try.prog 44 #[prodV p bv, .pointer (some ⟨b7, 0, none⟩), .pointer (some ⟨b3, 0, none⟩)] (q :: cloM lb n bo b3 b7 o) (fun r Q => r = .bool (cloStep lb o p).2 ∧ Q = q :: cloM lb n bo b3 b7 (cloStep lb o p).1) := by
  obtain ⟨h, ss⟩ := p
  obtain ⟨⟨h1, h2⟩, hss⟩ := hp
  dsimp only at h1 h2
  obtain ⟨k, rfl⟩ := Int.eq_ofNat_of_zero_le h1
  have hkn : k < n := by omega
  obtain ⟨ab, capb, rfl⟩ := hb.form
  refine Fn.mk Try.func44 rfl rfl fun w0 F => ?_
  (refine G.seq ?_; refine G.region ?_)
  refine GO.box rfl rfl rfl fun b3' => ?_
  (refine GO.assign rfl rfl ?_; refine GO.nil ?_; refine kthen_n ?_; refine G.seq ?_; refine G.seq ?_; refine G.region ?_; refine GO.load1 rfl rfl rfl (Tk.t (Tk.t Tk.h)) rfl ?_; refine GO.fieldAddr rfl rfl ?_; refine GO.load1 rfl rfl rfl Tk.h rfl ?_; refine GO.idxS rfl rfl rfl ⟨rfl, by omega⟩ ?_)
  refine GO.load1 rfl rfl rfl (by (exact (Tk.t (Tk.t (Tk.t (Tk.t Tk.h)))))) (rowV_get1 hkn) ?_
  (refine GO.move rfl rfl ?_)
  cases ho : o k with
  | true =>
    have e : cloStep lb o ((k : Int), ss) = (o, false) := by unfold cloStep; simp [ho]
    rw [e]
    (refine GO.gF rfl rfl rfl rfl ?_; refine GO.gF rfl rfl rfl rfl ?_; refine GO.gF rfl rfl rfl rfl ?_; refine GO.gF rfl rfl rfl rfl ?_; refine GO.gF rfl rfl rfl rfl ?_; refine GO.gF rfl rfl rfl rfl ?_; refine GO.pickT rfl rfl rfl ?_; refine GO.nil ?_; refine kthen_n ?_; refine G.condT rfl rfl ?_; refine G.seq ?_; refine G.region ?_; refine GO.assign rfl rfl ?_; refine GO.nil ?_; refine kthen_n ?_; refine G.ret ?_; refine kthen_r ?_)
    refine KF.r1 rfl (RV.t rfl) ⟨rfl, rfl⟩ ?_
    ((refine Sb.c (Tk.t Tk.h) ?_; refine Sb.c (Tk.t Tk.h) ?_; refine Sb.c (Tk.t Tk.h) ?_; refine Sb.c (Tk.t Tk.h) ?_); (refine Sb.s ?_; exact Sb.r))
  | false =>
    (refine GO.gT rfl rfl rfl ?_; refine GO.fieldAddr rfl rfl ?_; refine GO.gT rfl rfl rfl ?_; refine GO.load1 rfl rfl rfl Tk.h rfl ?_; refine GO.gT rfl rfl rfl ?_; refine GO.load1 rfl rfl rfl (Tk.t (Tk.t Tk.h)) rfl ?_; refine GO.gT rfl rfl rfl ?_; refine GO.load1 rfl rfl rfl (Tk.t (Tk.t (Tk.t Tk.h))) rfl ?_; refine GO.gT rfl rfl rfl ?_)
    refine GO.call3 rfl rfl rfl rfl (all_spec q _ o lb n bo ss hb hss hn) (Tks.c (Tk.t Tk.h) (Tks.c (Tk.t (Tk.t (Tk.t Tk.h))) Tks.n)) ?_
    rintro _ _ ⟨rfl, rfl⟩
    cases ha : ss.all (symHas o lb) with
    | false =>
      have e : cloStep lb o ((k : Int), ss) = (o, false) := by unfold cloStep; simp [ho, ha]
      rw [e]
      (refine GO.gT rfl rfl rfl ?_; refine GO.not rfl rfl ?_; refine GO.pickF rfl rfl rfl ?_; refine GO.nil ?_; refine kthen_n ?_; refine G.condT rfl rfl ?_; refine G.seq ?_; refine G.region ?_; refine GO.assign rfl rfl ?_; refine GO.nil ?_; refine kthen_n ?_; refine G.ret ?_; refine kthen_r ?_)
      refine KF.r1 rfl (RV.t rfl) ⟨rfl, rfl⟩ ?_
      ((refine Sb.c Tk.h ?_; refine Sb.c (Tk.t (Tk.t Tk.h)) ?_; refine Sb.c (Tk.t (Tk.t Tk.h)) ?_; refine Sb.c Tk.h ?_); (refine Sb.s ?_; exact Sb.r))
    | true =>
      have e : cloStep lb o ((k : Int), ss) = (upd o k true, true) := by unfold cloStep; simp [ho, ha]
      rw [e]
      (refine GO.gT rfl rfl rfl ?_; refine GO.not rfl rfl ?_; refine GO.pickF rfl rfl rfl ?_; refine GO.nil ?_; refine kthen_n ?_; refine G.condF rfl rfl ?_; refine G.skip ?_; refine kthen_n ?_; refine G.seq ?_; refine G.region ?_; refine GO.load1 rfl rfl rfl (Tk.t (Tk.t (Tk.t Tk.h))) rfl ?_; refine GO.fieldAddr rfl rfl ?_; refine GO.load1 rfl rfl rfl (Tk.t (Tk.t Tk.h)) rfl ?_; refine GO.idxS rfl rfl rfl ⟨rfl, by omega⟩ ?_)
      refine GO.store1 rfl rfl rfl (by (exact (Tk.t Tk.h))) (by rw [rowV_len]; omega) ?_
      rw [rowV_set]
      (refine GO.nil ?_; refine kthen_n ?_; refine G.seq ?_; refine G.region ?_; refine GO.assign rfl rfl ?_; refine GO.nil ?_; refine kthen_n ?_; refine G.ret ?_)
      refine KF.r1 rfl (RV.t rfl) ⟨rfl, rfl⟩ ?_
      ((refine Sb.c (Tk.t Tk.h) ?_; refine Sb.c (Tk.t (Tk.t Tk.h)) ?_; refine Sb.c (Tk.t (Tk.t Tk.h)) ?_; refine Sb.c Tk.h ?_); (refine Sb.s ?_; exact Sb.r))
end Go.Proofs.Ytcemehocbemfmaa
